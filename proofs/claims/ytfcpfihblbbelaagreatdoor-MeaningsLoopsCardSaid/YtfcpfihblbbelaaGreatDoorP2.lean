/- A part of the proof: nothing is assumed. -/
import Derived.Test.YtfcpfihblbbelaaGreatDoorP1
import Derived.Orders
import Derived.OrdersIn
import Derived.TacticsIn
import Derived.RangeFuncLeaves
import Derived.RangeFuncRecord
import Derived.OpenShut
import Derived.Deep.DeepHandedRow
import Derived.Lib.LaidTab
import Derived.RangeFuncIn
import Derived.RangeFuncSeq
import Derived.RangeFuncOwn
set_option linter.all false
namespace Go.Ab
section
variable {P:Program} {R:Type} {g:Gh} {h:qa} {w:World}
structure m8(g0:Gh)(w0:World)(g:Gh)(h:qa)(w:World)(g':Gh)(h':qa)(X:Wa):Prop where
 hr:HR g' h' w
 ar:z8 g h w g' h' w
 fr:mh g0 w0 g' w
 u:g'.U=g.U
 own:∀b,b∉X->g'.own b=g.own b
def m8.refl{g0:Gh}{w0:World}(hr:HR g h w)(a:mh g0 w0 g w):m8 g0 w0 g h w g h []:=⟨hr,.refl _ _ _ _,a,rfl,λ_ _=>rfl⟩
def rG(g0:Gh)(w0:World)(g:Gh)(b:Nat):Prop:=g.own b=none/\¬g.U b/\w0.heap.size<=b/\g0.base<=w0.heap.size
def SW{x:T}{v:Value}{U d:Nat->Prop}(a:VI w U x v) :
 VI w d (D2 x) v:=by
 cases a<;>first|exact .bool _|exact .int _ _|exact .str _ _ ‹_›|exact .lB|exact .ag|exact .eu|exact .mz|exact .lC|exact .undef _
def qlH{x:T}{v:Value}{U z:Nat->Prop}(d:VI w U x v):VI w z (Ic x) v:=by
 have u:=d;cases d with
 |eS sz g cap s=>exact .eS _ _ _ (.inl rfl)
 |view sz n g cap a c f i C k B A s d=>exact .view 0 n (λ_=>[]) none a c f i (λm r=>by cases r) k (λ_ h=>absurd h (Nat.lt_irrefl 0)) (λ_ _=>rfl) (λj o x _ e=>by simp at e) (λj o x _ e=>by simp at e)
 |_=>exact SW u
def SX{g0:Gh}{w0:World}{safe:Bool}{B:Nat}{U':Nat->Prop}{x:T}{v:Value}{X:Wa}(hx:gO w B U' x v X)(hr:HR g h w)(a:mh g0 w0 g w)(Z:∀b,b∈X->rG g0 w0 g b)
 (fb:safe=true->∀b,U' b->g.U b) (gr:∀b,U' b->B<=b->g.U b):∃g',m8 g0 w0 g h w g' (yg safe h x).2 X/\g'.VR (yg safe h x).2 w (yg safe h x).1 v:=by
 cases hx with
 |vi x v z =>
  have e:(yg safe h x).2=h:=by cases z<;>rfl
  rw[e];refine⟨g,.refl hr a,.aH _ _ ?_⟩;cases safe with
  |true =>
   have e1:(yg true h x).1=x:=by cases z<;>rfl
   rw[e1];exact z.ar (λb d=>⟨fb rfl b d,rfl⟩)
  |false =>
   have e1:(yg false h x).1=D2 x:=by cases z<;>rfl
   rw[e1];exact SW z
 |nw x v z =>
  refine⟨g,.refl hr a,.aH _ _ ?_⟩;exact z.ar (λb d=>⟨gr b d.1 d.2,rfl⟩)
 |fresh flat sz n H len cap cb sh cc ad N e es e2 e3 C e5 e7 S r1 r2 hl E hf =>
  simp only[yg];cases Nj:(safe || flat) with
  |false =>
   simp only[wp];obtain⟨J,I,f3,f4⟩:=Z cb au;have M:g.base<=cb:=by rw[a.base];omega
   obtain⟨g',s,i,r,f,k,q6⟩:=hr.rF (b':=⟨0,sz,n,λj=>(H j).map Ic,false,false,none⟩) S J I M r1 (λj D=>by rw[wQ];exact hl j D) (λj o c D Q=>by
    obtain⟨c0,nq,rfl⟩:=QE Q;obtain⟨u,W,V,O⟩:=E j o c0 D nq;exact⟨u,W,V,.aH _ _ (qlH O)⟩) (λh=>by cases h)
   refine⟨g',⟨k,q6,?_,i,λb d=>by rw[f,we (by simpa using d)]⟩,?_⟩
   .refine⟨a.size,λb d=>?_,a.os,a.tape,a.output,a.same,r.trans a.bs,λb d=>a.u b (i▸d),λb d t=>?_⟩
    .rw[f,we ae];exact a.own b d
    .rw[f];split
     .simp
     .exact a.new b d t
   .exact .own _ _ _ _ _ _ _ (YA h _) (wc _) rfl λ_=>.inl ⟨cb,sh,cc,ad,s,rfl,es,λY=>by simpa using e2 Y,e3,λm A=>⟨(C m A).1,by simpa using (C m A).2⟩,by simpa using e5,⟨N,e,S,by simpa using r2⟩,λE=>by simpa using e7 E⟩
  |true =>
   simp only[wm];obtain⟨J,I,f3,f4⟩:=Z cb au;have M:g.base<=cb:=by rw[a.base];omega
   obtain⟨g',s,i,r,f,k,q6⟩:=hr.rF (b':=⟨0,sz,n,H,flat,false,none⟩) S J I M r1 hl (λj o c D Q=>by
    obtain⟨u,W,V,O⟩:=E j o c D Q;refine⟨u,W,V,.aH _ _ ?_⟩;cases cA:flat with
    |true=>exact Nh (hf cA j D c (wo Q)) O
    |false =>
     rw[cA] at Nj;exact O.ar (λb d=>⟨fb (by simpa using Nj) b d,rfl⟩)) hf
   refine⟨g',⟨k,q6,?_,i,λb d=>by rw[f,we (by simpa using d)]⟩,?_⟩
   .refine⟨a.size,λb d=>?_,a.os,a.tape,a.output,a.same,r.trans a.bs,λb d=>a.u b (i▸d),λb d t=>?_⟩
    .rw[f,we ae];exact a.own b d
    .rw[f];split
     .simp
     .exact a.new b d t
   .exact .own _ _ _ _ _ _ _ (YA h _) (wc _) rfl λ_=>.inl ⟨cb,sh,cc,ad,s,rfl,es,λY=>by simpa using e2 Y,e3,λm A=>⟨(C m A).1,by simpa using (C m A).2⟩,by simpa using e5,⟨N,e,S,by simpa using r2⟩,λE=>by simpa using e7 E⟩
 |AD flat sz H cap C =>
  simp only[yg];cases Nj:(safe || flat) with
  |false =>
   simp only[wp];obtain⟨g',s,q0,i,r,f,k,q6⟩:=hr.nO (b':=⟨0,sz,0,λj=>(H j).map Ic,false,false,none⟩) rfl rfl;refine⟨g',⟨k,q6,?_,i,λb d=>by rw[f]⟩,?_⟩
   .exact⟨a.size,λb d=>by rw[f];exact a.own b d,a.os,a.tape,a.output,a.same,r.trans a.bs,λb d=>a.u b (i▸d),λb d t=>by rw[f];exact a.new b d t⟩
   .exact .own _ _ _ _ _ _ _ (YA h _) (wc _) rfl λ_=>.inr ⟨s,rfl,rfl,rfl,C,rfl⟩
  |true =>
   simp only[wm];obtain⟨g',s,q0,i,r,f,k,q6⟩:=hr.nO (b':=⟨0,sz,0,H,flat,false,none⟩) rfl rfl;refine⟨g',⟨k,q6,?_,i,λb d=>by rw[f]⟩,?_⟩
   .exact⟨a.size,λb d=>by rw[f];exact a.own b d,a.os,a.tape,a.output,a.same,r.trans a.bs,λb d=>a.u b (i▸d),λb d t=>by rw[f];exact a.new b d t⟩
   .exact .own _ _ _ _ _ _ _ (YA h _) (wc _) rfl λ_=>.inr ⟨s,rfl,rfl,rfl,C,rfl⟩
 |sC m cb A =>
  simp only[yg];obtain⟨J,I,f3,f4⟩:=Z cb au;have M:g.base<=cb:=by rw[a.base];omega
  obtain⟨g',s,i,r,f,k,q6⟩:=hr.uY (aj:=0) A J I M;refine⟨g',⟨k,q6,?_,i,λb d=>by rw[f,we (by simpa using d)]⟩,?_⟩
  .refine⟨a.size,λb d=>?_,a.os,a.tape,a.output,a.same,r.trans a.bs,λb d=>a.u b (i▸d),λb d t=>?_⟩
   .rw[f,we ae];exact a.own b d
   .rw[f];split
    .simp
    .exact a.new b d t
  .exact .mp _ _ _ _ (YA h _) (wc _) rfl λ_=>⟨cb,s,rfl⟩
def m8.trans{g0:Gh}{w0:World}{g1 g2:Gh}{h1 h2:qa}{X Y:Wa}(a:m8 g0 w0 g h w g1 h1 X)(b:m8 g0 w0 g1 h1 w g2 h2 Y):m8 g0 w0 g h w g2 h2 (X++Y) :=
 ⟨b.hr,a.ar.trans b.ar,b.fr,b.u.trans a.u,λk d=>by
  simp only[wS,not_or] at d;rw[b.own k d.2,a.own k d.1]⟩
def rG.after{g0:Gh}{w0:World}{g':Gh}{h':qa}{X:Wa}{b:Nat}(a:rG g0 w0 g b)(t:m8 g0 w0 g h w g' h' X)(d:b∉X):rG g0 w0 g' b :=
 ⟨by rw[t.own b d];exact a.1,by rw[t.u];exact a.2.1,a.2.2⟩
def qhn{g0:Gh}{w0:World}{safe:Bool}{B:Nat}{f:Nat->Prop}:∀{l:JO} {vs:List Value} {X:Wa},mE (gO w B f) l vs X->∀{g:Gh} {h:qa},HR g h w->mh g0 w0 g w->(∀b,b∈X->rG g0 w0 g b)->X.Nodup →
 (safe=true->∀b,f b->g.U b)->(∀b,f b->B<=b->g.U b)->∃g',m8 g0 w0 g h w g' (Yv safe h l).2 X/\(Yv safe h l).1.length=vs.length/\∀(i:Nat) (c:T),(Yv safe h l).1[i]?=some c->∃u,vs[i]?=some u/\g'.VR (Yv safe h l).2 w c u:=by
 intro l vs X k
 induction k with
 |nil =>
  intro g h hr e _ _ _ _;exact⟨g,.refl hr e,rfl,λi c d=>by simp[Yv] at d⟩
 |cons x v X l vs Y hx k E =>
  intro g h hr e s C r o;obtain⟨g1,t1,A⟩:=SX hx hr e (λb a=>s b (by simp[a])) r o;have j:=xB.1 C;obtain⟨g2,t2,D,z⟩:=E (g:=g1) (h:=(yg safe h x).2) t1.hr t1.fr (λb a=>(s b (by simp[a])).after t1 (λI=>j.2.2 b I b a rfl)) j.2.1 (λH b a=>by rw[t1.u];exact r H b a) (λb a hB=>by rw[t1.u];exact o b a hB);refine⟨g2,t1.trans t2,by simp[Yv,D],λi c d=>?_⟩;cases i with
  |zero =>
   simp only[Yv,wO,wi] at d;subst d;exact⟨v,rfl,A.ar t2.ar⟩
  |succ i=>exact z i c (by simpa [Yv] using d)
def SY{g0:Gh}{w0:World}{safe:Bool}{B:Nat}{a:Nat->Prop}{x:T}{v:Value}{X:Wa}(hx:lU w B a x v X)(hr:HR g h w)(j:mh g0 w0 g w)(f:∀b,b∈X->rG g0 w0 g b)(k:X.Nodup)
 (e:safe=true->∀b,a b->g.U b) (d:∀b,a b->B<=b->g.U b):∃g',m8 g0 w0 g h w g' (yU safe h x).2 X/\g'.VR (yU safe h x).2 w (yU safe h x).1 v:=by
 cases x with
 |agg l =>
  obtain⟨D,rfl,h1,r⟩:=hx;obtain⟨g',t,C,z⟩:=qhn r hr j f k e d;refine⟨g',t,VR.dc (by simpa [yU] using C) h1 (λi c s=>?_)⟩;obtain⟨u,o,A⟩:=z i c s;exact⟨u,by simpa using o,A⟩
 |_=>exact SX hx hr j f e d
def qfX{g0:Gh}{w0:World}{safe:Bool}{B:Nat}{j:Nat->Prop}:∀{l:JO} {vs:List Value} {X:Wa},mE (lU w B j) l vs X->∀{g:Gh} {h:qa},HR g h w->mh g0 w0 g w->(∀b,b∈X->rG g0 w0 g b)->X.Nodup →
 (safe=true->∀b,j b->g.U b)->(∀b,j b->B<=b->g.U b)->∃g',m8 g0 w0 g h w g' (ZL safe h l).2 X/\(ZL safe h l).1.length=vs.length/\∀(i:Nat) (c:T),(ZL safe h l).1[i]?=some c->∃u,vs[i]?=some u/\g'.VR (ZL safe h l).2 w c u:=by
 intro l vs X k
 induction k with
 |nil =>
  intro g h hr f _ _ _ _;exact⟨g,.refl hr f,rfl,λi c d=>by simp[ZL] at d⟩
 |cons x v X l vs Y hx k E =>
  intro g h hr f s C r o;have e:=xB.1 C;obtain⟨g1,t1,A⟩:=SY hx hr f (λb a=>s b (by simp[a])) e.1 r o;obtain⟨g2,t2,D,z⟩:=E (g:=g1) (h:=(yU safe h x).2) t1.hr t1.fr (λb a=>(s b (by simp[a])).after t1 (λI=>e.2.2 b I b a rfl)) e.2.1 (λH b a=>by rw[t1.u];exact r H b a) (λb a hB=>by rw[t1.u];exact o b a hB);refine⟨g2,t1.trans t2,by simp[ZL,D],λi c d=>?_⟩;cases i with
  |zero =>
   simp only[ZL,wO,wi] at d;subst d;exact⟨v,rfl,A.ar t2.ar⟩
  |succ i=>exact z i c (by simpa [ZL] using d)
def qho{g0:Gh}{w0:World}{safe:Bool}{B:Nat}{a:Nat->Prop}{x:T}{v:Value}{X:Wa}(hx:oa w B a x v X)(hr:HR g h w)(k:mh g0 w0 g w)(j:∀b,b∈X->rG g0 w0 g b)(d:X.Nodup)
 (f:safe=true->∀b,a b->g.U b) (e:∀b,a b->B<=b->g.U b):∃g',m8 g0 w0 g h w g' (ZD safe h x).2 X/\g'.VR (ZD safe h x).2 w (ZD safe h x).1 v:=by
 cases x with
 |aK l =>
  obtain⟨D,rfl,r⟩:=hx;obtain⟨g',t,C,z⟩:=qfX r hr k j d f e;refine⟨g',t,VR.iJ (by simpa [ZD] using C) (λi c s=>?_)⟩;obtain⟨u,o,A⟩:=z i c s;exact⟨u,by simpa using o,A⟩
 |_=>exact SY hx hr k j d f e
def SZ{safe:Bool}{U:Nat->Prop}{r:T}{v:Value}{w':World}(hr:HR g h w)(C9:RV w U r v w')(W:safe=true->U=g.U):gV g h w (ZD safe h r).1 (ZD safe h r).2 v w':=by
 obtain⟨⟨s,J⟩,Z,X,h1,V,h3,h4,h5⟩:=C9
 let g1:Gh:=if safe=true then { g with U:=Z } else { g with U:=λb=>g.U b∨(Z b/\w.heap.size<=b) }
 have N:∀b,g.U b->g1.U b:=by
  intro b a;by_cases d:safe=true
  .simp only[g1,d,vH];exact h1 b (by rw[W d];exact a)
  .simp only[g1,d];exact .inl a
 have O:∀b,g1.U b->(g.U b∨w.heap.size<=b)/\b<w'.heap.size:=by
  intro b a;by_cases d:safe=true
  .simp only[g1,d,vH] at a;have:=V b a;rw[W d] at this;exact this
  .simp only[g1,d] at a;rcases a with a|a
   .exact⟨.inl a,by have:=(hr.u b a).1;have:=s.size;omega⟩
   .exact⟨.inr a.2,(V b a.1).2⟩
 have x:g1.own=g.own:=by by_cases d:safe=true<;>simp[g1,d]
 have I:g1.φ=g.φ:=by by_cases d:safe=true<;>simp[g1,d]
 have FA:g1.bs=g.bs:=by by_cases d:safe=true<;>simp[g1,d,Gh.bs]
 have Q:g1.base=g.base:=vD Prod.fst FA;have Y:z8 g h w g1 h w':=by
  refine⟨λb a=>⟨N b a,s.block b (hr.u b a).1⟩,λi b D=>⟨b,D,wc _,λ_=>⟨rfl,rfl,by rw[I]⟩⟩,λk n ci=>?_⟩;obtain⟨B,e,C,H⟩:=ci;exact⟨B,e,by rw[s.block k (qI C)];exact C,H⟩
 have Ix:HR g1 h w':=by
  refine⟨λi b D cC=>?_,λb a=>⟨(O b a).2,?_⟩,λb o f=>?_,by rw[Q];exact wN hr.base s.size,λb o f=>?_,λb j f=>hr.lt b j (by rw[x] at f;exact f),λi b m D hm=>hr.eX D hm (by rw[I]) (λc E=>by rw[x];exact E) λc E _=>s.block c E⟩
  .rcases hr.dh i b D cC with⟨cb,sh,B,e,A⟩|⟨C,H⟩
   rotate_left
   .exact .inr ⟨by rw[I];exact C,H⟩
   exact .inl ⟨cb,sh,B,e,by rw[I];exact A.φ,by rw[x];exact A.own,by rw[s.block cb (qI A.heap)];exact A.heap,A.room,A.len,λj o c hj E=>by
    obtain⟨u,u1,u2,u3⟩:=A.cell j o c hj E;exact⟨u,u1,u2,u3.ar Y⟩,A.flat⟩
  .rw[x];rcases (O b a).1 with q|q
   .exact(hr.u b q).2
   .cases f:g.own b with
    |none=>rfl
    |some o=>have:=(hr.own b o f).2;omega
  .rw[x] at f;have:=hr.own b o f;rw[Q];exact⟨this.1,by have:=s.size;omega⟩
  .rw[x] at f;exact hr.eU f (s.block b (hr.own b o f).2)
 have Nm:mh g w g1 w':=by
  refine⟨s.size,λb _=>by rw[x],s.os,s.tape,⟨s.output,J⟩,λb Ec _=>s.block b Ec,FA,λb a=>(O b a).1,λb Ec t f=>?_⟩;rw[x] at f;have:=(hr.own b _ f).2;omega
 obtain⟨g',t,mF⟩:=qho (g0:=g) (w0:=w) (safe:=safe) h5 Ix Nm (λb M=>by
  obtain⟨C,H,S⟩:=h4 b M;refine⟨?_,λz=>?_,C,hr.base⟩
  .rw[x];cases f:g.own b with
   |none=>rfl
   |some o=>have:=(hr.own b o f).2;omega
  .by_cases d:safe=true
   .simp only[g1,d,vH] at z;exact S z
   .simp only[g1,d] at z;rcases z with z|z
    .have:=(hr.u b z).1;omega
    .exact S z.1) h3 (λd b a=>by simp only[g1,d,vH];exact a) (λb a hB=>by
  by_cases d:safe=true
  .simp only[g1,d,vH];exact a
  .simp only[g1,d];exact .inr ⟨a,hB⟩)
 exact⟨g',t.hr,mF,Y.trans t.ar,t.fr⟩
end
section
variable {P:Program} {R:Type} {g:Gh} {h:qa} {w:World}
def S0:∀{l:Wa},zU l=true->l.Nodup
 |[],_=>List.nodup_nil
 |a::l,d=>by
  simp only[zU,wg,vn] at d;exact List.nodup_cons.2 ⟨by simpa using d.1,S0 d.2⟩
def QZ(g:Gh)(i:Nat):Option Nat:=(g.φ i).map (·.1)
def y8(g:Gh)(w:World)(B:Nat)(all:Wa)(b:Nat):Prop:=g.U b∨(B<=b/\b<w.heap.size/\b∉all.filterMap (QZ g))
def qhp(hr:HR g h w)(B:Nat)(hB:B<=g.base)(all:Wa)(z:∀j,j∈all->∃b,h[j]?=some b):Reads g h w all (y8 g w B all):=by
 refine⟨λb d=>.inl d,λi b cb D d k s=>.inr ?_⟩;have e:=hr.mD d s;have:=hr.own _ _ e;refine⟨ae,this.2,λu=>?_⟩;obtain⟨j,f,a⟩:=List.mem_filterMap.1 u;obtain⟨E,o⟩:=z j f;unfold QZ at a;obtain⟨⟨x,r⟩,A,a⟩:=wI.1 a;dsimp only at a;subst a;have C:=hr.mD o A;have:=C;rw[e] at this;have:i=j:=by simpa using this
 subst this;exact k f
def S1(hr:HR g h w){B:Nat}(hB:B<=g.base){all:Wa}(bP:∀j,j∈all->∃b,h[j]?=some b){ok:Bool}{x:T}{v:Value}(hx:g.VR h w x v) :
 ∃X,gO w B (y8 g w B all) (JX ok all h x) v X/\X.Sublist ((kD x).filterMap (QZ g))/\(ok=false->X=[]):=by
 have I:=qhp hr B hB all bP;have other:(∀i aj a len cap,x≠.own i aj a len cap)->(∀i aj,x≠.mp i aj)->∃X,gO w B (y8 g w B all) (JX ok all h x) v X/\X.Sublist ((kD x).filterMap (QZ g))/\(ok=false->X=[]):=by
  intro iy Nn;have e:JX ok all h x=bif aH x then x else resolve 4 all h x:=by
   cases x<;>first|rfl|exact absurd rfl (Nn _ _)|exact absurd rfl (iy _ _ _ _ _)
  rw[e];refine⟨[],.vi _ _ ?_,xn _,λ_=>rfl⟩;cases hi:aH x with
  |true=>exact(ZM hi hx).ar (Iv I.u)
  |false=>exact Ze hr I 4 x v hx
 cases x with
 |own i aj a len cap =>
  simp only[JX];cases ok with
  |false=>exact⟨[],.vi _ _ (.undef _),xn _,λ_=>rfl⟩
  |true =>
   simp only[wm];cases A:h[i]? with
   |none=>exact⟨[],.vi _ _ (.undef _),xn _,λ_=>rfl⟩
   |some b =>
    dsimp only;cases J:b.mp with
    |some m=>exact⟨[],.vi _ _ (.undef _),xn _,λ_=>rfl⟩
    |none =>
    simp only[vJ,xx];cases r:(b.aj==aj&&Nat.ble (a+len) b.n) with
    |false=>exact⟨[],.vi _ _ (.undef _),xn _,λ_=>rfl⟩
    |true =>
     simp only[wg,vf] at r;have bv:=Qg r.2;rcases zQ A r.1 hx with⟨cb,sh,cc,ad,s,rfl,es,e2,e3,V,e5,e6,e7⟩|⟨q1,q2,rfl,rfl,Y,rfl⟩
     rotate_left
     .simp only[wm];rw[show b.n-0=0 by omega];exact⟨[],.AD _ _ _ _ Y,xn _,λ_=>rfl⟩
     obtain⟨C,iq,N,e',d⟩:=hr.ey i b A J (.inr (by rw[s];simp));rw[d.φ] at s;obtain⟨rfl,rfl⟩:=vU (wa s);have dB:=Kj d.heap e6;simp only[wm];refine⟨[C],.fresh _ _ _ _ _ _ C (iq+a*b.sz) cc ad N e' es e2 e3 (λm Q=>⟨(V m Q).1,by have:=(V m Q).2;omega⟩) ae (λr=>by have:=e7 r;omega) d.heap ?_ ?_ ?_ ?_ ?_,?_,λk=>by cases k⟩
     .have h1:=d.room;have h2:(b.n-a)*b.sz=b.n*b.sz-a*b.sz:=Nat.sub_mul _ _ _;have h3:a*b.sz<=b.n*b.sz:=wJ _ ae;omega
     .rw[wZ] at dB;omega
     .intro j S;cases b.flat with
      |true=>exact d.len _ ae
      |false=>simp only[wp,wQ];exact d.len _ ae
     .intro j o c S f;cases M:b.flat with
      |true =>
       rw[M] at f;simp only[wm] at f;obtain⟨u,z,H,E⟩:=d.cell (a+j) o c ae f;rw[wZ,←vG] at z;exact⟨u,z,H,Zp (d.flat M _ ae _ (wo f)) E⟩
      |false =>
       rw[M] at f;simp only[wp] at f;obtain⟨c0,h0,rfl⟩:=QE f;obtain⟨u,z,H,E⟩:=d.cell (a+j) o c0 ae h0;rw[wZ,←vG] at z;exact⟨u,z,H,Ze hr I 3 _ _ E⟩
     .intro U j S c D;rw[U] at D;simp only[wm] at D;exact d.flat U _ ae c D
     .simp[kD,QZ,d.φ]
 |mp i aj =>
  simp only[JX];cases ok with
  |false=>exact⟨[],.vi _ _ (.undef _),xn _,λ_=>rfl⟩
  |true =>
   simp only[wm];cases A:h[i]? with
   |none=>exact⟨[],.vi _ _ (.undef _),xn _,λ_=>rfl⟩
   |some b =>
    dsimp only;cases r:(b.aj==aj) with
    |false=>exact⟨[],.vi _ _ (.undef _),xn _,λ_=>rfl⟩
    |true =>
     have aD:b.aj=aj:=by simpa using r
     simp only[wm];cases J:b.mp with
     |none=>exact⟨[],.vi _ _ (.undef _),xn _,λ_=>rfl⟩
     |some m =>
      obtain⟨b',W,_,_,hq⟩:=hx.iH;rw[A] at W;obtain rfl:=wa W;obtain⟨cb,s,rfl⟩:=hq aD;obtain⟨C,O,o2,Z⟩:=hr.mp i b m A J;rw[O] at s;obtain⟨rfl,_⟩:=vU (wa s);exact⟨[C],.sC m C Z,by simp[kD,QZ,O],λk=>by cases k⟩
 |_=>exact other (λ_ _ _ _ _ k=>by cases k) (λ_ _ k=>by cases k)
def mE.map{Q:T->Value->Wa->Prop}{ok:Bool}{f:T->T}{pl:T->Wa}:∀{l:JO} {vs:List Value},l.length=vs.length →
 (∀(i:Nat) (x:T),l[i]?=some x->∃v,vs[i]?=some v/\∃X,(Q (f x) v X/\(ok=false->X=[]))/\X.Sublist (pl x))->∃X,mE Q (l.map f) vs X/\X.Sublist (l.flatMap pl)/\(ok=false->X=[])
 |[],[],_,_=>⟨[],.nil,au,λ_=>rfl⟩
 |x::l,v::vs,a,hx=>by
  obtain⟨e,z,X,⟨s,u⟩,k⟩:=hx 0 x rfl;obtain rfl:v=e:=by simpa using z
  obtain⟨Y,r,j,h1⟩:=mE.map (Q:=Q) (ok:=ok) (f:=f) (pl:=pl) (l:=l) (vs:=vs) (by simpa using a) (λi x o=>hx (i+1) x o);exact⟨X++Y,.cons _ _ _ _ _ _ s r,by simpa using List.Sublist.append k j,λd=>by rw[u d,h1 d];rfl⟩
 |[],_::_,a,_=>by simp at a
 |_::_,[],a,_=>by simp at a
def Y5{α β γ:Type}(l:List α)(f:α->List β)(p:β->Option γ):(l.flatMap λx=>(f x).filterMap p)=(l.flatMap f).filterMap p:=by
 induction l with
 |nil=>rfl
 |cons x l a=>simp[List.filterMap_append,a]
def No{U:Nat->Prop}{Q:T->Value->Wa->Prop}(e:∀c u,VI w U c u->Q c u []):∀(l:JO) (us:List Value),l.length=us.length->(∀(i:Nat) (c:T),l[i]?=some c->∃u,us[i]?=some u/\VI w U c u)->mE Q l us []
 |[],[],_,_=>.nil
 |c::l,u::us,f,d=>by
  obtain⟨u',j,o⟩:=d 0 c rfl;obtain rfl:u=u':=by simpa using j
  exact .cons _ _ [] _ _ [] (e _ _ o) (No e l us (by simpa using f) (λi c k=>d (i+1) c k))
 |[],_::_,a,_=>by simp at a
 |_::_,[],a,_=>by simp at a
def gO.Ed{B:Nat}{U:Nat->Prop}{y:T}{v:Value}{X:Wa}(d:gO w B U y v X):lU w B U y v X:=by
 cases y with
 |agg l =>
  cases d with|vi _ _ a =>
  cases a with|agg _ f j o h1 r a =>
  exact⟨f,rfl,h1,No (λc u k=>.vi c u k) l f.toList (by simpa using o) (λi c e=>⟨j i,by simpa using r i c e,a i c e⟩)⟩
 |_=>exact d
def lU.S2{B:Nat}{U:Nat->Prop}{y:T}{v:Value}{X:Wa}(d:lU w B U y v X):oa w B U y v X:=by
 cases y with
 |aK l =>
  cases (show gO w B U (.aK l) v X from d) with|vi _ _ a =>
  cases a with|aK _ f j o r a =>
  exact⟨f,rfl,No (λc u k=>(gO.vi c u k).Ed) l f.toList (by simpa using o) (λi c e=>⟨j i,by simpa using r i c e,a i c e⟩)⟩
 |_=>exact d
def S3(hr:HR g h w){B:Nat}(hB:B<=g.base){all:Wa}(s:∀j,j∈all->∃b,h[j]?=some b){ok:Bool}{x:T}{v:Value}(hx:g.VR h w x v) :
 ∃X,lU w B (y8 g w B all) (D1 ok all h x) v X/\X.Sublist ((BM x).filterMap (QZ g))/\(ok=false->X=[]):=by
 cases x with
 |agg l =>
  obtain⟨o,rfl,A,h1,D⟩:=hx.bM;have a:∀(i:Nat) (x:T),l[i]?=some x->∃v,o.toList[i]?=some v/\∃X,(gO w B (y8 g w B all) (JX ok all h x) v X/\(ok=false->X=[]))/\X.Sublist ((kD x).filterMap (QZ g)):=by
   intro i x C;obtain⟨u,z,I⟩:=D i x C;obtain⟨X,k,e,d⟩:=S1 hr hB s (ok:=ok) I;exact⟨u,by simpa using z,X,⟨k,d⟩,e⟩
  obtain⟨X,E,r,H⟩:=mE.map (Q:=gO w B (y8 g w B all)) (ok:=ok) (f:=JX ok all h) (pl:=λx=>(kD x).filterMap (QZ g)) (l:=l) (vs:=o.toList) (by simpa using A) a;exact⟨X,⟨o,rfl,h1,E⟩,by rw[Y5] at r;exact r,H⟩
 |_ =>
  obtain⟨X,k,e,d⟩:=S1 hr hB s (ok:=ok) hx;exact⟨X,k.Ed,e,d⟩
def S4{x:T}{v:Value}(hx:g.VR h w x v):∀j,j∈kD x->∃b,h[j]?=some b:=by
 intro j a;cases x with
 |own i aj e len cap =>
  obtain rfl:j=i:=by simpa [kD] using a
  obtain⟨b,d,_⟩:=hx.cW;exact⟨b,d⟩
 |mp i aj =>
  obtain rfl:j=i:=by simpa [kD] using a
  obtain⟨b,d,_⟩:=hx.iH;exact⟨b,d⟩
 |_=>simp[kD] at a
def S5{x:T}{v:Value}(hx:g.VR h w x v):∀j,j∈BM x->∃b,h[j]?=some b:=by
 intro j a;cases x with
 |agg l =>
  obtain⟨x,o,k⟩:=xG.1 (show j∈l.flatMap kD from a);obtain⟨i,d⟩:=xc.1 o;obtain⟨z,rfl,s,h1,e⟩:=hx.bM;obtain⟨u,r,f⟩:=e i x d;exact S4 f j k
 |_=>exact S4 hx j a
def qlI{x:T}{v:Value}(hx:g.VR h w x v):∀j,j∈ZK x->∃b,h[j]?=some b:=by
 intro j a;cases x with
 |aK l =>
  obtain⟨x,o,k⟩:=xG.1 (show j∈l.flatMap BM from a);obtain⟨i,d⟩:=xc.1 o;obtain⟨z,rfl,s,e⟩:=hx.nk;obtain⟨u,r,f⟩:=e i x d;exact S5 f j k
 |_=>exact S5 hx j a
def KJ(p:Nat->Option Nat):∀{l:Wa},l.Nodup->(∀i,i∈l->∀j,j∈l->∀b,p i=some b->p j=some b->i=j)->(l.filterMap p).Nodup
 |[],_,_=>List.nodup_nil
 |a::l,d,o=>by
  have d:=List.nodup_cons.1 d;have k:=KJ p d.2 (λi s j e=>o i (by simp[s]) j (by simp[e]));rw[List.filterMap_cons];cases u:p a with
  |none=>exact k
  |some b =>
   refine List.nodup_cons.2 ⟨λr=>?_,k⟩;obtain⟨j,e,f⟩:=List.mem_filterMap.1 r;have:=o a au j (by simp[e]) b u f;subst this;exact d.1 e
def Kk(hr:HR g h w){B:Nat}(hB:B<=g.base){x:T}{v:Value}(hx:g.VR h w x v) :
 ∃X,oa w B (y8 g w B (ZK x)) (ye h x) v X/\X.Nodup/\∀b,b∈X->B<=b/\b<w.heap.size/\¬y8 g w B (ZK x) b:=by
 have z:=qlI hx;have Nr:(∀l,x≠.aK l)->∃X,oa w B (y8 g w B (ZK x)) (ye h x) v X/\X.Sublist ((ZK x).filterMap (QZ g))/\(zU (ZK x)=false->X=[]):=by
  intro V;have e1:ye h x=D1 (zU (ZK x)) (ZK x) h x:=by cases x<;>first|rfl|exact absurd rfl (V _)
  have e2:BM x=ZK x:=by cases x<;>first|rfl|exact absurd rfl (V _)
  obtain⟨X,E,D,C⟩:=S3 hr hB z (ok:=zU (ZK x)) hx;rw[e1];exact⟨X,E.S2,by rw[←e2];exact D,C⟩
 have k:∃X,oa w B (y8 g w B (ZK x)) (ye h x) v X/\X.Sublist ((ZK x).filterMap (QZ g))/\(zU (ZK x)=false->X=[]):=by
  cases x with
  |aK l =>
   obtain⟨S,rfl,hl,hc⟩:=hx.nk;have s:∀(i:Nat) (y:T),l[i]?=some y->∃v,S.toList[i]?=some v/\∃X,(lU w B (y8 g w B (ZK (.aK l))) (D1 (zU (ZK (.aK l))) (ZK (.aK l)) h y) v X/\(zU (ZK (.aK l))=false->X=[]))/\X.Sublist ((BM y).filterMap (QZ g)):=by
    intro i y M;obtain⟨u,hu,cU⟩:=hc i y M;obtain⟨X,E,D,C⟩:=S3 hr hB z (ok:=zU (ZK (.aK l))) cU;exact⟨u,by simpa using hu,X,⟨E,C⟩,D⟩
   obtain⟨X,N,o,O⟩:=mE.map (Q:=lU w B (y8 g w B (ZK (.aK l)))) (ok:=zU (ZK (.aK l))) (f:=D1 (zU (ZK (.aK l))) (ZK (.aK l)) h) (pl:=λx=>(BM x).filterMap (QZ g)) (l:=l) (vs:=S.toList) (by simpa using hl) s;exact⟨X,⟨S,rfl,N⟩,by rw[Y5] at o;exact o,O⟩
  |_=>exact Nr (λl hh=>by cases hh)
 obtain⟨X,N,o,O⟩:=k;refine⟨X,N,?_,λb hb=>?_⟩
 .cases W:zU (ZK x) with
  |false=>rw[O W];exact List.nodup_nil
  |true =>
   refine o.nodup (KJ _ (S0 W) λi M j J b e a=>?_);obtain⟨x1,I⟩:=z i M;obtain⟨x2,H⟩:=z j J;unfold QZ at e a;obtain⟨⟨cb,Z⟩,U,e⟩:=wI.1 e;obtain⟨⟨gJ,iq⟩,FD,a⟩:=wI.1 a;dsimp only at e a;have A:=hr.mD I U;have A6:=hr.mD H FD;have:=A;rw[e,←a,A6] at this;simpa using this.symm
 .have Y:=o.subset hb;obtain⟨j,J,d⟩:=List.mem_filterMap.1 Y;obtain⟨bj,a⟩:=z j J;unfold QZ at d;obtain⟨⟨cb,Z⟩,U,d⟩:=wI.1 d;dsimp only at d;subst d;have A:=hr.mD a U;have ho:=hr.own _ _ A;refine⟨ae,ho.2,λr=>?_⟩;rcases r with r|⟨_,_,r⟩
  .have:=(hr.u _ r).2;rw[A] at this;cases this
  .exact r Y
def Ji{safe:Bool}{x:T}(hx:ZY x=true):(yg safe h x).2=h:=by
 cases x<;>first|rfl|(simp[ZY] at hx;done)
def Jj{safe:Bool}:∀{l:JO} {h:qa},l.all ZY=true->(Yv safe h l).2=h
 |[],_,_=>rfl
 |x::l,h,a=>by
  simp only[xJ,wg] at a;have h1:=Ji (h:=h) (safe:=safe) a.1;simp only[Yv];rw[h1];exact Jj a.2
def Jk{safe:Bool}{x:T}{h:qa}(hx:ZZ x=true):(yU safe h x).2=h:=by
 cases x with
 |agg l=>exact Jj (show l.all ZY=true from hx)
 |_=>exact Ji hx
def jh{safe:Bool}:∀{l:JO} {h:qa},l.all ZZ=true->(ZL safe h l).2=h
 |[],_,_=>rfl
 |x::l,h,a=>by
  simp only[xJ,wg] at a;have h1:=Jk (h:=h) (safe:=safe) a.1;simp only[ZL];rw[h1];exact jh a.2
def qes{safe:Bool}{x:T}{h:qa}(hx:Ka x=true):(ZD safe h x).2=h:=by
 cases x with
 |aK l=>exact jh (show l.all ZZ=true from hx)
 |_=>exact Jk hx
end
def Tr.eP:∀(d:Nat) (t:Tr) (i j:Nat) (v:T),i<2 ^ d->j<2 ^ d->Tr.get d (Tr.set d t i v) j=if j=i then v else Tr.get d t j
 |0,t,i,j,v,B,A=>by
  have h1:i=0:=by simpa using B
  have C:j=0:=by simpa using A
  subst h1;subst C;cases t<;>rfl
 |d+1,t,i,j,v,B,A=>by
  have D:2 ^ (d+1)=2*2 ^ d:=by rw[Nat.pow_succ];omega
  have u:=λt=>Tr.eP d t (i/2) (j/2) v ae ae;have z:∀(d k:Nat),Tr.get d .nil k = .undef:=by intro d k;cases d<;>rfl
  have I:∀(x:T) (k:Nat),Tr.get (d+1) (.leaf x) k = .undef:=λ_ _=>rfl;cases f:(i%2==0)<;>cases o:(j%2==0)
  all_goals
   have H:i%2=0∨i%2=1:=by omega
   have E:j%2=0∨j%2=1:=by omega
   simp only[vf,ud,ne_eq] at f o;cases t with
   |node l r =>
    simp only[Tr.set,Tr.get,vf,vg,f,o,vH,ve,u]
    try (by_cases e:j/2=i/2
         ·rw[wl e,wl ae]
         ·rw[we e,we ae])
    try rw[we ae]
   |nil =>
    simp only[Tr.set,Tr.get,vf,vg,f,o,vH,ve,u,z]
    try (by_cases e:j/2=i/2
         ·rw[wl e,wl ae]
         ·rw[we e,we ae])
    try rw[we ae]
   |leaf x =>
    simp only[Tr.set,Tr.get,vf,vg,f,o,vH,ve,u,z]
    try (by_cases e:j/2=i/2
         ·rw[wl e,wl ae]
         ·rw[we e,we ae])
    try rw[we ae]
def FE{s:St}{t:Nat}(h:t<1024):s.at t=s.env.get QQ t:=by
 unfold St.at
 rw[show Nat.blt t 1024=true from vV h];rfl
def BZ{s:St}{t:Nat}(h:¬t<1024):s.at t = .undef:=by
 unfold St.at
 cases d:Nat.blt t 1024 with
 |true=>exact absurd (Qb d) h
 |false=>rfl
def Ef{s s':St}{d:Nat}{v:T}(he:s'.env=s.env.set QQ d v)(f:d<1024)(t:Nat):s'.at t=if t=d then v else s.at t:=by
 by_cases e:t<1024
 .rw[FE e,FE e,he];exact Tr.eP 10 s.env d t v f e
 .rw[BZ e,BZ e,we ae]
structure mR(g:Gh)(h:qa)(w:World)(t:Nat)(v:Value)(cells:JO)(cb:Nat)(arr:Array Value)(e:TypeId):Prop where
 ptr:v = .pointer (some ⟨cb,0,none⟩)
 own:g.own cb=some (.inr t)
 heap:w.heap[cb]?=some (.cells arr e (0,0))
 len:cells.length<=arr.size
 cell:∀(o:Nat) (c:T),cells[o]?=some c->∃u:Value,arr[o]?=some u/\u.oneCell'=true/\g.VR h w c u
def y7(D:Nat):Deferred:={ target:=.collected D,args:=#[] }
def rH(g:Gh)(l:Wa)(ds:List Deferred):Prop:=∃t,ds=l.map y7++t/\(t=[]∨t=g.dt)/\∀D,y7 D∉t
def rH.nil{g:Gh}{l:Wa}{ds:List Deferred}(h:rH g l ds)(d:g.dt=[]):ds=l.map y7:=by
 obtain⟨t,rfl,e,_⟩:=h;rcases e with rfl|rfl
 .simp
 .simp[d]
def rH.to{g g':Gh}{l:Wa}{ds:List Deferred}(h:rH g l ds)(i:g'.bs=g.bs):rH g' l ds:=by
 obtain⟨t,f,e,d⟩:=h;exact⟨t,f,by rw[show g'.dt=g.dt from vD (λx=>x.2.2) i];exact e,d⟩
def rH.mem{g:Gh}{l l0:Wa}{d ds:List Deferred}(h:rH g l ds)(i:ds=l0.map y7++d)(f:∀D,y7 D∉d){D:Nat}(j:D∈l):D∈l0:=by
 obtain⟨t,rfl,_⟩:=h;have:y7 D∈l0.map y7++d:=by rw[←i];exact xK _ (List.mem_map_of_mem j)
 rcases wS.1 this with q|q
 .obtain⟨x,hx,e⟩:=vb.1 q;simp only[y7,Deferred.mk.injEq,Target.collected.injEq,and_true] at e;exact e▸hx
 .exact absurd q (f D)
def Marks(g:Gh)(w:World)(ds:List Deferred):Prop:=g.low<=w.heap.size/\∃l:Wa,rH g l ds/\l.Nodup/\∀D∈l,g.low<=D/\g.own D=none/\¬g.U D/\w.heap[D]?=some (.deferred (some []))
def QW{w:World}{b:Nat}{o:Obj}(h:w.heap[b]?=some o):b<w.heap.size:=(Array.getElem?_eq_some_iff.1 h).1
def Marks.nil{g:Gh}{w:World}(h:g.low<=w.heap.size):Marks g w []:=⟨h,[],⟨[],rfl,.inl rfl,λ_ h=>by cases h⟩,.nil,λD h=>by cases h⟩
def Marks.to{g g':Gh}{w w':World}{ds:List Deferred}(h:Marks g w ds)(H:w.heap.size<=w'.heap.size)(o:∀b,b<w.heap.size->g'.own b=g.own b)(C:∀b,b<w.heap.size->g.own b=none->w'.heap[b]?=w.heap[b]?)
 (i:g'.bs=g.bs) (r:∀b,g'.U b->g.U b∨w.heap.size<=b):Marks g' w' ds:=by
 obtain⟨E,l,h1,B,A⟩:=h;refine⟨by rw[show g'.low=g.low from vD (λx=>x.2.1) i];omega,l,by obtain⟨t,f,d,e⟩:=h1;exact⟨t,f,by rw[show g'.dt=g.dt from vD (λx=>x.2.2) i];exact d,e⟩,B,λD z=>?_⟩;obtain⟨f,d,e,j⟩:=A D z;have k:=QW j;refine⟨by rw[show g'.low=g.low from vD (λx=>x.2.1) i];exact f,(o D k).trans d,λu=>?_,(C D k d).trans j⟩;rcases r D u with h|h
 .exact e h
 .omega
structure SR(Gl:V9)(aa:Wa)(nt:Nat)(g:Gh)(s:St)(a:Act)(w:World):Prop where
 hr:HR g s.h w
 defers:Marks g w a.defers
 size:a.tmps.size=nt
 nt:nt<=1024
 tmps:∀t,t∉aa->g.VR s.h w (s.at t) (a.tmps.getD t undef)
 eA:∀t,t∈aa->∀cells,s.at t = .ah cells->∃cb arr e,mR g s.h w t (a.tmps.getD t undef) cells cb arr e
 loc:∀d t o,s.loc d=some (t,o)->t∈aa/\d∉aa/\∃cb,a.tmps.getD t undef = .pointer (some ⟨cb,0,none⟩)/\a.tmps.getD d undef = .pointer (some ⟨cb,o,none⟩)
 dU:∀gl cells,Gl gl=some cells->VI w g.U (.vp cells) (.pointer (some ⟨gl,0,none⟩))
 used:∀d t o,s.loc d=some (t,o)->s.used t=true
structure cS(g:Gh)(h:qa)(w:World)(g':Gh)(h':qa)(w':World):Prop where
 ar:z8 g h w g' h' w'
 size:w.heap.size<=w'.heap.size
 own:∀b,b<w.heap.size->g'.own b=g.own b
 os:w'.os=w.os
 tape:w'.tape=w.tape
 output:dQ w' w
 same:∀b,b<w.heap.size->g.own b=none->w'.heap[b]?=w.heap[b]?
 bs:g'.bs=g.bs
 u:∀b,g'.U b->g.U b∨w.heap.size<=b
 u':∀b,g.U b->g'.U b
def cS.base{g g':Gh}{h h':qa}{w w':World}(f:cS g h w g' h' w'):g'.base=g.base:=vD Prod.fst f.bs
def cS.low{g g':Gh}{h h':qa}{w w':World}(f:cS g h w g' h' w'):g'.low=g.low:=vD (λx=>x.2.1) f.bs
def cS.dt{g g':Gh}{h h':qa}{w w':World}(f:cS g h w g' h' w'):g'.dt=g.dt:=vD (λx=>x.2.2) f.bs
def cS.marks{g g':Gh}{h h':qa}{w w':World}{ds:List Deferred}(f:cS g h w g' h' w')(m:Marks g w ds):Marks g' w' ds:=m.to f.size f.own f.same f.bs f.u
def mh.marks{g g':Gh}{w w':World}{ds:List Deferred}(f:mh g w g' w')(m:Marks g w ds):Marks g' w' ds:=m.to f.size f.own (λb j e=>f.same b j (λi d=>by rw[e] at d;cases d)) f.bs f.u
def cS.refl(g:Gh)(h:qa)(w:World):cS g h w g h w:=⟨.refl _ _ _ _,wc _,λ_ _=>rfl,rfl,rfl,.refl _,λ_ _ _=>rfl,rfl,λ_ h=>.inl h,λ_ h=>h⟩
def cS.trans{g g1 g2:Gh}{h h1 h2:qa}{w f e:World}(a:cS g h w g1 h1 f)(b:cS g1 h1 f g2 h2 e):cS g h w g2 h2 e:=by
 refine⟨a.ar.trans b.ar,wN a.size b.size,λk d=>(b.own k (by have:=a.size;omega)).trans (a.own k d),b.os.trans a.os,b.tape.trans a.tape,b.output.trans a.output,λk d i=>?_,b.bs.trans a.bs,λk d=>?_,λk d=>b.u' k (a.u' k d)⟩
 .rw[b.same k (by have:=a.size;omega) (by rw[a.own k d];exact i),a.same k d i]
 .rcases b.u k d with h1|h1
  .exact a.u k h1
  .exact .inr (wN a.size h1)
def mh.Ns{g g':Gh}{h h':qa}{w w':World}(f:mh g w g' w')(k:z8 g h w g' h' w'):cS g h w g' h' w' :=
 ⟨k,f.size,f.own,f.os,f.tape,f.output,λb d j=>f.same b d (λi e=>by rw[j] at e;cases e),f.bs,f.u,λb d=>(k.u b d).1⟩
section
variable {P:Program} {Gl:V9} {aa:Wa} {nt:Nat} {g:Gh} {s:St} {a:Act} {w:World}
def SR.ev(e:SR Gl aa nt g s a w)(x:Operand):g.VR s.h w (ev Gl aa s x) (a.eval x):=by
 cases x with
 |tmp t =>
  simp only[Ab.ev,Act.eval];cases k:aa.contains t with
  |true=>exact .aH _ _ (.undef _)
  |false=>exact e.tmps t (by simpa using k)
 |const v =>
  simp only[Ab.ev,Act.eval];cases r:H7 v with
  |true=>exact .aH _ _ (Sq v r)
  |false=>exact .aH _ _ (.undef _)
 |func f=>exact .aH _ _ (.fn f [] #[] (λ_=>undef) rfl (λi c d=>by simp at d) (λi c d=>by simp at d))
 |global j =>
  simp only[Ab.ev,Act.eval];cases o:Gl j with
  |none=>exact .aH _ _ (.undef _)
  |some cells=>exact .aH _ _ (e.dU j cells o)
def zm(a:Act)(d:Nat)(v:Value)(i:d<a.tmps.size)(t:Nat):(a.put (some d) v).tmps.getD t undef=if t=d then v else a.tmps.getD t undef:=by
 simp only[Act.put,wG];by_cases f:t=d
 .subst f;simp[i]
 .rw[Array.getElem?_setIfInBounds_ne (λe=>f e.symm),we f]
def Nt(a:Act)(d:Option Nat)(v:Value):(a.put d v).tmps.size=a.tmps.size:=by cases d<;>simp[Act.put]
def za(a:Act)(d:Option Nat)(v:Value):(a.put d v).defers=a.defers:=by cases d<;>rfl
def mR.ar{h h':qa}{g':Gh}{w':World}{t:Nat}{v:Value}{cells:JO}{cb:Nat}{arr:Array Value}{e:TypeId}(d:mR g h w t v cells cb arr e)(j:z8 g h w g' h' w')
 (i:g'.own cb=g.own cb) (k:w'.heap[cb]?=w.heap[cb]?):mR g' h' w' t v cells cb arr e :=
 ⟨d.ptr,i.trans d.own,k.trans d.heap,d.len,λo c f=>by
  obtain⟨u,h1,x,r⟩:=d.cell o c f;exact⟨u,h1,x,r.ar j⟩⟩
abbrev St.lay(s:St)(d:Nat)(v:T)(h:Option qa):St:=(⟨some (d,v),some (d,none),h⟩:du).dN s
def Iz{s:St}{d:Nat}{v:T}{h:Option qa}{e t o:Nat}(f:(s.lay d v h).loc e=some (t,o)):s.loc e=some (t,o)/\e≠d:=by
 simp only[du.dN,Yp,vg] at f;split at f
 .cases f
 .rename_i he;exact⟨f,by simpa using he⟩
def SR.done(f:SR Gl aa nt g s a w){d:Nat}(R:d<nt){x:T}{h':qa}{v:Value}{w':World}{g':Gh}(hr:HR g' h' w')(hx:g'.VR h' w' x v)(A:z8 g s.h w g' h' w')(B:mh g w g' w'){hp:Option qa}(he:hp.getD s.h=h')(E:s.used d=false) :
 SR Gl aa nt g' (s.lay d x hp) (a.put (some d) v) w':=by
 subst he;have W:d<1024:=by have:=f.nt;omega
 have j:d<a.tmps.size:=by rw[f.size];exact R
 have ed:=Ef (s:=s) (s':=s.lay d x hp) (d:=d) (v:=x) rfl W;refine⟨hr,by rw[za];exact B.marks f.defers,by rw[Nt];exact f.size,f.nt,λt r=>?_,λt r cells k=>?_,λe t o z=>?_,λV cells Q=>(f.dU V cells Q).ar A.u,λe t o z=>f.used e t o (Iz z).1⟩
 .rw[ed,zm a d v j];split
  .exact hx
  .exact(f.tmps t r).ar A
 .rw[ed] at k;rw[zm a d v j];split at k
  .subst k;exact absurd hx VR.dP
  .rename_i X;rw[we X];obtain⟨cb,D,e,C⟩:=f.eA t r cells k;have I:=qI C.heap;exact⟨cb,D,e,C.ar A (B.own cb I) (B.same cb I (λi H=>by rw[C.own] at H;cases H))⟩
 .obtain⟨h1,U⟩:=Iz z;have S:t≠d:=by rintro rfl;rw[f.used e t o h1] at E;cases E
  obtain⟨O,N,cb,M,J⟩:=f.loc e t o h1;refine⟨O,N,cb,?_,?_⟩
  .rw[zm a d v j,we S];exact M
  .rw[zm a d v j,we U];exact J
def SR.s6(d:SR Gl aa nt g s a w){h':qa}{v:Value}{w':World}{g':Gh}(hr:HR g' h' w')(j:z8 g s.h w g' h' w')(k:mh g w g' w'){hp:Option qa}(he:hp.getD s.h=h') :
 SR Gl aa nt g' ((⟨none,none,hp⟩:du).dN s) (a.put none v) w':=by
 subst he;refine⟨hr,k.marks d.defers,d.size,d.nt,λt f=>(d.tmps t f).ar j,λt f cells B=>?_,d.loc,λC cells A=>(d.dU C cells A).ar j.u,d.used⟩;obtain⟨cb,r,e,o⟩:=d.eA t f cells B;have z:=qI o.heap;exact⟨cb,r,e,o.ar j (k.own cb z) (k.same cb z (λi x=>by rw[o.own] at x;cases x))⟩
def HR.other{h:qa}(hr:HR g h w){w':World}{cb t:Nat}{arr:Array Value}{e:TypeId}(N:w.heap.size<=w'.heap.size)(D:∀k,k<w.heap.size->k≠cb->w'.heap[k]?=w.heap[k]?)
 (E:w'.heap[cb]?=some (.cells arr e (0,0))) (B:g.own cb=some (.inr t)∨w.heap.size<=cb) (S:∀n,room w cb n->n<=arr.size) (O:w'.os=w.os) (R:w'.tape=w.tape) (V:dQ w' w) :
 ∃g':Gh,g'.own cb=some (.inr t)/\(∀k,k≠cb->g'.own k=g.own k)/\HR g' h w'/\z8 g h w g' h w'/\cS g h w g' h w':=by
 let g':Gh:={ g with own:=λk=>if k=cb then some (.inr t) else g.own k }
 have Z:eE w g.U w' g.U:=by
  intro k f;obtain⟨h1,A⟩:=hr.u k f;refine⟨f,D k h1 ?_⟩;rintro rfl;rcases B with d|d
  .rw[A] at d;cases d
  .omega
 have I:z8 g h w g' h w':=by
  refine⟨Z,λk x hx=>⟨x,hx,wc _,λ_=>⟨rfl,rfl,rfl⟩⟩,λk n M=>?_⟩;by_cases f:k=cb
  .subst f;exact⟨arr,e,E,S n M⟩
  .obtain⟨a',e',h1,A⟩:=M;exact⟨a',e',by rw[D k (qI h1) f];exact h1,A⟩
 refine⟨g',by simp[g'],λk f=>by simp[g',f],?_,I,?_⟩
 .refine⟨λk x hx dp=>?_,λk f=>?_,λk o i=>?_,wN hr.base N,λk o i=>?_,λk j i=>?_,λk x m hx X=>?_⟩
  .rcases hr.dh k x hx dp with⟨H,Q,eZ,e2,r⟩|q
   rotate_left
   .exact .inr q
   refine .inl ?_;have C:H≠cb:=by
    rintro rfl;rcases B with d|d
    .rw[r.own] at d;cases d
    .have:=qI r.heap;omega
   refine⟨H,Q,eZ,e2,r.φ,by simp[g',C,r.own],by rw[D H (qI r.heap) C];exact r.heap,r.room,r.len,λj o c Y z=>?_,r.flat⟩;obtain⟨v,h1,A,h3⟩:=r.cell j o c Y z;exact⟨v,h1,A,h3.ar I⟩
  ·obtain⟨h1,A⟩:=hr.u k f;refine⟨ae,?_⟩;have C:k≠cb:=by
    rintro rfl;rcases B with d|d
    ·rw[A] at d;cases d
    ·omega
   simp[g',C,A]
  .by_cases f:k=cb
   .subst f;refine⟨?_,qI E⟩;rcases B with d|d
    .exact(hr.own k _ d).1
    .exact wN hr.base d
   .simp only[g',f,ve] at i;exact⟨(hr.own k o i).1,by have:=(hr.own k o i).2;omega⟩
  .by_cases f:k=cb
   .subst f;exact .inl ⟨arr,e,E⟩
   .simp only[g',f,ve] at i;exact hr.eU i (D k (hr.own k o i).2 f)
  .by_cases f:k=cb
   .subst f;simp only[g',vH,wi] at i;cases i
   .simp only[g',f,ve] at i;exact hr.lt k j i
  ·have C:∀c,g.own c=some (.inl k)->c≠cb:=by
    rintro c z rfl;rcases B with d|d
    ·rw[z] at d;cases d
    ·have:=(hr.own _ _ z).2;omega
   exact hr.eX hx X rfl (λc z=>by simp[g',C c z,z]) λc z i=>D c z (C c i)
 .refine⟨I,N,λk f=>?_,O,R,V,λk f W=>?_,rfl,λ_ f=>.inl f,λ_ f=>f⟩
  .by_cases J:k=cb
   .subst J;rcases B with d|d
    .simp[g',d]
    .omega
   .simp[g',J]
  .refine D k f ?_;rintro rfl;rcases B with d|d
   .rw[W] at d;cases d
   .omega
def SR.box(f:SR Gl aa nt g s a w){d:Nat}(Z:d<nt)(hp:d∈aa)(x:s.used d=false){cells:JO}{vs:Array Value}{e:TypeId}(C:cells.length=vs.size)
 (h1:∀(i:Nat) (u:Value),vs[i]?=some u->u.oneCell'=true) (hc:∀(i:Nat) (c:T),cells[i]?=some c->∃u,vs[i]?=some u/\g.VR s.h w c u) :
 ∃g',SR Gl aa nt g' (s.lay d (.ah cells) none) (a.put (some d) (.pointer (some ⟨w.heap.size,0,none⟩))) (w.alloc (.cells vs e))/\cS g s.h w g' s.h (w.alloc (.cells vs e)):=by
 obtain⟨g',V,U,dm,r,I⟩:=f.hr.other (w':=w.alloc (.cells vs e)) (cb:=w.heap.size) (t:=d) au (λk r _=>RowKit.Below.heap_alloc _ _ _ r) (zj w _) (.inr (wc _))
  (λn X=>by obtain⟨a',J,z,_⟩:=X;have:=qI z;omega) rfl rfl ⟨rfl,wc _⟩
 refine⟨g',?_,I⟩;have FF:d<1024:=by have:=f.nt;omega
 have A:d<a.tmps.size:=by rw[f.size];exact Z
 have ed:=Ef (s:=s) (s':=s.lay d (.ah cells) none) (d:=d) (v:=.ah cells) rfl FF;refine⟨dm,by rw[za];exact I.marks f.defers,by rw[Nt];exact f.size,f.nt,λt B=>?_,λt B j D=>?_,λe t o C=>?_,λgl cells Y=>(f.dU gl cells Y).ar r.u,λe t o C=>f.used e t o (Iz C).1⟩
 .have N:t≠d:=by rintro rfl;exact B hp
  rw[ed,zm a d _ A,we N,we N];exact(f.tmps t B).ar r
 .rw[ed] at D;rw[zm a d _ A];split at D
  ·rename_i H;subst H;obtain rfl:=T.ah.inj D;rw[wl rfl];exact⟨w.heap.size,vs,e,rfl,V,zj w _,ae,λo c W=>by
    obtain⟨u,x,cU⟩:=hc o c W;exact⟨u,x,h1 o u x,cU.ar r⟩⟩
  .rename_i H;rw[we H];obtain⟨cb,E,J,M⟩:=f.eA t B j D;have aN:=qI M.heap;exact⟨cb,E,J,M.ar r (U cb ae) (RowKit.Below.heap_alloc _ _ _ aN)⟩
 .obtain⟨z,S⟩:=Iz C;have R:t≠d:=by rintro rfl;rw[f.used e t o z] at x;cases x
  obtain⟨Q,O,cb,q6,q7⟩:=f.loc e t o z;refine⟨Q,O,cb,?_,?_⟩
  .rw[zm a d _ A,we R];exact q6
  .rw[zm a d _ A,we S];exact q7
def SR.Db(f:SR Gl aa nt g s a w){t:Nat}(hp:t∈aa){cells cells':JO}(M:s.at t = .ah cells){cb:Nat}{arr arr':Array Value}{e:TypeId}(j:mR g s.h w t (a.tmps.getD t undef) cells cb arr e)
 (dM:arr'.size=arr.size) (bc:cells'.length<=arr.size) (Y:∀(o:Nat) (c:T),cells'[o]?=some c->∃u:Value,arr'[o]?=some u/\u.oneCell'=true/\g.VR s.h w c u) :
 ∃g',SR Gl aa nt g' ((⟨some (t,.ah cells'),none,none⟩:du).dN s) (a.put none undef) (w.setRow cb arr')/\cS g s.h w g' s.h (w.setRow cb arr'):=by
 have I:=Yl w cb arr arr' e j.heap;obtain⟨g',S,R,dm,z,J⟩:=f.hr.other (w':=w.setRow cb arr') (cb:=cb) (t:=t) (by simp[World.setRow]) (λk _ i=>setRow_other w cb k _ i) I (.inl j.own)
  (λn V=>by rw[dM];exact Kj j.heap V) rfl rfl ⟨rfl,wc _⟩
 refine⟨g',?_,J⟩;have C:t<1024:=by
  rcases wt t 1024 with H|H
  .exact H
  .rw[BZ ae] at M;cases M
 have ed:=Ef (s:=s) (s':=(⟨some (t,.ah cells'),none,none⟩:du).dN s) (d:=t) (v:=.ah cells') rfl C;refine⟨dm,J.marks f.defers,f.size,f.nt,λr x=>?_,λr x Dc A=>?_,f.loc,λX cells W=>(f.dU X cells W).ar z.u,f.used⟩
 .have i:r≠t:=by rintro rfl;exact x hp
  rw[ed,we i];exact(f.tmps r x).ar z
 .rw[ed] at A;split at A
  ·rename_i D;subst D;obtain rfl:=T.ah.inj A;exact⟨cb,arr',e,j.ptr,S,I,ae,λo c U=>by
    obtain⟨u,Q,O,N⟩:=Y o c U;exact⟨u,Q,O,N.ar z⟩⟩
  ·rename_i D;obtain⟨B,Z,e2,E⟩:=f.eA r x Dc A;have i:B≠cb:=by
    rintro rfl;have:=j.own;rw[E.own] at this;exact D (by simpa using this)
   exact⟨B,Z,e2,E.ar z (R B i) (setRow_other w cb B _ i)⟩
def SR.Dd(j:SR Gl aa nt g s a w){d t o cb:Nat}(J:d<nt)(hp:t∈aa)(x:d∉aa)(I:a.tmps.getD t undef = .pointer (some ⟨cb,0,none⟩)) :
 SR Gl aa nt g ((⟨some (d,.undef),some (d,some (t,o)),none⟩:du).dN s) (a.put (some d) (.pointer (some ⟨cb,o,none⟩))) w:=by
 have O:d<1024:=by have:=j.nt;omega
 have r:d<a.tmps.size:=by rw[j.size];exact J
 have N:t≠d:=by rintro rfl;exact x hp
 have ed:=Ef (s:=s) (s':=(⟨some (d,.undef),some (d,some (t,o)),none⟩:du).dN s) (d:=d) (v:=.undef) rfl O;have C:∀e f k,((⟨some (d,.undef),some (d,some (t,o)),none⟩:du).dN s).loc e=some (f,k)->(e=d/\f=t/\k=o)∨(e≠d/\s.loc e=some (f,k)):=by
  intro e f k i;simp only[du.dN,Yp,vg] at i;split at i
  .rename_i he;have he:e=d:=by simpa using he
   simp only[wi,wy] at i;exact .inl ⟨he,i.1.symm,i.2.symm⟩
  .rename_i he;exact .inr ⟨by simpa using he,i⟩
 refine⟨j.hr,by rw[za];exact j.defers,by rw[Nt];exact j.size,j.nt,λf u=>?_,λf u cells B=>?_,λe f k i=>?_,j.dU,λe f k i=>?_⟩
 .rw[ed,zm a d _ r];split
  .exact .aH _ _ (.undef _)
  .exact j.tmps f u
 .have A:f≠d:=by rintro rfl;exact x u
  rw[ed,we A] at B;rw[zm a d _ r,we A];exact j.eA f u cells B
 .rcases C e f k i with⟨rfl,rfl,rfl⟩|⟨he,i⟩
  .refine⟨hp,x,cb,?_,?_⟩
   .rw[zm a e _ r,we N];exact I
   .rw[zm a e _ r,wl rfl]
  .obtain⟨z,H,M,E,D⟩:=j.loc e f k i;refine⟨z,H,M,?_,?_⟩
   .rw[zm a d _ r,we (by rintro rfl;exact x z)];exact E
   .rw[zm a d _ r,we he];exact D
 .simp only[du.dN,yE,vg];split
  .rfl
  .rename_i hx;rcases C e f k i with⟨rfl,rfl,rfl⟩|⟨he,i⟩
   .exact absurd (wF _) hx
   .exact j.used e f k i
end
section
variable {P:Program} {k:TypeId}
def ku{t:TypeId}{d:TypeDesc}(e:P.underlying t=some d)(f:yf P t=false){cs:Array Value}{off:Nat}{v:Value}(a:cs[off]?=some v)(w:World):(part t cs off).run P w = .ok v w:=by
 unfold part;simp only[Sem.run_bind,kK e,Result.andThen_ok,f,xy,ve,a,Sem.run_pure]
def mS(P:Program):Nat->List Field->List (Option IntKind)->Prop
 |_,[],[]=>True
 |i,f::fs,x::l=>f.offset=i/\f.name≠"_"/\P.underlying f.type=some (match x with|some q=>.int q|none=>.bool)/\mS P (i+1) fs l
 |_,_,_=>False
def Nu:∀{fs:List Field} {i:Nat} {l:List (Option IntKind)},Ff P i fs=some l->mS P i fs l
 |[],i,l,h=>by
  simp only[Ff,wi] at h;subst h;trivial
 |f::fs,i,l,h=>by
  simp only[Ff] at h;obtain⟨a,h⟩:=qm h;simp only[wg,vf,vn,ud,ne_eq] at a;split at h
  .rename_i q e h1 d;obtain rfl:=wa h;exact⟨a.1.1,a.1.2,h1,Nu d⟩
  .rename_i e h1 d;obtain rfl:=wa h;exact⟨a.1.1,a.1.2,h1,Nu d⟩
  .cases h
def mS.B0{i:Nat}{f:Field}{fs:List Field}{x:Option IntKind}{l:List (Option IntKind)}(h:mS P i (f::fs) (x::l)):yf P f.type=false:=by
 unfold yf;rw[h.2.2.1];cases x<;>rfl
def S6(w:World)(d:Nat)(xs e:Array Value):∀(fs:List Field) (i:Nat) (l:List (Option IntKind)),mS P i fs l->Yy l (xs.toList.drop i)->Yy l (e.toList.drop i) →
 ∃r:Bool,(Op.eqFields (d+1) xs e fs).run P w = .ok r w/\(r=true↔xs.toList.drop i=e.toList.drop i)
 |[],i,l,h,hx,g=>by
  cases l with
  |cons=>exact h.elim
  |nil =>
   refine⟨true,by simp[Op.eqFields],?_⟩;cases j:xs.toList.drop i with
   |cons=>rw[j] at hx;exact hx.elim
   |nil =>
    cases o:e.toList.drop i with
    |cons=>rw[o] at g;exact g.elim
    |nil=>simp
 |f::fs,i,l,h,hx,g=>by
  cases l with
  |nil=>exact h.elim
  |cons x l =>
   have E:=h.B0;obtain⟨h1,S,s,R⟩:=h;cases j:xs.toList.drop i with
   |nil=>rw[j] at hx;exact hx.elim
   |cons u M =>
    cases o:e.toList.drop i with
    |nil=>rw[o] at g;exact g.elim
    |cons v J =>
     rw[j] at hx;rw[o] at g;have I:xs[i]?=some u:=by
      have:=vD (λl=>l[0]?) j;simpa using this
     have H:e[i]?=some v:=by
      have:=vD (λl=>l[0]?) o;simpa using this
     have B:xs.toList.drop (i+1)=M:=by rw[←List.drop_drop,j];rfl
     have A:e.toList.drop (i+1)=J:=by rw[←List.drop_drop,o];rfl
     obtain⟨r,N,C⟩:=S6 w d xs e fs (i+1) l R (by rw[B];exact hx.2) (by rw[A];exact g.2);rw[B,A] at C;have Q:(part f.type xs f.offset).run P w = .ok u w:=ku s E (by rw[h1];exact I) w;have O:(part f.type e f.offset).run P w = .ok v w:=ku s E (by rw[h1];exact H) w;have z:∃c:Bool,(Op.equalIn (d+1) f.type u v).run P w = .ok c w/\(c=true↔u=v):=by
      cases x with
      |some q =>
       obtain⟨a,rfl⟩:=hx.1;obtain⟨b,rfl⟩:=g.1;exact⟨a==b,by simp[Op.equalIn,qo s],au⟩
      |none =>
       obtain⟨a,rfl⟩:=hx.1;obtain⟨b,rfl⟩:=g.1;exact⟨a==b,by simp[Op.equalIn,qo s],au⟩
     obtain⟨c,z,D⟩:=z;simp only[Op.eqFields,S,ne_eq,not_false_eq_true,vH,Sem.run_bind,Q,O,z,Result.andThen_ok];cases c with
     |false=>exact⟨false,au,by simp;intro q;exact absurd (D.2 q) au⟩
     |true=>exact⟨r,by simpa using N,by rw[C];simp[D.1 rfl]⟩
def qlJ(w:World)(r:Bool){fs:Array Field}(E:P.underlying k=some (.struct fs)){l:List (Option IntKind)}(e:mS P 0 fs.toList l){cs:Array Value}(o:Yy l cs.toList):(Instr.checkKey r 10000 k (.agg cs)).run P w = .ok () w:=by
 rw[show 10000=9999+1 from rfl,Instr.checkKey];simp only[Sem.run_bind,run_underlying E,Result.andThen_ok];rw[←Array.forIn_toList];have d:Yy l (cs.toList.drop 0):=by simpa using o
 clear o;generalize fs.toList=L at e;generalize 0=i at e d
 induction L generalizing i l with
 |nil=>simp
 |cons f L D =>
  cases l with
  |nil=>exact e.elim
  |cons x l =>
   have J:=e.B0;obtain⟨h1,I,j,H⟩:=e;cases g:cs.toList.drop i with
   |nil=>rw[g] at d;exact d.elim
   |cons u A =>
    rw[g] at d;have s:cs[i]?=some u:=by
     have:=vD (λl=>l[0]?) g;simpa using this
    have z:cs.toList.drop (i+1)=A:=by rw[←List.drop_drop,g];rfl
    have C:(part f.type cs f.offset).run P w = .ok u w:=ku j J (by rw[h1];exact s) w;have B:(Instr.checkKey r 9999 f.type u).run P w = .ok () w:=by
     cases x with
     |some q=>obtain⟨a,rfl⟩:=d.1;rw[show 9999=9998+1 from rfl,Instr.checkKey];simp[run_underlying j]
     |none=>obtain⟨a,rfl⟩:=d.1;rw[show 9999=9998+1 from rfl,Instr.checkKey];simp[run_underlying j]
    simp only[List.forIn_cons,Sem.run_bind,I,ne_eq,not_false_eq_true,vH,Result.andThen_ok,C,B,Sem.run_pure];exact D (i+1) H (by rw[z];exact d.2)
def S7(w:World){fs:Array Field}(f:P.underlying k=some (.struct fs))(u:P.stoodInHeld k=false){l:List (Option IntKind)}(s:mS P 0 fs.toList l){cs:Array Value}(x:Yy l cs.toList) :
 ∀(es:List MapEntry) (i:Nat),(∀e∈es,D9 (.row l) e.key) →
  ((Instr.findAsking k (.agg cs) es i).run P w = .ok none w/\∀e∈es,e.key≠.agg cs)∨∃j e,(Instr.findAsking k (.agg cs) es i).run P w = .ok (some (i+j,e.val)) w/\es[j]?=some e/\e.key = .agg cs
 |[],i,_=>.inl ⟨by simp[Instr.findAsking],au⟩
 |e::es,i,B=>by
  obtain⟨ds,A,g⟩:=B e au;have z:P.fieldsOf k=fs:=by simp[Program.fieldsOf,f]
  obtain⟨r,hr,d⟩:=S6 w 9998 cs ds fs.toList 0 l s (by simpa using x) (by simpa using g);have he:(Op.equal k (.agg cs) e.key).run P w = .ok r w:=by
   rw[A,Op.equal,show Op.maxDepth=9999+1 from rfl,run_equalIn_struct w 9999 k cs ds (by rw[z];exact f) u,z];exact hr
  have d:r=true↔e.key = .agg cs:=by
   rw[d,A];constructor
   .intro q;have:ds=cs:=Array.ext' (by simpa using q.symm);rw[this]
   .intro q;cases q;rfl
  cases r with
  |true =>
   exact .inr ⟨0,e,by simp[Instr.findAsking,he],rfl,d.1 rfl⟩
  |false =>
   have E:e.key≠.agg cs:=λq=>by cases d.2 q
   rcases S7 w f u s x es (i+1) (λy a=>B y (by simp[a])) with⟨h1,o⟩|⟨j,D,h1,o,C⟩
   .refine .inl ⟨by simp[Instr.findAsking,he,h1],λy a=>?_⟩;rcases wK.1 a with rfl|a
    .exact E
    .exact o y a
   .exact .inr ⟨j+1,D,by simp[Instr.findAsking,he,h1];omega,by simpa using o,C⟩
def S8:∀{l:List (Option IntKind)} {us vs:List Value},Yy l us->Yy l vs->us.map AY=vs.map AY->us=vs
 |[],[],[],_,_,_=>rfl
 |x::l,u::us,v::vs,h1,d,h=>by
  simp only[xA,List.cons.injEq] at h;have:=S8 h1.2 d.2 h.2;subst this;cases x with
  |some q =>
   obtain⟨a,rfl⟩:=h1.1;obtain⟨b,rfl⟩:=d.1;have:a=b:=h.1;rw[this]
  |none =>
   obtain⟨a,rfl⟩:=h1.1;obtain⟨b,rfl⟩:=d.1;have h:=h.1;cases a<;>cases b<;>simp_all [AY]
 |[],_::_,_,h,_,_=>h.elim
 |[],[],_::_,_,h,_=>h.elim
 |_::_,[],_,h,_,_=>h.elim
 |_::_,_::_,[],_,h,_=>h.elim
def S9(n:Nat):∀{l:List (Option IntKind)} {us:List Value},Yy l us->((us.zip us).all λp=>Instr.sameBits n p.1 p.2)=true
 |[],[],_=>rfl
 |x::l,u::us,h=>by
  simp only[List.zip_cons_cons,xJ,wg];refine⟨?_,S9 n h.2⟩;cases x with
  |some q=>obtain⟨a,rfl⟩:=h.1;cases n<;>simp[Instr.sameBits]
  |none=>obtain⟨a,rfl⟩:=h.1;cases n<;>simp[Instr.sameBits]
 |[],_::_,h=>h.elim
 |_::_,[],h=>h.elim
def qlK{fs:Array Field}(f:P.underlying k=some (.struct fs))(u:P.stoodInHeld k=false){l:List (Option IntKind)}(o:mS P 0 fs.toList l):nF P k (D9 (.row l)) where
 inj:=by
  rintro a b ⟨d,rfl,hx⟩ ⟨C,rfl,z⟩ h;rw[Array.ext' (S8 hx z h)]
 check:=by
  rintro w B v ⟨d,rfl,hx⟩;exact qlJ w B f o hx
 find:=by
  rintro w x ⟨d,rfl,hx⟩ es h;have A:∀es:List MapEntry,Instr.findNow (.struct fs) (.agg d) es 0=some none/\es=[]∨Instr.findNow (.struct fs) (.agg d) es 0=none:=by
   intro es;cases es with
   |nil=>exact .inl ⟨rfl,rfl⟩
   |cons e es=>exact .inr (by unfold Instr.findNow;simp[Instr.sameNow])
  rcases A es with⟨h1,rfl⟩|h1
  .exact .inl ⟨by simp[Instr.findKey,run_underlying f,h1],au⟩
  .have r:(Instr.findKey k (.agg d) es).run P w=(Instr.findAsking k (.agg d) es 0).run P w:=by simp[Instr.findKey,run_underlying f,h1]
   rcases S7 w f u o hx es 0 h with⟨i,g⟩|⟨j,e,i,g,s⟩
   .exact .inl ⟨r.trans i,g⟩
   .exact .inr ⟨j,e,by rw[r,i,wn],g,s⟩
 stays:=by
  rintro w v ⟨d,rfl,hx⟩;unfold Instr.keyThatStays;rw[wl (by rw[show 10000=9999+1 from rfl,Instr.sameBits];simpa using S9 9999 hx)];rfl
end
open Go.ChangeMaps (setBlock heap_setBlock_same heap_setBlock_other)
section
variable {P:Program} {R:Type} {g:Gh} {h:qa} {w:World}
def qdo{r:R}:∀{fs:List (Option IntKind)} {l:JO} {us:List Value} {k:List Int->Option R},l.length=us.length->(∀(i:Nat) (c:T),l[i]?=some c->∃u,us[i]?=some u/\g.VR h w c u)->zw fs l k=some r →
 ∃m,k m=some r/\Yy fs us/\us.map AY=m:=by
 intro fs
 induction fs with
 |nil =>
  intro l us k d e a;cases l with
  |nil =>
   cases us with
   |nil=>exact⟨[],a,trivial,rfl⟩
   |cons u us=>simp at d
  |cons x l=>simp[zw] at a
 |cons f fs z =>
  intro l us k d e a;cases l with
  |nil=>cases f<;>simp[zw] at a
  |cons x l =>
   cases us with
   |nil=>simp at d
   |cons u us =>
    obtain⟨u',D,B⟩:=e 0 x rfl;obtain rfl:u=u':=by simpa using D
    have s:l.length=us.length:=by simpa using d
    have A:∀(i:Nat) (c:T),l[i]?=some c->∃u,us[i]?=some u/\g.VR h w c u:=λi c I=>e (i+1) c (by simpa using I);cases f with
    |some C =>
     cases x with
     |int q n =>
      simp only[zw] at a;obtain⟨H,E⟩:=qm a;obtain rfl:q=C:=by simpa using H
      obtain⟨m,h1,o,j⟩:=z (k:=λm=>k (n::m)) s A E;obtain rfl:=B.int;exact⟨n::m,h1,⟨⟨n,rfl⟩,o⟩,by simp[AY,j]⟩
     |_=>simp[zw] at a
    |none =>
     cases x with
     |bool b =>
      simp only[zw] at a;obtain⟨m,h1,o,j⟩:=z (k:=λm=>k ((bif b then 1 else 0)::m)) s A a;obtain rfl:=B.bool;exact⟨_,h1,⟨⟨b,rfl⟩,o⟩,by simp[AY,j]⟩
     |_=>simp[zw] at a
def yL{ks:KS}{x:T}{v:Value}{k:List Int->Option R}{r:R}(a:jE ks x k=some r)(hx:g.VR h w x v):D9 ks v/\k (qQ v)=some r:=by
 unfold jE at a;split at a
 .obtain⟨A,s⟩:=qm a;rename_i q o n;obtain rfl:o=q:=by simpa using A
  obtain rfl:=hx.int;exact⟨⟨n,rfl⟩,s⟩
 .rename_i fs l;obtain⟨d,rfl,h1,H,C⟩:=hx.bM;obtain⟨m,j,f,e⟩:=qdo (us:=d.toList) (by simpa using h1) (λi c B=>by obtain⟨u,z,D⟩:=C i c B;exact⟨u,by simpa using z,D⟩) a;exact⟨⟨d,rfl,f⟩,by rw[show qQ (.agg d)=m from e];exact j⟩
 .cases a
def HR.De(hr:HR g h w){i:Nat}{b:aq}(J:h[i]?=some b){m m':bp}(hm:b.mp=some m){cb:Nat}(Q:g.φ i=some (cb,0))(z:g.own cb=some (.inl i)){es:Array MapEntry}{c:Nat}
 (ap:gU (setBlock w cb (.map es c)) cb m') (s:∃es c,w.heap[cb]?=some (.map es c)) :
 HR g (h.set i { b with mp:=some m' }) (setBlock w cb (.map es c))/\z8 g h w g (h.set i { b with mp:=some m' }) (setBlock w cb (.map es c))/\mh g w g (setBlock w cb (.map es c)):=by
 obtain⟨W,c0,s⟩:=s;have C:=qy J;have r:∀k,k≠cb->(setBlock w cb (.map es c)).heap[k]?=w.heap[k]?:=λk a=>heap_setBlock_other s _ a;have B:(setBlock w cb (.map es c)).heap.size=w.heap.size:=by simp[setBlock]
 have M:z8 g h w g (h.set i { b with mp:=some m' }) (setBlock w cb (.map es c)):=by
  refine⟨λk a=>⟨a,r k ?_⟩,λk x hx=>?_,λk n ci=>?_⟩
  .rintro rfl;have:=(hr.u _ a).2;rw[z] at this;cases this
  .by_cases a:k=i
   .subst a;rw[J] at hx;obtain rfl:=wa hx;exact⟨_,wP C,wc _,λ_=>⟨rfl,rfl,rfl⟩⟩
   .exact⟨x,by rw[wV (λe=>a e.symm)];exact hx,wc _,λ_=>⟨rfl,rfl,rfl⟩⟩
  .obtain⟨a',Z,h1,E⟩:=ci;refine⟨a',Z,?_,E⟩;rw[r k]
   .exact h1
   .rintro rfl;rw[s] at h1;cases h1
 refine⟨⟨λk x hx A=>?_,λk a=>⟨by rw[B];exact(hr.u k a).1,(hr.u k a).2⟩,λk o d=>⟨(hr.own k o d).1,by rw[B];exact(hr.own k o d).2⟩,by rw[B];exact hr.base,λk o d=>?_,λk j d=>by rw[xM];exact hr.lt k j d,λk x S hx A=>?_⟩,M,?_⟩
 .by_cases a:k=i
  .subst a;rw[wP C] at hx;obtain rfl:=wa hx;cases A
  .rw[wV (λe=>a e.symm)] at hx;rcases hr.dh k x hx A with⟨H,O,X,Y,f⟩|q
   rotate_left
   .exact .inr q
   refine .inl ?_;have aZ:H≠cb:=by
    rintro rfl;have:=f.heap;rw[s] at this;cases this
   refine⟨H,O,X,Y,f.φ,f.own,by rw[r H aZ];exact f.heap,f.room,f.len,λj o c U D=>?_,f.flat⟩;obtain⟨v,h1,E,V⟩:=f.cell j o c U D;exact⟨v,h1,E,V.ar M⟩
 .by_cases a:k=cb
  .subst a;rw[z] at d;exact .inr ⟨i,es,c,(wa d).symm,heap_setBlock_same s _⟩
  .exact hr.eU d (r k a)
 .by_cases a:k=i
  .subst a;rw[wP C] at hx;obtain rfl:=wa hx;obtain rfl:m'=S:=wa A;exact⟨cb,Q,z,ap⟩
  .rw[wV (λe=>a e.symm)] at hx;refine hr.eX hx A rfl (λ_ D=>D) λc' _ I=>r c' ?_;rintro rfl;rw[z] at I;exact a (by simpa using I.symm)
 .refine⟨by rw[B];exact wc _,λ_ _=>rfl,rfl,rfl,⟨rfl,wc _⟩,λk a N=>r k ?_,rfl,λ_ a=>.inl a,λk a t d=>?_⟩
  .rintro rfl;exact N i z
  .have:=(hr.own k _ d).2;omega
def yW{t:TypeId}{x:T}{v:Value}{k:Nat->aq->bp->Option R}{r:R}(a:YW P t x h k=some r)(hr:HR g h w)(hx:g.VR h w x v) :
 ∃i b m o e cb,k i b m=some r/\h[i]?=some b/\b.mp=some m/\g.φ i=some (cb,0)/\g.own cb=some (.inl i)/\gU w cb m/\v = .map (some cb)/\JZ P t=some (o,m.ks,m.q)/\P.underlying t=some (.map o e)/\P.underlying e=some (.int m.q)/\Ig P o=some m.ks ∧
  (∀u:World,(zeroValue e).run P u = .ok (.int m.q 0) u)/\(∃aj,x = .mp i aj/\b.aj=aj):=by
 unfold YW at a;cases x with
 |mp i aj =>
  dsimp only at a;unfold Yb at a;cases j:h[i]? with
  |none=>simp[j] at a
  |some b =>
   rw[j] at a;dsimp only at a;obtain⟨W,a⟩:=qm a;have H:b.aj=aj:=by simpa using W
   cases A:b.mp with
   |none=>simp[A] at a
   |some m =>
    rw[A] at a;dsimp only at a;cases d:JZ P t with
    |none=>simp[d] at a
    |some p =>
     obtain⟨o,ks,q⟩:=p;rw[d] at a;dsimp only at a;obtain⟨s,Q⟩:=qm a;simp only[wg,wC] at s;obtain⟨M,J⟩:=s;subst M J;clear a;obtain⟨b',E,_,_,s⟩:=hx.iH;rw[j] at E;obtain rfl:=wa E;obtain⟨cb,D,rfl⟩:=s H;obtain⟨Y,C,O,N⟩:=hr.mp i b m j A;rw[C] at D;obtain⟨rfl,_⟩:=vU (wa D);have Ta:=d;unfold JZ at d;split at d
     .rename_i U e X;split at d
      .rename_i q0 S he I;obtain⟨f,d⟩:=qm d;simp only[wi,wy] at d;obtain⟨rfl,rfl,rfl⟩:=d;refine⟨i,b,m,U,e,Y,Q,j,A,C,O,N,rfl,rfl,X,he,I,λu=>?_,aj,rfl,H⟩;unfold RW at f;cases B:P.info? e with
       |none=>simp[B] at f
       |some V =>
        rw[B] at f;dsimp only at f;split at f
        .rename_i q' z Z;simp only[wg,wC] at f;obtain⟨rfl,rfl⟩:=f;simp[zeroValue,typeInfo,B,Z]
        .cases f
      .cases d
     .cases d
 |_=>simp at a
def FH{k:TypeId}{ks:KS}(h:Ig P k=some ks):nF P k (D9 ks):=by
 unfold Ig at h;split at h
 .rename_i q a;obtain rfl:=wa h;exact qlD a
 .rename_i fs a;obtain⟨d,h⟩:=qm h;split at h
  .rename_i l e;obtain rfl:=wa h;exact qlK a (by simpa using d) (Nu e)
  .cases h
 .cases h
def qbn{t:TypeId}{k:Qd R}{r:R}(a:yq P t h k=some r)(hr:HR g h w) :
 ∃y h',k y h' true=some r/\∃v w',(Instr.makeMap t none).run P w = .ok v w'/\gV g h w y h' v w':=by
 unfold yq at a;split at a
 .rename_i Z ks q ht;have s:∀k,k<w.heap.size->(w.alloc (.map #[] 0)).heap[k]?=w.heap[k]?:=λk a=>RowKit.Below.heap_alloc _ _ _ a;have X:(w.alloc (.map #[] 0)).heap.size=w.heap.size+1:=by simp
  refine⟨_,_,a,.map (some w.heap.size),w.alloc (.map #[] 0),rfl,?_⟩
  let d:Gh:={ g with φ:=λk=>if k=h.length then some (w.heap.size,0) else g.φ k,own:=λk=>if k=w.heap.size then some (.inl h.length) else g.own k }
  have I:z8 g h w d (h++[ke 0 (.made ks q)]) (w.alloc (.map #[] 0)):=by
   refine⟨λk a=>⟨a,s k (hr.u k a).1⟩,λk x hx=>?_,λk n W=>?_⟩
   .have a:=qy hx;exact⟨x,by rw[wx a];exact hx,wc _,λ_=>⟨rfl,rfl,by simp[d,vq a]⟩⟩
   .obtain⟨Y,V,h1,z⟩:=W;exact⟨Y,V,by rw[s k (qI h1)];exact h1,z⟩
  have H:∀c o,g.own c=some o->c≠w.heap.size:=λc o i=>by have:=(hr.own c o i).2;omega
  have D:(h++[ke 0 (.made ks q)])[h.length]?=some (ke 0 (.made ks q)):=YA h _;have B:∀{k:Nat} {x:aq},(h++[ke 0 (.made ks q)])[k]?=some x->¬k<h.length->k=h.length/\x=ke 0 (.made ks q):=by
   intro k x hx a;have:=qy hx;simp at this;obtain rfl:k=h.length:=by omega
   rw[D] at hx;exact⟨rfl,(wa hx).symm⟩
  refine⟨d,⟨λk x hx A=>?_,λk a=>?_,λk o e=>?_,by rw[X];exact Nat.le_succ_of_le hr.base,λk o e=>?_,λk j e=>?_,λk x m hx A=>?_⟩,?_,I,?_⟩
  .by_cases a:k<h.length
   .rw[wx a] at hx;rcases hr.dh k x hx A with⟨E,N,S,U,f⟩|⟨M,J⟩
    rotate_left
    .exact .inr ⟨by simp[d,vq a,M],J⟩
    refine .inl ?_;refine⟨E,N,S,U,by simp[d,vq a,f.φ],by simp[d,H _ _ f.own,f.own],by rw[s E (qI f.heap)];exact f.heap,f.room,f.len,λj o c O i=>?_,f.flat⟩;obtain⟨v,h1,z,Q⟩:=f.cell j o c O i;exact⟨v,h1,z,Q.ar I⟩
   .obtain⟨_,rfl⟩:=B hx a;cases A
  .obtain⟨h1,z⟩:=hr.u k a;exact⟨ae,by simp[d,vq h1,z]⟩
  .by_cases a:k=w.heap.size
   .subst a;exact⟨hr.base,ae⟩
   .simp only[d,a,ve] at e;exact⟨(hr.own k o e).1,by have:=(hr.own k o e).2;omega⟩
  .by_cases a:k=w.heap.size
   .subst a;simp only[d,vH,wi] at e;exact .inr ⟨_,_,_,e.symm,zj w _⟩
   .simp only[d,a,ve] at e;exact hr.eU e (s k (hr.own k o e).2)
  .rw[wD,xD];by_cases a:k=w.heap.size
   .subst a;simp only[d,vH,wi,Sum.inl.injEq] at e;omega
   .simp only[d,a,ve] at e;have:=hr.lt k j e;omega
  .by_cases a:k<h.length
   .rw[wx a] at hx;exact hr.eX hx A (by simp[d,vq a]) (λc i=>by simp[d,H _ _ i,i]) λc i _=>s c i
   .obtain⟨rfl,rfl⟩:=B hx a;obtain rfl:=wa A;exact⟨w.heap.size,by simp[d],by simp[d],cO.made w ks q⟩
  .exact .mp _ _ _ _ D (wc _) rfl λ_=>⟨w.heap.size,by simp[d],rfl⟩
  .refine⟨ae,λk a=>by simp[d,vq a],rfl,rfl,⟨rfl,wc _⟩,λk a _=>s k a,rfl,λ_ a=>.inl a,λk a t=>?_⟩;by_cases C:k=w.heap.size
   .simp[d,C]
   .simp only[d,C,ve];intro e;have:=(hr.own k _ e).2;omega
 .cases a
def VR.pair{x y:T}{u v:Value}(hx:g.VR h w x u)(d:g.VR h w y v):g.VR h w (.aK [x,y]) (.tuple #[u,v]):=by
 refine VR.iJ au λi c a=>?_
 match i with
 |0=>simp at a;subst a;exact⟨_,rfl,hx⟩
 |1=>simp at a;subst a;exact⟨_,rfl,d⟩
 |i+2=>simp at a
def qct{t:TypeId}{x key:T}{c:Bool}{d f:Value}{k:Qd R}{r:R}(a:QV P t x key c h k=some r)(hr:HR g h w)(hx:g.VR h w x d)(A:g.VR h w key f) :
 ∃y,k y h false=some r/\∃u,(Instr.lookup t d f c).run P w = .ok u w/\g.VR h w y u:=by
 unfold QV yh at a;obtain⟨i,b,m,E,e,cb,a,J,I,D,C,o,rfl,H,z,he,j,s,_⟩:=yW a hr hx;obtain⟨B,a⟩:=yL a A;refine⟨_,a,_,cO.look o (FH j) z (s w) B c,?_⟩;cases c with
 |true=>exact VR.pair (.aH _ _ (.int _ _)) (.aH _ _ (.bool _))
 |false=>exact .aH _ _ (.int _ _)
def Kl(hr:HR g h w){i:Nat}{b:aq}(u:h[i]?=some b){m m':bp}(s:b.mp=some m){cb:Nat}(o:g.φ i=some (cb,0))(k:g.own cb=some (.inl i))(a:gU w cb m){es:Array MapEntry}
 (F:gH (D9 m.ks) m.q m' es) (r:m'.q=m.q) (d:m'.ks=m.ks) {x:T} {v:Value} (hx:∀(w':World) (h':qa),g.VR h' w' x v) :
 gV g h w x (h.set i { b with mp:=some m' }) v (setBlock w cb (.map es m'.clock)):=by
 obtain⟨j,f,e⟩:=hr.De u s (m':=m') o k (es:=es) (c:=m'.clock) (by unfold gU;rw[r,d];exact cO.after a.heap F) a.heap;exact⟨g,j,hx _ _,f,e⟩
def qcu{t:TypeId}{x key z:T}{j o f:Value}{k:Qd R}{r:R}(a:Yj P t x key z h k=some r)(hr:HR g h w)(hx:g.VR h w x j)(J:g.VR h w key o)(O:g.VR h w z f) :
 ∃h',k .undef h' true=some r/\∃w',(Instr.mapUpdate t j o f).run P w = .ok () w'/\gV g h w .undef h' undef w':=by
 unfold Yj at a;split at a
 .rename_i A n;obtain rfl:=O.int;unfold yh at a;obtain⟨i,b,m,Q,e,cb,a,I,H,C,B,s,rfl,U,E,he,u,S,_⟩:=yW a hr hx;obtain⟨N,a⟩:=yL a J;obtain⟨d,D⟩:=qm a;have d:A=m.q:=by simpa using d
  subst d;obtain⟨es,M,F⟩:=cO.update s (FH u) E N n;exact⟨_,D,_,M,Kl hr I H C B s F rfl rfl λ_ _=>.aH _ _ (.undef _)⟩
 .cases a
def qdp{t:TypeId}{x key:T}{d f:Value}{k:Qd R}{r:R}(a:yV P t x key h k=some r)(hr:HR g h w)(hx:g.VR h w x d)(D:g.VR h w key f) :
 ∃y h',k y h' true=some r/\∃v w',(Instr.mapEntry t d f).run P w = .ok v w'/\gV g h w y h' v w':=by
 unfold yV yh at a;obtain⟨i,b,m,I,e,cb,a,C,B,u,s,j,rfl,J,A,he,o,z,_⟩:=yW a hr hx;obtain⟨H,a⟩:=yL a D;obtain⟨es,E,F⟩:=cO.entry j (FH o) A (z w) H;refine⟨_,_,a,_,_,E,Kl hr C B u s j F rfl rfl λ_ _=>VR.pair (.aH _ _ (.int _ _)) (.aH _ _ (.int _ _))⟩
def j4{t:TypeId}{x st z:T}{f vs d:Value}{k:Qd R}{r:R}(a:zP P t x st z h k=some r)(hr:HR g h w)(hx:g.VR h w x f)(J:g.VR h w st vs)(S:g.VR h w z d) :
 ∃h',k .undef h' true=some r/\∃w',(Instr.entryStore t f vs d).run P w = .ok () w'/\gV g h w .undef h' undef w':=by
 unfold zP at a;split at a
 .rename_i ks n U u;obtain rfl:=S.int;obtain rfl:=J.int;obtain⟨i,b,m,V,e,cb,a,O,M,H,E,j,rfl,Y,X,he,A,W,_⟩:=yW a hr hx;split at a
  .rename_i l s N;obtain⟨o,I⟩:=qm a;simp only[wg,wC] at o;obtain⟨⟨D,C⟩,B⟩:=o;subst D C B;obtain⟨es,Q,F⟩:=cO.store (t:=t) j (FH A) N u;exact⟨_,I,_,Q,Kl hr O M H E j F rfl rfl λ_ _=>.aH _ _ (.undef _)⟩
  .cases a
 .cases a
def qcv{t d ty:TypeId}{x key:T}{s u:Value}{k:Qd R}{r:R}(a:kE P t d x key h k=some r)(hr:HR g h w)(hx:g.VR h w x s)(O:g.VR h w key u) :
 ∃y h',k y h' true=some r/\∃v w',(Builtin.delete_ #[t,d] ty #[s,u]).run P w = .ok v w'/\gV g h w y h' v w':=by
 unfold kE at a;split at a
 .rename_i S p f;obtain⟨j,A⟩:=qm a;obtain rfl:S=d:=by simpa using j
  unfold yh at A;obtain⟨i,b,m,H,e,cb,V,N,J,E,D,z,rfl,B,I,he,C,W,_⟩:=yW A hr hx;rw[f] at B;obtain⟨rfl,rfl⟩:=vU (wa B);obtain⟨U,o⟩:=yL V O;obtain⟨es,Q,F⟩:=cO.drop z (FH C) I U ty;exact⟨_,_,o,_,_,Q,Kl hr N J E D z F rfl rfl λ_ _=>VR.iJ (l:=[]) (cs:=#[]) rfl λi c M=>by simp at M⟩
 .cases a
end
def ZB(Gl:V9)(w:World)(U:Nat->Prop):Prop:=∀a cells,Gl a=some cells->VI w U (.vp cells) (.pointer (some ⟨a,0,none⟩))
def ID(w:World)(U:Nat->Prop)(args:JO)(aA:Array Value):Prop:=args.length=aA.size/\∀(i:Nat) (x:T),args[i]?=some x->∃v,aA[i]?=some v/\VI w U x v
def bQ(g:Gh)(h:qa)(w:World)(args:JO)(aA:Array Value):Prop:=args.length=aA.size/\∀(i:Nat) (x:T),args[i]?=some x->∃v,aA[i]?=some v/\g.VR h w x v
def Km(g:Gh):Prop:=∀b t,g.own b≠some (.inr t)
structure aT(P:Program)(Gl:V9)(K:bA):Prop where
 enters:∀f,(∃args r,K.val f args T some=some r)∨(∃args h r,K.ref f args h (T×qa) (λv h=>some (v,h))=some r)->∃fn,P.funcs[f]?=some fn/\fn.body.isNone=false/\(fn.name=="runtime.NumGoroutine")=false
 val:∀f args r,K.val f args T some=some r->∀(w:World) (U:Nat->Prop) (aA:Array Value),(∀b,U b->b<w.heap.size)->ZB Gl w U->ID w U args aA →
  Calls P f aA w λe w'=>∃v,e = .returned v/\RV w U r v w'
 ref:∀f args h r h',K.ref f args h (T×qa) (λv h=>some (v,h))=some (r,h')->∀(g:Gh) (w:World) (aA:Array Value),HR g h w->Km g->ZB Gl w g.U->bQ g h w args aA →
  Calls P f aA w λe w'=>∃v,e = .returned v/\gV g h w r h' v w'
 ro:∀f,K.ro f=true->∀args h r h',K.ref f args h (T×qa) (λv h=>some (v,h))=some (r,h')->h'=h
section
variable {P:Program} {Gl:V9} {K:bA} {R:Type} {g:Gh} {h:qa} {w:World}
def bQ.append{a k:JO}{aA o:Array Value}(d:bQ g h w a aA)(j:bQ g h w k o):bQ g h w (a++k) (aA++o):=by
 refine⟨by simp[d.1,j.1],λi x e=>?_⟩;rw[List.getElem?_append] at e;split at e
 .rename_i r;obtain⟨v,f,hr⟩:=d.2 i x e;exact⟨v,by rw[xS (by rw[←d.1];exact r)];exact f,hr⟩
 .rename_i s;obtain⟨v,f,hr⟩:=j.2 _ x e;exact⟨v,by rw[Array.getElem?_append_right (by rw[←d.1];omega),←d.1];exact f,hr⟩
def Nv{x:T}{h':qa}{v:Value}{w':World}(hr:HR g h w)(W:gV { g with own:=λb=>match g.own b with|some (.inl i)=>some (.inl i)|_=>none } h w x h' v w'):gV g h w x h' v w':=by
 obtain⟨B,r,hx,S,f⟩:=W
 let g2:Gh:={ B with own:=λb=>if b<w.heap.size then g.own b else B.own b }
 have I:∀b i,b<w.heap.size->B.own b=some (.inl i)->g.own b=some (.inl i):=by
  intro b i k a;rw[f.own b k] at a;dsimp only at a;split at a
  .rename_i j D;rw[D];exact a
  .cases a
 refine⟨g2,⟨λi b C V=>?_,λb k=>?_,λb o a=>?_,?_,λb o a=>?_,λb j a=>?_,λi b m C Q=>?_⟩,hx,S,⟨f.size,λb k=>by simp[g2,k],f.os,f.tape,f.output,λb k O=>f.same b k (λi z=>?_),f.bs,f.u,λb k t=>?_⟩⟩
 .rcases r.dh i b C V with⟨cb,J,A,e,s⟩|q
  rotate_left
  .exact .inr q
  refine .inl ⟨cb,J,A,e,s.φ,?_,s.heap,s.room,s.len,s.cell,s.flat⟩;by_cases d:cb<w.heap.size
  .simp only[g2,d,vH];exact I cb i d s.own
  .simp only[g2,d,ve];exact s.own
 .obtain⟨h1,U⟩:=r.u b k;refine⟨h1,?_⟩;by_cases d:b<w.heap.size
  .simp only[g2,d,vH];rcases f.u b k with H|H
   .exact(hr.u b H).2
   .omega
  .simp only[g2,d,ve];exact U
 .by_cases d:b<w.heap.size
  .simp only[g2,d,vH] at a;exact⟨by show B.base<=b;rw[f.base];exact(hr.own b o a).1,by have:=f.size;omega⟩
  .simp only[g2,d,ve] at a;exact r.own b o a
 .exact r.base
 .by_cases d:b<w.heap.size
  .simp only[g2,d,vH] at a;cases o with
   |inl i=>exact r.cells b (.inl i) (by rw[f.own b d];simp[a])
   |inr t =>
    obtain⟨A,e,q⟩:=hr.box a;refine .inl ⟨A,e,(f.same b d λi z=>?_).trans q⟩;dsimp only at z;rw[a] at z;cases z
  .simp only[g2,d,ve] at a;exact r.cells b o a
 .by_cases d:b<w.heap.size
  .simp only[g2,d,vH] at a;exact r.lt b j (by rw[f.own b d];simp[a])
  .simp only[g2,d,ve] at a;exact r.lt b j a
 .obtain⟨cb,N,E,M⟩:=r.mp i b m C Q;refine⟨cb,N,?_,M⟩;by_cases d:cb<w.heap.size
  .simp only[g2,d,vH];exact I cb i d E
  .simp only[g2,d,ve];exact E
 .dsimp only at z;split at z
  .rename_i j D;exact O j D
  .cases z
 .simp only[g2,Nat.not_lt.2 k,ve];exact f.new b k t
def HR.gX(hr:HR g h w):HR { g with own:=λb=>match g.own b with|some (.inl i)=>some (.inl i)|_=>none } h w:=by
 refine⟨λi b k C=>?_,λb A=>?_,λb o a=>?_,hr.base,λb o a=>?_,λb i a=>?_,λi b m k x=>hr.eX k x rfl (λc z=>by simp[z]) λ_ _ _=>rfl⟩
 .rcases hr.dh i b k C with⟨cb,s,r,e,d⟩|q
  rotate_left
  .exact .inr q
  exact .inl ⟨cb,s,r,e,d.φ,by simp[d.own],d.heap,d.room,d.len,d.cell,d.flat⟩
 .obtain⟨h1,B⟩:=hr.u b A;exact⟨h1,by simp[B]⟩
 .dsimp only at a;split at a
  .rename_i j f;exact hr.own b _ f
  .cases a
 .dsimp only at a;split at a
  .rename_i j f;cases a;exact hr.cells b _ f
  .cases a
 .dsimp only at a;split at a
  .rename_i j f;obtain rfl:j=i:=by simpa using a
   exact hr.lt b j f
  .cases a
def Ye{o:Oper}{a:Act}{f:FuncId}{aA:Array Value}{Φ:Value->World->Prop}(u:(execOp a.eval o).run P w = .ok (.enter f aA) w)
 (r:Calls P f aA w λe w'=>∃v,e = .returned v/\Φ v w'):Yields P o a w Φ:=by
 intro ro n next Q j
 refine⟨λ_ _=>trivial,?_⟩;rw[Yk u au,Oper.uponIn_enter];refine⟨(λk=>by simp[QC] at k),?_⟩;have s:CallsIn (QC ro) (n-1) P f aA w λe w'=>∃v,e = .returned v/\Φ v w':=callsIn_wide.2 r;refine s.mono λe w' i=>?_;obtain⟨v,rfl,d⟩:=i;exact j v w' d
def qet(s:aT P Gl K){o:Oper}{a:Act}{of:Operand}{z:Array Operand}{ts:Array TypeId}(ho:o.op = .call { callee:=.value of,args:=z,argTypes:=ts })
 {f:T} {args:JO} {k:Qd R} {r:R} (d:Kb K f args h k=some r) (hr:HR g h w) (S:ZB Gl w g.U) (hf:g.VR h w f (a.eval of)) (ha:bQ g h w args (z.map a.eval)) :
 ∃y h' wr,k y h' wr=some r/\(wr=false->h'=h)/\Yields P o a w (gV g h w y h'):=by
 cases f with
 |fn f N =>
  obtain⟨I,ig,nl,r9⟩:=hf.gG;have J:bQ g h w (args++N) (z.map a.eval++I):=ha.append ⟨nl,r9⟩
  have Z:(∃fn,P.funcs[f]?=some fn/\fn.body.isNone=false/\(fn.name=="runtime.NumGoroutine")=false)->(execOp a.eval o).run P w = .ok (.enter f (z.map a.eval++I)) w:=by
   rintro⟨fn,h1,h2,h3⟩;unfold execOp;rw[ho]
   have D7:¬fn.name = "runtime.NumGoroutine":=by simpa using h3
   have oE:¬fn.body=none:=by intro B;rw[B] at h2;cases h2
   simp[Go.resolve,ig,Deferred.ofValue,invoke,callFunc,h1,oE,D7]
  simp only[Kb] at d;rcases qx d with⟨M,d⟩|⟨M,d⟩
  .rcases qx d with⟨rA,d⟩|⟨_,d⟩
   .obtain⟨⟨v,h'⟩,d,H⟩:=qH (K.dw f (args++N) h) (k:=λp=>k p.1 h false) d;have j:=H (T×qa) some;obtain rfl:=s.ro f rA _ _ v h' j;refine⟨_,_,_,d,λ_=>rfl,?_⟩;have C:=s.ref f _ _ v _ j _ w (z.map a.eval++I) hr.gX (λb t=>by dsimp only;split<;>simp) S J;exact Ye (Z (s.enters f (.inr ⟨_,_,_,j⟩))) (C.mono λe w' ⟨A,E,D⟩=>⟨A,E,Nv hr D⟩)
   .obtain⟨⟨v,h'⟩,d,H⟩:=qH (K.dw f (args++N) h) (k:=λp=>k p.1 p.2 true) d;have j:=H (T×qa) some;refine⟨_,_,_,d,(λB=>by cases B),?_⟩;have C:=s.ref f _ h v h' j _ w (z.map a.eval++I) hr.gX (λb t=>by dsimp only;split<;>simp) S J;exact Ye (Z (s.enters f (.inr ⟨_,_,_,j⟩))) (C.mono λe w' ⟨A,E,D⟩=>⟨A,E,Nv hr D⟩)
  .obtain⟨V,d,H⟩:=qH (K.dv f ((args++N).map (zo h))) d
   .have j:=H T some;refine⟨_,_,_,d,λB=>?_,?_⟩
    .have:Ka V=true:=by simpa using B
     exact qes this
    .have FI:=Z (s.enters f (.inl ⟨_,_,j⟩));cases hs:(args++N).all aH with
     |true =>
      have H:=wA.1 hs;have C:=s.val f _ V j w g.U (z.map a.eval++I) (λb M=>(hr.u b M).1) S ⟨by simpa using J.1,λi x Y=>by
       obtain⟨O,Q,rfl⟩:=QE Y;obtain⟨v,X,W⟩:=J.2 i O Q;have Dg:=H O (wo Q);refine⟨v,X,?_⟩;simp only[zo,Dg,wm];exact ZM Dg W⟩
      exact Ye FI (C.mono λe w' ⟨A,E,D⟩=>⟨A,E,SZ hr D (λ_=>rfl)⟩)
     |false =>
      have C:=s.val f _ V j w (λb=>b<w.heap.size) (z.map a.eval++I) (λb M=>M) (λgl cells hg=>(S gl cells hg).ar (Iv (Ni hr).u)) ⟨by simpa using J.1,λi x Y=>by
       obtain⟨O,Q,rfl⟩:=QE Y;obtain⟨v,X,W⟩:=J.2 i O Q;exact⟨v,X,qer hr W⟩⟩
      exact Ye FI (C.mono λe w' ⟨A,E,D⟩=>⟨A,E,SZ hr D (λB=>by cases B)⟩)
 |_=>simp[Kb] at d
def zb{o:Oper}{a:Act}{s:Sem Value}{v:Value}{w':World}{y:T}{h':qa}(he:execOp a.eval o=(do pure (.value (←s))))(e:s.run P w = .ok v w')(d:gV g h w y h' v w'):Yields P o a w (gV g h w y h') :=
 Zm (by rw[he];simp[e]) d
def qlL{ops:List Operand}{e:Operand->T}{f:Operand->Value}(he:∀x,g.VR h w (e x) (f x)):∀(i:Nat) (x:T),(ops.map e)[i]?=some x->∃v,(ops.map f)[i]?=some v/\g.VR h w x v:=by
 intro i x a;rw[wE] at a;cases d:ops[i]? with
 |none=>simp[d] at a
 |some o =>
  rw[d] at a;obtain rfl:=wa a;exact⟨f o,by simp[d],he o⟩
def Nw{ops:Array Operand}{e:Operand->T}{a:Operand->Value}(he:∀x,g.VR h w (e x) (a x)):bQ g h w (ops.toList.map e) (ops.map a):=by
 refine⟨au,λi x f=>?_⟩;obtain⟨v,d,hr⟩:=qlL (ops:=ops.toList) he i x f;exact⟨v,by rw[←d];simp,hr⟩
def Nx{ps:Array (Nat×Operand)}{e:Operand->T}{f:Operand->Value}(he:∀x,g.VR h w (e x) (f x)) :
 ∀(n:Nat) (p:Nat×T),(ps.toList.map λp=>(p.1,e p.2))[n]?=some p->∃q:Nat×Value,(ps.map λp=>(p.1,f p.2)).toList[n]?=some q/\q.1=p.1/\g.VR h w p.2 q.2:=by
 intro n p a;rw[wE] at a;cases d:ps.toList[n]? with
 |none=>simp[d] at a
 |some o =>
  rw[d] at a;obtain rfl:=wa a;refine⟨(o.1,f o.2),?_,rfl,he o.2⟩;rw[uf,wE,d];rfl
def Ny{x:Option Operand}{e:Operand->T}{a:Operand->Value}(he:∀x,g.VR h w (e x) (a x)):Ay g h w (x.map e) (x.map a):=by
 cases x with
 |none=>exact .inl ⟨rfl,rfl⟩
 |some x=>exact .inr ⟨_,_,rfl,rfl,he x⟩
def qbq{o:Oper}{a:Act}{b:Builtin}{f:Array Operand}{ts:Array TypeId}(ho:o.op = .call { callee:=.builtin b,args:=f,argTypes:=ts })
 {args:JO} {k:Qd R} {r:R} (H:Za P b ts.toList args h k=some r) (hr:HR g h w) (U:bQ g h w args (f.map a.eval)) :
 ∃y h' wr,k y h' wr=some r/\(wr=false->h'=h)/\Yields P o a w (gV g h w y h'):=by
 have one:∀{x:T},args=[x]->∃u,f.map a.eval = #[u]/\g.VR h w x u:=by
  rintro x rfl;obtain⟨v,S,E⟩:=U.2 0 x rfl;refine⟨v,?_,E⟩;have h1:(f.map a.eval).size=1:=U.1.symm;apply Array.ext (by simp[h1]);intro i X _;have:i=0:=by omega
  subst this;rw[wL X] at S;simpa using wa S
 have two:∀{x y:T},args=[x,y]->∃u v,f.map a.eval = #[u,v]/\g.VR h w x u/\g.VR h w y v:=by
  rintro x y rfl;obtain⟨u,j,B⟩:=U.2 0 x rfl;obtain⟨v,S,E⟩:=U.2 1 y rfl;refine⟨u,v,?_,B,E⟩;have h1:(f.map a.eval).size=2:=U.1.symm;apply Array.ext (by simp[h1]);intro i X _;have:i=0∨i=1:=by omega
  rcases this with rfl|rfl
  .rw[wL X] at j;simpa using wa j
  .rw[wL X] at S;simpa using wa S
 have AC:∀(s:Sem Value),builtin b ts o.type (f.map λ|.const _=>true|_=>false) (f.map a.eval)=(do pure (.value (←s)))->execOp a.eval o=(do pure (.value (←s))):=by
  intro s Y;unfold execOp;rw[ho];show(do let d ←Go.resolve a.eval { callee:=.builtin b,args:=f,argTypes:=ts } o.type;invoke d.target d.args)=_;exact Y
 have A:∀{s:Sem Value} {y:T} {h':qa} {v:Value} {w':World},builtin b ts o.type (f.map λ|.const _=>true|_=>false) (f.map a.eval)=(do pure (.value (←s)))->s.run P w = .ok v w'->gV g h w y h' v w'->Yields P o a w (gV g h w y h') :=
  λY C J=>zb (AC _ Y) C J
 have Q:∀{t:TypeId} {l:List TypeId},ts.toList=t::l->ts[0]?=some t:=by
  intro t l he;rw[←vt,he];rfl
 unfold Za at H;split at H
 .rename_i t l x I;obtain⟨u,j,B⟩:=one rfl;obtain⟨z,D,c,C,N⟩:=SG (ty:=o.type) H B (Q I);exact⟨z,h,false,D,λ_=>rfl,A (s:=Builtin.len_ ts o.type (f.map a.eval)) rfl (by rw[j];exact C) (.pure hr N)⟩
 .rename_i t l x I;obtain⟨u,j,B⟩:=one rfl;obtain⟨z,D,c,C,N⟩:=SH (ty:=o.type) H B (Q I);exact⟨z,h,false,D,λ_=>rfl,A (s:=Builtin.cap_ ts o.type (f.map a.eval)) rfl (by rw[j];exact C) (.pure hr N)⟩
 ·rename_i t O l s x I;obtain⟨u,v,j,B,E⟩:=two rfl;obtain⟨hx,H⟩:=qm H;obtain⟨z,h',wr,D,W,c,w',C,J⟩:=qcs (tx:=O) (ty:=o.type) H hx hr B E;refine⟨z,h',wr,D,W,A (s:=Builtin.append_ ts o.type (f.map a.eval)) rfl ?_ J⟩;rw[j];have e:Builtin.append_ ts o.type #[u,v]=Builtin.append_ #[t,O] o.type #[u,v]:=by
   unfold Builtin.append_;have V:ts[0]?=(#[t,O]:Array TypeId)[0]?:=Q I;have e1:ts[1]?=(#[t,O]:Array TypeId)[1]?:=by rw[←vt,I];rfl
   rw[V,e1]
  rw[e];exact C
 ·rename_i t l d x I;obtain⟨u,v,j,B,E⟩:=two rfl;obtain⟨z,h',wr,D,W,c,w',C,J⟩:=qeq (tx:=t) (ty:=o.type) H hr B E;refine⟨z,h',wr,D,W,A (s:=Builtin.copy_ ts o.type (f.map a.eval)) rfl ?_ J⟩;rw[j];have e:Builtin.copy_ ts o.type #[u,v]=Builtin.copy_ #[t,t] o.type #[u,v]:=by
   unfold Builtin.copy_;have V:ts[0]?=(#[t,t]:Array TypeId)[0]?:=Q I;rw[V]
  rw[e];exact C
 ·rename_i t l d I;obtain⟨u,j,B⟩:=one rfl;obtain⟨z,h',wr,D,W,c,w',C,J⟩:=qdl (ty:=o.type) H hr B;refine⟨z,h',wr,D,W,A (s:=Builtin.clear_ ts o.type (f.map a.eval)) rfl ?_ J⟩;rw[j];have e:Builtin.clear_ ts o.type #[u]=Builtin.clear_ #[t] o.type #[u]:=by
   unfold Builtin.clear_;have V:ts[0]?=(#[t]:Array TypeId)[0]?:=Q I;rw[V]
  rw[e];exact C
 .rename_i x y;obtain⟨u,v,j,B,E⟩:=two rfl;obtain⟨z,D,c,C,N⟩:=yH (ty:=o.type) (ts:=ts) H B E;exact⟨z,h,false,D,λ_=>rfl,A (s:=Builtin.min_ ts o.type (f.map a.eval)) rfl (by rw[j];exact C) (.pure hr N)⟩
 .rename_i x y;obtain⟨u,v,j,B,E⟩:=two rfl;obtain⟨z,D,c,C,N⟩:=yH (ty:=o.type) (ts:=ts) H B E;exact⟨z,h,false,D,λ_=>rfl,A (s:=Builtin.max_ ts o.type (f.map a.eval)) rfl (by rw[j];exact C) (.pure hr N)⟩
 ·rename_i t Z x y I;obtain⟨u,v,j,B,E⟩:=two rfl;obtain⟨z,h',D,c,w',C,J⟩:=qcv (ty:=o.type) H hr B E;refine⟨z,h',true,D,(λhh=>by cases hh),A (s:=Builtin.delete_ ts o.type (f.map a.eval)) rfl ?_ J⟩;rw[j];have e:Builtin.delete_ ts o.type #[u,v]=Builtin.delete_ #[t,Z] o.type #[u,v]:=by
   have:ts = #[t,Z]:=by apply Array.ext';rw[I]
   rw[this]
  rw[e];exact C
 .cases H
def qiW{o:Oper}{ρ:Operand->Value}{t:TypeId}{ps:Array (Nat×Operand)}(a:o.op = .build t ps):execOp ρ o=(do pure (.value (←Instr.build t (ps.map λp=>(p.1,ρ p.2))))):=by
 unfold execOp;rw[a]
def KK{o:Oper}{ρ:Operand->Value}{t:TypeId}{len:Nat}{ps:Array (Nat×Operand)}(a:o.op = .buildSlice t len ps):execOp ρ o=(do pure (.value (←Instr.buildSlice t len (ps.map λp=>(p.1,ρ p.2))))):=by
 unfold execOp;rw[a]
set_option maxHeartbeats 1000000 in
def Tb(hK:aT P Gl K){o:Oper}{a:Act}{e:Operand->T}{k:Qd R}{r:R}(A:Qe P K o.op e h k=some r)(hr:HR g h w)(cJ:ZB Gl w g.U)(he:∀x,g.VR h w (e x) (a.eval x)) :
 ∃y h' wr,k y h' wr=some r/\(wr=false->h'=h)/\Yields P o a w (gV g h w y h'):=by
 have H:∀{s:Sem Value},execOp a.eval o=(do pure (.value (←s)))->(∃y,k y h false=some r/\∃u,s.run P w = .ok u w/\g.VR h w y u)->∃y h' wr,k y h' wr=some r/\(wr=false->h'=h)/\Yields P o a w (gV g h w y h'):=by
  rintro s I ⟨y,B,u,E,od⟩;exact⟨y,h,false,B,λ_=>rfl,zb I E (.pure hr od)⟩
 have KH:∀(x:Operand),execOp a.eval o=pure (.value (a.eval x))->k (e x) h false=some r->∃y h' wr,k y h' wr=some r/\(wr=false->h'=h)/\Yields P o a w (gV g h w y h') :=
  λx I A=>⟨e x,h,false,A,λ_=>rfl,Zm (by rw[I];rfl) (.pure hr (he x))⟩
 unfold Qe at A;split at A
 .rename_i x j;exact KH x (by unfold execOp;rw[j]) A
 .rename_i x j;exact KH x (by unfold execOp;rw[j]) A
 .rename_i c x y j;cases N:e c with
  |bool t =>
   rw[N] at A;have Q:=he c;rw[N] at Q;have Q:=Q.bool;rcases qx A with⟨rfl,A⟩|⟨rfl,A⟩
   .exact⟨e x,h,false,A,λ_=>rfl,Zm (v:=a.eval x) (by unfold execOp;rw[j];simp[Q,asBool]) (.pure hr (he x))⟩
   .exact⟨e y,h,false,A,λ_=>rfl,Zm (v:=a.eval y) (by unfold execOp;rw[j];simp[Q,asBool]) (.pure hr (he y))⟩
  |_=>simp[N] at A
 .rename_i J j;obtain⟨W,A⟩:=qm A;obtain⟨z,W,ci,n7,iV,rC,rZ⟩:=ZF (P:=P) (g:=g) (h:=h) (w:=w) W;obtain⟨y,h',B,D⟩:=qcq (e:=J) A hr n7 rC rZ;exact⟨y,h',true,B,(λC=>by cases C),zb (s:=Instr.alloc J true (.tuple #[])) (by unfold execOp;rw[j]) (by simp[Instr.alloc,W,newVar,newRow]) D⟩
 .rename_i J x j;obtain⟨N,A⟩:=qm A;obtain⟨c1,c2,c3⟩:=(he x).eJ N;obtain⟨y,h',B,D⟩:=jd (e:=J) A hr c1 c2 c3;exact⟨y,h',true,B,(λC=>by cases C),zb (s:=Instr.box J (a.eval x)) (by unfold execOp;rw[j]) (by simp[Instr.box,newVar,newRow]) D⟩
 .rename_i t ps j;exact H (qiW j) (qdf A au (Nx he))
 .rename_i t len ps j;obtain⟨y,h',B,v,w',E,D⟩:=j3 (bg:=ps.map λp=>(p.1,a.eval p.2)) A hr au (Nx he);exact⟨y,h',true,B,(λC=>by cases C),zb (KK j) E D⟩
 .rename_i t x j;exact H (s:=Instr.loadAt t (a.eval x)) (by unfold execOp;rw[j]) (kf A hr (he x))
 .rename_i t x v j;obtain⟨h',B,w',E,D⟩:=qdc A hr (he x) (he v);refine⟨_,h',true,B,(λC=>by cases C),jb ?_ D⟩;unfold execOp;rw[j];simp[E]
 .rename_i x j;obtain⟨B,V⟩:=SI A (he x);refine⟨_,h,false,B,λ_=>rfl,Zm (v:=a.eval x) ?_ (.pure hr (he x))⟩;unfold execOp;rw[j];rcases V with⟨ad,V⟩|⟨f,cs,V⟩<;>simp[V]
 .rename_i S t x y J j;exact H (s:=do eqGuard S t x y (a.eval x) (a.eval y);binOp S t (a.eval x) (a.eval y)) (by unfold execOp;rw[j]) (SA A (he x) (he y))
 .rename_i S t x j;exact H (s:=Op.unary S (a.eval x)) (by unfold execOp;rw[j]) (qhl A (he x))
 .rename_i M Y x j;cases I:P.underlying M with
  |none=>simp[I] at A
  |some d =>
   simp only[I,Option.isSome_some,wm] at A;exact H (s:=convert M Y (a.eval x)) (by unfold execOp;rw[j]) (kL A hr (he x) ⟨d,I⟩)
 .rename_i f first cap j
  obtain⟨X,A⟩:=qm A;have X:first = #[]:=by simpa using X
  subst X;obtain⟨q1,q2⟩:=Nw (ops:=cap) he;exact⟨_,h,false,A,λ_=>rfl,zb (s:=Instr.makeFunc (.func f) ((#[]:Array Operand).map a.eval) (cap.map a.eval)) (by unfold execOp;rw[j]) (by simp[Instr.makeFunc]) (.pure hr (VR.oF q1 q2))⟩
 .rename_i t l c j;obtain⟨y,h',B,v,w',E,D⟩:=qeo A hr (he l) (he c);exact⟨y,h',true,B,(λC=>by cases C),zb (s:=Instr.makeSlice t (a.eval l) (a.eval c)) (by unfold execOp;rw[j]) E D⟩
 .rename_i t x lo hi mx j;exact H (s:=Instr.sliceAt t (a.eval x) (lo.map a.eval) (hi.map a.eval) (mx.map a.eval)) (by unfold execOp;rw[j]) (jf A (he x) (Ny he) (Ny he) (Ny he))
 .rename_i t x f j;exact H (s:=Instr.fieldAt t (a.eval x) f) (by unfold execOp;rw[j]) (YE A (he x))
 .rename_i t x f j;exact H (s:=Instr.field t (a.eval x) f) (by unfold execOp;rw[j]) (qdg A (he x))
 .rename_i t x i j;exact H (s:=Instr.indexAt t (a.eval x) (a.eval i)) (by unfold execOp;rw[j]) (YH A (he x) (he i))
 .rename_i t x i j;exact H (s:=Instr.index t (a.eval x) (a.eval i)) (by unfold execOp;rw[j]) (qdh A (he x) (he i))
 .rename_i x i j;exact H (s:=Instr.extract (a.eval x) i) (by unfold execOp;rw[j]) (qbg A (he x))
 .rename_i t j;obtain⟨y,h',B,v,w',E,D⟩:=qbn A hr;exact⟨y,h',true,B,(λC=>by cases C),zb (s:=Instr.makeMap t none) (by unfold execOp;rw[j];rfl) E D⟩
 .rename_i t x i c j;exact H (s:=Instr.lookup t (a.eval x) (a.eval i) c) (by unfold execOp;rw[j]) (qct A hr (he x) (he i))
 .rename_i t x i v j;obtain⟨h',B,w',E,D⟩:=qcu A hr (he x) (he i) (he v);refine⟨_,h',true,B,(λC=>by cases C),jb ?_ D⟩;unfold execOp;rw[j];simp[E]
 .rename_i t x i j;obtain⟨y,h',B,v,w',E,D⟩:=qdp A hr (he x) (he i);exact⟨y,h',true,B,(λC=>by cases C),zb (s:=Instr.mapEntry t (a.eval x) (a.eval i)) (by unfold execOp;rw[j]) E D⟩
 .rename_i t x st v j;obtain⟨h',B,w',E,D⟩:=j4 A hr (he x) (he st) (he v);refine⟨_,h',true,B,(λC=>by cases C),jb ?_ D⟩;unfold execOp;rw[j];simp[E]
 .rename_i f O Z j;exact qet hK j A hr cJ (he f) (Nw he)
 .rename_i b O Z j;exact qbq j A hr (Nw he)
 .cases A
def qpr{U:Nat->Prop}{φ:Nat->Option (Nat×Nat)}{x:T}{v:Value}(hx:VR w U φ [] x v):VI w U x v:=by
 generalize A:([]:qa)=H at hx
 induction hx with
 |aH x v e=>exact e
 |own i aj D len cap b v u C h1 B=>subst A;simp at u
 |ptr i aj j o b v u C h1 B=>subst A;simp at u
 |mp i aj b v u C h1 B=>subst A;simp at u
 |fn f E z d k s e a=>exact .fn f E z d k s (λi c r=>a i c r)
 |agg l z d k h1 s e a=>exact .agg l z d k h1 s (λi c r=>a i c r)
 |aK l z d k s e a=>exact .aK l z d k s (λi c r=>a i c r)
 |iface t x v e a=>exact .iface t x v a
def HR.empty(hr:HR g h w):HR { g with own:=λ_=>none } [] w:=⟨λi b d=>by simp at d,λb d=>⟨(hr.u b d).1,rfl⟩,λb o a=>(by cases a),hr.base,λb o a=>(by cases a),λb i a=>(by cases a),λi b m d=>by simp at d⟩
def qf4{o:Oper}{a:Act}{e:Operand->T}{k:Qd R}{r:R}(H:CX o.op=true)(C:(o.op.operands.toList.all λx=>aH (e x))=true)(z:Qe P K o.op e [] k=some r)(hr:HR g h w)(he:∀x,g.VR h w (e x) (a.eval x)) :
 ∃y wr,k y [] wr=some r/\∃v,(execOp a.eval o).run P w = .ok (.value v) w/\g.VR h w y v:=by
 have bP:=wA.1 C;have E:∀x,x∈o.op.operands.toList->g.VR [] w (e x) (a.eval x):=λx hx=>.aH _ _ (ZM (bP x hx) (he x));have I:∀{s:Sem Value},execOp a.eval o=(do pure (.value (←s)))->(∃y,k y [] false=some r/\∃u,s.run P w = .ok u w/\g.VR [] w y u)->∃y wr,k y [] wr=some r/\∃v,(execOp a.eval o).run P w = .ok (.value v) w/\g.VR h w y v:=by
  rintro s O ⟨y,J,u,ax,od⟩;exact⟨y,false,J,u,by rw[O];simp[ax],.aH _ _ (qpr od)⟩
 have Eh:∀{x:Option Operand},(∀y,x=some y->y∈o.op.operands.toList)->Ay g [] w (x.map e) (x.map a.eval):=by
  intro x hx;cases x with
  |none=>exact .inl ⟨rfl,rfl⟩
  |some x=>exact .inr ⟨_,_,rfl,rfl,E x (hx x rfl)⟩
 unfold Qe at z;split at z
 all_goals first|(cases z;done)|(rename_i j;rw[j] at H;simp[CX] at H;done)|skip
 .rename_i t x j;exact I (s:=Instr.loadAt t (a.eval x)) (by unfold execOp;rw[j]) (kf (g:={ g with own:=λ_=>none }) z hr.empty (E x (by rw[j];simp[Op.operands])))
 .rename_i x j;obtain⟨J,B⟩:=SI z (E x (by rw[j];simp[Op.operands]));refine⟨_,false,J,a.eval x,?_,he x⟩;unfold execOp;rw[j];rcases B with⟨ad,B⟩|⟨f,cs,B⟩<;>simp[B]
 .rename_i op t x y W j;exact I (s:=do eqGuard op t x y (a.eval x) (a.eval y);binOp op t (a.eval x) (a.eval y)) (by unfold execOp;rw[j]) (SA z (E x (by rw[j];simp[Op.operands])) (E y (by rw[j];simp[Op.operands])))
 .rename_i U dst x j;cases O:P.underlying U with
  |none=>simp[O] at z
  |some d =>
   simp only[O,Option.isSome_some,wm] at z;exact I (s:=convert U dst (a.eval x)) (by unfold execOp;rw[j]) (kL (g:={ g with own:=λ_=>none }) z hr.empty (E x (by rw[j];simp[Op.operands])) ⟨d,O⟩)
 ·rename_i t x lo C mx j;exact I (s:=Instr.sliceAt t (a.eval x) (lo.map a.eval) (C.map a.eval) (mx.map a.eval)) (by unfold execOp;rw[j]) (jf z (E x (by rw[j];simp[Op.operands]))
   (Eh (λy J=>by rw[j,J];simp[Op.operands])) (Eh (λy J=>by rw[j,J];simp[Op.operands])) (Eh (λy J=>by rw[j,J];simp[Op.operands])))
 .rename_i t x f j;exact I (s:=Instr.fieldAt t (a.eval x) f) (by unfold execOp;rw[j]) (YE z (E x (by rw[j];simp[Op.operands])))
 .rename_i t x i j;exact I (s:=Instr.indexAt t (a.eval x) (a.eval i)) (by unfold execOp;rw[j]) (YH z (E x (by rw[j];simp[Op.operands])) (E i (by rw[j];simp[Op.operands])))
 ·rename_i b A D j;have Q:bQ g [] w (A.toList.map e) (A.map a.eval):=by
   refine⟨au,λi x C=>?_⟩;rw[wE] at C;cases X:A.toList[i]? with
   |none=>simp[X] at C
   |some y =>
    rw[X] at C;obtain rfl:=wa C;refine⟨a.eval y,by rw[Array.getElem?_map,←vt,X];rfl,E y ?_⟩;rw[j];have:=wo X;simpa [Op.operands,Call.operands] using this
  have Y:∀(s:Sem Value),builtin b D o.type (A.map λ|.const _=>true|_=>false) (A.map a.eval)=(do pure (.value (←s)))->execOp a.eval o=(do pure (.value (←s))):=by
   intro s O;unfold execOp;rw[j];show(do let d ←Go.resolve a.eval { callee:=.builtin b,args:=A,argTypes:=D } o.type;invoke d.target d.args)=_;exact O
  have FK:∀{x:T},A.toList.map e=[x]->∃u,A.map a.eval = #[u]/\g.VR [] w x u:=by
   intro x hx;rw[hx] at Q;obtain⟨v,V,N⟩:=Q.2 0 x rfl;refine⟨v,?_,N⟩;have h1:(A.map a.eval).size=1:=Q.1.symm;apply Array.ext (by simp[h1]);intro i C _;have:i=0:=by omega
   subst this;rw[wL C] at V;simpa using wa V
  have eZ:∀{x y:T},A.toList.map e=[x,y]->∃u v,A.map a.eval = #[u,v]/\g.VR [] w x u/\g.VR [] w y v:=by
   intro x y hx;rw[hx] at Q;obtain⟨u,B,M⟩:=Q.2 0 x rfl;obtain⟨v,V,N⟩:=Q.2 1 y rfl;refine⟨u,v,?_,M,N⟩;have h1:(A.map a.eval).size=2:=Q.1.symm;apply Array.ext (by simp[h1]);intro i C _;have:i=0∨i=1:=by omega
   rcases this with rfl|rfl
   .rw[wL C] at B;simpa using wa B
   .rw[wL C] at V;simpa using wa V
  have tl:∀{t:TypeId} {l:List TypeId},D.toList=t::l->D[0]?=some t:=by
   intro t l he;rw[←vt,he];rfl
  unfold Za at z;split at z
  .rename_i t l x Z S;obtain⟨u,B,M⟩:=FK S;exact I (Y (Builtin.len_ D o.type (A.map a.eval)) rfl) (by rw[B];exact SG (ty:=o.type) z M (tl Z))
  .rename_i t l x Z S;obtain⟨u,B,M⟩:=FK S;exact I (Y (Builtin.cap_ D o.type (A.map a.eval)) rfl) (by rw[B];exact SH (ty:=o.type) z M (tl Z))
  .rw[j] at H;simp[CX] at H
  .rw[j] at H;simp[CX] at H
  .rw[j] at H;simp[CX] at H
  .rename_i x y S;obtain⟨u,v,B,M,N⟩:=eZ S;exact I (Y (Builtin.min_ D o.type (A.map a.eval)) rfl) (by rw[B];exact yH (ty:=o.type) (ts:=D) z M N)
  .rename_i x y S;obtain⟨u,v,B,M,N⟩:=eZ S;exact I (Y (Builtin.max_ D o.type (A.map a.eval)) rfl) (by rw[B];exact yH (ty:=o.type) (ts:=D) z M N)
  .rw[j] at H;simp[CX] at H
  .cases z
def qhs{a:Op}(d:MK a=true)(e:Operand->T)(h h':qa)(k:Bool->T->Option R):Qe P K a e h (λy _ wr=>k wr y)=Qe P K a e h' (λy _ wr=>k wr y):=by
 cases a<;>first|rfl|(simp[MK] at d;done)|skip
 case makeFunc fn first cap=>cases fn<;>rfl
end
def B3(P:Program)(Gl:V9)(aa:Wa)(nt:Nat)(o:Oper)(a:Act)(w:World)(g:Gh)(h:qa)(s':St):Prop :=
 ∀(ro:Option Nat) (n:Nat) (next:Act->World->Prop) (Q:Exit->Act->World->Prop),(∀d w' e,SR Gl aa nt e s' d w'->cS g h w e s'.h w'->d.defers=a.defers->next d w')->o.wpIn (QC ro) n P a w next Q
section
variable {P:Program} {Gl:V9} {K:bA} {R:Type} {aa:Wa} {nt:Nat} {g:Gh} {s:St} {a:Act} {w:World}
def JB{h0:qa}{o:Oper}{v:Value}{w':World}{s':St}{g':Gh}(h:(execOp a.eval o).run P w = .ok (.value v) w')(d:SR Gl aa nt g' s' (a.put o.dst v) w')(f:cS g h0 w g' s'.h w'):B3 P Gl aa nt o a w g h0 s':=by
 intro ro n next Q e
 refine⟨λ_ _=>trivial,?_⟩;rw[Yk h au];exact e _ _ g' d f (za _ _ _)
def qkV{h0:qa}{o:Oper}{w':World}{s':St}{g':Gh}(h:(execOp a.eval o).run P w = .ok .skip w')(d:SR Gl aa nt g' s' (a.put o.dst undef) w')(f:cS g h0 w g' s'.h w'):B3 P Gl aa nt o a w g h0 s':=by
 intro ro n next Q e
 refine⟨λ_ _=>trivial,?_⟩;rw[Yk h au];exact e _ _ g' d f (za _ _ _)
def kM{A:Type}{v:T}{k:T->Option A}{r:A}(h:D4 v k=some r):k v=some r:=by
 cases v with
 |bool b=>cases b<;>exact h
 |_=>exact h
def kN{o:Oper}{v:T}{h':qa}{hp:Option qa}{rs:Wa}{rd wr:Bool}{k:du->FP->Option R}{r:R}(e:done nt o s v hp rs rd wr k=some r)(E:SR Gl aa nt g s a w)(he:hp.getD s.h=h')(D:Yields P o a w (gV g s.h w v h')) :
 ∃f H,k f H=some r/\B3 P Gl aa nt o a w g s.h (f.dN s):=by
 unfold done at e;cases u:o.dst with
 |none =>
  rw[u] at e;refine⟨_,_,e,λro n next Q x=>D ro n next Q λI w' B=>?_⟩;obtain⟨z,A,hx,j,i⟩:=B;rw[u];subst he;exact x _ _ z (E.s6 A j i rfl) (i.Ns j) rfl
 |some d =>
  rw[u] at e;obtain⟨C,e⟩:=qm e;simp only[wg,vn] at C;refine⟨_,_,kM e,λro n next Q x=>D ro n next Q λI w' B=>?_⟩;obtain⟨z,A,hx,j,i⟩:=B;rw[u];subst he;exact x _ _ z (E.done (Qb C.1) A hx j i rfl C.2) (i.Ns j) (za _ _ _)
def QK(u:aT P Gl K){o:Oper}{k:du->FP->Option R}{r:R}(d:Qf P K Gl aa nt o s k=some r)(e:SR Gl aa nt g s a w) :
 ∃f x,k f x=some r/\B3 P Gl aa nt o a w g s.h (f.dN s):=by
 unfold Qf at d;rcases qx d with⟨B,d⟩|⟨_,d⟩
 .rcases vY _ _▸B with A|hm
  .rw[qhs (P:=P) (K:=K) A (Ab.ev Gl aa s) [] s.h (λwr v=>bif wr then none else done nt o s v none (Qw o.op) false false k)] at d;obtain⟨y,h',wr,d,j,i⟩:=Tb u d e.hr e.dU e.ev;rcases qx d with⟨_,d⟩|⟨hw,d⟩
   .cases d
   obtain rfl:=j hw;exact kN d e rfl i
  .simp only[wg] at hm;obtain⟨y,wr,d,v,D,z⟩:=qf4 hm.1 hm.2 d e.hr e.ev;rcases qx d with⟨_,d⟩|⟨_,d⟩
   .cases d
   exact kN d e rfl (Zm D (.pure e.hr z))
 ·obtain⟨y,h',wr,d,j,i⟩:=Tb u d e.hr e.dU e.ev;obtain⟨f,x,h1,C⟩:=kN d e (by
   cases wr with
   |true=>rfl
   |false=>exact(j rfl).symm) i
  exact⟨f,_,h1,C⟩
def Kn{x:Operand}{t off:Nat}(f:base aa s x=some (t,off))(k:SR Gl aa nt g s a w){cells:JO}(r:s.at t = .ah cells) :
 t∈aa/\∃cb arr e,mR g s.h w t (a.tmps.getD t undef) cells cb arr e/\a.eval x = .pointer (some ⟨cb,off,none⟩):=by
 cases x with
 |tmp d =>
  simp only[base] at f;cases o:aa.contains d with
  |true =>
   rw[o] at f;simp only[wm,wi,wy] at f;obtain⟨rfl,rfl⟩:=f;have i:d∈aa:=by simpa using o
   obtain⟨cb,arr,e,j⟩:=k.eA d i cells r;exact⟨i,cb,arr,e,j,j.ptr⟩
  |false =>
   rw[o] at f;simp only[wp] at f;obtain⟨i,_,cb,h1,u⟩:=k.loc d t off f;obtain⟨z,arr,e,j⟩:=k.eA t i cells r;have:=j.ptr;rw[h1] at this;simp only[Value.pointer.injEq,wi,Addr.mk.injEq,and_true] at this;subst this;exact⟨i,cb,arr,e,j,u⟩
 |_=>cases f
def qiX{x:Operand}{t off:Nat}(k:base aa s x=some (t,off))(f:SR Gl aa nt g s a w){cells:JO}(j:s.at t = .ah cells) :
 t∈aa/\∃cb,a.tmps.getD t undef = .pointer (some ⟨cb,0,none⟩)/\a.eval x = .pointer (some ⟨cb,off,none⟩):=by
 obtain⟨i,cb,r,e,o,d⟩:=Kn k f j;exact⟨i,cb,o.ptr,d⟩
def mR.gz{h:qa}{t:Nat}{v:Value}{cells:JO}{cb:Nat}{arr:Array Value}{e:TypeId}(d:mR g h w t v cells cb arr e):dR g h w cb 0 cells:=by
 intro o c f;obtain⟨u,h1,j,i⟩:=d.cell o c f;exact⟨u,⟨by simp[World.cell?,d.heap,h1],j⟩,i⟩
def Ko{o:Oper}{x:Operand}{t off z:Nat}{rs:Wa}{k:du->FP->Option R}{r:R}{cells:JO}(B:s.at t = .ah cells)(e:zZ aa nt o t z rs k=some r)(C:base aa s x=some (t,off))(u:SR Gl aa nt g s a w)
 (H:∀cb,a.eval x = .pointer (some ⟨cb,off,none⟩)->(execOp a.eval o).run P w = .ok (.value (.pointer (some ⟨cb,z,none⟩))) w):∃f E,k f E=some r/\B3 P Gl aa nt o a w g s.h (f.dN s):=by
 unfold zZ at e;cases i:o.dst with
 |none=>rw[i] at e;cases e
 |some d =>
  rw[i] at e;obtain⟨j,e⟩:=qm e;simp only[wg,vn] at j;obtain⟨A,cb,h1,D⟩:=qiX C u B;refine⟨_,_,e,JB (g':=g) (H cb D) ?_ (cS.refl _ _ _)⟩;rw[i];exact u.Dd (Qb j.1) A (by simpa using j.2) h1
def Tc(Q:aT P Gl K){o:Oper}{k:du->FP->Option R}{r:R}(j:zW P K Gl aa nt o s k=some r)(C:SR Gl aa nt g s a w) :
 ∃f fp,k f fp=some r/\B3 P Gl aa nt o a w g s.h (f.dN s):=by
 unfold zW at j;split at j
 .rename_i I x E;cases H:o.dst with
  |none=>rw[H] at j;cases j
  |some d =>
   rw[H] at j;rcases qx j with⟨Y,j⟩|⟨Y,j⟩
   .obtain⟨B,j⟩:=qm j;obtain⟨V,c2,c3⟩:=(C.ev x).eJ B;unfold done at j;rw[H] at j;obtain⟨O,j⟩:=qm j;simp only[wg,vn] at O;obtain⟨S,Z,N⟩:=C.box (e:=I) (Qb O.1) (by simpa using Y) O.2 V c2 c3;refine⟨_,_,kM j,JB (g':=S) ?_ (by rw[H];exact Z) N⟩;unfold execOp;rw[E];simp[Instr.box,newVar,newRow]
   .exact QK Q j C
 .rename_i I E;cases H:o.dst with
  |none=>rw[H] at j;cases j
  |some d =>
   rw[H] at j;rcases qx j with⟨Y,j⟩|⟨Y,j⟩
   .obtain⟨hz,j⟩:=qm j;obtain⟨z,hz,U,n7,iV,rC,rZ⟩:=ZF (P:=P) (g:=g) (h:=s.h) (w:=w) hz;unfold done at j;rw[H] at j;obtain⟨O,j⟩:=qm j;simp only[wg,vn] at O;obtain⟨S,Z,N⟩:=C.box (e:=I) (Qb O.1) (by simpa using Y) O.2 n7 rC rZ;refine⟨_,_,kM j,JB (g':=S) ?_ (by rw[H];exact Z) N⟩;unfold execOp;rw[E];simp[Instr.alloc,hz,newVar,newRow]
   .exact QK Q j C
 .rename_i I x E;cases D:base aa s x with
  |none=>rw[D] at j;exact QK Q j C
  |some p =>
   obtain⟨t,A⟩:=p;rw[D] at j;dsimp only at j;cases B:s.at t with
   |ah cells =>
    rw[B] at j;obtain⟨hm,cb,arr,e,W,J⟩:=Kn D C B;obtain⟨y,j,u,X,od⟩:=Ip j (W.gz.drop A);rw[wn] at X;refine kN j C rfl (zb (s:=Instr.loadAt I (a.eval x)) (by unfold execOp;rw[E]) ?_ (.pure C.hr od));rw[J];simp[Instr.loadAt,Instr.sureAddr,X]
   |_=>rw[B] at j;cases j
 .rename_i I x v E;cases D:base aa s x with
  |none=>rw[D] at j;exact QK Q j C
  |some p =>
   obtain⟨t,A⟩:=p;rw[D] at j;dsimp only at j;cases B:s.at t with
   |ah cells =>
    rw[B] at j;cases H:o.dst with
    |some d=>rw[H] at j;cases j
    |none =>
     rw[H] at j;obtain⟨FN,j⟩:=qm j;simp only[wg,vf] at FN;obtain⟨⟨⟨U,dM⟩,ap⟩,bv⟩:=FN;have bv:=Qg bv;obtain⟨hm,cb,arr,e,W,J⟩:=Kn D C B;obtain⟨V,c2,c3⟩:=(C.ev v).eJ ap;have bc:=W.len;have gp:A+(a.eval v).cells.size<=arr.size:=by rw[←V,dM];omega
     have ru:A+(a.eval v).cells.toList.length<=arr.size:=by simpa using gp
     have X:=Su (P:=P) (w:=w) (v:=a.eval v) U (by rw[←V,dM]) W.heap gp c2;have sw:A+(Ab.ev Gl aa s v).cells.length<=cells.length:=by rw[dM];exact bv
     obtain⟨S,Z,N⟩:=C.Db hm B W (arr':=(arr.toList.take A++(a.eval v).cells.toList++arr.toList.drop (A+(a.eval v).cells.toList.length)).toArray) (cells':=y6 cells A (Ab.ev Gl aa s v).cells)
      (Zn arr _ _ ru) (by rw[kp _ _ _ sw];exact bc) (λi c M=>by
       rw[Jw _ _ _ _ sw] at M;rw[Iq arr _ _ _ ru];by_cases iU:A<=i/\i<A+(Ab.ev Gl aa s v).cells.length
       .rw[wl iU] at M;rw[wl (by simp only[xq,←V];exact iU)];obtain⟨u,hu,cU⟩:=c3 _ c M;exact⟨u,by simpa using hu,c2 _ _ hu,cU⟩
       .rw[we iU] at M;rw[we (by simp only[xq,←V];exact iU)];exact W.cell i c M)
     refine⟨_,_,j,qkV (g':=S) ?_ (by rw[H];exact Z) N⟩;unfold execOp;rw[E];simp only[J,Instr.storeAt,Instr.sureAddr,Sem.run_bind,Sem.run_pure,Result.andThen_ok,X]
   |_=>rw[B] at j;cases j
 .rename_i I x f E;cases D:base aa s x with
  |none=>rw[D] at j;exact QK Q j C
  |some p =>
   obtain⟨t,A⟩:=p;rw[D] at j;dsimp only at j;cases B:s.at t with
   |ah cells =>
    rw[B] at j;dsimp only at j;cases N:Zi P I f with
    |none=>rw[N] at j;cases j
    |some q =>
     obtain⟨fo,fty⟩:=q;rw[N] at j;obtain⟨fs,x',hu,oI,rfl,rfl,U,Ir⟩:=Jy N;refine Ko B j D C (λcb J=>?_);unfold execOp;rw[E];have X:∀ad:Addr,(fieldPlace ad x').run P w = .ok (ad.add x'.offset) w:=by
      intro ad;simp[fieldPlace,Qh U,Ir]
     simp[J,Instr.fieldAt,Instr.sureAddr,qo hu,oI,X,QO]
   |_=>rw[B] at j;cases j
 .rename_i I x i E;cases D:base aa s x with
  |none=>rw[D] at j;exact QK Q j C
  |some p =>
   obtain⟨t,A⟩:=p;rw[D] at j;dsimp only at j;cases B:s.at t with
   |ah cells =>
    rw[B] at j;dsimp only at j;cases M:Ab.ev Gl aa s i with
    |int ki i' =>
     rw[M] at j;cases ha:QR P I with
     |none=>rw[ha] at j;cases j
     |some q =>
      obtain⟨n,e⟩:=q;rw[ha] at j;obtain⟨FN,j⟩:=qm j;simp only[wg,wC] at FN;obtain⟨⟨U,h0⟩,O⟩:=FN;have IF:=C.ev i;rw[M] at IF;have IF:=IF.int;have j:=z9 ae j;refine Ko B j D C (λcb J=>?_);unfold execOp;rw[E];simp[J,IF,Instr.indexAt,Instr.sureAddr,asIntOf,qo (yx ha),h0,O,Qh U,QO]
    |_=>rw[M] at j;cases j
   |_=>rw[B] at j;cases j
 .rename_i x E;cases D:base aa s x with
  |none=>rw[D] at j;exact QK Q j C
  |some p =>
   obtain⟨t,A⟩:=p;rw[D] at j;dsimp only at j;cases B:s.at t with
   |ah cells =>
    rw[B] at j;refine Ko B j D C (λcb J=>?_);unfold execOp;rw[E];simp[J]
   |_=>rw[B] at j;cases j
 .exact QK Q j C
end
section
variable {P:Program} {Gl:V9} {K:bA} {R:Type} {aa:Wa} {nt:Nat} {g:Gh} {s:St} {a:Act} {w:World}
def Td(P:Program)(Gl:V9)(aa:Wa)(nt:Nat)(ops:Array Oper)(o:Oper)(a:Act)(w:World)(g:Gh)(h:qa)(s':St):Prop :=
 ∀(ro:Option Nat) (n:Nat) (next:Act->World->Prop) (Q:Exit->Act->World->Prop),(∀d w' e,SR Gl aa nt e s' d w'->cS g h w e s'.h w'->d.defers=a.defers->next d w') →
  if Region.wanted o (yielded ops a.tmps) then o.wpIn (QC ro) n P a w next Q else next (a.put o.dst undef) w
def qf5{o:Oper}{k:du->FP->Option R}{r:R}(d:Zk P Gl aa nt o s k=some r)(e:SR Gl aa nt g s a w) :
 ∃f u,k f u=some r/\B3 P Gl aa nt o a w g s.h (f.dN s):=by
 unfold Zk at d;split at d
 .rename_i t len ps j;obtain⟨y,i,v,w',z,x⟩:=qam (bg:=ps.map λp=>(p.1,a.eval p.2)) d e.hr au (Nx e.ev);exact kN i e rfl (zb (KK j) z x)
 .cases d
def qf6(X:aT P Gl K){ops:Array Oper}{o:Oper}{k:du->FP->Option R}{r:R}(i:zu P K Gl aa nt ops.toList o s k=some r)(u:SR Gl aa nt g s a w) :
 ∃f I,k f I=some r/\Td P Gl aa nt ops o a w g s.h (f.dN s):=by
 unfold zu at i;cases N:o.guard with
 |none =>
  rw[N] at i;obtain⟨O,I,h1,V⟩:∃f I,k f I=some r/\B3 P Gl aa nt o a w g s.h (f.dN s):=by
   rcases qx i with⟨_,i⟩|⟨_,i⟩
   .exact qf5 i u
   .exact Tc X i u
  exact⟨O,I,h1,λro n next Q C=>by rw[wl (by simp[Region.wanted,N])];exact V ro n next Q C⟩
 |some p =>
  obtain⟨j,want⟩:=p;rw[N] at i;dsimp only at i;cases z:ZR ops.toList j with
  |none=>rw[z] at i;cases i
  |some E =>
   rw[z] at i;dsimp only at i;cases ed:s.at E with
   |bool b =>
    rw[ed] at i;dsimp only at i;rcases qx i with⟨_,i⟩|⟨U,i⟩
    .cases i
    have A:=u.tmps E (by simpa using U);rw[ed] at A;have A:=A.bool;have S:yielded ops a.tmps j=some b:=by
     have B:(ops[j]?).bind (·.dst)=some E:=by
      unfold ZR at z;rw[vt] at z;cases M:ops[j]? with
      |none=>rw[M] at z;cases z
      |some Z=>rw[M] at z;exact z
     unfold yielded;rw[B];simp only[Option.bind_some];have D:E<a.tmps.size:=by
      rcases wt E a.tmps.size with H|H
      .exact H
      .rw[wG,xb H] at A;cases A
     rw[wG,wL D] at A;rw[wL D];simp only[xz] at A;rw[A]
    have hw:Region.wanted o (yielded ops a.tmps)=(b==want):=by simp[Region.wanted,N,S]
    have hb:(bif b then want else !want)=(b==want):=M4 b want;rw[hb] at i;rcases qx i with⟨W,i⟩|⟨W,i⟩
    .obtain⟨O,I,h1,V⟩:=Tc X i u;exact⟨O,_,h1,λro n next Q C=>by rw[wl (by rw[hw];exact W)];exact V ro n next Q C⟩
    .unfold done at i;have J:¬Region.wanted o (yielded ops a.tmps)=true:=by rw[hw,W];simp
     cases B:o.dst with
     |none =>
      rw[B] at i;refine⟨_,_,i,λ_ _ next Q C=>?_⟩;rw[we J];refine C _ _ g ?_ (cS.refl _ _ _) (za _ _ _);rw[B];exact u.s6 u.hr (.refl _ _ _ _) (.refl _ _ λb o e=>(u.hr.own b o e).2) rfl
     |some d =>
      rw[B] at i;obtain⟨D,i⟩:=qm i;refine⟨_,_,kM i,λ_ _ next Q C=>?_⟩;rw[we J];refine C _ _ g ?_ (cS.refl _ _ _) (za _ _ _);rw[B];simp only[wg,vn] at D;exact u.done (Qb D.1) u.hr (.aH _ _ (.gone _ (λb h=>by cases h))) (.refl _ _ _ _) (.refl _ _ λb o e=>(u.hr.own b o e).2) rfl D.2
   |gone =>
    rw[ed] at i;dsimp only at i;rcases qx i with⟨_,i⟩|⟨U,i⟩
    .cases i
    have A:=u.tmps E (by simpa using U);rw[ed] at A;have S:yielded ops a.tmps j=none:=by
     have B:(ops[j]?).bind (·.dst)=some E:=by
      unfold ZR at z;rw[vt] at z;cases M:ops[j]? with
      |none=>rw[M] at z;cases z
      |some Z=>rw[M] at z;exact z
     unfold yielded;rw[B];simp only[Option.bind_some];rcases wt E a.tmps.size with H|H
     .rw[wG,wL H] at A;rw[wL H];simp only[xz] at A;have Y:=A.gone;generalize a.tmps[E]=x at Y;cases x<;>first|rfl|exact absurd rfl (Y _)
     .rw[xb H]
    have hw:Region.wanted o (yielded ops a.tmps)=false:=by simp[Region.wanted,N,S]
    have J:¬Region.wanted o (yielded ops a.tmps)=true:=by rw[hw];simp
    unfold done at i;cases B:o.dst with
    |none =>
     rw[B] at i;refine⟨_,_,i,λ_ _ next Q C=>?_⟩;rw[we J];refine C _ _ g ?_ (cS.refl _ _ _) (za _ _ _);rw[B];exact u.s6 u.hr (.refl _ _ _ _) (.refl _ _ λb o e=>(u.hr.own b o e).2) rfl
    |some d =>
     rw[B] at i;obtain⟨D,i⟩:=qm i;refine⟨_,_,kM i,λ_ _ next Q C=>?_⟩;rw[we J];refine C _ _ g ?_ (cS.refl _ _ _) (za _ _ _);rw[B];simp only[wg,vn] at D;exact u.done (Qb D.1) u.hr (.aH _ _ (.gone _ (λb h=>by cases h))) (.refl _ _ _ _) (.refl _ _ λb o e=>(u.hr.own b o e).2) rfl D.2
   |_=>rw[ed] at i;cases i
def dV(P:Program)(K:bA)(Gl:V9)(aa:Wa)(nt:Nat)(ops:List Oper)(o:Oper)(s:St)(f:du)(d:FP):Prop :=
 ∀(R:Type) (k:du->FP->Option R),zu P K Gl aa nt ops o s k=k f d
def Te{ops:List Oper}{o:Oper}{k:du->FP->Option R}{r:R}(e:zu P K Gl aa nt ops o s k=some r):∃f d,k f d=some r/\dV P K Gl aa nt ops o s f d:=by
 obtain⟨⟨f,d⟩,h1,i⟩:=qH (K9 P K Gl aa nt ops o s) (k:=λp=>k p.1 p.2) e;exact⟨f,d,h1,λR k=>i R λp=>k p.1 p.2⟩
def dV.goes(i:aT P Gl K){ops:Array Oper}{o:Oper}{f:du}{d:FP}(h:dV P K Gl aa nt ops.toList o s f d)(e:SR Gl aa nt g s a w):Td P Gl aa nt ops o a w g s.h (f.dN s):=by
 obtain⟨r,k,h1,j⟩:=qf6 i (h (du×FP) λf d=>some (f,d)) e;simp only[wi,wy] at h1;obtain⟨rfl,rfl⟩:=h1;exact j
inductive dC(P:Program)(K:bA)(Gl:V9)(aa:Wa)(nt:Nat)(ops:List Oper):List Oper->St->St->List FP->Prop where
 |nil (s:St):dC P K Gl aa nt ops [] s s []
 |cons {o:Oper} {l:List Oper} {s s':St} {f:du} {fp:FP} {fE:List FP} (h:dV P K Gl aa nt ops o s f fp) (t:dC P K Gl aa nt ops l (f.dN s) s' fE):dC P K Gl aa nt ops (o::l) s s' (fp::fE)
def Yo{ops:List Oper}:∀(l:List Oper) {s:St} {k:St->List FP->Option R} {r:R},yt P K Gl aa nt ops l s k=some r->∃s' fE,k s' fE=some r/\dC P K Gl aa nt ops l s s' fE
 |[],s,k,r,d=>⟨s,[],d,.nil s⟩
 |o::l,s,k,r,d=>by
  simp only[yt] at d;obtain⟨f,i,d,h1⟩:=Te d;obtain⟨s',fE,d,e⟩:=Yo l d;exact⟨s',i::fE,d,.cons h1 e⟩
def dC.goes(x:aT P Gl K){ops:Array Oper}{l:List Oper}{s s':St}{fE:List FP}(h:dC P K Gl aa nt ops.toList l s s' fE):∀{g:Gh} {a:Act} {w:World},SR Gl aa nt g s a w →
 ∀(ro:Option Nat) (n:Nat) (Q:Exit->Act->World->Prop),(∀d w' g',SR Gl aa nt g' s' d w'->cS g s.h w g' s'.h w'->d.defers=a.defers->Q .normal d w')->wpListIn (QC ro) n P ops Q l a w:=by
 induction h with
 |nil s=>exact λe ro n Q f=>f _ _ _ e (cS.refl _ _ _) rfl
 |cons h1 C r =>
  intro g a w e ro n Q f;unfold wpListIn;have:=h1.goes x e ro n (wpListIn (QC ro) n P ops Q _) Q (λd w' g' z A o=>r z ro n Q λB i g2 u k j=>f B i g2 u (A.trans k) (j.trans o));split at this
  .rename_i hw;rw[wl hw];exact this
  .rename_i hw;rw[we hw];exact⟨λ_ _=>trivial,this⟩
end
section
variable {P:Program} {K:bA} {Gl:V9} {aa:Wa} {nt:Nat} {s s1 s':St} {f:du} {fp:FP}
def qeu{o:Oper}(a:Zk P Gl aa nt o s two=some (f,fp))(g:io s s1 fp):Zk P Gl aa nt o s1 two=some (f,fp):=by
 unfold Zk at a ⊢;split at a
 ·rename_i t len ps d;rw[d];obtain⟨y,j,u⟩:=qH (ZI P t len (ps.toList.map λp=>(p.1,ev Gl aa s p.2))) (k:=λv=>done nt o s v none (Qw o.op) false false two) a;obtain⟨h1,z,x,i⟩:=Zb (s1:=s1) j;have he:(ps.toList.map λp=>(p.1,ev Gl aa s1 p.2))=ps.toList.map λp=>(p.1,ev Gl aa s p.2):=va λp e=>by
   rw[kJ λt r=>g.at' t ?_];rw[h1];refine xG.2 ⟨p.2,?_,r⟩;rw[d];simp only[Op.operands]
   first
    |(simp only[uf,vb];exact⟨p,e,rfl⟩)
    |(simp;exact⟨p.1,by simpa using e⟩)
  rw[he];have:=u _ λv=>done nt o s1 v none (Qw o.op) false false two;rw[d] at this i;rw[this];exact i g.used
 .cases a
def Tf{o:Oper}(d:∀t∈Qw o.op,t∈fp.rs)(i:io s s1 fp):K3 Gl aa s1 o=K3 Gl aa s o:=by
 unfold K3;cases g:o.op with
 |buildSlice t len ps =>
  dsimp only;have he:∀p∈ps.toList,ev Gl aa s1 p.2=ev Gl aa s p.2:=λp a=>by
   refine kJ λt e=>i.at' t (d t (xG.2 ⟨p.2,?_,e⟩));rw[g];simp only[Op.operands]
   first
    |(simp only[uf,vb];exact⟨p,a,rfl⟩)
    |(simp;exact⟨p.1,by simpa using a⟩)
  rw[Bool.eq_iff_iff,wA,wA];exact⟨λh p a=>by rw[←he p a];exact h p a,λh p a=>by rw[he p a];exact h p a⟩
 |_=>rfl
def qiY{o:Oper}(a:Zk P Gl aa nt o s two=some (f,fp)):∀t∈Qw o.op,t∈fp.rs:=by
 unfold Zk at a;split at a
 .rename_i t len ps g;obtain⟨y,d,u⟩:=qH (ZI P t len (ps.toList.map λp=>(p.1,ev Gl aa s p.2))) (k:=λv=>done nt o s v none (Qw o.op) false false two) a;obtain⟨h1,r,j,i⟩:=Zb (s1:=s) d;exact λt e=>h1▸e
 .cases a
def qiZ{o:Oper}(a:zW P K Gl aa nt o s two=some (f,fp))(e:io s s1 fp):K3 Gl aa s1 o=K3 Gl aa s o:=by
 cases d:o.op with
 |buildSlice t len ps =>
  unfold zW at a;rw[d] at a;dsimp only at a;exact Tf (Qr (s1:=s1) a).1 e
 |_=>simp only[K3,d]
def qev{ops:List Oper}{o:Oper}(a:zu P K Gl aa nt ops o s two=some (f,fp))(d:io s s1 fp):zu P K Gl aa nt ops o s1 two=some (f,fp):=by
 unfold zu at a ⊢;cases A:o.guard with
 |none =>
  rw[A] at a;dsimp only at a ⊢;cases r:(RX K.cN ops o&&K3 Gl aa s o) with
  |true =>
   rw[r] at a;rw[Tf (qiY a) d,r];exact qeu a d
  |false =>
   rw[r] at a;rw[qiZ a d,r];exact Sm a d
 |some p =>
  obtain⟨j,want⟩:=p;rw[A] at a;dsimp only at a ⊢;cases z:ZR ops j with
  |none=>rw[z] at a;cases a
  |some g =>
   rw[z] at a;dsimp only at a ⊢;cases ed:s.at g with
   |bool b =>
    rw[ed] at a;dsimp only at a;cases i:aa.contains g with
    |true=>rw[i] at a;cases a
    |false =>
     rw[i] at a;simp only[wp] at a;cases hw:(bif b then want else !want) with
     |true =>
      rw[hw] at a;simp only[wm] at a;obtain⟨⟨M,H⟩,h1,D⟩:=qH (yw P K Gl aa nt o s) (k:=λp=>two p.1 { p.2 with rs:=g::p.2.rs }) a;simp only[wi,wy] at h1;obtain⟨rfl,rfl⟩:=h1;have I:io s s1 H:=⟨λe he=>d.at' e (wT _ he),λe he=>d.loc e (wT _ he),d.used,d.heap,d.uS⟩;have C:=Sm (D _ λp=>two p.1 p.2) I;rw[d.at' g vK,ed];simp only[wp,wm,hw];obtain⟨q,x,B⟩:=qH (yw P K Gl aa nt o s1) (k:=λp=>two p.1 p.2) C;obtain⟨J,E⟩:=q;simp only[wi,wy] at x;obtain⟨rfl,rfl⟩:=x;exact B _ λp=>two p.1 { p.2 with rs:=g::p.2.rs }
     |false =>
      rw[hw] at a;simp only[wp] at a;obtain⟨h1,_,_,u⟩:=Zb (s1:=s1) a;rw[d.at' g (h1▸vK),ed];simp only[wp,hw];exact u d.used
   |gone =>
    rw[ed] at a;dsimp only at a;cases i:aa.contains g with
    |true=>rw[i] at a;cases a
    |false =>
     rw[i] at a;simp only[wp] at a;obtain⟨h1,_,_,u⟩:=Zb (s1:=s1) a;rw[d.at' g (h1▸vK),ed];simp only[wp];exact u d.used
   |_=>rw[ed] at a;cases a
def dV.congr{ops:List Oper}{o:Oper}(h:dV P K Gl aa nt ops o s f fp)(a:io s s1 fp):dV P K Gl aa nt ops o s1 f fp:=by
 obtain⟨g,e,h1,d⟩:=Te (qev (h _ two) a);simp only[wi,wy] at h1;obtain⟨rfl,rfl⟩:=h1;exact d
structure Fits(f:du)(fp:FP):Prop where
 slot:∀d v,f.slot=some (d,v)->d∈fp.ws/\d<1024
 place:∀d p,f.place=some (d,p)->d∈fp.ws/\∀t o,p=some (t,o)->t∈fp.rs
 heap:∀h,f.heap=some h->fp.wr=true
def ZT(k:nt<=1024){o:Oper}{v:T}{hp:Option qa}{rs:Wa}{rd wr:Bool}(hw:∀h,hp=some h->wr=true)(a:done nt o s v hp rs rd wr two=some (f,fp)):Fits f fp:=by
 unfold done at a;cases g:o.dst with
 |none =>
  rw[g] at a;simp only[wi,wy] at a;obtain⟨rfl,rfl⟩:=a;exact⟨λd v h=>(by cases h),λd v h=>(by cases h),hw⟩
 |some d =>
  rw[g] at a;dsimp only at a;cases e:(Nat.blt d nt&&!s.used d) with
  |false=>rw[e] at a;cases a
  |true =>
   rw[e] at a;simp only[wm,zC,wi,wy] at a;obtain⟨rfl,rfl⟩:=a;simp only[wg] at e;have:=Qb e.1;refine⟨λi j h=>?_,λi p h=>?_,hw⟩
   .simp only[wi,wy] at h;obtain⟨rfl,_⟩:=h;exact⟨au,ae⟩
   .simp only[wi,wy] at h;obtain⟨rfl,rfl⟩:=h;exact⟨au,λt o h=>by cases h⟩
def Tg(u:nt<=1024){o:Oper}{v:T}{hp:Option qa}{rs:Wa}{rd wr:Bool}{rb wb:Option Nat×Bool}(hw:∀h,hp=some h->wr=true)(j:done nt o s v hp rs rd wr (λf fp=>two f { fp with rb:=rb,wb:=wb })=some (f,fp)) :
 Fits f fp/\f.heap=hp/\fp.wb=wb:=by
 obtain⟨⟨x,z⟩,h1,r⟩:=qH (Z2 nt o s v hp rs rd wr) (k:=λp=>two p.1 { p.2 with rb:=rb,wb:=wb }) j;simp only[wi,wy] at h1;obtain⟨rfl,rfl⟩:=h1;have a:=r _ λp=>two p.1 p.2;have e:=ZT u hw a;refine⟨⟨e.slot,e.place,e.heap⟩,?_,rfl⟩;unfold done at a;cases g:o.dst with
 |none =>
  rw[g] at a;simp only[wi,wy] at a;rw[←a.1]
 |some d =>
  rw[g] at a;dsimp only at a;cases i:(Nat.blt d nt&&!s.used d) with
  |false=>rw[i] at a;cases a
  |true =>
   rw[i] at a;simp only[wm,zC,wi,wy] at a;rw[←a.1]
def lh(s:St)(f:du)(fp:FP):Prop:=(∀h i,f.heap=some h->fp.wb.1=some i->∀j:Nat,j≠i->h[j]?=s.h[j]?)/\(∀h,f.heap=some h->fp.wb.2=true->∀j,Ax h j=Ax s.h j)
def lh.no{s:St}{f:du}{fp:FP}(h:fp.wb=(none,false)):lh s f fp:=⟨λ_ i _ hw=>(by rw[h] at hw;cases hw),λ_ _ hw=>(by rw[h] at hw;cases hw)⟩
def lh.Th{s:St}{f:du}{fp:FP}(h:f.heap=none):lh s f fp:=⟨λ_ i a=>(by rw[h] at a;cases a),λ_ a=>(by rw[h] at a;cases a)⟩
def kw{h:qa}{b:aq}{j:Nat}(a:j≠h.length):(h++[b])[j]?=h[j]?:=by
 rcases wt j h.length with q|q
 .rw[wx q]
 .rw[wz (by simp;omega),wz ae]
def JC{h:qa}{b:aq}{i j:Nat}(a:j≠i):(h.set i b)[j]?=h[j]?:=wV (λq=>a q.symm)
def k3{y a:T}{h h2:qa}{w d:Bool}(h0:some (y,h,w)=some (a,h2,d)):y=a/\h=h2:=by
 simp only[wi,wy] at h0;exact⟨h0.1,h0.2.1⟩
def qcw{t:TypeId}{z x:T}{h:qa}{y:T}{h':qa}{wr:Bool}{i:Nat}(d:yn P t z x h (λy h w=>some (y,h,w))=some (y,h',wr))(B:D3 y=some i):∀j:Nat,j≠i->h'[j]?=h[j]?:=by
 intro j C;have u:∀{A v o l:Nat} {c:Option Nat},T.own A v o l c=y->A=i:=λe=>by subst e;simpa [D3] using B
 unfold yn at d;cases he:qT P t with
 |none=>rw[he] at d;cases d
 |some e =>
  rw[he] at d;dsimp only at d;obtain⟨_,d⟩:=qX d;obtain⟨⟨m,E,H⟩,d,_⟩:=qH (f:=λR k=>YV (R:=R) ((Qi P e).all qG) (qN P e) x h λa b c=>k (a,b,c)) (K7 _ _ _ x) (k:=λp=>match z with
  |.ag=>bif p.1==0 then some (T.ag,h,false)
   else bif Kc P e p.1 then some (T.own h.length 0 0 p.1 none,h++[⟨0,qN P e,p.1,p.2.1,qZ p.1 p.2.1 p.2.2,false,none⟩],true) else none
  |.view sz n g cap=>bif sz==qN P e then bif p.1==0 then some (z,h,false) else match cap with
   |some c=>bif Nat.blt c (n+p.1)&&Kc P e (n+p.1) then
    some (.own h.length 0 0 (n+p.1) none,h++[Ie ((Qi P e).all qG) sz n p.1 g p.2.1 (qZ p.1 p.2.1 p.2.2)],true) else none
   |none=>none
   else none
  |.own i aj r len cap=>Qc h i aj λb=>bif (b.sz==qN P e)&&Nat.ble (r+len) b.n then
   bif p.1==0 then some (z,h,false) else
   bif Kc P e (len+p.1) then
    match cap with
    |some c=>bif Nat.ble (len+p.1) c then
     bif Nat.ble (r+len+p.1) b.n then
      some (.own i aj r (len+p.1) cap,h.set i { b with get:=λj=>bif Nat.ble (r+len) j&&Nat.blt j (r+len+p.1) then p.2.1 (j-(r+len)) else b.get j,flat:=b.flat&&qZ p.1 p.2.1 p.2.2 },true)
     else none
     else some (.own h.length 0 0 (len+p.1) none,h++[Qz 0 b.sz len p.1 (λj=>b.get (r+j)) p.2.1 (b.flat&&qZ p.1 p.2.1 p.2.2)],true)
    |none=>bif Nat.ble (r+len+p.1) b.n then
     some (.own i aj r (len+p.1) none,h.set i { b with get:=λj=>bif Nat.ble (r+len) j&&Nat.blt j (r+len+p.1) then p.2.1 (j-(r+len)) else b.get j,flat:=b.flat&&qZ p.1 p.2.1 p.2.2 },true)
     else some (.own i (aj+1) 0 (len+p.1) none,h.set i (Qz (aj+1) b.sz len p.1 (λj=>b.get (r+j)) p.2.1 (b.flat&&qZ p.1 p.2.1 p.2.2)),true)
   else none
   else none
  |_=>none) d
  dsimp only at d;cases z with
  |ag =>
   dsimp only at d;rcases qx d with⟨_,d⟩|⟨_,d⟩
   .obtain⟨_,rfl⟩:=k3 d;rfl
   .obtain⟨_,d⟩:=qX d;obtain⟨q,rfl⟩:=k3 d;have:=u q;exact kw ae
  |view sz n g cap =>
   dsimp only at d;obtain⟨_,d⟩:=qX d;rcases qx d with⟨_,d⟩|⟨_,d⟩
   .obtain⟨_,rfl⟩:=k3 d;rfl
   .cases cap with
    |none=>cases d
    |some c =>
     obtain⟨_,d⟩:=qX d;obtain⟨q,rfl⟩:=k3 d;have:=u q;exact kw ae
  |own A aj r len cap =>
   dsimp only at d;obtain⟨b,D,I,J,d⟩:=Y3 d;obtain⟨_,d⟩:=qX d;rcases qx d with⟨_,d⟩|⟨_,d⟩
   .obtain⟨_,rfl⟩:=k3 d;rfl
   .obtain⟨_,d⟩:=qX d;cases cap with
    |some c =>
     dsimp only at d;rcases qx d with⟨_,d⟩|⟨_,d⟩
     .obtain⟨_,d⟩:=qX d;obtain⟨q,rfl⟩:=k3 d;have:=u q;exact JC ae
     .obtain⟨q,rfl⟩:=k3 d;have:=u q;exact kw ae
    |none =>
     dsimp only at d;rcases qx d with⟨_,d⟩|⟨_,d⟩
     .obtain⟨q,rfl⟩:=k3 d;have:=u q;exact JC ae
     .obtain⟨q,rfl⟩:=k3 d;have:=u q;exact JC ae
  |_=>cases d
def Ti{R:Type}{t:TypeId}{x:T}{h:qa}{k:Nat->aq->bp->Option R}{r:R}(a:YW P t x h k=some r):∃i b m,k i b m=some r/\j8 x=some i:=by
 unfold YW at a;cases x with
 |mp i aj =>
  dsimp only at a;unfold Yb at a;cases g:h[i]? with
  |none=>rw[g] at a;cases a
  |some b =>
   rw[g] at a;dsimp only at a;obtain⟨_,a⟩:=qX a;cases e:b.mp with
   |none=>rw[e] at a;cases a
   |some m =>
    rw[e] at a;dsimp only at a;cases d:JZ P t with
    |none=>rw[d] at a;cases a
    |some p =>
     obtain⟨j,ks,q⟩:=p;rw[d] at a;dsimp only at a;obtain⟨_,a⟩:=qX a;exact⟨i,b,m,a,rfl⟩
 |_=>cases a
def Tj{R:Type}{t:TypeId}{x key:T}{h:qa}{k:Nat->aq->bp->List Int->Option R}{r:R}(a:yh P t x key h k=some r):∃i b m l,k i b m l=some r/\j8 x=some i:=by
 unfold yh at a;obtain⟨i,b,m,a,d⟩:=Ti a;obtain⟨l,a,_⟩:=qH (YY m.ks key) a;exact⟨i,b,m,l,a,d⟩
def ji{D:Op}{e:Operand->T}{h:qa}{y:T}{h':qa}{wr:Bool}{i:Nat}(d:Qe P K D e h (λy h w=>some (y,h,w))=some (y,h',wr))(g:kF D e h y=some i):∀j:Nat,j≠i->h'[j]?=h[j]?:=by
 intro j r;cases D with
 |store t a v =>
  simp only[kF] at g;cases hx:e a with
  |ptr A aj N o =>
   rw[hx] at g;obtain rfl:A=i:=by simpa [K2] using g
   simp only[Qe,KQ,hx] at d;obtain⟨b,O,Q,R,d⟩:=Zc d;obtain⟨_,d⟩:=qm d;obtain⟨_,rfl⟩:=k3 d;exact JC r
  |_=>rw[hx] at g;cases g
 |buildSlice t len C =>
  obtain rfl:h.length=i:=by simpa [kF] using g
  simp only[Qe,zO] at d;cases he:qT P t with
  |none=>rw[he] at d;cases d
  |some M =>
   rw[he] at d;dsimp only at d;obtain⟨_,d⟩:=qX d;obtain⟨E,d,_⟩:=qH (Yc _ _ _) (k:=λE=>some (T.own h.length 0 0 len (some len),h++[⟨0,qN P M,len,λj=>E.getD j [],E.all (·.all qG),Nat.ble len 8,none⟩],true)) d;obtain⟨_,rfl⟩:=k3 d;exact kw r
 |alloc I =>
  obtain rfl:h.length=i:=by simpa [kF] using g
  simp only[Qe] at d;obtain⟨_,d⟩:=qX d;unfold Yi at d;split at d
  .obtain⟨_,rfl⟩:=k3 d;exact kw r
  .obtain⟨_,rfl⟩:=k3 d;exact kw r
 |box I x =>
  obtain rfl:h.length=i:=by simpa [kF] using g
  simp only[Qe] at d;obtain⟨_,d⟩:=qX d;obtain⟨_,rfl⟩:=k3 d;exact kw r
 |makeMap t J =>
  obtain rfl:h.length=i:=by simpa [kF] using g
  cases J with
  |some x=>cases d
  |none =>
   simp only[Qe,yq] at d;split at d
   .obtain⟨_,rfl⟩:=k3 d;exact kw r
   .cases d
 |mapUpdate t x key v =>
  have g:j8 (e x)=some i:=g;simp only[Qe,Yj] at d;split at d
  .obtain⟨A,b,m,l,d,z⟩:=Tj d;obtain⟨_,d⟩:=qX d;obtain⟨_,rfl⟩:=k3 d;rw[z] at g;obtain rfl:=wa g;exact JC r
  .cases d
 |mapEntry t x key =>
  have g:j8 (e x)=some i:=g;simp only[Qe,yV] at d;obtain⟨A,b,m,l,d,z⟩:=Tj d;obtain⟨_,rfl⟩:=k3 d;rw[z] at g;obtain rfl:=wa g;exact JC r
 |entryStore t x st v =>
  have g:j8 (e x)=some i:=g;simp only[Qe,zP] at d;split at d
  .obtain⟨A,b,m,d,z⟩:=Ti d;split at d
   .obtain⟨_,d⟩:=qX d;obtain⟨_,rfl⟩:=k3 d;rw[z] at g;obtain rfl:=wa g;exact JC r
   .cases d
  .cases d
 |call c =>
  obtain⟨u,H,B⟩:=c;cases u with
  |builtin b =>
   cases b with
   |append =>
    have g:D3 y=some i:=g;simp only[Qe,Za] at d;split at d
    all_goals first
     |contradiction
     |(cases d;done)
     |(obtain⟨_,d⟩:=qX d;exact qcw d g j r)
   |_=>cases g
  |_=>cases g
 |_=>cases g
def qlN{A:Type}{c:Bool}{x y z:A}(h:(bif c then x else y)=z):x=z∨y=z:=by
 cases c
 .exact .inr h
 .exact .inl h
def qhw{safe:Bool}{h:qa}{x:T}{i aj off len:Nat}{cap:Option Nat}{h':qa}(a:yU safe h x=(.own i aj off len cap,h')):∀j:Nat,j≠h.length->h'[j]?=h[j]?:=by
 intro j d;cases x with
 |agg l=>simp only[yU,wy] at a;cases a.1
 |fresh flat sz n g len cap =>
  simp only[yU,yg] at a;rcases qlN a with a|a
  .rw[←(vU a).2];exact kw d
  .rw[←(vU a).2];exact kw d
 |iG m=>simp only[yU,yg,wy] at a;cases a.1
 |_=>simp only[yU,yg,wy] at a;rw[←a.2]
def qhx{safe:Bool}{h:qa}{x:T}{i aj off len:Nat}{cap:Option Nat}{h':qa}(a:ZD safe h x=(.own i aj off len cap,h')):∀j:Nat,j≠h.length->h'[j]?=h[j]?:=by
 cases x with
 |aK l=>simp only[ZD,wy] at a;cases a.1
 |_=>simp only[ZD] at a;exact qhw a
def qf7{z:Op}{e:Operand->T}{h:qa}{y:T}{h':qa}{wr:Bool}{i:Nat}(d:Qe P K z e h (λy h w=>some (y,h,w))=some (y,h',wr))(a:zV K z e h y wr=some i):∀j:Nat,j≠i->h'[j]?=h[j]?:=by
 cases z with
 |call c =>
  obtain⟨o,args,u⟩:=c;cases o with
  |value f =>
   simp only[zV] at a;simp only[Qe] at d;cases A:e f with
   |fn g C =>
    rw[A] at a d;dsimp only at a;rcases qx a with⟨_,a⟩|⟨B,a⟩
    .cases a
    .simp only[wY] at B;simp only[Kb,B.1,wp] at d;obtain⟨I,d,_⟩:=qH (K.dv g _) (k:=λr=>some ((ZD ((args.toList.map e++C).all aH) h r).1,(ZD ((args.toList.map e++C).all aH) h r).2,!(Ka r))) d;simp only[wi,wy] at d;obtain⟨H,E,_⟩:=d;split at a
     .obtain⟨x,D⟩:=qX a;have x:=vf.1 x;obtain rfl:=wa D;subst x;exact qhx (Prod.ext H E)
     .cases a
   |_=>rw[A] at a;cases a
  |builtin b=>exact ji d a
  |invoke r m=>exact ji d a
 |_=>exact ji d a
def Kp(x:nt<=1024){o:Oper}{t off:Nat}{rs:Wa}(a:zZ aa nt o t off rs two=some (f,fp)):Fits f fp:=by
 unfold zZ at a;cases i:o.dst with
 |none=>rw[i] at a;cases a
 |some d =>
  rw[i] at a;dsimp only at a;cases g:(Nat.blt d nt&&!aa.contains d) with
  |false=>rw[g] at a;cases a
  |true =>
   rw[g] at a;simp only[wm,wi,wy] at a;obtain⟨rfl,rfl⟩:=a;simp only[wg] at g;have:=Qb g.1;refine⟨λj k h=>?_,λj p h=>?_,λh e=>by cases e⟩
   .simp only[wi,wy] at h;obtain⟨rfl,_⟩:=h;exact⟨au,ae⟩
   .simp only[wi,wy] at h;obtain⟨rfl,rfl⟩:=h;refine⟨au,λr u h=>?_⟩;simp only[wi,wy] at h;obtain⟨rfl,_⟩:=h;exact vK
def QL(i:nt<=1024){o:Oper}(a:Qf P K Gl aa nt o s two=some (f,fp)):Fits f fp:=by
 unfold Qf at a;cases g:Jr o.op (ev Gl aa s) with
 |true =>
  rw[g] at a;simp only[wm] at a;obtain⟨⟨y,h',wr⟩,d,_⟩:=qH (Zl P K o.op (ev Gl aa s) []) (k:=λp=>bif p.2.2 then none else done nt o s p.1 none (Qw o.op) false false two) a;cases wr with
  |true=>cases d
  |false=>exact ZT i (λh e=>by cases e) d
 |false =>
  rw[g] at a;simp only[wp] at a;obtain⟨⟨y,h',wr⟩,d,_⟩:=qH (Zl P K o.op (ev Gl aa s) s.h) (k:=λp=>done nt o s p.1 (bif p.2.2 then some p.2.1 else none) (Qw o.op) (QM K o.op (ev Gl aa s)) p.2.2 λf fp=>two f { fp with rb:=(zL o.op (ev Gl aa s),j9 o.op),wb:=(zV K o.op (ev Gl aa s) s.h p.1 p.2.2,BN o.op) }) a;refine(Tg i (λh e=>?_) d).1;cases wr with
  |true=>rfl
  |false=>cases e
def YK(i:nt<=1024){o:Oper}{v:T}{hp:Option qa}{rs:Wa}{rd wr:Bool}(a:done nt o s v hp rs rd wr two=some (f,fp)):fp.wb=(none,false):=by
 unfold done at a;cases e:o.dst with
 |none =>
  rw[e] at a;simp only[wi,wy] at a;rw[←a.2]
 |some d =>
  rw[e] at a;dsimp only at a;cases g:(Nat.blt d nt&&!s.used d) with
  |false=>rw[g] at a;cases a
  |true =>
   rw[g] at a;simp only[wm,zC,wi,wy] at a;rw[←a.2]
def qkW{g:Op}{e:Operand->T}{h:qa}{y:T}{h':qa}{wr:Bool}(a:Qe P K g e h (λy h w=>some (y,h,w))=some (y,h',wr))(A:BN g=true):∀j:Nat,Ax h' j=Ax h j:=by
 intro j;cases g with
 |mapEntry t x i =>
  cases hx:e x with
  |mp ii aj =>
   simp only[Qe,hx,yV,yh,YW,Yb] at a;cases d:h[ii]? with
   |none=>rw[d] at a;cases a
   |some b =>
    rw[d] at a;dsimp only at a;obtain⟨_,a⟩:=qX a;cases k:b.mp with
    |none=>rw[k] at a;cases a
    |some m =>
     rw[k] at a;dsimp only at a;cases r:JZ P t with
     |none=>rw[r] at a;cases a
     |some p =>
      obtain⟨C,ks,q⟩:=p;rw[r] at a;dsimp only at a;obtain⟨_,a⟩:=qX a;obtain⟨l,a,_⟩:=qH (YY m.ks (e i)) a;obtain⟨_,rfl⟩:=k3 a;have B:ii<h.length:=(xo.1 d).1;unfold Ax;by_cases o:j=ii
      .subst o;rw[wP B,d];simp only[vX,k,bp.entry,bp.put,wi,wy,true_and];funext z;cases u:n5 z l with
       |true=>rw[jD.1 u];rfl
       |false=>rfl
      .rw[wV (λq=>o q.symm)]
  |_=>(simp only[Qe,hx,yV,yh,YW] at a;cases a)
 |_=>cases A
def QD(A:nt<=1024){o:Oper}(a:Qf P K Gl aa nt o s two=some (f,fp)):lh s f fp:=by
 unfold Qf at a;cases x:Jr o.op (ev Gl aa s) with
 |true =>
  rw[x] at a;simp only[wm] at a;obtain⟨⟨y,h',wr⟩,g,_⟩:=qH (Zl P K o.op (ev Gl aa s) []) (k:=λp=>bif p.2.2 then none else done nt o s p.1 none (Qw o.op) false false two) a;cases wr with
  |true=>cases g
  |false=>exact .no (YK A g)
 |false =>
  rw[x] at a;simp only[wp] at a;obtain⟨⟨y,h',wr⟩,g,z⟩:=qH (Zl P K o.op (ev Gl aa s) s.h) (k:=λp=>done nt o s p.1 (bif p.2.2 then some p.2.1 else none) (Qw o.op) (QM K o.op (ev Gl aa s)) p.2.2 λf fp=>two f { fp with rb:=(zL o.op (ev Gl aa s),j9 o.op),wb:=(zV K o.op (ev Gl aa s) s.h p.1 p.2.2,BN o.op) }) a;obtain⟨_,u,r⟩:=Tg A (λh e=>by cases wr with|true=>rfl|false=>cases e) g;refine⟨λh i d hw j B=>?_,λh d hw j=>?_⟩
  .rw[r] at hw;have:=qf7 (P:=P) (K:=K) (z _ some) hw j B;rw[u] at d;cases wr with
   |false=>cases d
   |true =>
    obtain rfl:h'=h:=by simpa using d
    exact this
  .rw[r] at hw;have:=qkW (P:=P) (K:=K) (z _ some) hw j;rw[u] at d;cases wr with
   |false=>cases d
   |true =>
    obtain rfl:h'=h:=by simpa using d
    exact this
def Tk(g:nt<=1024){o:Oper}(a:zW P K Gl aa nt o s two=some (f,fp)):Fits f fp:=by
 have k:∀h,(none:Option qa)=some h->false=true:=λh e=>by cases e
 unfold zW at a;split at a
 .cases i:o.dst with
  |none=>rw[i] at a;cases a
  |some d =>
   rw[i] at a;rcases qx a with⟨_,a⟩|⟨_,a⟩
   .exact ZT g k (qm a).2
   .exact QL g a
 .cases i:o.dst with
  |none=>rw[i] at a;cases a
  |some d =>
   rw[i] at a;rcases qx a with⟨_,a⟩|⟨_,a⟩
   .exact ZT g k (qm a).2
   .exact QL g a
 .split at a
  .split at a
   .obtain⟨v,x,_⟩:=qH (Z1 P _ _) a;exact ZT g k x
   .cases a
  .exact QL g a
 .split at a
  .rename_i t u _;split at a
   .rename_i cells j i;have a:=(qm a).2;simp only[wi,wy] at a;obtain⟨rfl,rfl⟩:=a;refine⟨λz A h=>?_,λz p h=>(by cases h),λh e=>by cases e⟩;simp only[wi,wy] at h;obtain⟨rfl,_⟩:=h;refine⟨au,?_⟩;rcases wt t 1024 with r|r
    .exact r
    .rw[BZ ae] at j;cases j
   .cases a
  .exact QL g a
 .split at a
  .split at a
   .split at a
    .exact Kp g a
    .cases a
   .cases a
  .exact QL g a
 .split at a
  .split at a
   .split at a
    .split at a
     .obtain⟨j,a⟩:=qm a;simp only[wg,wC] at j;exact Kp g (z9 ae a)
     .cases a
    .cases a
   .cases a
  .exact QL g a
 .split at a
  .split at a
   .exact Kp g a
   .cases a
  .exact QL g a
 .exact QL g a
def Tl(g:nt<=1024){o:Oper}(a:zW P K Gl aa nt o s two=some (f,fp)):lh s f fp:=by
 have loc:∀{t i:Nat} {rs:Wa},zZ aa nt o t i rs two=some (f,fp)->lh s f fp:=λ{t i rs} a=>by
  refine .Th ?_;unfold zZ at a;cases e:o.dst with
  |none=>rw[e] at a;cases a
  |some d =>
   rw[e] at a;obtain⟨_,a⟩:=qm a;simp only[wi,wy] at a;rw[←a.1]
 have j:∀{v:T} {rs:Wa},done nt o s v none rs false false two=some (f,fp)->lh s f fp:=λ{v rs} a=>.no (YK g a);unfold zW at a;split at a
 .cases e:o.dst with
  |none=>rw[e] at a;cases a
  |some d =>
   rw[e] at a;rcases qx a with⟨_,a⟩|⟨_,a⟩
   .exact j (qm a).2
   .exact QD g a
 .cases e:o.dst with
  |none=>rw[e] at a;cases a
  |some d =>
   rw[e] at a;rcases qx a with⟨_,a⟩|⟨_,a⟩
   .exact j (qm a).2
   .exact QD g a
 .split at a
  .split at a
   .obtain⟨v,r,_⟩:=qH (Z1 P _ _) a;exact j r
   .cases a
  .exact QD g a
 .split at a
  .rename_i t i _;split at a
   .rename_i cells k e;have a:=(qm a).2;simp only[wi,wy] at a;obtain⟨rfl,rfl⟩:=a;exact .Th rfl
   .cases a
  .exact QD g a
 .split at a
  .split at a
   .split at a
    .exact loc a
    .cases a
   .cases a
  .exact QD g a
 .split at a
  .split at a
   .split at a
    .split at a
     .obtain⟨k,a⟩:=qm a;simp only[wg,wC] at k;exact loc (z9 ae a)
     .cases a
    .cases a
   .cases a
  .exact QD g a
 .split at a
  .split at a
   .exact loc a
   .cases a
  .exact QD g a
 .exact QD g a
def Tm(g:nt<=1024){o:Oper}(a:Zk P Gl aa nt o s two=some (f,fp)):Fits f fp/\fp.wb=(none,false):=by
 unfold Zk at a;split at a
 .obtain⟨y,d,_⟩:=qH (ZI P _ _ _) (k:=λv=>done nt o s v none (Qw o.op) false false two) a;exact⟨ZT g (λh e=>by cases e) d,YK g d⟩
 .cases a
def dV.fits(g:nt<=1024){ops:List Oper}{o:Oper}(h:dV P K Gl aa nt ops o s f fp):Fits f fp:=by
 have a:=h _ two;unfold zu at a;split at a
 .rcases qx a with⟨_,a⟩|⟨_,a⟩
  .exact(Tm g a).1
  .exact Tk g a
 .split at a
  .cases a
  .split at a
   .rcases qx a with⟨_,a⟩|⟨_,a⟩
    .cases a
    .rcases qx a with⟨_,a⟩|⟨_,a⟩
     .obtain⟨⟨u,x⟩,h1,r⟩:=qH (yw P K Gl aa nt o s) (k:=λp=>two p.1 { p.2 with rs:=_::p.2.rs }) a;simp only[wi,wy] at h1;obtain⟨rfl,rfl⟩:=h1;have i:=Tk g (r _ λp=>two p.1 p.2);exact⟨i.slot,λd p e=>⟨(i.place d p e).1,λt o j=>wT _ ((i.place d p e).2 t o j)⟩,i.heap⟩
     .exact ZT g (λh e=>by cases e) a
   .rcases qx a with⟨_,a⟩|⟨_,a⟩
    .cases a
    .exact ZT g (λh e=>by cases e) a
   .cases a
def dV.B4(d:nt<=1024){ops:List Oper}{o:Oper}(h:dV P K Gl aa nt ops o s f fp):lh s f fp:=by
 have a:=h _ two;unfold zu at a;split at a
 .rcases qx a with⟨_,a⟩|⟨_,a⟩
  .exact .no (Tm d a).2
  .exact Tl d a
 .split at a
  .cases a
  .split at a
   .rcases qx a with⟨_,a⟩|⟨_,a⟩
    .cases a
    .rcases qx a with⟨_,a⟩|⟨_,a⟩
     .obtain⟨⟨i,j⟩,h1,g⟩:=qH (yw P K Gl aa nt o s) (k:=λp=>two p.1 { p.2 with rs:=_::p.2.rs }) a;simp only[wi,wy] at h1;obtain⟨rfl,rfl⟩:=h1;have e:=Tl d (g _ λp=>two p.1 p.2);exact e
     .exact .no (YK d a)
   .rcases qx a with⟨_,a⟩|⟨_,a⟩
    .cases a
    .exact .no (YK d a)
   .cases a
structure gK(s s1:St):Prop where
 at':∀e,s1.at e=s.at e
 loc:∀e,s1.loc e=s.loc e
 used:∀e,s1.used e=s.used e
 h:s1.h=s.h
def gK.refl(s:St):gK s s:=⟨λ_=>rfl,λ_=>rfl,λ_=>rfl,rfl⟩
def gK.trans{a b c:St}(x:gK a b)(y:gK b c):gK a c:=⟨λe=>(y.at' e).trans (x.at' e),λe=>(y.loc e).trans (x.loc e),λe=>(y.used e).trans (x.used e),y.h.trans x.h⟩
def gK.symm{a b:St}(x:gK a b):gK b a:=⟨λe=>(x.at' e).symm,λe=>(x.loc e).symm,λe=>(x.used e).symm,x.h.symm⟩
def gK.s7{s s1:St}(x:gK s s1)(fp:FP):io s s1 fp:=⟨λe _=>x.at' e,λe _=>x.loc e,λe _=>x.used e,λ_=>x.h,λ_=>.inl x.h⟩
def JD(f:du)(s:St)(e:∀d v,f.slot=some (d,v)->d<1024)(t:Nat):(f.dN s).at t=match f.slot with|some (d,v)=>if t=d then v else s.at t|none=>s.at t:=by
 cases a:f.slot with
 |none=>simp[St.at,du.dN,H6,a]
 |some p =>
  obtain⟨d,v⟩:=p;exact Ef (s:=s) (s':=f.dN s) (by simp[du.dN,H6,a]) (e d v a) t
def gK.dN{s s1:St}(x:gK s s1){f:du}(a:∀d v,f.slot=some (d,v)->d<1024):gK (f.dN s) (f.dN s1):=by
 refine⟨λe=>?_,λe=>?_,λe=>?_,?_⟩
 .rw[JD f s a,JD f s1 a];cases f.slot with
  |none=>exact x.at' e
  |some p=>simp only[x.at' e]
 .simp only[du.dN];cases f.place with
  |none=>exact x.loc e
  |some p=>simp only[Yp,x.loc e]
 .simp only[du.dN];cases f.place with
  |none=>exact x.used e
  |some p =>
   obtain⟨d,q⟩:=p;cases q with
   |none=>exact x.used e
   |some q=>simp only[yE,x.used e]
 .simp only[du.dN,x.h]
def jk{a b:Wa}(h:Ja a b=false):∀x∈a,x∉b:=by
 intro x hx d;unfold Ja at h;rw[List.any_eq_false] at h;exact h x hx (by simpa using d)
def IH(w r:Option Nat×Bool):Prop:=(∃i j:Nat,w.1=some i/\r.1=some j/\i≠j)∨(w.2=true/\r.2=true)
def Fits.s7{f:du}{fp q:FP}(a:Fits f fp)(h1:Ja fp.ws q.rs=false)(h2:Ja q.ws fp.rs=false)(B:fp.wr=true->q.wr=false/\(q.rd=true->IH fp.wb q.rb))(s:St)(hw:lh s f fp):io s (f.dN s) q:=by
 have w:=jk h1;have u:=jk h2;refine⟨λe he=>?_,λe he=>?_,λd D=>?_,λk=>?_,λk=>?_⟩
 .rw[JD f s λd v h=>(a.slot d v h).2];cases C:f.slot with
  |none=>rfl
  |some p =>
   obtain⟨d,v⟩:=p;have:=(a.slot d v C).1;have g:e≠d:=by rintro rfl;exact w e this he
   simp only[we g]
 .simp only[du.dN];cases r:f.place with
  |none=>rfl
  |some p =>
   obtain⟨d,v⟩:=p;have:=(a.place d v r).1;have g:e≠d:=by rintro rfl;exact w e this he
   simp only[Yp,vg,vf,we g]
 .simp only[du.dN];cases r:f.place with
  |none=>rfl
  |some p =>
   obtain⟨H,v⟩:=p;cases v with
   |none=>rfl
   |some v =>
    obtain⟨t,o⟩:=v;have:=(a.place H _ r).2 t o rfl;have g:d≠t:=by rintro rfl;exact u d D this
    simp only[yE,vg,vf,we g]
 .simp only[du.dN];cases hx:f.heap with
  |none=>rfl
  |some x =>
   rw[(B (a.heap x hx)).1] at k;cases k
 .cases hx:f.heap with
  |none=>left;simp only[du.dN,hx];rfl
  |some x =>
   rcases (B (a.heap x hx)).2 k with⟨i,j,A,z,E⟩|⟨A,z⟩
   .right;left;refine⟨j,z,?_⟩;simp only[du.dN,hx];exact hw.1 x i hx A j (λq=>E q.symm)
   .right;right;refine⟨z,?_⟩;simp only[du.dN,hx];exact hw.2 x hx A
def Tn{w r:Option Nat×Bool}(h:Ih w r=true):IH w r:=by
 obtain⟨w,e⟩:=w;obtain⟨r,rv⟩:=r;unfold Ih at h;rw[vY] at h;rcases h with h|h
 .split at h
  .rename_i i j d a;exact .inl ⟨i,j,d,a,by simpa using h⟩
  .cases h
 .rw[wg] at h;exact .inr h
def To{a b:FP}(h:J0 a b=false):Ja a.ws b.rs=false/\Ja a.ws b.ws=false/\Ja b.ws a.rs=false/\(a.wr=true->b.wr=false/\(b.rd=true->IH a.wb b.rb))/\(b.wr=true->a.wr=false/\(a.rd=true->IH b.wb a.rb)):=by
 simp only[J0,wY] at h;obtain⟨⟨⟨⟨h1,k⟩,j⟩,d⟩,e⟩:=h;refine⟨h1,k,j,λi=>?_,λg=>?_⟩
 .rw[i] at d;simp only[xx,wY] at d;refine⟨d.1,λhr=>?_⟩;have:=d.2;rw[hr] at this;exact Tn (by simpa using this)
 .rw[g] at e d;simp only[xx,Bool.true_or,Bool.and_true] at e d;refine⟨d,λhr=>?_⟩;rw[hr] at e;exact Tn (by simpa using e)
def qlO{f1 f2:du}{E D:FP}(h1:Fits f1 E)(h2:Fits f2 D)(J:J0 E D=false)(s:St):gK (f2.dN (f1.dN s)) (f1.dN (f2.dN s)):=by
 obtain⟨V,N,U,M,S⟩:=To J;have w:=jk N;refine⟨λe=>?_,λe=>?_,λe=>?_,?_⟩
 .rw[JD f1 _ λd v h=>(h1.slot d v h).2,JD f2 _ λd v h=>(h2.slot d v h).2,JD f2 _ λd v h=>(h2.slot d v h).2,JD f1 _ λd v h=>(h1.slot d v h).2];cases o:f1.slot with
  |none=>rfl
  |some A =>
   cases k:f2.slot with
   |none=>rfl
   |some z =>
    obtain⟨i,x⟩:=A;obtain⟨j,r⟩:=z;have C:=(h1.slot i x o).1;have B:=(h2.slot j r k).1;have O:i≠j:=by rintro rfl;exact w i C B
    dsimp only;by_cases g:e=i
    .rw[wl g,we ae,wl g]
    .rw[we g];by_cases a:e=j
     .rw[wl a,wl a]
     .rw[we a,we a,we g]
 .simp only[du.dN];cases o:f1.place with
  |none=>rfl
  |some A =>
   cases k:f2.place with
   |none=>rfl
   |some z =>
    obtain⟨i,x⟩:=A;obtain⟨j,r⟩:=z;have C:=(h1.place i x o).1;have B:=(h2.place j r k).1;have O:i≠j:=by rintro rfl;exact w i C B
    simp only[Yp,vg,vf];by_cases g:e=i
    .rw[wl g,we ae,wl g]
    .rw[we g];by_cases a:e=j
     .rw[wl a,wl a]
     .rw[we a,we a,we g]
 ·simp only[du.dN];have key:∀(u:Nat->Bool) (p q:Option (Nat×Option (Nat×Nat))),yE (yE u p) q e=yE (yE u q) p e:=by
   intro u p q;rcases p with _|⟨i,_|⟨I,R⟩⟩<;>rcases q with _|⟨j,_|⟨H,Q⟩⟩<;>simp only[yE]
   cases (e==I)<;>cases (e==H)<;>rfl
  exact(key _ _ _).symm
 .simp only[du.dN];cases o:f1.heap with
  |none=>rfl
  |some g =>
   cases k:f2.heap with
   |none=>rfl
   |some a =>
    have:=(M (h1.heap g o)).1;rw[h2.heap a k] at this;cases this
def dC.same(k:nt<=1024){ops l:List Oper}{s s':St}{fE:List FP}(h:dC P K Gl aa nt ops l s s' fE):∀{s1:St},gK s s1->∃a,dC P K Gl aa nt ops l s1 a fE/\gK s' a:=by
 induction h with
 |nil s=>exact λx=>⟨_,.nil _,x⟩
 |cons h1 o j =>
  intro s1 x;obtain⟨a,i,g⟩:=j (x.dN λd v e=>((h1.fits k).slot d v e).2);exact⟨a,.cons (h1.congr (x.s7 _)) i,g⟩
def dC.FQ(g:nt<=1024){ops:List Oper}{o:Oper}{post:List Oper}{fp:FP}{N:List FP}:∀{pre:List Oper} {k:List FP} {s s':St},pre.length=k.length->(∀q∈k,J0 q fp=false) →
 dC P K Gl aa nt ops (pre++o::post) s s' (k++fp::N)->∃f s1,dV P K Gl aa nt ops o s f fp/\dC P K Gl aa nt ops (pre++post) (f.dN s) s1 (k++N)/\gK s' s1
 |[],[],s,s',_,_,h=>by
  cases h with
  |cons h1 d=>exact⟨_,_,h1,d,.refl _⟩
 |p::pre,q::k,s,s',r,D,h=>by
  cases h with
  |@cons _ _ _ _ z _ _ h1 d =>
   have M:=D q au;obtain⟨I,Y,H,V,E⟩:=To M;obtain⟨f,s1,g1,g2,g3⟩:=dC.FQ g (by simpa using r) (λq S=>D q (by simp[S])) d;have C:=h1.fits g;have B:=g1.fits g;have u:=C.s7 I H V s (h1.B4 g);have X:io (z.dN s) s fp:=⟨λe he=>(u.at' e he).symm,λe he=>(u.loc e he).symm,λe he=>(u.used e he).symm,λa=>(u.heap a).symm,λa=>(u.uS a).elim (λh=>.inl h.symm) λh=>.inr (h.elim (λ⟨j,h1,d⟩=>.inl ⟨j,h1,d.symm⟩) λ⟨h1,d⟩=>.inr ⟨h1,λj=>(d j).symm⟩)⟩;have A:∀h,f.heap=some h->(z.dN s).h=s.h:=λh a=>by
    have A:z.heap=none:=by
     cases hx:z.heap with
     |none=>rfl
     |some x =>
      have:=(E (B.heap h a)).1;rw[C.heap x hx] at this;cases this
    simp only[du.dN,A];rfl
   have J:=g1.B4 g;have W:=B.s7 H I E s ⟨λh i a hw j U=>by
    have q:=J.1 h i a hw j U;rw[q,A h a],λh a hw j=>by
    have q:=J.2 h a hw j;rw[q,A h a]⟩
   obtain⟨O,R,Q⟩:=g2.same g (qlO C B M s);exact⟨f,O,g1.congr X,.cons (h1.congr W) R,g3.trans Q⟩
 |[],_::_,_,_,r,_,_=>by cases r
 |_::_,[],_,_,r,_,_=>by cases r
end
inductive fS(ops:Array Oper):Nat->Nat->Prop where
 |one {j k:Nat} {o:Oper} {e:Edge} (ho:ops[j]?=some o) (he:e∈o.after) (hb:Region.binds .any e=true) (hk:e.on=k):fS ops j k
 |more {j m k:Nat} {o:Oper} {e:Edge} (ho:ops[j]?=some o) (he:e∈o.after) (hb:Region.binds .any e=true) (hm:e.on=m) (h:fS ops m k):fS ops j k
def Ts{ops:Array Oper}{j:Nat}{o:Oper}{u:Array Nat}(g:ops[j]?=some o)(x:∀m k,(u.getD m 0).testBit k=true->fS ops m k) :
 ∀(l:List Edge) (d:Nat),(∀e∈l,e∈o.after)->(∀k,d.testBit k=true->fS ops j k)->∀k,(l.foldl (λs e=>if Region.binds .any e then s ||| 2 ^ e.on ||| u.getD e.on 0 else s) d).testBit k=true->fS ops j k
 |[],d,_,f,k,a=>f k a
 |e::l,d,i,f,k,a=>by
  refine Ts g x l _ (λe he=>i e (wT _ he)) (λk a=>?_) k a;dsimp only at a;split at a
  .rename_i r;simp only[Nat.testBit_or,vY] at a;rcases a with (a|a)|a
   .exact f k a
   .rw[Nat.testBit_two_pow] at a;exact .one g (i e au) r (by simpa using a)
   .exact .more g (i e au) r rfl (x _ k a)
  .exact f k a
def Tt{ops:Array Oper}:∀(l:List Oper) (d:Array Nat),(∀i,l[i]?=ops[d.size+i]?)->(∀m k,(d.getD m 0).testBit k=true->fS ops m k) →
 ∀m k,((l.foldl (λ(d:Array Nat) o=>d.push (o.after.foldl (λs e=>if Region.binds .any e then s ||| 2 ^ e.on ||| d.getD e.on 0 else s) 0)) d).getD m 0).testBit k=true->fS ops m k
 |[],d,_,h,m,k,a=>h m k a
 |o::l,d,f,h,m,k,a=>by
  have g:ops[d.size]?=some o:=by have:=f 0;simpa using this.symm
  refine Tt l _ (λi=>?_) (λm k a=>?_) m k a
  .have:=f (i+1);simp only[vZ] at this;rw[this,Array.size_push];congr 1;omega
  .rw[wG,Array.getElem?_push] at a;split at a
   .rename_i j;subst j;rw[←Array.foldl_toList] at a;exact Ts g h o.after.toList 0 (λe he=>by simpa using he) (λk a=>by simp at a) k a
   .rw[←wG] at a;exact h m k a
def qew{ops:Array Oper}{j k:Nat}(h:((Region.before ops).getD j 0).testBit k=true):fS ops j k:=by
 unfold Region.before at h;rw[←Array.foldl_toList] at h;exact Tt ops.toList #[] (λi=>by simp) (λm k a=>by simp at a) j k h
def Tu:∀(l:List Oper) (j:Nat),Fh j l=true->∀(i:Nat) (o:Oper),l[i]?=some o->∀e∈o.after,Region.binds .any e=true->e.on<j+i
 |[],_,_,i,o,a=>by simp at a
 |o::l,j,h,i,f,a=>by
  simp only[Fh,wg] at h;intro e he d;cases i with
  |zero =>
   simp only[wO,wi] at a;subst a;have:=wA.1 h.1 e (by simpa using he);rw[d] at this;simp only[Bool.not_true,ub] at this;exact Qb this
  |succ i =>
   have:=Tu l (j+1) h.2 i f (by simpa using a) e he d;omega
def Tv{before:Wa}:∀(l:List (Nat×FP)),Ii before l=true->List.Pairwise (λa b=>(before.getD b.1 0).testBit a.1=true∨J0 a.2 b.2=false) l
 |[],_=>.nil
 |(i,a)::l,h=>by
  simp only[Ii,wg] at h;refine xg.2 ⟨λb d=>?_,Tv l h.2⟩;have:=wA.1 h.1 b d;simpa using this
section
variable {P:Program} {K:bA} {Gl:V9} {aa:Wa} {nt:Nat} {s s1 s':St}
def gK.sr(x:gK s s1){g:Gh}{a:Act}{w:World}(h:SR Gl aa nt g s a w):SR Gl aa nt g s1 a w :=
 ⟨by rw[x.h];exact h.hr,h.defers,h.size,h.nt,λt e=>by rw[x.h,x.at'];exact h.tmps t e,λt e cells i=>by rw[x.h];exact h.eA t e cells (by rw[←x.at'];exact i),
  λd t o f=>h.loc d t o (by rw[←x.loc];exact f),h.dU,λd t o f=>by rw[x.used];exact h.used d t o (by rw[←x.loc];exact f)⟩
structure Rest(ops:Array Oper)(listed:Array Bool)(rem:Wa):Prop where
 size:listed.size=ops.size
 mem:∀i,i∈rem↔listed.getD i true=false
 v3:List.Pairwise (·<·) rem
 closed:∀j o,ops[j]?=some o->listed.getD j false=true->∀e∈o.after,Region.binds .any e=true->listed.getD e.on false=true
def Rest.behind{ops:Array Oper}{listed:Array Bool}{rem:Wa}(r:Rest ops listed rem){j k:Nat}(h:fS ops j k):listed.getD j false=true->listed.getD k false=true:=by
 induction h with
 |one a he e i=>exact λd=>i▸r.closed _ _ a d _ he e
 |more a he e g h f=>exact λd=>f (g▸r.closed _ _ a d _ he e)
def Rest.ready{ops:Array Oper}{listed:Array Bool}{rem:Wa}(r:Rest ops listed rem){i k:Nat}(u:i∈Region.ready .any ops listed)(h:fS ops i k):listed.getD k false=true:=by
 obtain⟨_,o,e,f⟩:=mem_ready.1 u;cases h with
 |one a he d j =>
  obtain rfl:=wa (a.symm.trans e);exact j▸f _ he d
 |more a he d g h =>
  obtain rfl:=wa (a.symm.trans e);exact r.behind h (g▸f _ he d)
def kz{listed:Array Bool}{i:Nat}(h:listed.getD i true=false):i<listed.size/\listed.getD i false=false:=by
 rw[wG] at h ⊢;rcases wt i listed.size with h'|h'
 .rw[wL h'] at h ⊢;exact⟨h',h⟩
 .rw[xb h'] at h;cases h
def Tw(hK:aT P Gl K)(aY:nt<=1024){ops:Array Oper}(B6:Fh 0 ops.toList=true){O:Nat->Oper}(X:∀i,i<ops.size->ops[i]?=some (O i)){F:Nat->FP}
 (hF:∀i j,i<j->j<ops.size->((Region.before ops).getD j 0).testBit i=true∨J0 (F i) (F j)=false) :
 ∀(E:Nat) {rem:Wa} {listed:Array Bool} {s s1:St} {g:Gh} {a:Act} {w:World},rem.length=E->Rest ops listed rem->dC P K Gl aa nt ops.toList (rem.map O) s s1 (rem.map F)->gK s1 s'->SR Gl aa nt g s a w →
  ∀(ro:Option Nat) (n:Nat) (Q:Exit->Act->World->Prop),(∀u w' g',SR Gl aa nt g' s' u w'->cS g s.h w g' s'.h w'->u.defers=a.defers->Q .normal u w')->wpAnyIn (QC ro) n P .any ops Q E listed a w
 |0,rem,listed,s,s1,g,a,w,J,hr,R,N,S,ro,n,Q,U=>by
  obtain rfl:=List.length_eq_zero_iff.1 J;cases R with
  |nil =>
   refine⟨?_,U _ _ _ (N.sr S) (by rw[N.h];exact cS.refl _ _ _) rfl⟩;apply List.eq_nil_iff_forall_not_mem.2;intro i B;have:=(hr.mem i).2 (mem_ready.1 B).1;simp at this
 |E+1,rem,listed,s,s1,g,a,w,J,hr,R,N,S,ro,n,Q,U=>by
  refine⟨λh0=>?_,λi B=>?_⟩
  ·
   exfalso;cases rem with
   |nil=>cases J
   |cons d rem =>
    have H:=(hr.mem d).1 au;have r:=(kz H).1;rw[hr.size] at r;have I:=X d r;have:d∈Region.ready .any ops listed:=by
     refine mem_ready.2 ⟨H,O d,I,λe he M=>?_⟩;have h1:=Tu ops.toList 0 B6 d (O d) (by rw[vt];exact I) e he M;rw[wn] at h1;cases Z:listed.getD e.on false with
     |true=>rfl
     |false =>
      have W:e.on<listed.size:=by rw[hr.size];omega
      have:e.on∈d::rem:=(hr.mem e.on).2 (by rw[wG] at Z ⊢;rw[wL W] at Z ⊢;exact Z);rcases wK.1 this with D|D
      .omega
      .have:=(xg.1 hr.v3).1 _ D;omega
    rw[h0] at this;cases this
  ·have H:=(mem_ready.1 B).1;have r:=(kz H).1;rw[hr.size] at r;have I:=X i r;obtain⟨pre,post,rfl⟩:=List.append_of_mem ((hr.mem i).2 H);have A:=List.pairwise_append.1 hr.v3;have mG:∀j∈pre,j<i:=λj k=>A.2.2 j k i au;have nl:∀q∈pre.map F,J0 q (F i)=false:=by
    intro q hq;obtain⟨j,k,rfl⟩:=vb.1 hq;rcases hF j i (mG j k) r with h1|h1
    ·have D:=hr.ready B (qew h1);have h3:=(hr.mem j).1 (xK _ k);rw[(kz h3).2] at D;cases D
    ·exact h1
   rw[vF,xA,vF,xA] at R;obtain⟨f,s2,g1,g2,g3⟩:=dC.FQ aY au nl R;have ic:=g1.goes hK S;have s8:Rest ops (listed.setIfInBounds i true) (pre++post):=by
    refine⟨by simp[hr.size],λj=>?_,?_,λj o k n9 e he M=>?_⟩
    .by_cases z:j=i
     .subst z;have hx:j<listed.size:=by rw[hr.size];exact r
      have h4:(listed.setIfInBounds j true).getD j true=true:=by
       rw[wG,Array.getElem?_setIfInBounds_self_of_lt hx];rfl
      rw[h4];have h6:=(xg.1 A.2.1).1;constructor
      .intro hm;rcases wS.1 hm with C|C
       .have:=mG j C;omega
       .have:=h6 j C;omega
      .intro C;cases C
     .rw[getD_set_ne true (Ne.symm z),←hr.mem j];simp[z]
    .refine List.pairwise_append.2 ⟨A.1,(xg.1 A.2.1).2,λx hx y hy=>A.2.2 x hx y (by simp[hy])⟩
    .by_cases z:i=j
     .subst z;obtain⟨_,o2,Ej,bP⟩:=mem_ready.1 B;obtain rfl:=wa (k.symm.trans Ej);exact getD_set_true (bP e he M)
     .rw[getD_set_ne false z] at n9;exact getD_set_true (hr.closed j o k n9 e he M)
   have V:=λu w' g' (eF:SR Gl aa nt g' (f.dN s) u w') (bC:cS g s.h w g' (f.dN s).h w') (lg:u.defers=a.defers) =>
    Tw hK aY B6 X hF E (rem:=pre++post) (listed:=listed.setIfInBounds i true) (s1:=s2) (by simp at J ⊢;omega) s8 (by rw[vF,vF];exact g2) (g3.symm.trans N) eF ro n Q
     λa2 w2 Y iL oZ tY=>U a2 w2 Y iL (bC.trans oZ) (tY.trans lg)
   have:=ic ro n (wpAnyIn (QC ro) n P .any ops Q E (listed.setIfInBounds i true)) Q V;unfold wpOpIn;rw[I];dsimp only;split at this
   .rename_i hw;rw[wl hw];exact this
   .rename_i hw;rw[we hw];exact⟨λ_ _=>trivial,this⟩
end
def ZU{P:Program}{b:Frame}{a:Act}{k:List Item}{cs:List Frame}{w:World}{c:Code}:step P (lone (b.atR a (.code (.scope c)::k)) cs w) = .next (lone (b.atR a (.code c::.inScope c::k)) cs w) :=
 step_lone_go (by simp[stepG,stepG.exec,Frame.atR])
def qex{P:Program}{b:Frame}{a:Act}{k:List Item}{cs:List Frame}{w:World}{c:Code}:step P (lone (b.atR a (.inScope c::k)) cs w) = .next (lone (b.atR a k) cs w) :=
 step_lone_go (by simp[stepG,stepG.exec,Frame.atR])
def Tx{F:Fence}{n:Nat}{P:Program}{Q:Exit->Act->World->Prop}{a:Act}{w:World}{c:Code}(h:c.wpIn F n P (Exit.noGoto Q) a w):(Code.scope c).wpIn F n P Q a w:=by
 intro b k s B r hr;have g:(lone (b.atR a (.code (.scope c)::k)) s w).fenced P F:=fenced_calm r hr rfl;obtain⟨e,j,i,f,d⟩:=h b (.inScope c::k) s B r hr;cases e with
 |normal=>exact⟨.normal,j,i,f,.head g ZU (StepsIn.trans d (.one (fenced_calm r hr rfl) qex))⟩
 |exit id =>
  have hx:exitTo id (.inScope c::k)=exitTo id k:=by simp[exitTo]
  exact⟨.exit id,j,i,f,λx o=>.head g ZU (d.1 x (by rw[hx];exact o)),
   λA o=>let ⟨u,h1,z⟩:=d.2 A (by rw[hx];exact o);⟨u,h1,.head g ZU z⟩⟩
 |goto l=>exact f.elim
 |ret=>exact⟨_,j,i,f,.of_steps (.one g ZU) d⟩
 |panic ch=>exact⟨_,j,i,f,.of_steps (.one g ZU) d⟩
 |outgrown=>exact⟨_,j,i,f,.of_steps (.one g ZU) d⟩
def Ex.out:Ex->Exit
 |.normal=>.normal
 |.exit i=>.exit i
 |.ret=>.ret
def yM{F:Fence}{z:Nat}{P:Program}{Q:Exit->Act->World->Prop}{c:Code}(I:Nat->Act->World->Prop)(round:∀n a w,I n a w->c.wpIn F z P (Exit.then (λj w'=>∃m,m<n/\I m j w') Q) a w) :
 ∀n a w,I n a w->(Code.loop c).wpIn F z P Q a w:=by
 intro n a w D b k u H r hr;have key:∀n a w,I n a w->∃e j w',Q e j w'/\ArrivesIn (Machine.fenced P F) P (lone (b.atR a (.code c::.inLoop c::k)) u w) b k u e j w':=by
  intro n
  induction n using Nat.strongRecOn with
  |_ n B =>
   intro a w C;obtain⟨e,i,g,f,d⟩:=round n a w C b (.inLoop c::k) u H r hr;cases e with
   |normal =>
    obtain⟨m,M,s⟩:=f;obtain⟨E,J,A,o,N⟩:=B m M i g s;exact⟨E,J,A,o,.of_steps (StepsIn.trans d (.one (fenced_calm r hr rfl) stepR_inLoop)) N⟩
   |exit id=>exact⟨_,i,g,f,.pass (x:=.inLoop c) rfl (λ_ _=>.inl au) d⟩
   |goto l=>exact⟨_,i,g,f,.pass (x:=.inLoop c) rfl (λ_ _=>.inl au) d⟩
   |ret=>exact⟨_,i,g,f,.pass (x:=.inLoop c) rfl (λ_ _=>.inl au) d⟩
   |panic ch=>exact⟨_,i,g,f,.pass (x:=.inLoop c) rfl (λ_ _=>.inl au) d⟩
   |outgrown=>exact⟨_,i,g,f,.pass (x:=.inLoop c) rfl (λ_ _=>.inl au) d⟩
 obtain⟨e,j,w',f,d⟩:=key n a w D;exact⟨e,j,w',f,.of_steps (.one (fenced_calm r hr rfl) stepR_loop) d⟩
section
variable {P:Program} {K:bA} {Gl:V9} {aa:Wa} {nt:Nat} {R:Type}
def aC(P:Program)(Gl:V9)(aa:Wa)(nt:Nat)(c:Code)(s:St)(e:Ex)(s':St):Prop :=
 ∀(ro:Option Nat) (n:Nat),(qt c=true->ro=none)->∀(g:Gh) (a:Act) (w:World),SR Gl aa nt g s a w->∀Q:Exit->Act->World->Prop,(∀d w' f,SR Gl aa nt f s' d w'->cS g s.h w f s'.h w'->(qt c=false->d.defers=a.defers)->Q e.out d w')->c.wpIn (QC ro) n P Q a w
def SR.bare{g:Gh}{s:St}{a:Act}{w:World}(h:SR Gl aa nt g s a w)(env:Tr)(he:∀t,({ s with env:=env,loc:=λ_=>none,used:=λ_=>false }:St).at t=s.at t∨({ s with env:=env,loc:=λ_=>none,used:=λ_=>false }:St).at t = .undef) :
 SR Gl aa nt g { s with env:=env,loc:=λ_=>none,used:=λ_=>false } a w:=by
 refine⟨h.hr,h.defers,h.size,h.nt,λt e=>?_,λt e cells i=>?_,λd t o f=>(by cases f),h.dU,λd t o f=>(by cases f)⟩
 .rcases he t with h1|h1
  .rw[h1];exact h.tmps t e
  .rw[h1];exact .aH _ _ (.undef _)
 .rcases he t with h1|h1
  .exact h.eA t e cells (by rw[←h1];exact i)
  .rw[h1] at i;cases i
def qnD(s:St)(h:qa)(l:Wa)(t:Nat):(qB l (z7 s l) h).at t=s.at t∨(qB l (z7 s l) h).at t = .undef:=by
 rcases wt t 1024 with a|a
 ·rw[FE a];have key:∀(l:Wa) (e:Tr),(Tr.get QQ e t=s.at t∨Tr.get QQ e t = .undef)->(Tr.get QQ (yu l (z7 s l) e) t=s.at t∨Tr.get QQ (yu l (z7 s l) e) t = .undef):=by
   intro l
   induction l with
   |nil=>exact λe he=>he
   |cons i l f =>
    intro e he;refine f _ ?_;cases j:Nat.blt i 1024 with
    |false=>simp only[wp];exact he
    |true =>
     have g:=Qb j;simp only[wm];rw[show Tr.get QQ (Tr.set QQ e i (s.at i)) t=_ from Tr.eP 10 e i t _ g a];by_cases d:t=i
     .subst d;rw[wl rfl];exact .inl rfl
     .rw[we d];exact he
  exact key l .nil (.inr rfl)
 .rw[BZ ae];exact .inr rfl
def SR.only{g:Gh}{s:St}{a:Act}{w:World}(h:SR Gl aa nt g s a w)(l:Wa):SR Gl aa nt g (qB l (z7 s l) s.h) a w:=by
 have:=qnD s s.h l;exact h.bare (yu l (z7 s l) .nil) this
def SR.drawn{g:Gh}{s:St}{a:Act}{w:World}(h:SR Gl aa nt g s a w)(n:Nat):SR Gl aa nt g s a { w with drawn:=n }:=by
 have x:z8 g s.h w g s.h { w with drawn:=n }:=⟨λb d=>⟨d,rfl⟩,λ_ b d=>⟨b,d,wc _,λ_=>⟨rfl,rfl,rfl⟩⟩,λ_ _ h=>h⟩;refine⟨⟨λi b d J=>?_,h.hr.u,h.hr.own,h.hr.base,h.hr.cells,h.hr.lt,λi b m d B=>h.hr.eX d B rfl (λ_ r=>r) λ_ _ _=>rfl⟩,h.defers.to (wc _) (λ_ _=>rfl) (λ_ _ _=>rfl) rfl (λ_ h=>.inl h),h.size,h.nt,λt z=>(h.tmps t z).ar x,λt z cells r=>?_,h.loc,λI cells D=>(h.dU I cells D).ar x.u,h.used⟩
 .rcases h.hr.dh i b d J with⟨cb,A,f,e,k⟩|q
  rotate_left
  .exact .inr q
  refine .inl ⟨cb,A,f,e,k.φ,k.own,k.heap,k.room,k.len,λj o c C r=>?_,k.flat⟩;obtain⟨v,h1,H,E⟩:=k.cell j o c C r;exact⟨v,h1,H,E.ar x⟩
 .obtain⟨cb,f,e,M⟩:=h.eA t z cells r;exact⟨cb,f,e,M.ar x rfl rfl⟩
def Ty(x:P.follows .mixedOrders=true)(J:aT P Gl K)(aY:nt<=1024){id:Nat}{ops:Array Oper}{e:Bool}{s s':St}{fE:List FP}
 (A:dC P K Gl aa nt ops.toList ops.toList { s with loc:=λ_=>none,used:=λ_=>false } s' fE) (hd:e=true->ML ops fE=true):aC P Gl aa nt (.region id ops e) s .normal s':=by
 intro ro n _ g a w X Q I;have D:=X.bare s.env (λt=>.inl rfl);cases e with
 |false=>exact wpIn_region_list (A.goes J D ro n Q λC w' z h1 r h3=>I C w' z h1 r λ_=>h3)
 |true =>
  have B:=hd rfl;simp only[ML,wg] at B;have O:fE.length=ops.size:=by
   have:∀{l:List Oper} {s s':St} {fE:List FP},dC P K Gl aa nt ops.toList l s s' fE->fE.length=l.length:=by
    intro l s s' fE h
    induction h with
    |nil=>rfl
    |cons _ _ W=>simp[W]
   have:=this A;simpa using this
  refine wpIn_region_any x ?_;have hO:∀i,i<ops.size->ops[i]?=some (ops.getD i default):=λi hi=>by
   rw[wG,wL hi];rfl
  have FV:(List.range ops.size).map (λi=>ops.getD i default)=ops.toList:=by
   apply List.ext_getElem au;intro i h1 r;simp only[wQ,xt] at h1;simp[wL h1]
  have FW:(List.range ops.size).map (λi=>fE.getD i ⟨[],[],false,false,(none,false),(none,false)⟩)=fE:=by
   apply List.ext_getElem (by simp[O]);intro i h1 r;simp[wj r]
  have FX:∀i j,i<j->j<ops.size->((Region.before ops).getD j 0).testBit i=true∨J0 (fE.getD i ⟨[],[],false,false,(none,false),(none,false)⟩) (fE.getD j ⟨[],[],false,false,(none,false),(none,false)⟩)=false:=by
   intro i j U Z;have H:=Tv _ B.2;rw[List.pairwise_iff_getElem] at H;have E:∀m,m<ops.size->((List.range ops.size).zip fE)[m]?=some (m,fE.getD m ⟨[],[],false,false,(none,false),(none,false)⟩):=by
    intro m x;rw[xp];refine⟨by simp[x],?_⟩;rw[wh,wj ae];rfl
   have Y:((List.range ops.size).zip fE).length=ops.size:=by simp[O]
   have h1:=H i j ae ae U;have N:=E i ae;have M:=E j Z;rw[wj ae] at N M;rw[wa N,wa M] at h1;dsimp only at h1;have e3:(Region.before ops).toList.getD j 0=(Region.before ops).getD j 0:=by
    simp[wh,wG]
   rw[e3] at h1;exact h1
  refine Tw J aY (s':=s') B.1 hO FX ops.size (rem:=List.range ops.size) (listed:=Array.replicate ops.size false) (s:=_) (s1:=s') au ⟨au,λi=>?_,?_,λj o _ k=>?_⟩ (by rw[FV,FW];exact A) (.refl _) (D.drawn _) ro n Q ?_
  .rw[vQ,wG];rcases wt i ops.size with h|h
   .simp[h]
   .rw[xb (by simpa using h)];simp;omega
  .exact List.pairwise_lt_range
  .rw[wG] at k;rcases wt j ops.size with h|h
   .simp[h] at k
   .rw[xb (by simpa using h)] at k;simp at k
  .intro C w' z eF d V;refine I C w' z eF ?_ (λ_=>V);exact⟨⟨d.ar.u,d.ar.ey,d.ar.rm⟩,d.size,d.own,d.os,d.tape,⟨d.output.1,d.output.2⟩,d.same,d.bs,d.u,d.u'⟩
def gY(P:Program)(Gl:V9)(aa:Wa)(nt:Nat)(live:Nat->Bool->Wa)(S:Code->Prop)(rec:Rec):Prop :=
 Z3 rec/\∀b a h e d h',S b->rec _ b a h (λe a h=>some (e,a,h))=some (e,d,h')->aC P Gl aa nt (Z0 b) (qB (live (qz b) false) a h) e (qB (live (qz b) true) d h')
def gY.mono{live:Nat->Bool->Wa}{S:Code->Prop}{rec:Rec}(h:gY P Gl aa nt live (λ_=>True) rec):gY P Gl aa nt live S rec :=
 ⟨h.1,λb a f e g h' _ d=>h.2 b a f e g h' trivial d⟩
def QG(J:P.follows .mixedOrders=true)(M:aT P Gl K)(N:nt<=1024){live:Nat->Bool->Wa}{S:Code->Prop}{rec:Rec}(I:gY P Gl aa nt live S rec) :
 ∀(c:Code) (_:∀b∈qA c,S b) {s:St} {k:Ex->St->Option R} {r:R},ib P K Gl aa nt live rec c s k=some r->∃e s',k e s'=some r/\aC P Gl aa nt c s e s'
 |.skip,_,s,k,r,d=>⟨_,_,d,λro n _ g a w j Q o=>wpIn_skip (o _ _ _ j (cS.refl _ _ _) λ_=>rfl)⟩
 |.label _,_,s,k,r,d=>⟨_,_,d,λro n _ g a w j Q o=>wpIn_label (o _ _ _ j (cS.refl _ _ _) λ_=>rfl)⟩
 |.region id ops V,_,s,k,r,d=>by
  simp only[ib] at d;obtain⟨s',fE,d,ax⟩:=Yo _ d;replace d:=(qm d).2;cases V with
  |false=>exact⟨_,_,d,Ty J M N ax (λh=>by cases h)⟩
  |true =>
   simp only[wm] at d;obtain⟨ho,d⟩:=qm d;exact⟨_,_,d,Ty J M N ax (λ_=>ho)⟩
 |.seq x y,E,s,k,r,d=>by
  simp only[ib] at d;obtain⟨e,s1,d,h1⟩:=QG J M N I x (λb H=>E b (by simp[qA,H])) d;cases e with
  |normal =>
   obtain⟨e2,s2,d,h2⟩:=QG J M N I y (λb H=>E b (by simp[qA,H])) d;exact⟨e2,s2,d,λro n u g a w j Q o=>wpIn_seq (h1 ro n (λh=>u (by simp[qt,h])) g a w j _ λD z g1 C B A=>h2 ro n (λh=>u (by simp[qt,h])) g1 D z C Q λa2 w2 g2 iL oZ tY=>o a2 w2 g2 iL (B.trans oZ) λh=>by simp only[qt,wY] at h;exact(tY h.2).trans (A h.1))⟩
  |exit i=>exact⟨_,_,d,λro n u g a w j Q o=>wpIn_seq (h1 ro n (λh=>u (by simp[qt,h])) g a w j _ λD z g1 C B A=>o D z g1 C B λh=>by simp only[qt,wY] at h;exact A h.1)⟩
  |ret=>exact⟨_,_,d,λro n u g a w j Q o=>wpIn_seq (h1 ro n (λh=>u (by simp[qt,h])) g a w j _ λD z g1 C B A=>o D z g1 C B λh=>by simp only[qt,wY] at h;exact A h.1)⟩
 |.cond c x y,E,s,k,r,d=>by
  simp only[ib] at d;cases X:Ab.ev Gl aa s c with
  |bool t =>
   rw[X] at d;have Z:∀(g:Gh) (a:Act) (w:World),SR Gl aa nt g s a w->a.eval c = .bool t:=λg a w j=>by
    have:=j.ev c;rw[X] at this;exact this.bool
   cases t with
   |true =>
    obtain⟨e,s1,d,h1⟩:=QG J M N I x (λb H=>E b (by simp[qA,H])) d;exact⟨e,s1,d,λro n u g a w j Q o=>wpIn_cond_true (Z g a w j) (h1 ro n (λh=>u (by simp[qt,h])) g a w j Q λD z g1 C B A=>o D z g1 C B λh=>by simp only[qt,wY] at h;exact A h.1)⟩
   |false =>
    obtain⟨e,s1,d,h1⟩:=QG J M N I y (λb H=>E b (by simp[qA,H])) d;exact⟨e,s1,d,λro n u g a w j Q o=>wpIn_cond_false (Z g a w j) (h1 ro n (λh=>u (by simp[qt,h])) g a w j Q λD z g1 C B A=>o D z g1 C B λh=>by simp only[qt,wY] at h;exact A h.2)⟩
  |_=>rw[X] at d;cases d
 |.block id b,E,s,k,r,d=>by
  simp only[ib] at d;obtain⟨e,s1,d,h1⟩:=QG J M N I b (λY H=>E Y (by simp[qA,H])) d;cases e with
  |normal=>exact⟨_,_,d,λro n u g a w j Q o=>wpIn_block (h1 ro n (λh=>u (by simp[qt,h])) g a w j _ λD z g1 C B A=>o D z g1 C B λh=>A (by simpa only[qt] using h))⟩
  |ret=>exact⟨_,_,d,λro n u g a w j Q o=>wpIn_block (h1 ro n (λh=>u (by simp[qt,h])) g a w j _ λD z g1 C B A=>o D z g1 C B λh=>A (by simpa only[qt] using h))⟩
  |exit i =>
   dsimp only at d;rcases qx d with⟨O,d⟩|⟨O,d⟩
   .refine⟨_,_,d,λro n u g a w j Q o=>wpIn_block (h1 ro n (λh=>u (by simp[qt,h])) g a w j _ λD z g1 C B A=>?_)⟩;have O:i=id:=by simpa using O
    simp only[Ex.out,Exit.inBlock,wl O];exact o D z g1 C B λh=>A (by simpa only[qt] using h)
   .refine⟨_,_,d,λro n u g a w j Q o=>wpIn_block (h1 ro n (λh=>u (by simp[qt,h])) g a w j _ λD z g1 C B A=>?_)⟩;have O:i≠id:=by simpa using O
    simp only[Ex.out,Exit.inBlock,we O];exact o D z g1 C B λh=>A (by simpa only[qt] using h)
 |.loop b,E,s,k,r,d=>by
  simp only[ib] at d;rcases qx d with⟨_,d⟩|⟨tZ,d⟩
  .cases d
  obtain⟨⟨e,W,h⟩,d,hr⟩:=qH (I.1 b (z7 s (live (qz b) false)) s.h) (k:=λp=>k p.1 (qB (live (qz b) true) p.2.1 p.2.2)) d;have U:=I.2 b _ _ e W h (E b (by simp[qA])) (hr _ some);rw[show Z0 b = .loop b by simp[Z0,tZ]] at U;exact⟨e,_,d,λro n u g a w j Q o=>U ro n u g a w (j.only _) Q o⟩
 |.exit id,_,s,k,r,d=>⟨_,_,d,λro n _ g a w j Q o=>wpIn_exit (o _ _ _ j (cS.refl _ _ _) λ_=>rfl)⟩
 |.ret,_,s,k,r,d=>⟨_,_,d,λro n _ g a w j Q o=>wpIn_ret (o _ _ _ j (cS.refl _ _ _) λ_=>rfl)⟩
 |.scope b,E,s,k,r,d=>by
  simp only[ib] at d;obtain⟨e,s1,d,h1⟩:=QG J M N I b (λY H=>E Y (by simpa [qA] using H)) d;refine⟨e,s1,d,λro n u g a w j Q o=>Tx (h1 ro n (λh=>u (by simpa [qt] using h)) g a w j _ λD z g1 C B A=>?_)⟩;have:=o D z g1 C B λh=>A (by simpa only[qt] using h);cases e<;>exact this
 |.goto _,_,s,k,r,d=>by simp only[ib] at d;cases d
 |.refuse _,_,s,k,r,d=>by simp only[ib] at d;cases d
 |.rangeFunc f ps x y,E,s,k,r,d=>by
  simp only[ib] at d;obtain⟨⟨e,W,h⟩,d,hr⟩:=qH (I.1 (.rangeFunc f ps x y) (z7 s (live (qz (.rangeFunc f ps x y)) false)) s.h) (k:=λp=>k p.1 (qB (live (qz (.rangeFunc f ps x y)) true) p.2.1 p.2.2)) d;have U:=I.2 _ _ _ e W h (E (.rangeFunc f ps x y) (by simp[qA])) (hr _ some);rw[show Z0 (.rangeFunc f ps x y) = .rangeFunc f ps x y by rfl] at U;exact⟨e,_,d,λro n u g a w j Q o=>U ro n u g a w (j.only _) Q o⟩
def qkX(O:P.follows .mixedOrders=true)(X:aT P Gl K)(aY:nt<=1024){live:Nat->Bool->Wa}{b:Code}(I:Nat->JO->qa->Prop){e1:Ex}{fA:JO}{h1:qa}
 (round:∀n vs h,I n vs h->∃(rec:Rec) (S:Code->Prop),gY P Gl aa nt live S rec/\(∀b'∈qA b,S b')/\∃e s',ib (R:=Ex×St) P K Gl aa nt live rec b (qB (live (qz b) false) vs h) (λe s=>some (e,s))=some (e,s') ∧
  ((e = .normal/\∃m,m<n/\I m (z7 s' (live (qz b) false)) s'.h)∨(e≠.normal/\e=e1/\z7 s' (live (qz b) true)=fA/\s'.h=h1))) :
 ∀n vs h,I n vs h->aC P Gl aa nt (.loop b) (qB (live (qz b) false) vs h) e1 (qB (live (qz b) true) fA h1):=by
 intro n vs h f ro D cL g0 C k J Q N;refine yM (λm a w=>∃d h' g,I m d h'/\SR Gl aa nt g (qB (live (qz b) false) d h') a w/\cS g0 h k g h' w/\(qt b=false->a.defers=C.defers)) (λm a w Y=>?_) n C k ⟨vs,h,g0,f,J,cS.refl _ _ _,λ_=>rfl⟩;obtain⟨d,h',g,f,M,x,o⟩:=Y;obtain⟨rec,S,bq,W,e,s',U,E⟩:=round m d h' f;obtain⟨Z,s2,u,H⟩:=QG O X aY bq b W U;simp only[wi,wy] at u;obtain⟨rfl,rfl⟩:=u;refine H ro D (λh=>cL (by simpa [qt] using h)) g a w M _ λa' w' z A B r=>?_;rcases E with⟨rfl,j,V,Dk⟩|⟨aZ,rfl,rfl,rfl⟩
 .exact⟨j,V,_,_,z,Dk,A.only _,x.trans B,λh=>(r h).trans (o h)⟩
 .have:=N a' w' z (A.only _) (x.trans B) (λh=>by simp only[qt] at h;exact(r h).trans (o h));cases Z with
  |normal=>exact absurd rfl aZ
  |exit i=>exact this
  |ret=>exact this
def kO(s:P.follows .mixedOrders=true)(u:aT P Gl K)(C:nt<=1024){live:Nat->Bool->Wa}:∀n,gY P Gl aa nt live (λ_=>True) (kG P K Gl aa nt live n):=by
 intro n
 induction n using Nat.strongRecOn with
 |_ n r =>
  refine⟨ZS P K Gl aa nt live n,λb d h A z h1 _ a=>?_⟩;have g:Fi b=false:=by
   cases n with
   |zero=>cases a
   |succ j =>
    simp only[kG] at a;rcases qx a with⟨_,a⟩|⟨h,_⟩
    .cases a
    .exact h
  rw[show Z0 b = .loop b by simp[Z0,g]];refine qkX s u C (λm d h=>m<=n/\kG P K Gl aa nt live m _ b d h (λe d h=>some (e,d,h))=some (A,z,h1)) (λm d h x=>?_) n d h ⟨wc _,a⟩;obtain⟨D,a⟩:=x;cases m with
  |zero=>cases a
  |succ j =>
   refine⟨_,_,r j ae,λ_ _=>trivial,?_⟩;simp only[kG,g,wp] at a;obtain⟨⟨e,o⟩,f,B⟩:=qH (Z5 P K Gl aa nt live (ZS P K Gl aa nt live j) b (qB (live (qz b) false) d h)) (k:=λp=>match p.1 with
    |.normal=>kG P K Gl aa nt live j _ b (z7 p.2 (live (qz b) false)) p.2.h λe d h=>some (e,d,h)
    |e=>some (e,z7 p.2 (live (qz b) true),p.2.h)) a
   refine⟨e,o,B _ some,?_⟩;cases e with
   |normal=>exact .inl ⟨rfl,j,ae,ae,f⟩
   |exit i =>
    simp only[wi,wy] at f;exact .inr ⟨au,f.1,f.2.1,f.2.2⟩
   |ret =>
    simp only[wi,wy] at f;exact .inr ⟨au,f.1,f.2.1,f.2.2⟩
end
def Kq(tmps:Array Value):ResultVar->Sem Value
 |.tmp t=>pure (tmps.getD t undef)
 |.cell a t=>do loadVar t (←asAddr (tmps.getD a undef))
def Tz(fn:Func)(tmps:Array Value):results fn tmps=(do let vs ←fn.results.mapM (Kq tmps);pure (if h:vs.size=1 then vs[0] else .tuple vs)):=by
 unfold results
 first|rfl|(congr 1;done)|(congr 1;congr 1;done)|(congr 1;congr 1;funext r;cases r<;>rfl)
section
variable {P:Program} {K:bA} {Gl:V9} {aa:Wa} {nt:Nat} {R:Type} {g:Gh} {s:St} {a:Act} {w:World}
def qi0{ty:TypeId}{v u:Value}(h:(Instr.loadAt ty v).run P w = .ok u w):(do loadVar ty (←asAddr v):Sem Value).run P w = .ok u w:=by
 cases v with
 |pointer p =>
  cases p with
  |some ad=>simpa [Instr.loadAt,Instr.sureAddr,asAddr] using h
  |none=>simp[Instr.loadAt,Instr.sureAddr,stuck] at h
 |_=>simp[Instr.loadAt,Instr.sureAddr,stuck] at h
def qhy(j:SR Gl aa nt g s a w){rv:ResultVar}{k:T->Option R}{r:R}(d:Fj P Gl aa s rv k=some r) :
 ∃x,k x=some r/\∃v,(Kq a.tmps rv).run P w = .ok v w/\g.VR s.h w x v:=by
 cases rv with
 |tmp t =>
  refine⟨_,d,_,rfl,?_⟩;have:=j.ev (.tmp t);simpa [Act.eval] using this
 |cell c J =>
  simp only[Fj] at d;cases i:base aa s (.tmp c) with
  |some p =>
   obtain⟨t,f⟩:=p;rw[i] at d;dsimp only at d;cases C:s.at t with
   |ah cells =>
    rw[C] at d;obtain⟨M,cb,H,e,E,D⟩:=Kn i j C;obtain⟨y,d,u,o,z⟩:=Ip d (E.gz.drop f);rw[wn] at o;have I:a.tmps.getD c undef = .pointer (some ⟨cb,f,none⟩):=by simpa [Act.eval] using D
    refine⟨y,d,u,?_,z⟩;simp[Kq,I,asAddr,o]
   |_=>rw[C] at d;cases d
  |none =>
   rw[i] at d;dsimp only at d;have B:c∉aa:=by
    intro B;have:aa.contains c=true:=by simpa using B
    simp only[base,this,wm] at i;cases i
   obtain⟨y,d,u,o,z⟩:=kf (k:=λv _ _=>k v) d j.hr (j.tmps c B);exact⟨y,d,u,qi0 o,z⟩
def TA(f:SR Gl aa nt g s a w):∀(l:List ResultVar) {k:JO->Option R} {r:R},K4 P Gl aa s l k=some r →
 ∃xs,k xs=some r/\∃vs:List Value,(l.mapM (Kq a.tmps)).run P w = .ok vs w/\xs.length=vs.length/\∀(i:Nat) (x:T),xs[i]?=some x->∃v,vs[i]?=some v/\g.VR s.h w x v
 |[],k,r,d=>⟨[],d,[],rfl,rfl,λi x e=>by simp at e⟩
 |rv::l,k,r,d=>by
  simp only[K4] at d;obtain⟨x,d,v,h1,z⟩:=qhy f d;obtain⟨xs,d,vs,u,o,j⟩:=TA f l d;refine⟨x::xs,d,v::vs,?_,by simp[o],λi y e=>?_⟩
  .simp[List.mapM_cons,h1,u]
  .cases i with
   |zero =>
    simp only[wO,wi] at e;subst e;exact⟨v,rfl,z⟩
   |succ i=>exact j i y (by simpa using e)
def ZN(D:SR Gl aa nt g s a w){fn:Func}{k:T->Option R}{r:R}(e:ZE P Gl aa fn s k=some r) :
 ∃x,k x=some r/\∃v,(results fn a.tmps).run P w = .ok v w/\g.VR s.h w x v:=by
 unfold ZE at e;obtain⟨B,e,d,h1,f,j⟩:=TA D _ e;have H:(fn.results.mapM (Kq a.tmps)).run P w = .ok d.toArray w:=by
  rw[Array.mapM_eq_mapM_toList];rw[map_eq_pure_bind];simp only[Sem.run_bind,h1,Result.andThen_ok,Sem.run_pure]
 rw[Tz];have C:(do let d ←fn.results.mapM (Kq a.tmps);pure (if h:d.size=1 then d[0] else .tuple d):Sem Value).run P w = .ok (if h:d.toArray.size=1 then d.toArray[0] else .tuple d.toArray) w:=by
  simp only[Sem.run_bind,H,Result.andThen_ok,Sem.run_pure]
 have aK:d.length≠1->k (.aK B)=some r->∃x,k x=some r/\∃v,(do let d ←fn.results.mapM (Kq a.tmps);pure (if h:d.size=1 then d[0] else .tuple d):Sem Value).run P w = .ok v w/\g.VR s.h w x v:=by
  intro z e;refine⟨_,e,_,C,?_⟩;rw[dif_neg (by simpa using z)];exact VR.iJ (by simpa using f) (λi c E=>by
   obtain⟨v,o,u⟩:=j i c E;exact⟨v,by simpa using o,u⟩)
 match B,f,j,e,aK with
 |[x],f,j,e,_ =>
  obtain⟨v,o,u⟩:=j 0 x rfl;refine⟨x,e,v,?_,u⟩;rw[C];have z:d.length=1:=by simpa using f.symm
  rw[dif_pos (by simpa using z)];congr 1;rw[wj ae] at o;simpa using wa o
 |[],f,j,e,aK=>exact aK (by simp at f;omega) e
 |x::y::l,f,j,e,aK=>exact aK (by simp at f;omega) e
def TC(t:Nat)(d:t<1024):∀(l:JO) (i:Nat) (e:Tr),i+l.length<=1024->Tr.get QQ (K5 i l e) t=if i<=t/\t<i+l.length then l.getD (t-i) .undef else Tr.get QQ e t
 |[],i,e,_=>by
  rw[we au];rfl
 |x::l,i,e,j=>by
  simp only[vc] at j;simp only[K5];rw[TC t d l (i+1) _ ae];have k:Tr.get QQ (Tr.set QQ e i x) t=if t=i then x else Tr.get QQ e t:=Tr.eP 10 e i t x ae d;rw[k];simp only[vc];by_cases h1:t=i
  .subst h1;rw[we ae,wl rfl,wl ae,wW];rfl
  .rw[we h1];by_cases f:i<=t/\t<i+(l.length+1)
   .rw[wl ae,wl f,show t-i=(t-(i+1))+1 by omega];rfl
   .rw[we ae,we f]
def qlP(args:JO)(h:qa)(e:args.length<=1024)(t:Nat):(enter args h).at t=args.getD t .undef:=by
 rcases wt t 1024 with d|d
 .rw[FE d];have:=TC t d args 0 .nil ae;simp only[wn,wR,true_and,Nat.sub_zero] at this;rw[show(enter args h).env=K5 0 args .nil from rfl,this];split
  .rfl
  .rename_i hx;rw[wh,wz ae];rfl
 .rw[BZ ae,wh,wz ae];rfl
def SR.enter{args:JO}{h:qa}{aA:Array Value}(u:g.low<=w.heap.size)(hr:HR g h w)(B:ZB Gl w g.U)(j:bQ g h w args aA)(C:nt<=1024)(D:args.length<=nt) :
 SR Gl aa nt g (enter args h) { tmps:=aA++Array.replicate (nt-aA.size) undef,defers:=[] } w:=by
 have z:aA.size=args.length:=j.1.symm;have ed:=qlP args h ae;have i:∀t,g.VR h w ((Ab.enter args h).at t) ((aA++Array.replicate (nt-aA.size) undef).getD t undef):=by
  intro t;rw[ed];rcases wt t args.length with e|e
  .obtain⟨v,r,k⟩:=j.2 t args[t] (by simp[e]);rw[wh,wj e,wG,xS ae,r];exact k
  .rw[wh,wz e];exact .aH _ _ (.undef _)
 refine⟨hr,Marks.nil u,by simp[z];omega,C,λt _=>i t,λt _ cells x=>?_,λd t o f=>(by cases f),B,λd t o f=>(by cases f)⟩;have:=i t;rw[x] at this;exact absurd this VR.dP
variable {A:FuncId->cq}
def jl(fn:Func)(s:St):cV λR k=>ZE (R:=R) P Gl aa fn s k:=by
 unfold ZE;refine qD (g:=λd R k=>match d with|[v]=>k v|d=>k (T.aK d)) (Sc P Gl aa s _) λd=>?_
 match d with
 |[v]=>exact qn v
 |[]=>exact qn (T.aK [])
 |x::y::l=>exact qn (T.aK (x::y::l))
def qlQ(fn:Func)(e:Ex)(s:St):cV (A:=T×qa) λR k=>Ij (R:=R) P Gl aa fn e s λv h=>k (v,h):=by
 cases e with
 |exit i=>exact qj
 |normal=>exact qD (g:=λv _ k=>k (v,s.h)) (jl fn s) λv=>qn (v,s.h)
 |ret=>exact qD (g:=λv _ k=>k (v,s.h)) (jl fn s) λv=>qn (v,s.h)
def qkY{rec:Rec}(i:Z3 rec)(f:FuncId)(fn:Func)(c:Code)(d:JO)(h:qa):cV (A:=T×qa) λj k=>Fk P Gl A K rec f fn c d h λv h=>k (v,h):=by
 unfold Fk;refine qw _ (zx (Z5 P K Gl (A f).aa fn.ntmps (A f).live i c (enter d h)) λe s=>qlQ fn e s)
def NC{rec:Func->Rec}(e:∀fn,Z3 (rec fn))(f:FuncId)(d:JO)(h:qa):cV (A:=T×qa) λi k=>j0 P Gl A K rec f d h λv h=>k (v,h):=by
 unfold j0;cases P.funcs[f]? with
 |none=>exact qj
 |some fn =>
  dsimp only;cases fn.body with
  |none=>exact qj
  |some c=>exact qkY (e fn) _ _ _ _ _
def qkZ{rec:Func->Rec}(j:∀fn,Z3 (rec fn)){f:FuncId}{d:JO}{h:qa}{k:T->qa->Option R}{r:R}(e:j0 P Gl A K rec f d h k=some r):∃v h',k v h'=some r/\j0 P Gl A K rec f d h (λv h=>some (v,h))=some (v,h'):=by
 obtain⟨⟨v,h'⟩,h1,i⟩:=qH (NC (P:=P) (K:=K) (Gl:=Gl) (A:=A) j f d h) (k:=λp=>k p.1 p.2) e;exact⟨v,h',h1,i _ some⟩
def SR.world(d:SR Gl aa nt g s a w){w':World}{ds:List Deferred}(E:w.heap.size<=w'.heap.size)(B:∀b,g.U b∨g.own b≠none->w'.heap[b]?=w.heap[b]?)(Q:∀b n,room w b n->room w' b n)
 (O:Marks g w' ds):SR Gl aa nt g s { a with defers:=ds } w':=by
 have C:z8 g s.h w g s.h w':=⟨λb f=>⟨f,B b (.inl f)⟩,λi b f=>⟨b,f,wc _,λ_=>⟨rfl,rfl,rfl⟩⟩,Q⟩;refine⟨⟨λi b f Y=>?_,λb f=>⟨vd (d.hr.u b f).1 E,(d.hr.u b f).2⟩,λb o r=>⟨(d.hr.own b o r).1,vd (d.hr.own b o r).2 E⟩,wN d.hr.base E,λb o r=>d.hr.eU r (B b (.inr (by rw[r];simp))),d.hr.lt,λi b m f S=>d.hr.eX f S rfl (λ_ z=>z) λc _ z=>B c (.inr (by rw[z];simp))⟩,
  O,d.size,d.nt,λt D=>(d.tmps t D).ar C,λt D cells z=>?_,d.loc,λX cells W=>(d.dU X cells W).ar C.u,d.used⟩
 .rcases d.hr.dh i b f Y with⟨cb,I,x,e,k⟩|q
  rotate_left
  .exact .inr q
  exact .inl ⟨cb,I,x,e,k.φ,k.own,(B cb (.inr (by rw[k.own];simp))).trans k.heap,k.room,k.len,λj o c V r=>by
   obtain⟨v,N,M,J⟩:=k.cell j o c V r;exact⟨v,N,M,J.ar C⟩,k.flat⟩
 .obtain⟨cb,x,e,H⟩:=d.eA t D cells z;exact⟨cb,x,e,H.ar C rfl (B cb (.inr (by rw[H.own];simp)))⟩
def HR.dX{h:qa}(hr:HR g h w)(n:Nat)(d:List Deferred:=[]):HR { g with low:=n,dt:=d } h w :=
 ⟨λi b o r=>by
  rcases hr.dh i b o r with⟨cb,k,j,e,f⟩|q
  .exact .inl ⟨cb,k,j,e,f.φ,f.own,f.heap,f.room,f.len,f.cell,f.flat⟩
  .exact .inr q,hr.u,hr.own,hr.base,hr.cells,hr.lt,hr.mp⟩
def dy:Wa->World->World
 |[],w=>w
 |D::l,w=>dy l (w.putObj D (.deferred none))
def jI:∀(l:Wa) (w:World),(dy l w).heap.size=w.heap.size/\(dy l w).os=w.os/\(dy l w).tape=w.tape/\dQ (dy l w) w/\∀b,b∉l->(dy l w).heap[b]?=w.heap[b]?
 |[],w=>⟨rfl,rfl,rfl,.refl _,λ_ _=>rfl⟩
 |D::l,w=>by
  obtain⟨h1,j,i,f,e⟩:=jI l (w.putObj D (.deferred none));refine⟨by simp only[dy];rw[h1,World.putObj_size],by simp only[dy];rw[j];rfl,by simp only[dy];rw[i];rfl,by simp only[dy];exact f.trans ⟨rfl,wc _⟩,λb d=>?_⟩;simp only[wK,not_or] at d;simp only[dy];rw[e b d.2,World.putObj_heap_other d.1]
def Zq{F:Fence}{n:Nat}{fn:Func}{tmps:Array Value}{R:Ending->World->Prop}:∀(l:Wa) (w:World),l.Nodup->(∀D∈l,w.heap[D]?=some (.deferred (some []))) →
 (∃v,(results fn tmps).run P (dy l w) = .ok v (dy l w)/\R (.returned v) (dy l w))->LeavesInM F n P fn tmps R (l.map y7) .returning w
 |[],w,_,_,h=>by simpa [LeavesInM,LeavesIn,dy] using h
 |D::l,w,d,f,h=>by
  rw[List.nodup_cons] at d;refine⟨au,.inl ⟨D,_,rfl,run_takeDeferred (f D au),Zq l _ d.2 (λE e=>?_) h⟩⟩;rw[World.putObj_heap_other (by rintro rfl;exact d.1 e)];exact f E (by simp[e])
def El(P:Program)(Gl:V9)(A:FuncId->cq)(f:FuncId)(rec:Func->Rec):Prop :=
 ∀fn c,P.funcs[f]?=some fn->fn.body=some c->fn.ntmps<=1024->gY P Gl (A f).aa fn.ntmps (A f).live (λb=>b∈qA c) (rec fn)
def TD(hm:P.follows .mixedOrders=true)(hK:aT P Gl K){f:FuncId}{rec:Func->Rec}(bq:El P Gl A f rec){o:JO}{h h':qa}{r:T}(j:j0 P Gl A K rec f o h (λv h=>some (v,h))=some (r,h'))
 {aA:Array Value} (hr:HR g h w) (Y:Km g) (cJ:ZB Gl w g.U) (ha:bQ g h w o aA) :
 Calls P f aA w λe w'=>∃v,e = .returned v/\gV g h w r h' v w':=by
 unfold j0 at j;cases J:P.funcs[f]? with
 |none=>rw[J] at j;cases j
 |some fn =>
  rw[J] at j;dsimp only at j;cases d:fn.body with
  |none=>rw[d] at j;cases j
  |some c =>
   rw[d] at j;dsimp only[Fk] at j;obtain⟨N,j⟩:=qm j;simp only[wg] at N;have S:=Qg N.1;have bv:=Qg N.2;obtain⟨e,V,j,ic⟩:=QG hm hK S (bq fn c J d S) c (λ_ d=>d) j;have iA:=SR.enter (Gl:=Gl) (aa:=(A f).aa) (wc _) (hr.dX w.heap.size) cJ ha S bv;rw[←callsIn_wide (n:=0)];refine callsIn_of_wp_marks J d trivial (ic none 0 (λ_=>rfl) _ _ w iA _ λa' w' B eF k _=>?_) rfl;have C:ZE P Gl (A f).aa fn V (λv=>some (v,V.h))=some (r,h')->LeavesInM Fence.wide 0 P fn a'.tmps (λe w'=>∃v,e = .returned v/\gV g h w r h' v w') a'.defers .returning w':=by
    intro j;obtain⟨pV,l,M,oe,H⟩:=eF.defers;replace M:=M.nil k.dt;obtain⟨t1,t2,t3,t4,E⟩:=jI l w';have o5:B.low=w.heap.size:=k.low;have X:∀b,B.U b∨B.own b≠none->b∉l:=by
     rintro b d z;obtain⟨q1,q2,q3,q4⟩:=H b z;rcases d with d|d
     .exact q3 d
     .exact d q2
    have W:∀b n,room w' b n->room (dy l w') b n:=by
     rintro b n ⟨Q,e,h1,O⟩;refine⟨Q,e,?_,O⟩;rw[E b λz=>?_]
     .exact h1
     .have:=(H b z).2.2.2;rw[h1] at this;cases this
    have Z:=eF.world (w':=dy l w') (ds:=[]) ae (λb d=>E b (X b d)) W (Marks.nil ae);obtain⟨x,j,v,h1,O⟩:=ZN Z j;simp only[wi,wy] at j;obtain⟨rfl,rfl⟩:=j;rw[M];refine Zq l w' oe (λD hD=>(H D hD).2.2.2) ⟨v,h1,v,rfl,{ B with own:=λb=>match B.own b with|some (.inl i)=>some (.inl i)|_=>none,low:=g.low,dt:=g.dt },(Z.hr.gX).dX g.low g.dt,O,?_,?_⟩
    .exact k.ar.trans ⟨λb d=>⟨d,E b (X b (.inl d))⟩,λi b d=>⟨b,d,wc _,λ_=>⟨rfl,rfl,rfl⟩⟩,W⟩
    .refine⟨by have:=k.size;omega,λb d=>?_,t2.trans k.os,t3.trans k.tape,t4.trans k.output,λb d hn=>?_,?_,k.u,λb d t=>by dsimp only;split<;>simp⟩
     .dsimp only;rw[k.own b d];dsimp only;cases I:g.own b with
      |none=>rfl
      |some q =>
       cases q with
       |inl i=>rfl
       |inr t=>exact absurd I (Y b t)
     .rw[E b λz=>by have:=(H b z).1;omega];refine k.same b d ?_;dsimp only;cases I:g.own b with
      |none=>rfl
      |some q =>
       cases q with
       |inl i=>exact absurd I (hn i)
       |inr t=>exact absurd I (Y b t)
     .have:=k.base;simp only[Gh.bs,this]
   cases e with
   |normal=>exact C j
   |ret=>exact C j
   |exit i=>cases j
def ND(N:P.follows .mixedOrders=true)(V:aT P Gl K){f:FuncId}{rec:Func->Rec}(NE:∀fn,Z3 (rec fn))(Y:El P Gl A f rec){k:JO}{r:T}(O:j0 P Gl A K rec f k [] (λv h=>some (ye h v))=some r)
 {aA:Array Value} {U:Nat->Prop} (S:∀b,U b->b<w.heap.size) (W:ZB Gl w U) (E:ID w U k aA) :
 Calls P f aA w λe w'=>∃v,e = .returned v/\RV w U r v w':=by
 obtain⟨rv,h',FY,M⟩:=qkZ NE O;obtain rfl:=wa FY
 let g0:Gh:={ U:=U,φ:=λ_=>none,own:=λ_=>none,base:=w.heap.size,low:=0 }
 have hr:HR g0 [] w:=⟨λi b d=>by simp at d,λb d=>⟨S b d,rfl⟩,λb o z=>(by cases z),wc _,λb o z=>(by cases z),λb i z=>(by cases z),λi b m d=>by simp at d⟩;refine(TD (g:=g0) N V Y M hr (λb t=>by simp[g0]) W ⟨E.1,λi x Q=>?_⟩).mono λe w' ⟨v,he,Z⟩=>⟨v,he,?_⟩
 .obtain⟨v,D,C⟩:=E.2 i x Q;exact⟨v,D,.aH _ _ C⟩
 .obtain⟨H,I,hx,Ba,j⟩:=Z;have dS:H.base=w.heap.size:=j.base;obtain⟨X,D,C,J⟩:=Kk I (B:=w.heap.size) ae hx;refine⟨⟨⟨j.os,j.tape,j.output.1,j.size,λb d=>j.same b d (λi=>by simp[g0])⟩,j.output.2⟩,y8 H w' w.heap.size (ZK rv),X,λb d=>.inl (Ba.u b d).1,λb d=>?_,C,J,D⟩;rcases d with d|d
  .exact⟨j.u b d,(I.u b d).1⟩
  .exact⟨.inr d.1,d.2.1⟩
def QF(P:Program):Bool:=P.funcs.all λfn=>fn.body.isNone || !(fn.name=="runtime.NumGoroutine")
def Y6(o:QF P=true){rec:Func->Rec}{f:FuncId}{e:JO}{h:qa}{k:T->qa->Option R}{r:R}(d:j0 P Gl A K rec f e h k=some r):∃fn,P.funcs[f]?=some fn/\fn.body.isNone=false/\(fn.name=="runtime.NumGoroutine")=false:=by
 unfold j0 at d;cases i:P.funcs[f]? with
 |none=>rw[i] at d;cases d
 |some fn =>
  rw[i] at d;dsimp only at d;cases j:fn.body with
  |none=>rw[j] at d;cases d
  |some c =>
   refine⟨fn,rfl,by rw[j];rfl,?_⟩;have:=xI.1 o fn (vM i);rw[j] at this;simpa using this
def kP(P:Program)(Gl:V9)(A:FuncId->cq)(K:bA)(m:Nat)(f:FuncId):∀fn,Z3 (uy P Gl A K m f fn):=λd=>ZS P K Gl _ _ _ m
def IL(d:P.follows .mixedOrders=true)(e:aT P Gl K)(m:Nat)(f:FuncId):El P Gl A f (uy P Gl A K m f):=λ_ _ _ _ i=>(kO d e i m).mono
def qv:bA:=⟨λ_=>false,λ_ _ _ _=>none,λ_ _ _ _ _=>none,λ_ _=>qj,λ_ _ _=>qj,λ_=>false⟩
def qp:aT P Gl qv :=
 ⟨λf hx=>(by rcases hx with⟨d,r,hx⟩|⟨d,h,r,hx⟩<;>cases hx),λf d r hx=>(by cases hx),λf d h r h' hx=>(by cases hx),λf e=>by cases e⟩
inductive o9 where
 |none
 |ret (v:T)
 |ite (c:Bool) (x y:o9)
def o9.run{R:Type}:o9->(T->Option R)->Option R
 |.none,_=>Option.none
 |.ret v,k=>k v
 |.ite c x y,k=>bif c then x.run k else y.run k
def o9.v4:∀t:o9,cV λR k=>t.run (R:=R) k
 |.none=>qj
 |.ret v=>qn v
 |.ite c x y=>qK c x.v4 y.v4
def bA.add(K:bA)(f:FuncId)(i:JO->o9):bA where
 cN e:=bif e==f then false else K.cN e
 ref:=K.ref
 val e d R k:=bif e==f then(i d).run k else K.val e d R k
 dv e d:=qK _ (i d).v4 (K.dv e d)
 dw:=K.dw
 ro:=K.ro
end
section
variable {w:World} {U:Nat->Prop}
end
section
variable {P:Program} {K:bA} {Gl:V9} {A:FuncId->cq}
end
inductive LT where
 |none
 |ret (e:Ex) (vs:JO) (h:qa)
 |ite (c:Bool) (x y:LT)
def LT.run{R:Type}:LT->(Ex->JO->qa->Option R)->Option R
 |.none,_=>Option.none
 |.ret e a h,k=>k e a h
 |.ite c x y,k=>bif c then x.run k else y.run k
def LT.v4:∀t:LT,cV (A:=Ex×JO×qa) λR k=>t.run (R:=R) λe vs h=>k (e,vs,h)
 |.none=>qj
 |.ret e vs h=>qn (e,vs,h)
 |.ite c x y=>qK c x.v4 y.v4
def Z6(P:Program)(f:FuncId)(r:Nat):Code:=match P.funcs[f]? with
 |some fn=>match fn.body with
  |some c=>((qA c).find? λb=>qz b==r).getD .skip
  |none=>.skip
 |none=>.skip
def F0:Wa->Bool
 |[]=>true
 |a::l=>!(l.contains a)&&F0 l
def zc(P:Program)(f:FuncId):Bool:=match P.funcs[f]? with
 |some fn=>match fn.body with
  |some c=>F0 ((qA c).map qz)
  |none=>true
 |none=>true
def Y7:List (Nat×(JO->qa->LT))->(Func->Rec)->Func->Rec
 |[],base,fn,R,b,d,h,k=>base fn R b d h k
 |(r,a)::l,base,fn,R,b,d,h,k=>bif qz b==r then(a d h).run k else Y7 l base fn R b d h k
section
variable {P:Program} {K:bA} {Gl:V9} {A:FuncId->cq}
def aG(P:Program)(Gl:V9)(an:cq)(f:FuncId)(r:Nat)(a:JO->qa->LT):Prop :=
 ∀fn,P.funcs[f]?=some fn->fn.ntmps<=1024->∀d h e g h',(a d h).run (λe d h=>some (e,d,h))=some (e,g,h') →
  aC P Gl an.aa fn.ntmps (Z0 (Z6 P f r)) (qB (an.live r false) d h) e (qB (an.live r true) g h')
def jm{base:Func->Rec}(e:∀fn,Z3 (base fn)):∀(l:List (Nat×(JO->qa->LT))) (fn:Func),Z3 (Y7 l base fn)
 |[],fn=>e fn
 |(r,a)::l,fn=>λb d h=>by
  simp only[Y7];exact qK _ (a d h).v4 (jm e l fn b d h)
def TH:∀{l:List Code} {b:Code},F0 (l.map qz)=true->b∈l->l.find? (λx=>qz x==qz b)=some b
 |[],b,_,h=>by cases h
 |a::l,b,d,h=>by
  simp only[xA,F0,wg,vn] at d;rcases wK.1 h with rfl|h
  .simp
  ·have g:qz a≠qz b:=λe=>by
    have:qz a∈l.map qz:=by rw[e];exact List.mem_map_of_mem h
    have f:(l.map qz).contains (qz a)=true:=List.contains_iff_mem.2 this;rw[f] at d;cases d.1
   rw[List.find?_cons_of_neg (by simpa using g)];exact TH d.2 h
def TI{f:FuncId}{fn:Func}{c b:Code}(a:zc P f=true)(d:P.funcs[f]?=some fn)(e:fn.body=some c)(h:b∈qA c):Z6 P f (qz b)=b:=by
 unfold zc at a;rw[d] at a;dsimp only at a;rw[e] at a;unfold Z6;rw[d];dsimp only;rw[e];dsimp only;rw[TH a h];rfl
def Kr{f:FuncId}(s:zc P f=true){base:Func->Rec}(B:∀fn,Z3 (base fn))(o:El P Gl A f base) :
 ∀{l:List (Nat×(JO->qa->LT))},(∀p∈l,aG P Gl (A f) f p.1 p.2)->El P Gl A f (Y7 l base)
 |[],_=>o
 |(r,d)::l,j=>by
  intro fn c g k x;have C:=Kr s B o (l:=l) (λp D=>j p (by simp[D])) fn c g k x;refine⟨jm B _ fn,λb i h e z h' u a=>?_⟩;simp only[Y7] at a;rcases qx a with⟨hr,a⟩|⟨_,a⟩
  .have hr:qz b=r:=by simpa using hr
   have:=j (r,d) au fn g x i h e z h' a;dsimp only at this;rw[←hr,TI s g k u] at this;exact this
  .exact C.2 b i h e z h' u a
def ZV(P:Program)(G:V9)(A:FuncId->cq)(K:bA)(m:Nat)(f:FuncId)(l:List (Nat×(JO->qa->LT)))(a:JO):Option T :=
 j0 P G A K (Y7 l (uy P G A K m f)) f a [] λv h'=>some (ye h' v)
structure aI(P:Program)(Gl:V9)(f:FuncId)(args:JO)(r:T):Prop where
 enters:∃fn,P.funcs[f]?=some fn/\fn.body.isNone=false/\(fn.name=="runtime.NumGoroutine")=false
 calls:∀(w:World) (U:Nat->Prop) (aA:Array Value),(∀b,U b->b<w.heap.size)->ZB Gl w U->ID w U args aA →
  Calls P f aA w λe w'=>∃v,e = .returned v/\RV w U r v w'
def Qm(d:P.follows .mixedOrders=true)(g:QF P=true)(e:aT P Gl K){m:Nat}{f:FuncId}(j:zc P f=true){l:List (Nat×(JO->qa->LT))}
 (i:∀p∈l,aG P Gl (A f) f p.1 p.2) {a:JO} {r:T} (h:ZV P Gl A K m f l a=some r):aI P Gl f a r :=
 ⟨Y6 g h,λ_ _ _ k o s=>ND d e (jm (kP P Gl A K m f) l) (Kr j (kP P Gl A K m f) (IL d e m f) i) h k o s⟩
def QA(d:P.follows .mixedOrders=true)(g:QF P=true)(e:aT P Gl K){m:Nat}{f:FuncId}{a:JO}{r:T}(h:Yw P Gl A K m f a=some r):aI P Gl f a r :=
 ⟨Y6 g h,λ_ _ _ i j k=>ND d e (kP P Gl A K m f) (IL d e m f) h i j k⟩
def qr{u:bA}(i:aT P Gl u){f:FuncId}{d:JO->o9}(j:∀a r,(d a).run some=some r->aI P Gl f a r):aT P Gl (u.add f d):=by
 refine⟨λe hx=>?_,λe a r hx w U aA o s k=>?_,i.ref,i.ro⟩
 .rcases hx with⟨a,r,hx⟩|hx
  .simp only[bA.add] at hx;rcases qx hx with⟨he,g⟩|⟨_,g⟩
   .have he:e=f:=by simpa using he
    subst he;exact(j a r g).enters
   .exact i.enters e (.inl ⟨a,r,g⟩)
  .exact i.enters e (.inr hx)
 .simp only[bA.add] at hx;rcases qx hx with⟨he,g⟩|⟨_,g⟩
  .have he:e=f:=by simpa using he
   subst he;exact(j a r g).calls w U aA o s k
  .exact i.val e a r g w U aA o s k
def QB(P:Program)(G:V9)(A:FuncId->cq)(K:bA)(m:Nat)(f:FuncId)(l:List (Nat×(JO->qa->LT)))(r:Nat)(vs:JO)(h:qa):Option (Ex×JO×qa) :=
 match P.funcs[f]? with
 |some fn=>ib P K G (A f).aa fn.ntmps (A f).live (Y7 l (uy P G A K m f) fn) (Z6 P f r) (qB ((A f).live r false) vs h) λe a=>match e with
  |.normal=>some (.normal,z7 a ((A f).live r false),a.h)
  |e=>some (e,z7 a ((A f).live r true),a.h)
 |none=>none
def JE(P:Program)(f:FuncId)(r:Nat):Bool:=match P.funcs[f]? with
 |some fn=>match fn.body with
  |some c=>F0 ((qA c).map qz)&&(qA c).any λb=>qz b==r&&!(Fi b)
  |none=>false
 |none=>false
def Qy:∀(c:Code) {b d:Code},b∈qA c->d∈qA b->d∈qA c
 |.seq x y,b,d,a,e=>by
  simp only[qA,wS] at a ⊢;rcases a with a|a
  .exact .inl (Qy x a e)
  .exact .inr (Qy y a e)
 |.cond _ x y,b,d,a,e=>by
  simp only[qA,wS] at a ⊢;rcases a with a|a
  .exact .inl (Qy x a e)
  .exact .inr (Qy y a e)
 |.block _ x,b,d,a,e=>by
  simp only[qA] at a ⊢;exact Qy x a e
 |.loop x,b,d,a,e=>by
  simp only[qA,wK] at a ⊢;rcases a with rfl|a
  .exact .inr e
  .exact .inr (Qy x a e)
 |.skip,_,_,a,_=>by simp[qA] at a
 |.label _,_,_,a,_=>by simp[qA] at a
 |.region ..,_,_,a,_=>by simp[qA] at a
 |.exit _,_,_,a,_=>by simp[qA] at a
 |.ret,_,_,a,_=>by simp[qA] at a
 |.scope x,b,d,a,e=>by
  simp only[qA] at a ⊢;exact Qy x a e
 |.goto _,_,_,a,_=>by simp[qA] at a
 |.refuse _,_,_,a,_=>by simp[qA] at a
 |.rangeFunc g ps x y,b,d,a,e=>by
  simp only[qA,wK,wS] at a ⊢;rcases a with rfl|a|a
  .simpa only[qA,wK,wS] using e
  .exact .inr (.inl (Qy x a e))
  .exact .inr (.inr (Qy y a e))
def qk1{f:FuncId}{r:Nat}(a:JE P f r=true){fn:Func}(i:P.funcs[f]?=some fn):zc P f=true/\∃c,fn.body=some c/\Z6 P f r∈qA c/\qz (Z6 P f r)=r/\Z0 (Z6 P f r) = .loop (Z6 P f r):=by
 unfold JE at a;rw[i] at a;dsimp only at a;cases g:fn.body with
 |none=>rw[g] at a;cases a
 |some c =>
  rw[g] at a;simp only[wg] at a;obtain⟨h1,j⟩:=a;rw[List.any_eq_true] at j;obtain⟨b,k,d⟩:=j;simp only[wg,vn,vf] at d;obtain⟨d,s⟩:=d;have o:zc P f=true:=by unfold zc;rw[i];dsimp only;rw[g];exact h1
  have e:=TI o i g k;rw[d] at e;exact⟨o,c,rfl,by rw[e];exact k,by rw[e];exact d,by rw[e];simp[Z0,s]⟩
end
def mH(x y:T):Prop:=∀w U v,VI w U x v->VI w U y v
def mH.refl(x:T):mH x x:=λ_ _ _ h=>h
def mH.undef(x:T):mH x .undef:=λ_ _ v _=>.undef v
def eO(l m:JO):Prop:=l.length=m.length/\∀(i:Nat) a b,l[i]?=some a->m[i]?=some b->mH a b
def eO.refl(l:JO):eO l l:=⟨rfl,λi a b h1 d=>by rw[h1] at d;obtain rfl:=wa d;exact .refl _⟩
def eO.nil:eO [] []:=.refl _
def eO.cons{x y:T}{l m:JO}(h:mH x y)(e:eO l m):eO (x::l) (y::m):=by
 refine⟨by simp[e.1],λi a b h1 d=>?_⟩;cases i with
 |zero=>simp at h1 d;subst h1;subst d;exact h
 |succ i=>exact e.2 i a b (by simpa using h1) (by simpa using d)
def eO.get{l m:JO}(h:eO l m){i:Nat}{b:T}(d:m[i]?=some b):∃a,l[i]?=some a/\mH a b:=by
 have f:i<m.length:=by
  rcases wt i m.length with q|q
  .exact q
  .simp[q] at d
 have e:l[i]?=some (l[i]'(by rw[h.1];exact f)):=wj _;exact⟨_,e,h.2 i _ _ e d⟩
def mH.view{sz n:Nat}{g g':Nat->JO}{c e:Option Nat}(u:e=c∨e=none)(r:∀j,j<n->eO (g j) (g' j)):mH (.view sz n g c) (.view sz n g' e):=by
 intro w U v h;cases h with
 |eS _ _ _ A =>
  exact .eS _ _ _ (by rcases u with h|h<;>rw[h]<;>first|exact A|exact .inl rfl)
 |view _ _ _ _ a cc z i I D H E B C =>
  refine .view sz n g' e a cc z i (λm s=>?_) D H (λj d=>by rw[←(r j d).1];exact E j d) (λj o x d k=>?_) (λj o x d k=>?_)
  .rcases u with rfl|rfl
   .exact I m s
   .cases s
  .obtain⟨y,f,_⟩:=(r j d).get k;exact B j o y d f
  .obtain⟨y,f,i⟩:=(r j d).get k;exact i _ _ _ (C j o y d f)
def mH.agg{l m:JO}(h:eO l m):mH (.agg l) (.agg m):=by
 intro w U v d;cases d with
 |agg _ o f j h1 k d =>
  refine .agg m o f (by rw[←h.1];exact j) h1 (λi c e=>?_) (λi c e=>?_)
  .obtain⟨y,a,_⟩:=h.get e;exact k i y a
  .obtain⟨y,a,g⟩:=h.get e;exact g _ _ _ (d i y a)
section
variable {P:Program} {Gl:V9} {aa:Wa} {nt:Nat}
end
def aI.IN{P:Program}{Gl:V9}{f:FuncId}{a g:JO}{r:T}(h:aI P Gl f g r)(d:eO a g):aI P Gl f a r :=
 ⟨h.enters,λw U aA s u e=>h.calls w U aA s u ⟨by rw[←d.1];exact e.1,λi x hx=>by
  obtain⟨y,o,z⟩:=d.get hx;obtain⟨v,k,j⟩:=e.2 i y o;exact⟨v,k,z _ _ _ j⟩⟩⟩
def eO.Ue{x:T}{l m:List T}(h:eO l m):eO (x::l) (x::m):=.cons (.refl _) h
open Go.ChangeShapes Go.WideShapes Go.ChangeAt Go.RowKit
def F2:Option TypeDesc->Bool
 |some .bool|some (.int _)|some .string|some (.struct _)|some (.array _ _)|some (.slice _)|none=>false
 |_=>true
inductive CT(P:Program){H:Type}:TypeId->JO->DataW H->Prop
 |bool (t:TypeId) (b:Bool) (ht:P.underlying t=some .bool):CT P t [.bool b] (.lit (.bool b))
 |int (t:TypeId) (k:IntKind) (n:Int) (ht:P.underlying t=some (.int k)) (hn:(Lit.int k n).wf=true):CT P t [.int k n] (.lit (.int k n))
 |str (t:TypeId) (s:List UInt8) (ht:P.underlying t=some .string) (hs:s.length<=maxLen):CT P t [.str s] (.lit (.string s))
 |ag (t e:TypeId) (ht:P.underlying t=some (.slice e)):CT P t [.ag] .nil
 |view (t e:TypeId) (n c:Nat) (g:Nat->JO) (bh spare:List (DataW H)) (ht:P.underlying t=some (.slice e)) (he:bh.length=n) (hs:spare.length=c-n) (hn:n<=c) (hc:c<=maxLen)
  (hg:∀j d,bh[j]?=some d->CT P e (g j) d):CT P t [.view (P.cellsOf e) n g (some c)] (.slice bh spare)
 |thin (t e:TypeId) (d:DataW H) (ht:P.underlying t=some (.slice e)) (h0:P.cellsOf e=0):CT P t [.undef] d
 |struct (t:TypeId) (fs:Array Field) (parts:List JO) (ds:List (DataW H)) (ht:P.underlying t=some (.struct fs)) (h1:parts.length=fs.size) (h2:ds.length=fs.size)
  (hp:∀(i:Nat) f p d,fs[i]?=some f->parts[i]?=some p->ds[i]?=some d->CT P f.type p d):CT P t parts.flatten (.agg ds)
 |array (t e:TypeId) (n:Nat) (parts:List JO) (ds:List (DataW H)) (ht:P.underlying t=some (.array n e)) (h1:parts.length=n) (h2:ds.length=n)
  (hp:∀(i:Nat) p d,parts[i]?=some p->ds[i]?=some d->CT P e p d):CT P t parts.flatten (.agg ds)
 |AF (t:TypeId) (d:DataW H) (ht:F2 (P.underlying t)=true):CT P t [.undef] d
def bN(w:World)(U:Nat->Prop)(ts:JO)(cs:List Value):Prop :=
 ts.length=cs.length/\∀(i:Nat) (c:T),ts[i]?=some c->∃v,cs[i]?=some v/\VI w U c v/\v.oneCell'=true
def bN.nil{w:World}{U:Nat->Prop}:bN w U [] []:=⟨rfl,λi c h=>by simp at h⟩
def bN.one{w:World}{U:Nat->Prop}{c:T}{v:Value}(h:VI w U c v)(h1:v.oneCell'=true):bN w U [c] [v] :=
 ⟨rfl,λi x hx=>by
  cases i with
  |zero=>simp at hx;subst hx;exact⟨v,rfl,h,h1⟩
  |succ i=>simp at hx⟩
def bN.append{w:World}{U:Nat->Prop}{a b:JO}{c d:List Value}(h:bN w U a c)(h':bN w U b d):bN w U (a++b) (c++d):=by
 refine⟨by simp[h.1,h'.1],λi x hx=>?_⟩;rcases wt i a.length with e|e
 .rw[wx e] at hx;rw[wx (by rw[←h.1];exact e)];exact h.2 i x hx
 .rw[wH e] at hx;rw[wH (by rw[←h.1];exact e),←h.1];exact h'.2 _ x hx
def bN.flatten{w:World}{U:Nat->Prop}:∀{ps:List JO} {d:List (List Value)},ps.length=d.length->(∀(i:Nat) p q,ps[i]?=some p->d[i]?=some q->bN w U p q)->bN w U ps.flatten d.flatten
 |[],[],_,_=>.nil
 |p::ps,q::d,a,h=>by
  simp only[List.flatten_cons];exact(h 0 p q rfl rfl).append (bN.flatten (by simpa using a) λi p q f e=>h (i+1) p q (by simpa using f) (by simpa using e))
 |[],_::_,a,_=>by simp at a
 |_::_,[],a,_=>by simp at a
def jn{α:Type}:∀(sz:Wa) (cs:List α),cs.length=sz.sum->((List.range sz.length).map λi=>(cs.drop (sz.take i).sum).take (sz.getD i 0)).flatten=cs
 |[],cs,h=>by simp at h;subst h;rfl
 |s::sz,cs,h=>by
  have a:=jn sz (cs.drop s) (by simp at h ⊢;omega);rw[vc,List.range_succ_eq_map,xA,List.flatten_cons,List.map_map];have e:(List.map ((λi=>(cs.drop (List.take i (s::sz)).sum).take ((s::sz).getD i 0))∘Nat.succ) (List.range sz.length))=(List.range sz.length).map λi=>((cs.drop s).drop (sz.take i).sum).take (sz.getD i 0):=by
   apply va;intro i _;simp[List.drop_drop]
  rw[e,a];simp
section
variable {H:Type} {enc:TypeId×Value->H} {P:Program} {w:World} {base:Nat} {spare:Nat->Bool} {held:Bool}
def NK(d:laidOutB P=true){t:TypeId}(a:isVar P t=true):rowFine P t=true:=by
 simp only[laidOutB,wg] at d;have h1:=d.1.1;simp only[isVar,wg,wC] at a;exact wA.1 h1 t (by simpa using a.1)
def qhz(g:laidOutB P=true){t:TypeId}(d:isVar P t=true){fs:Array Field}(e:P.underlying t=some (.struct fs)) :
 (∀(i:Nat) f,fs[i]?=some f->isVar P f.type=true)/\P.cellsOf t=(fs.toList.map λf=>P.cellsOf f.type).sum/\∀(i:Nat) f,fs[i]?=some f->f.offset=((fs.toList.take i).map λf=>P.cellsOf f.type).sum:=by
 have h:=NK g d;unfold rowFine at h;rw[d,e] at h;simp only[Bool.not_true,ub,wg,vf] at h;obtain⟨⟨h1,o⟩,k⟩:=h;refine⟨λi f a=>wA.1 h1 f (by rw[Array.mem_toList_iff];exact vM a),o,λi f a=>?_⟩;have j:i<fs.toList.length:=by
  rcases wt i fs.size with q|q
  .simpa using q
  .simp[q] at a
 have:=wA.1 k i (by simpa using j);have r:fs.toList[i]?=some f:=by simpa using a
 rw[r] at this;simpa using this
def qi3(f:laidOutB P=true){t e:TypeId}{n:Nat}(a:isVar P t=true)(d:P.underlying t=some (.array n e)):isVar P e=true/\P.cellsOf t=n*P.cellsOf e:=by
 have h:=NK f a;unfold rowFine at h;rw[a,d] at h;simpa using h
def qi4(f:laidOutB P=true){t e:TypeId}(a:isVar P t=true)(d:P.underlying t=some (.slice e)):isVar P e=true:=by
 have h:=NK f a;unfold rowFine at h;rw[a,d] at h;simp at h;exact h.1
def cells?_some{a:Addr}{n:Nat}{l:List Value}(h:w.cells? base a n=some l):l.length=n/\∀i,i<n->w.cell? (a.add i)=l[i]?:=by
 unfold World.cells? at h;split at h
 .exact⟨by simpa using mapM_some_length h,λi d=>mapM_some_get h i i (by simp[d])⟩
 .cases h
def Y8{α β:Type}{R:Nat->α->β->Prop}:∀(l:List α),(∀(i:Nat) a,l[i]?=some a->∃b,R i a b)->∃m:List β,m.length=l.length/\∀(i:Nat) a b,l[i]?=some a->m[i]?=some b->R i a b
 |[],_=>⟨[],rfl,λi a b h=>by simp at h⟩
 |x::l,h=>by
  obtain⟨b,g⟩:=h 0 x rfl;obtain⟨m,f,hr⟩:=Y8 (R:=λi=>R (i+1)) l λi a d=>h (i+1) a (by simpa using d);refine⟨b::m,by simp[f],λi a c d e=>?_⟩;cases i with
  |zero=>simp at d e;subst d;subst e;exact g
  |succ i=>exact hr i a c (by simpa using d) (by simpa using e)
def qlS{d:Nat}{t:TypeId}{cs:List Value}{x:DataW H×List MemPlace}(a:F2 (P.underlying t)=true)(h:DataW.trod enc P w base spare held d t cs=some x):∃v,cs=[v]/\v.oneCell'=true:=by
 cases d with
 |zero=>simp[DataW.trod] at h
 |succ n =>
  unfold DataW.trod at h;split at h<;>rename_i e<;>first
   |exact⟨_,rfl,rfl⟩
   |(rw[e] at a;simp[F2] at a)
   |cases h
def qi5{a:Nat}{t:TypeId}{cs:List Value}{x:DataW H×List MemPlace}(h:DataW.trod enc P w base spare held a t cs=some x):P.underlying t≠none:=by
 intro e;cases a with
 |zero=>simp[DataW.trod] at h
 |succ n =>
  unfold DataW.trod at h;rw[e] at h;simp at h
def TK(hl:laidOutB P=true)(sw:∀b,spare b=true):∀(dW:Nat) (t:TypeId) (cs:List Value) (x:DataW H×List MemPlace),isVar P t=true->DataW.trod enc P w base spare held dW t cs=some x →
 ∃ts,CT P t ts x.1/\bN w (λb=>b<w.heap.size) ts cs:=by
 intro dW
 induction dW with
 |zero=>intro t cs x _ h;simp[DataW.trod] at h
 |succ n ih =>
  intro t cs x hv h;cases g:P.underlying t with
  |none=>exact absurd g (qi5 h)
  |some de =>
   have NL:F2 (P.underlying t)=true->∃ts,CT P t ts x.1/\bN w (λb=>b<w.heap.size) ts cs:=λU=>by
    obtain⟨v,rfl,h1⟩:=qlS U h;exact⟨[.undef],.AF t _ U,.one (.undef _) h1⟩
   cases de with
   |bool =>
    unfold DataW.trod at h;rw[g] at h;split at h<;>rename_i e<;>simp at e
    .obtain rfl:=wa h;exact⟨_,.bool t _ g,.one (.bool _) rfl⟩
    .cases h
   |int k =>
    unfold DataW.trod at h;rw[g] at h;split at h<;>rename_i e<;>simp at e
    .subst e;split at h
     .rename_i hc;obtain⟨rfl,hwf⟩:=hc;obtain rfl:=wa h;exact⟨_,.int t _ _ g hwf,.one (.int _ _) rfl⟩
     .cases h
    .cases h
   |string =>
    unfold DataW.trod at h;rw[g] at h;split at h<;>rename_i e<;>simp at e
    .split at h
     .rename_i s hc;obtain rfl:=wa h;exact⟨_,.str t _ g (by simpa using hc),.one (.str _ s rfl) rfl⟩
     .cases h
    .cases h
   |struct fs =>
    obtain⟨xs,m,Z,rfl,bc,uC,fm⟩:=DataW.trod_struct g h;obtain rfl:n=m:=by omega
    obtain⟨Y,I,q3⟩:=qhz hl hv g;obtain⟨parts,W,S⟩:=Y8 (α:=Field) (β:=JO) (R:=λi f p=>∃y,xs[i]?=some y/\CT P f.type p y.1/\bN w (λb=>b<w.heap.size) p ((cs.drop f.offset).take (P.cellsOf f.type))) fs.toList (λi f V=>by
     have V:fs[i]?=some f:=by simpa using V
     have D:i<fs.size:=by
      rcases wt i fs.size with q|q
      .exact q
      .simp[q] at V
     have hx:xs[i]?=some xs[i]:=wj ae;obtain⟨ts,E,u⟩:=ih f.type _ xs[i] (Y i f V) ((fm i f V).trans hx);exact⟨ts,xs[i],hx,E,u⟩)
    refine⟨parts.flatten,.struct t fs parts _ g (by simpa using W) (by simpa using uC) (λi f p d V B O=>?_),?_⟩
    .obtain⟨y,E,u,_⟩:=S i f p (by simpa using V) B;rw[wE,E] at O;obtain rfl:=wa O;exact u
    ·have Dm:=jn (fs.toList.map λf=>P.cellsOf f.type) cs (by rw[bc,I]);rw[←Dm];refine bN.flatten (by simp[W]) λi p q B J=>?_;have D:i<fs.size:=by
      rcases wt i parts.length with r|r
      ·simpa [W] using r
      ·simp[r] at B
     obtain⟨y,E,_,M⟩:=S i fs[i] p (by simp[D]) B;simp only[wQ,wE,xq] at J;rw[vW D] at J;simp only[vX,wi] at J;rw[←J];have l9:=q3 i fs[i] (by simp[D]);have NM:(fs.toList.map λf=>P.cellsOf f.type).getD i 0=P.cellsOf fs[i].type:=by simp[D]
     rw[NM,←List.map_take,←l9];exact M
   |array k e =>
    obtain⟨xs,m,Z,rfl,bc,uC,fm⟩:=DataW.trod_array g h;obtain rfl:n=m:=by omega
    obtain⟨Y,I⟩:=qi3 hl hv g;obtain⟨parts,W,S⟩:=Y8 (α:=DataW H×List MemPlace) (β:=JO) (R:=λi y p=>CT P e p y.1/\bN w (λb=>b<w.heap.size) p ((cs.drop (i*P.cellsOf e)).take (P.cellsOf e))) xs (λi y z=>by
     have D:i<k:=by
      rcases wt i xs.length with q|q
      .omega
      .simp[q] at z
     exact ih e _ y Y ((fm i D).trans z))
    refine⟨parts.flatten,.array t e k parts _ g ae (by simpa using uC) (λi p d B O=>?_),?_⟩
    .rw[wE,wI] at O;obtain⟨y,z,rfl⟩:=O;exact(S i y p z B).1
    ·have Dm:=jn (List.replicate k (P.cellsOf e)) cs (by rw[bc,I];simp);rw[←Dm];refine bN.flatten (by simp[W,uC]) λi p q B J=>?_;have D:i<k:=by
      rcases wt i parts.length with r|r
      ·omega
      ·simp[r] at B
     have z:xs[i]?=some xs[i]:=wj ae;have M:=(S i _ p z B).2;simp only[List.length_replicate,wE] at J;rw[vW D] at J;simp only[vX,wi] at J;rw[←J];have NM:(List.replicate k (P.cellsOf e)).getD i 0=P.cellsOf e:=by simp[D]
     have NN:(List.take i (List.replicate k (P.cellsOf e))).sum=i*P.cellsOf e:=by
      rw[List.take_replicate];simp[Nat.min_eq_left (Nat.le_of_lt D)]
     rw[NM,NN];exact M
   |slice e =>
    rcases vS (P.cellsOf e) with X|X
    ·have C8:∃v,cs=[v]/\v.oneCell'=true:=by
      rcases DataW.trod_slice g h with⟨rfl,_⟩|⟨a,len,cap,Q,C,m,Z,rfl,_⟩
      ·exact⟨_,rfl,rfl⟩
      ·exact⟨_,rfl,rfl⟩
     obtain⟨v,rfl,h1⟩:=C8;exact⟨[.undef],.thin t e _ g X,.one (.undef _) h1⟩
    rcases DataW.trod_slice g h with⟨rfl,rfl⟩|⟨a,len,cap,Q,C,m,Z,rfl,rfl,hb,bv,fk,bO,fm,s8,_⟩
    .exact⟨[.ag],.ag t e g,.one .ag rfl⟩
    .obtain rfl:n=m:=by omega
     have hve:=qi4 hl hv g;have fy:∀(j:Nat) y,Q[j]?=some y->∃l,w.cells? base (a.add (j*P.cellsOf e)) (P.cellsOf e)=some l/\DataW.trod enc P w base spare held n e l=some y:=by
      intro j y z;have N:j<len:=by
       rcases wt j Q.length with q|q
       .omega
       .simp[q] at z
      have:=fm j N;rw[z] at this;exact Option.bind_eq_some_iff.1 this
     obtain⟨parts,W,S⟩:=Y8 (α:=DataW H×List MemPlace) (β:=JO) (R:=λj y p=>CT P e p y.1/\∃l,w.cells? base (a.add (j*P.cellsOf e)) (P.cellsOf e)=some l/\bN w (λb=>b<w.heap.size) p l) Q (λj y z=>by
      obtain⟨l,h1,h2⟩:=fy j y z;obtain⟨ts,E,u⟩:=ih e l y hve h2;exact⟨ts,E,l,h1,u⟩)
     have v5:∀j,j<len->∃y l,parts[j]?=some (parts.getD j [])/\Q[j]?=some y/\CT P e (parts.getD j []) y.1/\w.cells? base (a.add (j*P.cellsOf e)) (P.cellsOf e)=some l/\bN w (λb=>b<w.heap.size) (parts.getD j []) l:=by
      intro j N;have z:Q[j]?=some Q[j]:=wj ae;have B:parts[j]?=some (parts.getD j []):=by simp[show j<parts.length by omega]
      obtain⟨E,l,u,M⟩:=S j _ _ z B;exact⟨_,l,B,z,E,u,M⟩
     have v6:0<len->a.spot=none/\a.block<w.heap.size:=λh0=>by
      obtain⟨y,l,_,_,_,u,_⟩:=v5 0 h0;obtain⟨_,I⟩:=cells?_some u;have:=I 0 X;have C6:∃v,w.cell? ((a.add (0*P.cellsOf e)).add 0)=some v:=by
       rw[this];exact⟨_,wj (by rw[(cells?_some u).1];exact X)⟩
      obtain⟨v,A⟩:=C6;unfold World.cell? at A;have NO:((a.add (0*P.cellsOf e)).add 0).block=a.block:=by simp[Addr.add]
      rw[NO] at A;have iA:((a.add (0*P.cellsOf e)).add 0).spot=a.spot:=by
       simp[Addr.add]
      split at A
      .rename_i hh;refine⟨?_,?_⟩
       .cases sw:a.spot with
        |none=>rfl
        |some q=>rw[iA,sw] at A;simp at A
       .rcases wt a.block w.heap.size with r|r
        .exact r
        .simp[r] at hh
      .cases A
     have Dn:0<cap->a.spot=none:=λh0=>by
      rcases vS len with h1|h1
      ·obtain⟨Ix,v7⟩:=s8 (sw _);have hr:=v7 0 ae;have iC:C[0]?=some C[0]:=wj ae;rw[iC] at hr;obtain⟨l,u,_⟩:=Option.bind_eq_some_iff.1 hr;obtain⟨_,I⟩:=cells?_some u;have:=I 0 X;obtain⟨v,A⟩:∃v,w.cell? ((a.add ((len+0)*P.cellsOf e)).add 0)=some v:=by
        rw[this];exact⟨_,wj (by rw[(cells?_some u).1];exact X)⟩
       unfold World.cell? at A;have iA:((a.add ((len+0)*P.cellsOf e)).add 0).spot=none->a.spot=none:=λh=>by simpa [Addr.add,h1] using h
       split at A
       .apply iA;split at A
        .cases A
        .rename_i q;simpa using q
       .cases A
      .exact(v6 h1).1
     refine⟨[.view (P.cellsOf e) len (λj=>parts.getD j []) (some cap)],.view t e len cap _ _ _ g (by simpa using bO) (by simpa using (s8 (sw _)).1) bv fk (λj d O=>?_),.one ?_ rfl⟩
     ·rw[wE,wI] at O;obtain⟨y,z,rfl⟩:=O;have N:j<len:=by
       rcases wt j Q.length with q|q
       ·omega
       ·simp[q] at z
      obtain⟨y',l,_,u,M,_⟩:=v5 j N;rw[z] at u;obtain rfl:=wa u;exact M
     .refine .view (P.cellsOf e) len _ (some cap) a cap (λj o=>(w.cell? ⟨a.block,a.off+j*P.cellsOf e+o,none⟩).getD Go.undef) Dn (λm Z=>wa Z) bv (λh0 _=>(v6 h0).2) (λj N=>?_) (λj o c N U=>?_) (λj o c N U=>?_)
      all_goals obtain⟨y,l,E,u,M,r4,r5⟩:=v5 j N
      all_goals obtain⟨Y,I⟩:=cells?_some r4
      .rw[r5.1,Y]
      all_goals
       have rA:o<P.cellsOf e:=by
        rcases wt o (parts.getD j []).length with q|q
        .have:=r5.1;omega
        .rw[wz q] at U;cases U
       obtain⟨v,s1,s2,s3⟩:=r5.2 o c U;have NP:(a.add (j*P.cellsOf e)).add o=⟨a.block,a.off+j*P.cellsOf e+o,none⟩:=by
        have:=(v6 ae).1;cases a with|mk b o s=>dsimp only at this;subst this;rw[QO,QO]
       have NQ:w.cell? ⟨a.block,a.off+j*P.cellsOf e+o,none⟩ = some v:=by rw[←NP,I o rA,s1]
      .rw[NQ];exact⟨NQ,s3⟩
      .rw[NQ];exact s2
   |_=>exact NL (by rw[g];rfl)
def B9(P:Program)(t:TypeId)(ts:JO):T:=if yf P t then .agg ts else ts.headD .undef
def ATs(P:Program):List TypeId->JO->List (DataW H)->Prop
 |[],[],[]=>True
 |t::l,x::e,d::ds=>(∃a,CT P t a d/\x=B9 P t a)/\ATs P l e ds
 |_,_,_=>False
def CT.single{t:TypeId}{ts:JO}{d:DataW H}(h:CT P t ts d)(f:yf P t=false):∃x,ts=[x]:=by
 cases h with
 |bool=>exact⟨_,rfl⟩
 |int=>exact⟨_,rfl⟩
 |str=>exact⟨_,rfl⟩
 |ag=>exact⟨_,rfl⟩
 |view=>exact⟨_,rfl⟩
 |thin=>exact⟨_,rfl⟩
 |struct _ fs _ _ a=>simp[yf,a] at f
 |array _ e n _ _ a=>simp[yf,a] at f
 |AF=>exact⟨_,rfl⟩
def qga{t:TypeId}{v:Value}{r:Reach}{i:Nat}(h:Value.okWide P w r i t v)(a:yf P t=false):v.cells = #[v]:=by
 have j:∀u:Value,(∀d,u≠.agg d)->(∀d,u≠.tuple d)->u.cells = #[u]:=λu h1 g=>by
  cases u<;>first|rfl|exact absurd rfl (h1 _)|exact absurd rfl (g _)
 unfold yf at a;unfold Value.okWide at h;refine j v (λd e=>?_) (λd e=>?_)
 all_goals
  subst e;split at h
  .rename_i hx;rw[hx] at a;simp at a
  .rename_i hx;rw[hx] at a;simp at a
  .unfold Cell.okWide at h;split at h
   all_goals first
    |contradiction
    |(rename_i f;cases f)
    |(unfold Cell.ok at h;split at h<;>first|contradiction|(rename_i f;cases f))
def qi6{t:TypeId}{v:Value}{r:Reach}{g:Nat}(h:Value.okWide P w r g t v)(a:yf P t=true):∃cs,v = .agg cs:=by
 unfold yf at a;unfold Value.okWide at h;cases d:P.underlying t with
 |none=>rw[d] at a;simp at a
 |some f =>
  rw[d] at a h;cases f<;>simp at a
  all_goals
   obtain⟨cs,e,_⟩:=h;exact⟨cs,e⟩
def qpt{U:Nat->Prop}{t:TypeId}{v:Value}{ts:JO}{d:DataW H}{r:Reach}{C:Nat}(j:CT P t ts d)(a:bN w U ts v.cells.toList)(z:Value.okWide P w r C t v):VI w U (B9 P t ts) v:=by
 unfold B9;cases k:yf P t with
 |true =>
  obtain⟨f,rfl⟩:=qi6 z k;have D:(Value.agg f).cells.toList=f.toList:=rfl;rw[D] at a;have B:ts.length=f.size:=by simpa using a.1
  simp only[vH];refine VI.dc B (λi u s=>?_) (λi c g=>?_)
  ·have g:i<ts.length:=by
    rcases wt i f.size with q|q
    ·omega
    ·simp[q] at s
   obtain⟨v,h1,_,A⟩:=a.2 i ts[i] (by simp[g]);have h1:f[i]?=some v:=by simpa using h1
   rw[s] at h1;obtain rfl:=wa h1;exact A
  .obtain⟨v,h1,o,_⟩:=a.2 i c g;exact⟨v,by simpa using h1,o⟩
 |false =>
  obtain⟨x,rfl⟩:=j.single k;have e:=qga z k;rw[e] at a;obtain⟨E,h1,o,_⟩:=a.2 0 x rfl;simp at h1;subst h1;simpa using o
def TL(s:laidOutB P=true)(o:∀b,spare b=true):∀(e:List TypeId) (args:List Value) (ds:List (DataW H)) (ps:List MemPlace),(∀t∈e,isVar P t=true) →
 (∀(j:Nat) t v,e[j]?=some t->args[j]?=some v->Value.okWide P w .any base t v)->DataW.TrodAll enc P w 0 spare held e args ds ps →
 ∃xs,ATs P e xs ds/\xs.length=args.length/\∀(i:Nat) x,xs[i]?=some x->∃v,args[i]?=some v/\VI w (λb=>b<w.heap.size) x v
 |[],args,ds,ps,_,_,h=>by
  obtain⟨rfl,rfl,rfl⟩:=trodAll_nil h;exact⟨[],trivial,rfl,λi x hx=>by simp at hx⟩
 |t::e,args,ds,ps,f,u,h=>by
  obtain⟨v,z,d,A,a,b,rfl,rfl,rfl,h1,I⟩:=trodAll_cons h;obtain⟨J,h1⟩:=h1;obtain⟨k,r,E⟩:=TK s o J t _ _ (f t au) h1;obtain⟨xs,D,C,B⟩:=TL s o e z A b (λt g=>f t (by simp[g])) (λj t v g f=>u (j+1) t v (by simpa using g) (by simpa using f)) I;refine⟨B9 P t k::xs,⟨⟨k,r,rfl⟩,D⟩,by simp[C],λi x hx=>?_⟩;cases i with
  |zero =>
   simp only[wO,wi] at hx;subst hx;exact⟨v,rfl,qpt r E (u 0 t v rfl rfl)⟩
  |succ i=>exact B i x (by simpa using hx)
def IP(P:Program):Nat->TypeId->DataW H->Option JO
 |0,_,_=>none
 |n+1,t,d=>match P.underlying t,d with
  |some .bool,.lit (.bool b)=>some [.bool b]
  |some (.int _),.lit (.int k m)=>some [.int k m]
  |some .string,.lit (.string s)=>some [.str s]
  |some (.array _ e),.agg ds=>(ds.mapM (IP P n e)).map List.flatten
  |_,_=>none
def TM:∀(n:Nat) {t:TypeId} {ts j:JO} {d:DataW H},IP P n t d=some j->CT P t ts d->ts=j
 |0,t,ts,j,d,h,_=>by cases h
 |n+1,t,ts,j,d,h,E=>by
  unfold IP at h;cases E with
  |bool _ b a=>simp[a] at h;exact h
  |int _ k m a=>simp[a] at h;exact h
  |str _ s a=>simp[a] at h;exact h
  |ag _ e a=>simp[a] at h
  |view _ e m c g l J a=>simp[a] at h
  |thin _ e _ a=>simp[a] at h
  |struct _ fs f ds a=>simp[a] at h
  |array _ e m f ds a h1 M B =>
   simp only[a,wI] at h;obtain⟨l,r,rfl⟩:=h;have C:=mapM_some_length r;congr 1;apply List.ext_getElem?;intro i;rcases wt i m with D|D
   .have A:f[i]?=some f[i]:=wj ae;have z:ds[i]?=some ds[i]:=wj ae;have x:=mapM_some_get r i _ z;have u:l[i]?=some l[i]:=wj ae;rw[u] at x;rw[A,u,TM n x (B i _ _ A z)]
   .rw[wz ae,wz ae]
  |AF _ _ a =>
   exfalso;cases o:P.underlying t with
   |none=>rw[o] at h;cases h
   |some I =>
    rw[o] at h a;cases I<;>simp[F2] at a h
def qgb{f:List (String×DataW Unit)}{ps:List MemPlace}(h:DataW.LaidVars P w f ps){a:String}{d:DataW Unit}(j:(a,d)∈f) :
 ∃g t cs i p,P.globalNamed a=some g/\(P.globals[g]?).map (·.type)=some t/\w.var? P a=some cs/\DataW.trod (λ_=>()) P w 0 (λ_=>true) false i t cs.toList=some (d,p):=by
 induction f generalizing ps with
 |nil=>cases j
 |cons x l k =>
  obtain⟨n,z⟩:=x;obtain⟨g,t,cs,i,p,q,h1,u,s,r,o,_⟩:=h;rcases wK.1 j with e|e
  .obtain⟨rfl,rfl⟩:=vU e;exact⟨g,t,cs,i,p,h1,u,s,r⟩
  .exact k o e
def IR:List (Nat×JO)->Nat->Option JO
 |[],_=>none
 |(g,c)::l,x=>bif x==g then some c else IR l x
def GL(P:Program)(e:List (String×DataW Unit)):List (Nat×JO)->Prop
 |[]=>True
 |(g,c)::l=>(∃a d t,P.globalNamed a=some g/\(P.globals[g]?).map (·.type)=some t/\isVar P t=true/\(a,d)∈e/\IP P 8 t d=some c)/\GL P e l
def qe1(A:laidOutB P=true){a:List (String×DataW Unit)}(z:laidMet P a w):∀{l:List (Nat×JO)},GL P a l->ZB (IR l) w (λb=>b<w.heap.size)
 |[],_=>λg c h=>by cases h
 |(g,c)::l,⟨⟨u,d,t,h1,X,W,V,U⟩,hr⟩=>λB cells h=>by
  simp only[IR] at h;rcases qx h with⟨he,f⟩|⟨_,f⟩
  .clear hr h;have he:B=g:=by simpa using he
   subst he;obtain rfl:=wa f;obtain⟨ps,Em,_,_⟩:=z;obtain⟨j,t',e,Z,p,s,O,N,M⟩:=qgb Em V;obtain rfl:=wa (s.symm.trans h1);obtain rfl:=wa (X.symm.trans O);obtain⟨D,J,k⟩:=TK A (λ_=>rfl) Z t e.toList _ W M;obtain rfl:=TM 8 U J;have C:∀(i:Nat) v,e[i]?=some v->w.cell? ⟨j,i,none⟩ = some v:=λi v Q=>World.var?_cell s N i |>.trans Q;refine .vp _ ⟨j,0,none⟩ (λo=>e.getD o Go.undef) rfl (λY=>?_) (λo c x=>?_) (λo c x=>?_)
   .obtain⟨v,s1,_,_⟩:=k.2 0 D[0] (by simp[Y]);have:=C 0 v (by simpa using s1);unfold World.cell? at this;split at this
    .rename_i R;rcases wt j w.heap.size with r|r
     .exact r
     .simp[r] at R
    .cases this
   all_goals
    obtain⟨v,s1,I,E⟩:=k.2 o c x;have s1:e[o]?=some v:=by simpa using s1
    have S:e.getD o Go.undef=v:=by simp[wG,s1]
    rw[S]
   .exact⟨by simpa using C o v s1,E⟩
   .exact I
  .exact qe1 A z hr B cells f
def Jl(i:laidOutB P=true){W o:World}(j:RowKit.Below W.heap.size W o) :
 ∀{e:List TypeId} {f:List Value} {ds:List (DataW H)} {ps:List MemPlace},(∀t∈e,P.readableRec t=true/\t<P.types.size)->(∀x∈ps,x.block<W.heap.size) →
  DataW.TrodAll enc P W 0 (λ_=>true) true e f ds ps->DataW.TrodAll enc P o 0 (λb=>decide (b<W.heap.size)) true e f ds ps
 |[],_,_,_,_,_,h=>by
  obtain⟨rfl,rfl,rfl⟩:=trodAll_nil h;exact trodAll_mk0
 |t::e,_,_,_,g,k,h=>by
  obtain⟨v,u,d,z,a,b,rfl,rfl,rfl,h1,s⟩:=trodAll_cons h;refine trodAll_cons_mk (Below.trod i (g t au).1 (g t au).2 h1 j λx hx=>k x (by simp[hx])) (Jl i j (λt r=>g t (by simp[r])) (λx hx=>k x (by simp[hx])) s)
def qhB{G:V9}(_hm:P.follows .mixedOrders=true)(_hn:QF P=true)(D:laidOutB P=true){f:FuncId}{fn:Func}{spec:ChangeSpec}(Q:spec.vars=[])
 (u:∀ds:List (DataW H),ds.length=fn.params.size->spec.fn H ds = { results:=[.lit (.bool true)],args:=ds }) {tb:TypeId} (bB:fn.resultTypes = #[tb]) (En:P.underlying tb=some .bool)
 (A:∀t∈fn.params.toList,isVar P t=true/\P.readableRec t=true) {W:World} {args:Array Value} {ds gs:List (DataW H)} {a:List MemPlace}
 (k:∀(j:Nat) t v,fn.params[j]?=some t->args[j]?=some v->Value.okWide P W .any base t v)
 (E:DataW.Whole enc P fn.params.toList spec.vars false W args.toList ds gs a) (hG:ZB G W (λb=>b<W.heap.size))
 (NS:∀xs,ATs P fn.params.toList xs ds->∃o,eO xs o/\aI P G f o (.bool true)) :
 Calls P f args W λe M=>∃v,e = .returned v/\spec.post enc P fn false true false false W args v M:=by
 have O:=E;obtain⟨p,q,J,I,rfl,Z,mA⟩:=E;have z:gs=[]/\q=[]:=by
  rw[Q] at I;exact trodVars_none I
 obtain⟨rfl,rfl⟩:=z;obtain⟨xs,h1,h2,h3⟩:=TL D (λ_=>rfl) fn.params.toList args.toList ds p (λt g=>(A t g).1) (λj t v g s=>k j t v (by simpa using g) (by simpa using s)) J;obtain⟨o,C,F4⟩:=NS xs h1;refine(F4.calls W _ args (λb hb=>hb) hG ⟨by rw[←C.1];simpa using h2,λi x hx=>?_⟩).mono λe M ⟨v,he,C9⟩=>⟨v,he,?_⟩
 .obtain⟨y,V,Y⟩:=C.get hx;obtain⟨v,S,R⟩:=h3 i y V;exact⟨v,by simpa using S,Y _ _ _ R⟩
 ·obtain⟨⟨B,_⟩,U',X,_,_,_,_,N⟩:=C9;obtain rfl:v = .bool true:=by
   simp only[oa,lU] at N;cases N with
   |vi _ _ s=>cases s;rfl
  have bc:ds.length=fn.params.size:=by
   have:∀(params:List TypeId) (xs:JO) (ds:List (DataW H)),ATs P params xs ds->ds.length=params.length:=by
    intro params
    induction params with
    |nil=>intro xs ds h;cases xs<;>cases ds<;>simp_all [ATs]
    |cons t l U =>
     intro xs ds h;cases xs with
     |nil=>cases ds<;>simp[ATs] at h
     |cons x xs =>
      cases ds with
      |nil=>simp[ATs] at h
      |cons d ds=>simp only[vc];rw[U xs ds h.2]
   simpa using this _ _ _ h1
  have r:=u (ds++[]) (by simpa using bc);have aN:=O.lt;refine⟨ds,[],p++[],[],p,[],O,?_,?_,?_,B.frame _,λh=>by cases h⟩
  .rw[r,bB];exact trodAll_cons_mk (shut_bool En true) trodAll_mk0
  .rw[r];simp only[vu];exact Jl D B (λt g=>⟨(A t g).2,by have:=(A t g).1;simp only[isVar,wg,wC] at this;exact this.1⟩) (λx hx=>aN x (by simpa using hx)) J
  .rw[Q,r];rfl
end
section
variable {P:Program} {H:Type} {t:TypeId} {ts:JO} {d:DataW H}
def Be(P:Program):List TypeId->List JO->List (DataW H)->Prop
 |[],[],[]=>True
 |t::l,p::ps,d::ds=>CT P t p d/\Be P l ps ds
 |_,_,_=>False
def TQ:∀(l:List TypeId) (parts:List JO) (ds:List (DataW H)),parts.length=l.length->ds.length=l.length →
 (∀(i:Nat) t p d,l[i]?=some t->parts[i]?=some p->ds[i]?=some d->CT P t p d)->Be P l parts ds
 |[],[],[],_,_,_=>trivial
 |t::l,p::ps,d::ds,h1,e,h=>⟨h 0 t p d rfl rfl rfl,TQ l ps ds (by simpa using h1) (by simpa using e) λi t p d a b c=>h (i+1) t p d (by simpa using a) (by simpa using b) (by simpa using c)⟩
 |[],_::_,_,h1,_,_=>by simp at h1
 |[],[],_::_,_,e,_=>by simp at e
 |_::_,[],_,h1,_,_=>by simp at h1
 |_::_,_::_,[],_,e,_=>by simp at e
def Be.cons{t:TypeId}{l:List TypeId}{a:List JO}{ds:List (DataW H)}(h:Be P (t::l) a ds) :
 ∃p ps d e,a=p::ps/\ds=d::e/\CT P t p d/\Be P l ps e:=by
 match a,ds,h with
 |p::ps,d::e,h=>exact⟨p,ps,d,e,rfl,rfl,h.1,h.2⟩
def Be.nil{a:List JO}{ds:List (DataW H)}(h:Be P [] a ds):a=[]/\ds=[]:=by
 match a,ds,h with
 |[],[],_=>exact⟨rfl,rfl⟩
def CT.Bf{k:IntKind}(e:P.underlying t=some (.int k))(h:CT P t ts d):∃n,ts=[.int k n]/\d = .lit (.int k n)/\(Lit.int k n).wf=true:=by
 cases h with
 |int _ g n a i =>
  rw[e] at a;obtain rfl:k=g:=by cases a;rfl
  exact⟨n,rfl,rfl,i⟩
 |AF _ _ f=>rw[e] at f;cases f
 |bool _ _ a=>rw[e] at a;cases a
 |str _ _ a=>rw[e] at a;cases a
 |ag _ _ a=>rw[e] at a;cases a
 |view _ _ _ _ _ _ _ a=>rw[e] at a;cases a
 |thin _ _ _ a=>rw[e] at a;cases a
 |struct _ _ _ _ a=>rw[e] at a;cases a
 |array _ _ _ _ _ a=>rw[e] at a;cases a
def CT.oN{e:TypeId}(f:P.underlying t=some (.slice e))(r:P.cellsOf e≠0)(h:CT P t ts d):(ts=[.ag]/\d = .nil) ∨
 ∃n c g i spare,ts=[.view (P.cellsOf e) n g (some c)]/\d = .slice i spare/\i.length=n/\spare.length=c-n/\n<=c/\c<=maxLen/\∀j d,i[j]?=some d->CT P e (g j) d:=by
 cases h with
 |ag _ _ a=>exact .inl ⟨rfl,rfl⟩
 |view _ k n c g i spare a he s u z x =>
  rw[f] at a;obtain rfl:e=k:=by cases a;rfl
  exact .inr ⟨n,c,g,i,spare,rfl,rfl,he,s,u,z,x⟩
 |thin _ k _ a A =>
  rw[f] at a;obtain rfl:e=k:=by cases a;rfl
  exact absurd A r
 |AF _ _ o=>rw[f] at o;cases o
 |bool _ _ a=>rw[f] at a;cases a
 |int _ _ _ a=>rw[f] at a;cases a
 |str _ _ a=>rw[f] at a;cases a
 |struct _ _ _ _ a=>rw[f] at a;cases a
 |array _ _ _ _ _ a=>rw[f] at a;cases a
def CT.sD{fs:Array Field}(g:P.underlying t=some (.struct fs))(h:CT P t ts d):∃parts ds,ts=parts.flatten/\d = .agg ds/\Be P (fs.toList.map (·.type)) parts ds:=by
 cases h with
 |struct _ j parts ds e h1 s o =>
  rw[g] at e;obtain rfl:fs=j:=by cases e;rfl
  refine⟨parts,ds,rfl,rfl,TQ _ _ _ (by simpa using h1) (by simpa using s) λi t p d a b c=>?_⟩;rw[wE,wI] at a;obtain⟨f,r,rfl⟩:=a;exact o i f p d (by simpa using r) b c
 |AF _ _ k=>rw[g] at k;cases k
 |bool _ _ e=>rw[g] at e;cases e
 |int _ _ _ e=>rw[g] at e;cases e
 |str _ _ e=>rw[g] at e;cases e
 |ag _ _ e=>rw[g] at e;cases e
 |view _ _ _ _ _ _ _ e=>rw[g] at e;cases e
 |thin _ _ _ e=>rw[g] at e;cases e
 |array _ _ _ _ _ e=>rw[g] at e;cases e
def ATs.cons{l:List TypeId}{xs:JO}{ds:List (DataW H)}(h:ATs P (t::l) xs ds) :
 ∃x e d a ts,xs=x::e/\ds=d::a/\CT P t ts d/\x=B9 P t ts/\ATs P l e a:=by
 match xs,ds,h with
 |x::e,d::a,h=>exact⟨x,e,d,a,h.1.choose,rfl,rfl,h.1.choose_spec.1,h.1.choose_spec.2,h.2⟩
def ATs.nil{xs:JO}{ds:List (DataW H)}(h:ATs P [] xs ds):xs=[]/\ds=[]:=by
 match xs,ds,h with
 |[],[],_=>exact⟨rfl,rfl⟩
def qqX{n:Int}(h:(Lit.int .u8 n).wf=true):0<=n/\n<=255:=by
 simp[Lit.wf,IntKind.min,IntKind.max,IntKind.signed,IntKind.bits] at h;omega
end
def Qp{x:Int}(h1:-9223372036854775808<=x)(h2:x<=9223372036854775807):IntKind.i64.wrap x=x:=by
 simp only[IntKind.wrap,IntKind.signed,IntKind.bits];simp;omega
def s9{x:Int}(h1:0<=x)(h2:x<=255):IntKind.u8.wrap x=x:=by
 simp only[IntKind.wrap,IntKind.signed,IntKind.bits];simp;omega
def qsY{x:Int}(h1:0<=x)(h2:x<=4294967295):IntKind.u32.wrap x=x:=by
 simp only[IntKind.wrap,IntKind.signed,IntKind.bits];simp;omega
def qsZ{x:Int}(h1:0<=x)(h2:x<=65535):IntKind.u16.wrap x=x:=by
 simp only[IntKind.wrap,IntKind.signed,IntKind.bits];simp;omega
def qO{a b:Nat}(h:a<=b):Nat.ble a b=true:=by rw[Nat.ble_eq];exact h
def ZG{a b:Nat}(h:b<a):Nat.ble a b=false:=by rw[←xl,Nat.ble_eq];omega
def qL{a b:Nat}(h:a<b):Nat.blt a b=true:=qO h
def QP{a b:Nat}(h:b<=a):Nat.blt a b=false:=ZG ae
def dT{p:Prop}[Decidable p](h:p):decide p=true:=wq h
def dF{p:Prop}[Decidable p](h:¬p):decide p=false:=xk h
def qk{R:Type}{c:Bool}{x y r:R}(a:c=true)(h1:x=r):(bif c then x else y)=r:=by rw[a];exact h1
def cu(k:Nat):T->Bool
 |.own i _ _ _ _=>Nat.blt i k
 |.ptr i _ _ _=>Nat.blt i k
 |.mp i _=>Nat.blt i k
 |x=>zK x
def low(k:Nat):T->Bool
 |.agg l=>l.all (cu k)
 |.ah l=>l.all (cu k)
 |.fn _ a=>a.all (cu k)
 |x=>cu k x
def IT(k:Nat)(b:aq):Bool:=b.flat || (Nat.ble b.n 8&&(List.range b.n).all λj=>(b.get j).all (cu k))
def JF(k:Nat)(vs:JO)(h:qa):Bool:=vs.all (low k)&&(h.take k).all (IT k)
section
variable {w:World} {g:Gh} {h:qa} {k:Nat}
def VR.cu{x:T}{v:Value}(hx:g.VR h w x v)(a:Ab.cu k x=true):g.VR (h.take k) w x v:=by
 cases x with
 |own i aj u len cap =>
  obtain⟨b,e,s,h1,r⟩:=hx.cW;have d:i<k:=Qb a;exact .own _ _ _ _ _ b _ (by rw[vv d];exact e) s h1 r
 |ptr i aj j o =>
  obtain⟨b,e,s,h1,r⟩:=hx.cX;have d:i<k:=Qb a;exact .ptr _ _ _ _ b _ (by rw[vv d];exact e) s h1 r
 |mp i aj =>
  obtain⟨b,e,s,h1,r⟩:=hx.iH;have d:i<k:=Qb a;exact .mp _ _ b _ (by rw[vv d];exact e) s h1 r
 |agg l=>simp[Ab.cu,zK] at a
 |ah l=>exact absurd hx VR.dP
 |aK l=>simp[Ab.cu,zK] at a
 |iface t x=>simp[Ab.cu,zK] at a
 |fresh=>exact absurd hx VR.tQ
 |fn f D =>
  simp only[Ab.cu,zK,xQ] at a;subst a;obtain⟨C,rfl,z,B⟩:=hx.gG;exact VR.oF z (λi c d=>by simp at d)
 |_=>exact .aH _ _ (ZM (by first|rfl|simpa [Ab.cu,zK,aH] using a) hx)
def VR.low{x:T}{v:Value}(hx:g.VR h w x v)(e:Ab.low k x=true):g.VR (h.take k) w x v:=by
 cases x with
 |agg l =>
  obtain⟨r,rfl,o,h1,j⟩:=hx.bM;refine VR.dc o h1 (λi c a=>?_);obtain⟨u,d,hr⟩:=j i c a;exact⟨u,d,hr.cu (wA.1 e c (wo a))⟩
 |ah l=>exact absurd hx VR.dP
 |fn f s =>
  obtain⟨r,rfl,o,j⟩:=hx.gG;refine VR.oF o (λi c a=>?_);obtain⟨u,d,hr⟩:=j i c a;exact⟨u,d,hr.cu (wA.1 e c (wo a))⟩
 |_=>exact VR.cu hx e
def Gh.cut(g:Gh)(k:Nat):Gh:={ g with own:=λb=>match g.own b with|some (.inl i)=>if i<k then some (.inl i) else none|o=>o }
def IU{b:Nat}(h:g.own b=none):(g.cut k).own b=none:=by simp only[Gh.cut,h]
def TS{b t:Nat}(h:g.own b=some (.inr t)):(g.cut k).own b=some (.inr t):=by simp only[Gh.cut,h]
def NT{b i:Nat}(h:g.own b=some (.inl i))(a:i<k):(g.cut k).own b=some (.inl i):=by simp only[Gh.cut,h,wl a]
def NU{b:Nat}{o:Nat ⊕ Nat}(h:(g.cut k).own b=some o):g.own b=some o/\∀i,o = .inl i->i<k:=by
 simp only[Gh.cut] at h;cases a:g.own b with
 |none=>rw[a] at h;cases h
 |some q =>
  rw[a] at h;cases q with
  |inr t=>exact⟨h,λi e=>by rw[e] at h;cases h⟩
  |inl j =>
   dsimp only at h;split at h
   .rename_i d
    exact⟨h,λi e=>by rw[e] at h;have:j=i:=by simpa using h
                     omega⟩
   .cases h
def HR.take(hr:HR g h w)(I:(h.take k).all (IT k)=true):HR (g.cut k) (h.take k) w:=by
 refine⟨λi b a M=>?_,λb a=>⟨(hr.u b a).1,IU (hr.u b a).2⟩,λb o d=>hr.own b o (NU d).1,hr.base,λb o d=>hr.cells b o (NU d).1,λb i d=>by
  have h1:=NU d;have D:=hr.lt b i h1.1;have C:=h1.2 i rfl;rw[vB];omega,λi b m a H=>by
  have s:i<k:=by
   rcases wt i k with q|q
   .exact q
   .rw[wz (by simp;omega)] at a;cases a
  have z:h[i]?=some b:=by rw[vv s] at a;exact a
  exact hr.eX z H rfl (λc J=>NT J s) λ_ _ _=>rfl⟩
 have s:i<k:=by
  rcases wt i k with q|q
  .exact q
  .rw[wz (by simp;omega)] at a;cases a
 have z:h[i]?=some b:=by rw[vv s] at a;exact a
 rcases hr.dh i b z M with⟨cb,E,B,e,f⟩|q
 rotate_left
 .exact .inr q
 refine .inl ?_;have r:IT k b=true:=wA.1 I b (wo a);refine⟨cb,E,B,e,f.φ,NT f.own s,f.heap,f.room,f.len,λj o c x d=>?_,f.flat⟩;obtain⟨v,h1,D,C⟩:=f.cell j o c x d;refine⟨v,h1,D,VR.cu (g:=g) C ?_⟩;unfold IT at r;rcases vY _ _▸r with r|r
 .have N:=f.flat r j x c (wo d);cases c<;>simp_all [qG,Ab.cu,zK]
 .simp only[wg] at r;exact wA.1 (wA.1 r.2 j (vQ.2 x)) c (wo d)
end
section
variable {P:Program} {Gl:V9} {aa:Wa} {nt:Nat}
def SR.take{g:Gh}{l:Wa}{vs:JO}{h:qa}{a:Act}{w:World}{k:Nat}(j:SR Gl aa nt g (qB l vs h) a w)(f:JF k vs h=true):SR Gl aa nt (g.cut k) (qB l vs (h.take k)) a w:=by
 simp only[JF,wg] at f;obtain⟨r,S⟩:=f;have ed:∀t,(qB l vs (h.take k)).at t=(qB l vs h).at t:=λt=>rfl;have H:∀t,Ab.low k ((qB l vs h).at t)=true:=by
  intro t;unfold St.at
  cases U:Nat.blt t 1024 with
  |false=>rfl
  |true =>
   simp only[wm];have key:∀(l:Wa) (vs:JO) (e:Tr),vs.all (Ab.low k)=true->(∀t,t<1024->Ab.low k (Tr.get QQ e t)=true)->∀t,t<1024->Ab.low k (Tr.get QQ (yu l vs e) t)=true:=by
    intro l
    induction l with
    |nil=>intro vs e _ he;simpa only[yu] using he
    |cons i l Q =>
     intro vs e r he;cases vs with
     |nil=>simpa only[yu] using he
     |cons x vs =>
      simp only[xJ,wg] at r;simp only[yu];refine Q vs _ r.2 (λt f=>?_);cases R:Nat.blt i 1024 with
      |false=>exact he t f
      |true =>
       simp only[wm];have h1:Tr.get QQ (Tr.set QQ e i x) t=if t=i then x else Tr.get QQ e t:=Tr.eP 10 e i t x (by have:=Qb R;omega) f;rw[h1];by_cases q:t=i
       .rw[wl q];exact r.1
       .rw[we q];exact he t f
   exact key l vs .nil r (λt _=>by rfl) t (Qb U)
 refine⟨j.hr.take S,by
  obtain⟨N,O,m1,M,z⟩:=j.defers;exact⟨N,O,m1,M,λD C=>⟨(z D C).1,IU (z D C).2.1,(z D C).2.2⟩⟩,j.size,j.nt,λt f=>?_,λt f cells B=>?_,λd t o h=>(by cases h),j.dU,λd t o h=>(by cases h)⟩
 .rw[ed];exact VR.low (j.tmps t f) (H t)
 .rw[ed] at B;obtain⟨cb,E,e,s⟩:=j.eA t f cells B;refine⟨cb,E,e,s.ptr,TS s.own,s.heap,s.len,λo c I=>?_⟩;obtain⟨u,h1,W,V⟩:=s.cell o c I;have J:=H t;rw[B] at J;exact⟨u,h1,W,V.cu (wA.1 J c (wo I))⟩
def cS.take{g0 g:Gh}{h0 h:qa}{w0 w:World}{k:Nat}(j:HR g0 h0 w0)(a:cS g0 h0 w0 g h w)(r:h0.length<=k):cS g0 h0 w0 (g.cut k) (h.take k) w:=by
 refine⟨⟨a.ar.u,λi b e=>?_,a.ar.rm⟩,a.size,λb e=>by
  have f:=a.own b e;cases d:g.own b with
  |none=>rw[IU d,←f,d]
  |some o =>
   cases o with
   |inr t=>rw[TS d,←f,d]
   |inl i=>rw[NT d (vd (j.lt b i (by rw[←f];exact d)) r),←f,d],a.os,a.tape,a.output,a.same,a.bs,a.u,a.u'⟩
 obtain⟨B,z,h1,x⟩:=a.ar.ey i b e;have s:i<k:=by
  rcases wt i h0.length with q|q
  .omega
  .rw[wz q] at e;cases e
 exact⟨B,by rw[vv s];exact z,h1,x⟩
def pm(g g2:Gh):Prop:=∀b,g.own b=none->g2.own b=none/\(g2.U b->g.U b)
def pm.refl(g:Gh):pm g g:=λ_ h=>⟨h,λh=>h⟩
def pm.trans{g g1 g2:Gh}(a:pm g g1)(b:pm g1 g2):pm g g2:=λx h=>⟨(b x (a x h).1).1,λd=>(a x h).2 ((b x (a x h).1).2 d)⟩
def pm.cut(g:Gh)(k:Nat):pm g (g.cut k):=λ_ h=>⟨IU h,λh=>h⟩
def am(Gl:V9)(aa:Wa)(nt:Nat)(l:Wa)(k:Nat)(vs:JO)(h:qa)(dE:JO)(h2:qa):Prop :=
 ∀(g:Gh) (a:Act) (w:World) (g0:Gh) (d:qa) (e:World),d.length<=k->HR g0 d e->cS g0 d e g h w->SR Gl aa nt g (qB l vs h) a w->∃g2,SR Gl aa nt g2 (qB l dE h2) a w/\cS g0 d e g2 h2 w/\pm g g2
def am.refl{l:Wa}{k:Nat}(vs:JO)(h:qa):am Gl aa nt l k vs h vs h:=λg _ _ _ _ _ _ _ d a=>⟨g,a,d,.refl g⟩
def am.trans{l:Wa}{k:Nat}{vs fA dE:JO}{h h1 h2:qa}(a:am Gl aa nt l k vs h fA h1)(b:am Gl aa nt l k fA h1 dE h2):am Gl aa nt l k vs h dE h2:=by
 intro g i w g0 f d e hr B z;obtain⟨g1,r,o,j⟩:=a g i w g0 f d e hr B z;obtain⟨g2,x,u,s⟩:=b g1 i w g0 f d e hr o r;exact⟨g2,x,u,j.trans s⟩
def am.take{l:Wa}{k:Nat}{vs:JO}{h:qa}(d:JF k vs h=true):am Gl aa nt l k vs h vs (h.take k) :=
 λg _ _ _ _ _ f a i e=>⟨_,e.take d,i.take a f,.cut g k⟩
def ak(h h2:qa):Prop:=h2.length=h.length/\∀(i:Nat) b a,h[i]?=some b->h2[i]?=some a->a.mp=b.mp/\a.aj=b.aj/\a.sz=b.sz/\a.n=b.n/\(a.flat=true->b.flat=true∨∀j,j<b.n->(b.get j).all qG=true)/\∀j,j<b.n->a.get j=b.get j
def ak.at{h h2:qa}(a:ak h h2){i:Nat}{b:aq}(d:h[i]?=some b):∃b2,h2[i]?=some b2/\b2.mp=b.mp/\b2.aj=b.aj/\b2.sz=b.sz/\b2.n=b.n/\(b2.flat=true->b.flat=true∨∀j,j<b.n->(b.get j).all qG=true)/\∀j,j<b.n->b2.get j=b.get j:=by
 have f:=qy d;have e:h2[i]?=some (h2[i]'(by rw[a.1];exact f)):=wj _;exact⟨_,e,a.2 i b _ d e⟩
def ak.back{h h2:qa}(a:ak h h2){i:Nat}{b2:aq}(d:h2[i]?=some b2):∃b,h[i]?=some b/\b2.mp=b.mp/\b2.aj=b.aj/\b2.sz=b.sz/\b2.n=b.n/\(b2.flat=true->b.flat=true∨∀j,j<b.n->(b.get j).all qG=true)/\∀j,j<b.n->b2.get j=b.get j:=by
 have f:=qy d;have e:h[i]?=some (h[i]'(by rw[←a.1];exact f)):=wj _;exact⟨_,e,a.2 i _ b2 e d⟩
def ak.ar{h h2:qa}(e:ak h h2)(w:World)(U:Nat->Prop)(φ:Nat->Option (Nat×Nat)):fO w U φ h w U φ h2 :=
 ⟨.refl _ _,λi b f=>by
  obtain⟨j,d,_,r,a,o,_⟩:=e.at f;exact⟨j,d,ae,λ_=>⟨a,ae,rfl⟩⟩,λ_ _ hr=>hr⟩
def HR.same{g:Gh}{h h2:qa}{w:World}(hr:HR g h w)(f:ak h h2):HR g h2 w:=by
 refine⟨λi V B N=>?_,hr.u,hr.own,hr.base,hr.cells,λb i r=>by rw[f.1];exact hr.lt b i r,λi V m B O=>by
  obtain⟨b,C,z,_⟩:=f.back B;exact hr.eX C (z▸O) rfl (λ_ d=>d) λ_ _ _=>rfl⟩
 obtain⟨b,C,z,X,x,M,J,s⟩:=f.back B;have U:b.mp=none:=z▸N;rcases hr.dh i b C U with⟨cb,I,D,e,a⟩|⟨H,W⟩
 rotate_left
 .exact .inr ⟨H,ae⟩
 refine .inl ⟨cb,I,D,e,a.φ,a.own,a.heap,by rw[x,M];exact a.room,λj E=>?_,λj o c E r=>?_,λQ j E c d=>?_⟩
 .rw[s j ae,x];exact a.len j ae
 .rw[s j ae] at r;obtain⟨v,h1,S,R⟩:=a.cell j o c ae r;rw[x];exact⟨v,h1,S,R.ar (f.ar _ _ _)⟩
 .rw[s j ae] at d;rcases J Q with q|q
  .exact a.flat q j ae c d
  .exact wA.1 (q j ae) c d
def am.same{l:Wa}{k:Nat}{vs:JO}{h h2:qa}(x:ak h h2):am Gl aa nt l k vs h vs h2:=by
 intro g a w g0 I H _ _ C f;have r:=x.ar w g.U g.φ;refine⟨g,⟨f.hr.same x,f.defers,f.size,f.nt,λt j=>(f.tmps t j).ar r,λt j cells D=>?_,λd t o h=>(by cases h),f.dU,λd t o h=>(by cases h)⟩,C.trans ⟨r,wc _,λ_ _=>rfl,rfl,rfl,.refl _,λ_ _ _=>rfl,rfl,λ_ h=>.inl h,λ_ h=>h⟩,.refl g⟩;obtain⟨cb,s,e,i⟩:=f.eA t j cells D;refine⟨cb,s,e,i.ptr,i.own,i.heap,i.len,λo c B=>?_⟩;obtain⟨u,h1,z,E⟩:=i.cell o c B;exact⟨u,h1,z,E.ar r⟩
def aC.NV{c:Code}{l:Wa}{vs dE:JO}{h h2:qa}{e:Ex}{s':St}(o:aC P Gl aa nt c (qB l dE h2) e s')(hw:am Gl aa nt l h.length vs h dE h2):aC P Gl aa nt c (qB l vs h) e s':=by
 intro ro n u g a w d Q j;obtain⟨g2,i,f,_⟩:=hw g a w g h w (wc _) d.hr (.refl _ _ _) d;exact o ro n u g2 a w i Q λx w' s h1 h2 r=>j x w' s h1 (f.trans h2) r
variable {K:bA} {A:FuncId->cq}
def qi7(X:P.follows .mixedOrders=true){f:FuncId}{r:Nat}(ha:JE P f r=true)
 {an:cq} {h:qa} (I:Nat->JO->qa->Prop) {e1:Ex} {fA:JO} {h1:qa} {fn:Func} (J:P.funcs[f]?=some fn) (Z:fn.ntmps<=1024)
 (round:∀n vs h0,I n vs h0->∃(A:FuncId->cq) (K:bA) (m:Nat) (l:List (Nat×(JO->qa->LT))),aT P Gl K/\(A f).aa=an.aa/\(A f).live r=an.live r/\(∀p∈l,aG P Gl (A f) f p.1 p.2) ∧
  ∃e aS h',QB P Gl A K m f l r vs h0=some (e,aS,h')/\((e = .normal/\∃j dE h2,j<n/\am Gl an.aa fn.ntmps (an.live r false) h.length aS h' dE h2/\I j dE h2) ∨
   (e≠.normal/\e=e1/\am Gl an.aa fn.ntmps (an.live r true) h.length aS h' fA h1)))
 {n:Nat} {vs:JO} (M:I n vs h) :
 aC P Gl an.aa fn.ntmps (Z0 (Z6 P f r)) (qB (an.live r false) vs h) e1 (qB (an.live r true) fA h1):=by
 obtain⟨IM,c,hb,rq,bJ,NW⟩:=qk1 ha J;rw[NW];intro ro nn cL g0 a0 o V Q W;refine yM (λj a w=>∃aS h' g,I j aS h'/\SR Gl an.aa fn.ntmps g (qB (an.live r false) aS h') a w/\cS g0 h o g h' w/\(qt (Z6 P f r)=false->a.defers=a0.defers)) (λj a w hJ=>?_) n a0 o ⟨vs,h,g0,M,V,cS.refl _ _ _,λ_=>rfl⟩;obtain⟨aS,h',g,M,hs,S,C⟩:=hJ;obtain⟨A,K,m,l,Y,hp,Cb,hl,e,dE,h2,B,D⟩:=round j aS h' M;unfold QB at B;rw[J] at B;dsimp only at B;have bq:=Kr (A:=A) IM (kP P Gl A K m f) (IL X Y m f) hl fn c J hb Z;obtain⟨e',s',d,U⟩:=QG X Y Z bq (Z6 P f r) (λb dH=>Qy c rq dH) B;rw[hp,Cb] at U;rw[Cb] at d;refine U ro nn (λhh=>cL (by simpa [qt] using hh)) g a w hs _ λz w' N O R E=>?_;have H:HR g0 h o:=V.hr;cases e' with
 |normal =>
  simp only[wi,wy] at d;obtain⟨rfl,rfl,rfl⟩:=d;rcases D with⟨_,i,vs3,h3,hi,hw,Dk⟩|⟨x,_⟩
  .obtain⟨g3,u,s,_⟩:=hw N z w' g0 h o (wc _) H (S.trans R) (O.only _);exact⟨i,hi,_,_,g3,Dk,u,s,λh=>(E h).trans (C h)⟩
  .exact absurd rfl x
 |exit i =>
  simp only[wi,wy] at d;obtain⟨rfl,rfl,rfl⟩:=d;rcases D with⟨x,_⟩|⟨_,rfl,hw⟩
  .cases x
  .obtain⟨g3,u,s,_⟩:=hw N z w' g0 h o (wc _) H (S.trans R) (O.only _);exact W z w' g3 u s (λh=>by simp only[qt] at h;exact(E h).trans (C h))
 |ret =>
  simp only[wi,wy] at d;obtain⟨rfl,rfl,rfl⟩:=d;rcases D with⟨x,_⟩|⟨_,rfl,hw⟩
  .cases x
  .obtain⟨g3,u,s,_⟩:=hw N z w' g0 h o (wc _) H (S.trans R) (O.only _);exact W z w' g3 u s (λh=>by simp only[qt] at h;exact(E h).trans (C h))
end
def NX(x:T)(v:Value):Prop:=∀w U,VI w U x v
def Eo(l:JO)(vs:Array Value):Prop:=l.length=vs.size/\∀(i:Nat) x,l[i]?=some x->∃v,vs[i]?=some v/\NX x v
structure nv(X:Nat->Prop)(W:World)(X':Nat->Prop)(W':World):Prop where
 size:W.heap.size<=W'.heap.size
 same:∀b,b<W.heap.size->¬X b->W'.heap[b]?=W.heap[b]?
 sub:∀b,X b->X' b
 new:∀b,X' b->X b∨W.heap.size<=b
 lt:∀b,X' b->b<W'.heap.size
 os:W'.os=W.os
 tape:W'.tape=W.tape
 output:dQ W' W
 rm:∀b n,room W b n->room W' b n
structure dI(R X:Nat->Prop)(W W':World):Prop where
 size:W.heap.size<=W'.heap.size
 same:∀b,X b∨R b->W'.heap[b]?=W.heap[b]?
 df:∀(b:Nat) (ds:Option (List Deferred)),W.heap[b]?=some (Obj.deferred ds)->W'.heap[b]?=W.heap[b]?
 os:W'.os=W.os
 tape:W'.tape=W.tape
 output:dQ W' W
 rm:∀b n,room W b n->room W' b n
def IV(J:Nat->(Nat->Prop)->World->Prop):Prop:=∀i X W a d,J i X W->nv X W a d->J i a d
def qs0(P:Program)(k:FuncId)(j:Array Value)(N:Nat)(xs:Nat->JO)(R:Nat->Prop)(g:World):Prop :=
 ∀(l:Nat) (J f:Nat->(Nat->Prop)->World->Prop),IV J->IV f →
  (∀i X W a,i<N->J i X W->Eo (xs i) a->YieldAt (QC none) 0 P l a W λe d=>dI R X W d ∧
   ((e = .returned (.bool true)/\J (i+1) X d)∨(e = .returned (.bool false)/\f i X d))) →
  ∀W,g.heap.size<=W.heap.size->(∀b,R b->W.heap[b]?=g.heap[b]?)->J 0 (λ_=>False) W →
  CallsIn (QC none) 0 P k (#[.func (.yield l) #[] #[]]++j) W λe d=>(∃v,e = .returned v)/\((∃X,J N X d)∨(∃i X,i<N/\f i X d))
structure nz(P:Program)(Gl:V9)(gf:FuncId)(aE:JO)(N:Nat)(xs:Nat->JO):Prop where
 enters:∃fn,P.funcs[gf]?=some fn/\fn.body.isNone=false/\(fn.name=="runtime.NumGoroutine")=false
 it:∀(w:World) (U:Nat->Prop) (lb:Array Value),(∀b,U b->b<w.heap.size)->ZB Gl w U->ID w U aE lb->qs0 P gf lb N xs U w
section
variable {P:Program} {Gl:V9} {aa:Wa} {nt:Nat} {K:bA} {A:FuncId->cq}
def cS.NY{g:Gh}{h:qa}{w w':World}(hr:HR g h w)(o:w.heap.size<=w'.heap.size)(d:∀b,b<w.heap.size->w'.heap[b]?=w.heap[b]?)(h1:w'.os=w.os)(h2:w'.tape=w.tape)(r:dQ w' w):cS g h w g h w':=by
 refine⟨⟨λb a=>⟨a,d b (hr.u b a).1⟩,λi b a=>⟨b,a,wc _,λ_=>⟨rfl,rfl,rfl⟩⟩,λb n a=>?_⟩,o,λ_ _=>rfl,h1,h2,r,λb a _=>d b a,rfl,λ_ h=>.inl h,λ_ h=>h⟩;obtain⟨f,e,j,k⟩:=a;exact⟨f,e,(d b (QW j)).trans j,k⟩
def SR.slot{g:Gh}{l:Wa}{vs:JO}{h:qa}{a:Act}{w:World}(j:SR Gl aa nt g (qB l vs h) a w)(f:l.length=vs.length){t:Nat}(r:t<nt){x:T}{v:Value}(hx:g.VR h w x v) :
 SR Gl aa nt g (qB (l++[t]) (vs++[x]) h) { a with tmps:=a.tmps.setIfInBounds t v } w:=by
 have h1:=j.done (d:=t) r (x:=x) (h':=h) (v:=v) (w':=w) (g':=g) j.hr hx (.refl _ _ _ _) (mh.refl _ _ λb o s=>(j.hr.own b o s).2) (hp:=none) rfl rfl;have u:(qB l vs h).lay t x none=qB (l++[t]) (vs++[x]) h:=by
  have key:∀(l:Wa) (vs:JO) (e:Tr),l.length=vs.length->yu (l++[t]) (vs++[x]) e=(yu l vs e).set QQ t x:=by
   intro l
   induction l with
   |nil =>
    intro vs e f;cases vs with
    |nil =>
     have:Nat.blt t 1024=true:=by have:=j.nt;simp only[Nat.blt_eq];omega
     simp[yu,this]
    |cons _ _=>simp at f
   |cons i l k =>
    intro vs e f;cases vs with
    |nil=>simp at f
    |cons y vs=>simp only[List.cons_append,yu];exact k vs _ (by simpa using f)
  simp only[qB,du.dN,H6,Yp,yE,Option.getD_none,St.mk.injEq,and_true];refine⟨(key l vs .nil f).symm,?_⟩;funext e;cases e==t<;>rfl
 rw[u] at h1;exact h1
def SR.Cc{g:Gh}{h:qa}{w:World}:∀(ps:Wa) (xs:JO) (args:List Value) {l:Wa} {vs:JO} {a:Act},SR Gl aa nt g (qB l vs h) a w->l.length=vs.length->ps.length=xs.length->xs.length=args.length →
 (∀t∈ps,t<nt)->(∀(i:Nat) x,xs[i]?=some x->∃v,args[i]?=some v/\g.VR h w x v) →
 SR Gl aa nt g (qB (l++ps) (vs++xs) h) { a with tmps:=(ps.zip args).foldl (λt (p,v)=>t.setIfInBounds p v) a.tmps } w
 |[],[],[],l,vs,a,d,_,_,_,_,_=>by simpa using d
 |t::ps,x::xs,v::args,l,vs,a,d,f,h1,C,e,hx=>by
  obtain⟨j,o,k⟩:=hx 0 x rfl;obtain rfl:v=j:=by simpa using o
  have:=SR.Cc ps xs args (d.slot f (e t au) k) (by simp[f]) (by simpa using h1) (by simpa using C) (λt z=>e t (by simp[z])) (λi x B=>by
   obtain⟨u,s,r⟩:=hx (i+1) x (by simpa using B);exact⟨u,by simpa using s,r⟩)
  simpa using this
 |[],_::_,_,_,_,_,_,_,h,_,_,_=>by simp at h
 |_::_,[],_,_,_,_,_,_,h,_,_,_=>by simp at h
 |[],[],_::_,_,_,_,_,_,_,h,_,_=>by simp at h
 |_::_,_::_,[],_,_,_,_,_,_,h,_,_=>by simp at h
end
section
variable {P:Program} {Gl:V9} {aa:Wa} {nt:Nat}
structure na(P:Program)(Gl:V9)(aa:Wa)(nt:Nat)(live:Wa)(vs:JO)(a':Act)(g0:Gh)(h0:qa)(w:World)(hh:qa)(lp:Loop)(X:Nat->Prop)(W:World)(g:Gh):Prop where
 sr:SR Gl aa nt g (qB live vs hh) a' W
 fr:cS g0 h0 w g hh W
 own:g.own (w.heap.size+1)=none
 u:¬g.U (w.heap.size+1)
 lp:W.heap[w.heap.size+1]?=some (.loop lp)
 x:∀b,X b->b<W.heap.size/\g.own b=none/\¬g.U b/\w.heap.size+2<=b
def Marks.it{g:Gh}{W i:World}{ds:List Deferred}{l0:Wa}{B:Nat}{X E:Nat->Prop}(h:Marks g W ds){d:List Deferred}(u:ds=l0.map y7++d)(r:∀D,y7 D∉d)(s:∀D∈l0,D<B)(hx:∀b,X b->B<=b)(f:nv X W E i):Marks g i ds:=by
 obtain⟨C,l,h1,A,z⟩:=h;refine⟨wN C f.size,l,h1,A,λD a=>?_⟩;obtain⟨o,k,j,e⟩:=z D a;have a:=h1.mem u r a;refine⟨o,k,j,(f.same D (QW e) λx=>?_).trans e⟩;have:=s D a;have:=hx D x;omega
def na.step{live:Wa}{vs:JO}{j:Act}{g0 g:Gh}{h0 A:qa}{w W k:World}{lp:Loop}{X C:Nat->Prop}{l0:Wa}{z:List Deferred}(N:j.defers=l0.map y7++z)(I:∀D,y7 D∉z)(M:∀D∈l0,D<w.heap.size+2)
 (h:na P Gl aa nt live vs j g0 h0 w A lp X W g) (d:nv X W C k):na P Gl aa nt live vs j g0 h0 w A lp C k g:=by
 have B:∀b,g.U b∨g.own b≠none->k.heap[b]?=W.heap[b]?:=by
  intro b a;have H:b<W.heap.size:=by
   rcases a with a|a
   .exact(h.sr.hr.u b a).1
   .cases f:g.own b with
    |none=>exact absurd f a
    |some o=>exact(h.sr.hr.own b o f).2
  refine d.same b H λe=>?_;obtain⟨_,s,r,_⟩:=h.x b e;rcases a with a|a
  .exact r a
  .exact a s
 have R:=h.sr.world (w':=k) (ds:=j.defers) d.size B d.rm (h.sr.defers.it N I M (λb a=>(h.x b a).2.2.2) d);have Q:=QW h.lp;refine⟨R,?_,h.own,h.u,(d.same _ Q λe=>by have:=(h.x _ e).2.2.2;omega).trans h.lp,λb a=>?_⟩
 ·refine⟨h.fr.ar.trans ⟨λb a=>⟨a,B b (.inl a)⟩,λi b a=>⟨b,a,wc _,λ_=>⟨rfl,rfl,rfl⟩⟩,d.rm⟩,wN h.fr.size d.size,h.fr.own,d.os.trans h.fr.os,d.tape.trans h.fr.tape,d.output.trans h.fr.output,
   λb a J=>?_,h.fr.bs,h.fr.u,h.fr.u'⟩
  rw[d.same b (by have:=h.fr.size;omega) λe=>by have:=(h.x b e).2.2.2;omega];exact h.fr.same b a J
 .rcases d.new b a with e|e
  .obtain⟨S,s,r,E⟩:=h.x b e;exact⟨d.lt b a,s,r,E⟩
  .refine⟨d.lt b a,?_,λO=>?_,ae⟩
   .cases f:g.own b with
    |none=>rfl
    |some o=>have:=(h.sr.hr.own b o f).2;omega
   .have:=(h.sr.hr.u b O).1;omega
def na.dy{live:Wa}{vs:JO}{k:Act}{g0 g:Gh}{h0 B:qa}{w W:World}{lp lp':Loop}{X:Nat->Prop}{l0:Wa}{z:List Deferred}(M:k.defers=l0.map y7++z)(H:∀D,y7 D∉z)(J:∀D∈l0,D≠w.heap.size+1)
 (h:na P Gl aa nt live vs k g0 h0 w B lp X W g):na P Gl aa nt live vs k g0 h0 w B lp' X (W.putObj (w.heap.size+1) (.loop lp')) g:=by
 have N:=QW h.lp;have A:∀b n,room W b n->room (W.putObj (w.heap.size+1) (.loop lp')) b n:=by
  rintro b n ⟨s,e,d,f⟩;refine⟨s,e,?_,f⟩;rw[World.putObj_heap_other (by rintro rfl;rw[h.lp] at d;cases d)];exact d
 have C:∀b,g.U b∨g.own b≠none->(W.putObj (w.heap.size+1) (.loop lp')).heap[b]?=W.heap[b]?:=by
  intro b a;refine World.putObj_heap_other ?_;rintro rfl;rcases a with a|a
  .exact h.u a
  .exact a h.own
 have E:Marks g (W.putObj (w.heap.size+1) (.loop lp')) k.defers:=by
  obtain⟨h0,l,h1,Q,O⟩:=h.sr.defers;refine⟨by simpa using h0,l,h1,Q,λD j=>?_⟩;obtain⟨d,f,r,o⟩:=O D j;have j:=h1.mem M H j;exact⟨d,f,r,(World.putObj_heap_other (J D j)).trans o⟩
 refine⟨h.sr.world au C A E,?_,h.own,h.u,World.putObj_heap_same N,λb a=>?_⟩
 ·refine⟨h.fr.ar.trans ⟨λb a=>⟨a,C b (.inl a)⟩,λi b a=>⟨b,a,wc _,λ_=>⟨rfl,rfl,rfl⟩⟩,A⟩,by have:=h.fr.size;simp;omega,h.fr.own,h.fr.os,h.fr.tape,h.fr.output,
   λb a I=>?_,h.fr.bs,h.fr.u,h.fr.u'⟩
  rw[World.putObj_heap_other ae];exact h.fr.same b a I
 .obtain⟨d,f,r,o⟩:=h.x b a;exact⟨by simpa using d,f,r,o⟩
def Ex.code:Ex->Option Code
 |.normal=>none
 |.exit i=>some (.exit i)
 |.ret=>some .ret
def Ex.st:Ex->LoopState
 |.normal=>.ready
 |_=>.done
def NZ{V:World}{L:Nat}{i g:Loop}(j:V.heap[L]?=some (.loop g)):∀b n,room V b n->room (V.putObj L (.loop i)) b n:=by
 rintro b n ⟨d,e,a,f⟩;refine⟨d,e,?_,f⟩;rw[World.putObj_heap_other (by rintro rfl;rw[j] at a;cases a)];exact a
def N0{V:World}{L:Nat}{d:Loop}{gg:Gh}(e:gg.own L=none)(f:¬gg.U L):∀b,gg.U b∨gg.own b≠none->(V.putObj L (.loop d)).heap[b]?=V.heap[b]?:=by
 intro b a;refine World.putObj_heap_other ?_;rintro rfl;rcases a with a|a
 .exact f a
 .exact a e
structure ui(L:Nat)(g:Gh)(h:qa)(w:World)(g':Gh)(h':qa)(w':World):Prop where
 ar:z8 g h w g' h' w'
 size:w.heap.size<=w'.heap.size
 own:∀b,b<w.heap.size->g'.own b=g.own b
 os:w'.os=w.os
 tape:w'.tape=w.tape
 output:dQ w' w
 same:∀b,b<w.heap.size->b≠L->g.own b=none->w'.heap[b]?=w.heap[b]?
 bs:g'.bs=g.bs
 u:∀b,g'.U b->g.U b∨w.heap.size<=b
 u':∀b,g.U b->g'.U b
def cS.TU{g g':Gh}{h h':qa}{w w':World}(L:Nat)(f:cS g h w g' h' w'):ui L g h w g' h' w':=⟨f.ar,f.size,f.own,f.os,f.tape,f.output,λb d _ a=>f.same b d a,f.bs,f.u,f.u'⟩
def ui.trans{L:Nat}{g g1 g2:Gh}{h h1 h2:qa}{w f e:World}(a:ui L g h w g1 h1 f)(b:ui L g1 h1 f g2 h2 e):ui L g h w g2 h2 e:=by
 refine⟨a.ar.trans b.ar,wN a.size b.size,λk d=>(b.own k (by have:=a.size;omega)).trans (a.own k d),b.os.trans a.os,b.tape.trans a.tape,b.output.trans a.output,λk d j i=>?_,b.bs.trans a.bs,λk d=>?_,λk d=>b.u' k (a.u' k d)⟩
 .rw[b.same k (by have:=a.size;omega) j (by rw[a.own k d];exact i),a.same k d j i]
 .rcases b.u k d with h1|h1
  .exact a.u k h1
  .exact .inr (wN a.size h1)
def ui.dy{L:Nat}{g:Gh}{h:qa}{V:World}{e d:Loop}(j:V.heap[L]?=some (.loop d))(f:g.own L=none)(k:¬g.U L):ui L g h V g h (V.putObj L (.loop e)) :=
 ⟨⟨λb a=>⟨a,N0 f k b (.inl a)⟩,λi b a=>⟨b,a,wc _,λ_=>⟨rfl,rfl,rfl⟩⟩,NZ j⟩,au,λ_ _=>rfl,rfl,rfl,⟨rfl,wc _⟩,λb _ a _=>World.putObj_heap_other a,rfl,λ_ h=>.inl h,λ_ h=>h⟩
def na.round(N:P.follows .mixedOrders=true){live ps:Wa}{vs xs:JO}{A:Act}{g0 g:Gh}{h0 s h2:qa}{w W:World}{X:Nat->Prop}{l0:Wa}{lp:Loop}{ij ik:Code}{s1 s2:St}{e:Ex}
 {t0:List Deferred} (hd:A.defers=l0.map y7++t0) (H:∀D,y7 D∉t0) (hl:∀D∈l0,D<w.heap.size+1) (Em:live.length=vs.length) (uD:∀t∈live,t∉aa)
 (hlp:lp.state = .ready) (Ep:lp.pending=none) (htm:lp.tmps=A.tmps) (Bd:lp.params.toList=ps) (has:lp.assign=ij) (hbo:lp.body=ik) (IW:∀t∈ps,t<nt)
 (ha:qt ij=false) (j:qt ik=false)
 (g1:aC P Gl aa nt ij (qB (live++ps) (vs++xs) s) .normal s1) (g2:aC P Gl aa nt ik s1 e s2)
 (F7:am Gl aa nt live h0.length vs s2.h vs h2) (iC:HR g0 h0 w)
 (h:na P Gl aa nt live vs A g0 h0 w s lp X W g) {args:Array Value} (hx:Eo xs args) (uC:ps.length=xs.length) :
 YieldAt (QC none) 0 P (w.heap.size+1) args W λe' W'=>dI g0.U X W W'/\e' = .returned (.bool (match e with|.normal=>true|_=>false)) ∧
  ∃g',na P Gl aa nt live vs A g0 h0 w h2 { lp with state:=e.st,pending:=e.code } X W' g':=by
 refine⟨_,_,_,_,run_yield h.lp ?_,roundIn_of_wpIn trivial ?_⟩
 .have:=vD List.length Bd;simp only[xq] at this;rw[this,←hx.1];exact uC.symm
 have iA:SR Gl aa nt g (qB live vs s) { A with defers:=[] } W:=h.sr.world (wc _) (λ_ _=>rfl) (λ_ _ h=>h) (Marks.nil h.sr.defers.1);have dL:=SR.Cc ps xs args.toList iA Em uC (by simpa using hx.1) IW (λi x hi=>by
  obtain⟨v,q1,q2⟩:=hx.2 i x hi;exact⟨v,by simpa using q1,.aH _ _ (q2 _ _)⟩)
 have etm:(Array.foldl (λ(tmps:Array Value) (x:Tmp×Value)=>match x with|(t,a)=>tmps.setIfInBounds t a) lp.tmps (lp.params.zip args))=(ps.zip args.toList).foldl (λt (p,v)=>t.setIfInBounds p v) A.tmps:=by
  rw[←Bd,htm,←Array.foldl_toList,Array.toList_zip]
 subst has;subst hbo;rw[etm];refine g1 (some (w.heap.size+1)) 0 (λs=>by rw[ha] at s;cases s) g _ W dL _ λa1 Q J q1 f1 _=>?_;have hL:=QW h.lp;have Y:Q.heap[w.heap.size+1]?=some (.loop lp):=(f1.same _ hL h.own).trans h.lp;have o1:J.own (w.heap.size+1)=none:=(f1.own _ hL).trans h.own;have u1:¬J.U (w.heap.size+1):=λz=>by
  rcases f1.u _ z with q|q
  .exact h.u q
  .omega
 refine⟨_,run_beginRound Y hlp,?_⟩;have q1':=q1.world (w':=Q.putObj (w.heap.size+1) (.loop { lp with state:=.busy })) (ds:=a1.defers) au (N0 o1 u1) (NZ Y) (by
  obtain⟨p0,l,p1,p2,p3⟩:=q1.defers;refine⟨by simpa using p0,l,p1,p2,λD hD=>?_⟩;obtain⟨C,B,M,r⟩:=p3 D hD;refine⟨C,B,M,(World.putObj_heap_other ?_).trans r⟩;rintro rfl;rw[Y] at r;cases r)
 refine g2 (some (w.heap.size+1)) 0 (λs=>by rw[j] at s;cases s) J _ _ q1' _ λa2 E k q2 f2 _=>?_;have Dq:=QW Y;have R:E.heap[w.heap.size+1]?=some (.loop { lp with state:=.busy }):=(f2.same _ (by simpa using Dq) o1).trans (World.putObj_heap_same Dq);have N1:=QW R;have o2:k.own (w.heap.size+1)=none:=(f2.own _ (by simpa using Dq)).trans o1;have u2:¬k.U (w.heap.size+1):=λz=>by
  rcases f2.u _ z with q|q
  .exact u1 q
  .simp at q;omega
 have I:∀(W4:World),W4=E.putObj (w.heap.size+1) (.loop { lp with state:=e.st,pending:=e.code })->dI g0.U X W W4/\∃g',na P Gl aa nt live vs A g0 h0 w h2 { lp with state:=e.st,pending:=e.code } X W4 g':=by
  rintro W4 rfl;have t1:ui (w.heap.size+1) g s W J s1.h Q:=f1.TU _;have t2:ui (w.heap.size+1) J s1.h Q J s1.h (Q.putObj (w.heap.size+1) (.loop { lp with state:=.busy })):=ui.dy Y o1 u1;have t3:ui (w.heap.size+1) J s1.h (Q.putObj (w.heap.size+1) (.loop { lp with state:=.busy })) k s2.h E:=f2.TU _;have t4:ui (w.heap.size+1) k s2.h E k s2.h (E.putObj (w.heap.size+1) (.loop { lp with state:=e.st,pending:=e.code })):=ui.dy R o2 u2;have f:=((t1.trans t2).trans t3).trans t4;have bJ:cS g0 h0 w k s2.h (E.putObj (w.heap.size+1) (.loop { lp with state:=e.st,pending:=e.code })):=by
   refine⟨h.fr.ar.trans f.ar,wN h.fr.size f.size,λb j=>(f.own b (by have:=h.fr.size;omega)).trans (h.fr.own b j),f.os.trans h.fr.os,f.tape.trans h.fr.tape,f.output.trans h.fr.output,λb j hn=>?_,f.bs.trans h.fr.bs,λb j=>?_,λb j=>f.u' b (h.fr.u' b j)⟩
   .rw[f.same b (by have:=h.fr.size;omega) ae ((h.fr.own b j).trans hn)];exact h.fr.same b j hn
   .rcases f.u b j with q|q
    .exact h.fr.u b q
    .exact .inr (wN h.fr.size q)
  have q2':=q2.world (w':=E.putObj (w.heap.size+1) (.loop { lp with state:=e.st,pending:=e.code })) (ds:=[]) au (N0 o2 u2) (NZ R) (Marks.nil (by simpa using q2.defers.1));have cZ:SR Gl aa nt k (qB live vs s2.h) A (E.putObj (w.heap.size+1) (.loop { lp with state:=e.st,pending:=e.code })):=by
   refine⟨q2'.hr,?_,h.sr.size,h.sr.nt,λt H=>(h.sr.tmps t H).ar f.ar,λt H cells O=>?_,λd t o hl=>(by cases hl),λgl cells hg=>(h.sr.dU gl cells hg).ar f.ar.u,λd t o hl=>(by cases hl)⟩
   .obtain⟨p0,l,p1,p2,p3⟩:=h.sr.defers;refine⟨by rw[show k.low=g.low from vD (λx=>x.2.1) f.bs];exact wN p0 f.size,l,p1.to f.bs,p2,λD hD=>?_⟩;obtain⟨C,B,M,r⟩:=p3 D hD;have TV:=QW r;refine⟨by rw[show k.low=g.low from vD (λx=>x.2.1) f.bs];exact C,(f.own D TV).trans B,λz=>?_,(f.same D TV ?_ B).trans r⟩
    .rcases f.u D z with q|q
     .exact M q
     .omega
    .rintro rfl;rw[h.lp] at r;cases r
   ·exfalso;have:∀(l:Wa) (vs:JO) (e:Tr),t∉l->t<1024->Tr.get QQ (yu l vs e) t=Tr.get QQ e t:=by
     intro l
     induction l with
     |nil=>intro vs e _ _;simp only[yu]
     |cons i l ih =>
      intro vs e N H;cases vs with
      |nil=>simp only[yu]
      |cons y vs =>
       simp only[wK,not_or] at N;simp only[yu];rw[ih vs _ N.2 H];cases hi:Nat.blt i 1024 with
       |false=>rfl
       |true =>
        simp only[wm];have h1:Tr.get QQ (Tr.set QQ e i y) t=if t=i then y else Tr.get QQ e t:=Tr.eP 10 e i t y (by have:=Qb hi;omega) H;rw[h1,we N.1]
    rcases wt t 1024 with q|q
    .rw[FE q] at O;simp only[qB] at O;rw[this live vs .nil (λN=>uD t N H) q] at O;cases O
    .rw[BZ ae] at O;cases O
  obtain⟨g3,w1,w2,Z⟩:=F7 k A _ g0 h0 w (wc _) iC bJ cZ;refine⟨⟨f.size,λb j=>?_,λb ds j=>?_,f.os,f.tape,f.output,f.ar.rm⟩,g3,w1,w2,(Z _ o2).1,λz=>u2 ((Z _ o2).2 z),World.putObj_heap_same N1,λb j=>?_⟩
  .rcases j with j|j
   .obtain⟨C,B,M,r⟩:=h.x b j;exact f.same b C ae B
   .exact(f.ar.u b (h.fr.u' b j)).2
  .refine f.same b (QW j) (by rintro rfl;rw[h.lp] at j;cases j) ?_;cases ho:g.own b with
   |none=>rfl
   |some o =>
    rcases h.sr.hr.cells b o ho with⟨arr,e,q⟩|⟨i,es,c,_,q⟩
    .rw[j] at q;cases q
    .rw[j] at q;cases q
  .obtain⟨C,B,M,r⟩:=h.x b j;have ob:k.own b=none:=(f.own b C).trans B;refine⟨vd C f.size,(Z b ob).1,λz=>?_,r⟩;rcases f.u b ((Z b ob).2 z) with q|q
   .exact M q
   .omega
 cases e with
 |normal =>
  obtain⟨V,S⟩:=I _ rfl;exact⟨_,_,run_endRound none R,V,rfl,S⟩
 |exit i =>
  obtain⟨V,S⟩:=I _ rfl;exact⟨_,_,run_endRound (some (.exit i)) R,V,rfl,S⟩
 |ret =>
  obtain⟨V,S⟩:=I _ rfl;exact⟨_,_,run_endRound (some .ret) R,V,rfl,S⟩
end
section
variable {P:Program} {Gl:V9} {aa:Wa} {nt:Nat}
def qhC{n:Nat}{f:FuncId}{a:Array Value}{w:World}{R:Ending->World->Prop}(h:CallsIn (QC none) 0 P f a w R):CallsIn (QC none) n P f a w R:=callsIn_wide.2 (callsIn_wide.1 h)
def qgf{f:FuncId}(h:∃fn,P.funcs[f]?=some fn/\fn.body.isNone=false/\(fn.name=="runtime.NumGoroutine")=false)(a:Array Value)(w:World):(callFunc f a).run P w = .ok (.enter f a) w:=by
 obtain⟨fn,h1,d,i⟩:=h
 have j:¬fn.name = "runtime.NumGoroutine":=by simpa using i
 have e:¬fn.body=none:=by intro g;rw[g] at d;cases d
 simp[callFunc,h1,e,j]
def qi8(hm:P.follows .mixedOrders=true){live ps:Wa}{t:Nat}{vs:JO}{ij ik:Code}{psa:Array Nat}(Em:live.length=vs.length)(uD:∀t∈live,t∉aa)(N2:t∉aa)(Bd:psa.toList=ps)(IW:∀t∈ps,t<nt)
 (ha:qt ij=false) (d:qt ik=false) {O:FuncId} {aE:JO} (N3:aE.all zK=true) {N:Nat} {xs:Nat->JO} (F9:nz P Gl O aE N xs) (uC:∀i,i<N->ps.length=(xs i).length)
 (st:Nat->qa) (hg:(qB live vs (st 0)).at t = .fn O aE) {n:Nat} (hn:n<=N) {e1:Ex} {h1:qa}
 (round:∀i,i<n->∃s1 s2,aC P Gl aa nt ij (qB (live++ps) (vs++xs i) (st i)) .normal s1/\aC P Gl aa nt ik s1 .normal s2/\am Gl aa nt live (st 0).length vs s2.h vs (st (i+1)))
 (last:(n=N/\e1 = .normal/\h1=st N)∨(n<N/\e1≠.normal/\∃s1 s2,aC P Gl aa nt ij (qB (live++ps) (vs++xs n) (st n)) .normal s1/\aC P Gl aa nt ik s1 e1 s2/\am Gl aa nt live (st 0).length vs s2.h vs h1)) :
 aC P Gl aa nt (.rangeFunc (.tmp t) psa ij ik) (qB live vs (st 0)) e1 (qB live vs h1):=by
 intro ro nn cL g0 a w M Q hQ;obtain rfl:=cL rfl;have hv:=M.tmps t N2;rw[hg] at hv;obtain⟨S,ig,nl,r9⟩:=hv.gG;have Dl:a.eval (.tmp t) = .func (.func O) #[] S:=ig;refine wpIn_rangeFunc λfnm _=>?_;obtain⟨s,f⟩:∃s:Loop,s = { state:=.ready,pending:=none,fn:=fnm,tmps:=a.tmps,params:=psa,assign:=ij,body:=ik,defers:=w.heap.size }:=⟨_,rfl⟩;obtain⟨k,A⟩:∃k,(w.alloc (.deferred (some []))).alloc (.loop s)=k:=⟨_,rfl⟩;refine⟨w.heap.size+1,[y7 w.heap.size],k,{ target:=.fn (.func O) S,args:=#[.func (.yield (w.heap.size+1)) #[] #[]] },k,O,
  #[.func (.yield (w.heap.size+1)) #[] #[]]++S,k,?_,?_,λ_ _=>trivial,?_,(λhd=>by simp[QC] at hd),?_⟩
 .rw[←A,f];exact run_enterLoop_outer _ _ _ _ _
 .simp only[Go.resolve,Dl];simp[go_sem]
 .simp[invoke,go_sem,qgf F9.enters]
 have dM:k.heap.size=w.heap.size+2:=by rw[←A];simp
 have Y:∀b,b<w.heap.size->k.heap[b]?=w.heap[b]?:=λb d=>by
  rw[←A];exact(RowKit.Below.heap_alloc _ _ _ (by simp;omega)).trans (RowKit.Below.heap_alloc _ _ _ d)
 have hL:k.heap[w.heap.size+1]?=some (.loop s):=by
  rw[←A];have:=World.alloc_heap_new (w.alloc (.deferred (some []))) (.loop s);rwa[World.size_alloc] at this
 have hD:k.heap[w.heap.size]?=some (.deferred (some [])):=by
  rw[←A];exact(RowKit.Below.heap_alloc _ _ _ au).trans (World.alloc_heap_new w _)
 have z:HR g0 (st 0) w:=M.hr;have Ga:cS g0 (st 0) w g0 (st 0) k:=cS.NY z ae Y (by rw[←A];rfl) (by rw[←A];rfl) (by rw[←A];exact⟨rfl,wc _⟩);obtain⟨o5,l0,C6,mA,pY⟩:=M.defers;obtain⟨t0,C6,Ta,E⟩:=C6;have Ce:∀b,w.heap.size<=b->g0.own b=none:=λb d=>by
  cases V:g0.own b with
  |none=>rfl
  |some o=>have:=(z.own b o V).2;omega
 have TW:∀b,w.heap.size<=b->¬g0.U b:=λb d hU=>by have:=(z.u b hU).1;omega
 have B:([y7 w.heap.size]++a.defers)=(w.heap.size::l0).map y7++t0:=by rw[C6];rfl
 have sV:Marks g0 k ([y7 w.heap.size]++a.defers):=by
  refine⟨ae,w.heap.size::l0,⟨t0,B,Ta,E⟩,List.nodup_cons.2 ⟨λh=>by have:=QW (pY _ h).2.2.2;omega,mA⟩,λD j=>?_⟩;rcases wK.1 j with rfl|j
  .exact⟨o5,Ce _ (wc _),TW _ (wc _),hD⟩
  .obtain⟨q1,q2,q3,q4⟩:=pY D j;exact⟨q1,q2,q3,(Y D (QW q4)).trans q4⟩
 have N4:=M.world (w':=k) (ds:=[y7 w.heap.size]++a.defers) ae (λb d=>Y b (by
  rcases d with d|d
  .exact(z.u b d).1
  .cases V:g0.own b with
   |none=>exact absurd V d
   |some o=>exact(z.own b o V).2)) Ga.ar.rm sV
 have I:∀D∈(w.heap.size::l0),D<w.heap.size+1:=λD j=>by
  rcases wK.1 j with rfl|j
  .omega
  .have:=QW (pY D j).2.2.2;omega
 let J:Nat->(Nat->Prop)->World->Prop:=λi X W=>i<=n/\∃g,na P Gl aa nt live vs { a with defers:=[y7 w.heap.size]++a.defers } g0 (st 0) w (st i) s X W g
 let Jx:Nat->(Nat->Prop)->World->Prop:=λi X W=>e1≠.normal/\∃g,na P Gl aa nt live vs { a with defers:=[y7 w.heap.size]++a.defers } g0 (st 0) w h1 { s with state:=e1.st,pending:=e1.code } X W g
 have hJ:IV J:=λi X W X' W' ⟨h1,g,r⟩ iz=>⟨h1,g,r.step B E (λD j=>by have:=I D j;omega) iz⟩;have Cf:IV Jx:=λi X W X' W' ⟨h1,g,r⟩ iz=>⟨h1,g,r.step B E (λD j=>by have:=I D j;omega) iz⟩;have se:=F9.it w g0.U S (λb d=>(z.u b d).1) M.dU ⟨nl,λi x H=>by
  obtain⟨v,q1,q2⟩:=r9 i x H;exact⟨v,q1,jG (wA.1 N3 x (wo H)) q2⟩⟩ (w.heap.size+1) J Jx hJ Cf (λi X W args H hj hx=>?_) k ae (λb d=>Y b (z.u b d).1)
  ⟨wR _,g0,N4,Ga,Ce _ ae,TW _ ae,hL,λb d=>d.elim⟩
 .refine qhC (se.mono ?_);rintro e W ⟨⟨v,rfl⟩,⟨X,iU,g,r⟩|⟨i,X,H,Z,g,r⟩⟩
  .obtain rfl:n=N:=by omega
   rcases last with⟨_,rfl,rfl⟩|⟨aN,_⟩
   .have C:=r.dy (lp':={ s with state:=.exhausted }) B E (λD j=>by have:=I D j;omega);refine⟨none,_,?_,hQ _ _ g C.sr C.fr λh=>by cases h⟩;have:=run_endLoop (P:=P) r.lp (by rw[f];simp);rw[this,f]
   .omega
  .have C:=r.dy (lp':={ s with state:=.exhausted,pending:=e1.code }) B E (λD j=>by have:=I D j;omega);have u6:=run_endLoop (P:=P) r.lp (by cases e1<;>simp[Ex.st]);cases e1 with
   |normal=>exact absurd rfl Z
   |exit id=>exact⟨_,_,u6,wpIn_exit (hQ _ _ g C.sr C.fr λh=>by cases h)⟩
   |ret=>exact⟨_,_,u6,wpIn_ret (hQ _ _ g C.sr C.fr λh=>by cases h)⟩
 .obtain⟨iU,g,r⟩:=hj;rcases wt i n with aN|oH
  .obtain⟨s1,s2,k1,k2,k3⟩:=round i aN;obtain⟨N5,N6,N7,N8,y1,y2⟩:=r.round hm B E I Em uD (by rw[f]) (by rw[f]) (by rw[f]) (by rw[f];exact Bd) (by rw[f]) (by rw[f]) IW ha d k1 k2 k3 z hx (uC i H);refine⟨N5,N6,N7,N8,y1,y2.mono λe W' ⟨r1,r2,g',R⟩=>⟨r1,.inl ⟨r2,ae,g',?_⟩⟩⟩;rw[f] at R ⊢;exact R
  .obtain rfl:i=n:=by omega
   rcases last with⟨h2,_⟩|⟨_,Z,s1,s2,k1,k2,k3⟩
   .omega
   .obtain⟨N5,N6,N7,N8,y1,y2⟩:=r.round hm B E I Em uD (by rw[f]) (by rw[f]) (by rw[f]) (by rw[f];exact Bd) (by rw[f]) (by rw[f]) IW ha d k1 k2 k3 z hx (uC i H);refine⟨N5,N6,N7,N8,y1,y2.mono λe W' ⟨r1,r2,g',R⟩=>⟨r1,.inr ⟨?_,Z,g',R⟩⟩⟩;rw[r2];cases e1 with
    |normal=>exact absurd rfl Z
    |exit id=>rfl
    |ret=>rfl
end
section
variable {P:Program} {Gl:V9}
end
def N9:T->Bool
 |.agg l=>l.all qG
 |x=>qG x
section
variable {P:Program} {Gl:V9} {K:bA} {aa:Wa} {nt:Nat}
def VR.rW{w:World}{U:Nat->Prop}{φ:Nat->Option (Nat×Nat)}{h:qa}{l:Nat}{v:Value}(hx:Ab.VR w U φ h (.rW l) v):v = .func (.yield l) #[] #[]:=by cases hx with|aH _ _ a=>cases a;rfl
def TX{g:Gh}{h:qa}{w:World}{x:T}{v:Value}(hp:qG x=true)(hx:g.VR h w x v):NX x v:=λw' U=>by
 cases x with
 |undef=>exact .undef v
 |bool b=>rw[hx.bool];exact .bool b
 |int k n=>rw[hx.int];exact .int k n
 |str s=>obtain⟨b,rfl,a⟩:=hx.str;exact .str s b a
 |_=>cases hp
def qgg{g:Gh}{h:qa}{w:World}{x:T}{v:Value}(hp:N9 x=true)(hx:g.VR h w x v):NX x v:=by
 cases x with
 |agg l =>
  obtain⟨j,rfl,e,h1,f⟩:=hx.bM;intro w' U;refine VI.dc e h1 (λi c a=>?_);obtain⟨u,d,hr⟩:=f i c a;exact⟨u,d,TX (wA.1 hp c (wo a)) hr w' U⟩
 |_=>exact TX hp hx
structure It(Gl:V9)(aa:Wa)(nt:Nat)(R:Nat->Prop)(J:(Nat->Prop)->World->Prop)(X:Nat->Prop)(g:Gh)(s:St)(a:Act)(W:World):Prop where
 sr:SR Gl aa nt g s a W
 own:∀b,g.own b≠none->X b
 u:∀b,g.U b->X b∨R b
 lt:∀b,X b->b<W.heap.size
 j:J X W
 nd:a.defers=[]
def w7(J:(Nat->Prop)->World->Prop):Prop:=∀X W a d,J X W->nv X W a d->J a d
def It.IX{R:Nat->Prop}{J:(Nat->Prop)->World->Prop}{X:Nat->Prop}{g g':Gh}{s s':St}{a r:Act}{W f:World}(A:w7 J)(h:It Gl aa nt R J X g s a W)(k:SR Gl aa nt g' s' r f)(e:cS g s.h W g' s'.h f)(x:r.defers=a.defers) :
 It Gl aa nt R J (λb=>X b∨(W.heap.size<=b/\b<f.heap.size)) g' s' r f:=by
 refine⟨k,λb d=>?_,λb d=>?_,λb d=>?_,A X W _ f h.j ⟨e.size,λb d z=>e.same b d ?_,λb d=>.inl d,λb d=>?_,λb d=>?_,e.os,e.tape,e.output,e.ar.rm⟩,x.trans h.nd⟩
 .rcases wt b W.heap.size with q|q
  .rw[e.own b q] at d;exact .inl (h.own b d)
  .cases i:g'.own b with
   |none=>exact absurd i d
   |some o=>exact .inr ⟨q,(k.hr.own b o i).2⟩
 .rcases e.u b d with q|q
  .rcases h.u b q with q|q
   .exact .inl (.inl q)
   .exact .inr q
  .exact .inl (.inr ⟨q,(k.hr.u b d).1⟩)
 .rcases d with q|q
  .exact vd (h.lt b q) e.size
  .exact q.2
 .cases i:g.own b with
  |none=>rfl
  |some o=>exact absurd (h.own b (by rw[i];simp)) z
 .rcases d with q|q
  .exact .inl q
  .exact .inr q.1
 .rcases d with q|q
  .exact vd (h.lt b q) e.size
  .exact q.2
def It.code{R:Nat->Prop}{J:(Nat->Prop)->World->Prop}{X:Nat->Prop}{g:Gh}{s s':St}{a:Act}{W:World}{c:Code}{e:Ex}{n:Nat}{Q:Exit->Act->World->Prop}(r:w7 J)(h:It Gl aa nt R J X g s a W)(k:aC P Gl aa nt c s e s')(i:qt c=false)
 (o:∀z g' d f,It Gl aa nt R J z g' s' d f->Q e.out d f):c.wpIn (QC none) n P Q a W :=
 k none n (λ_=>rfl) g a W h.sr Q λd f g' u x j=>o _ g' d f (h.IX r u x (j i))
def dC.ta(x:aT P Gl K){ops:Array Oper}{l l2:List Oper}{s s':St}{fE:List FP}(h:dC P K Gl aa nt ops.toList l s s' fE):∀{g:Gh} {a:Act} {w:World},SR Gl aa nt g s a w →
 ∀(ro:Option Nat) (n:Nat) (Q:Exit->Act->World->Prop),(∀d w' g',SR Gl aa nt g' s' d w'->cS g s.h w g' s'.h w'->d.defers=a.defers->wpListIn (QC ro) n P ops Q l2 d w')->wpListIn (QC ro) n P ops Q (l++l2) a w:=by
 induction h with
 |nil s=>exact λe ro n Q f=>f _ _ _ e (cS.refl _ _ _) rfl
 |cons h1 C r =>
  intro g a w e ro n Q f;rw[List.cons_append];unfold wpListIn;have:=h1.goes x e ro n (wpListIn (QC ro) n P ops Q _) Q (λd w' g' z A o=>r z ro n Q λB i g2 u k j=>f B i g2 u (A.trans k) (j.trans o));split at this
  .rename_i hw;rw[wl hw];exact this
  .rename_i hw;rw[we hw];exact⟨λ_ _=>trivial,this⟩
def It.round{R:Nat->Prop}{J r:(Nat->Prop)->World->Prop}{X:Nat->Prop}{g:Gh}{s:St}{a:Act}{W f:World}{d:Nat}{b:Bool}(h:It Gl aa nt R J X g s a W)(Q:d<nt)(I:s.used d=false)(hr:dI R X W f)(O:r X f) :
 It Gl aa nt R r X g (s.lay d (.bool b) none) (a.put (some d) (.bool b)) f:=by
 have V:∀k,g.U k∨g.own k≠none->f.heap[k]?=W.heap[k]?:=λk e=>hr.same k (by
  rcases e with e|e
  .exact h.u k e
  .exact .inl (h.own k e))
 have N:Marks g f a.defers:=by
  obtain⟨H,l,m1,E,C⟩:=h.sr.defers;refine⟨wN H hr.size,l,m1,E,λD S=>?_⟩;obtain⟨B,A,z,j⟩:=C D S;exact⟨B,A,z,(hr.df D _ j).trans j⟩
 have i:=h.sr.world (w':=f) (ds:=a.defers) hr.size V hr.rm N;have:=i.done (d:=d) Q (x:=.bool b) (h':=s.h) (v:=.bool b) (w':=f) (g':=g) i.hr (.aH _ _ (.bool b)) (.refl _ _ _ _) (mh.refl _ _ λb o M=>(i.hr.own b o M).2) (hp:=none) rfl I;exact⟨this,h.own,h.u,λk e=>vd (h.lt k e) hr.size,O,(za _ _ _).trans h.nd⟩
def qhD{o:Oper}{a:Act}{ty l:Nat}{d:Array Operand}{ts:Array TypeId}{W:World}{args:Array Value}{x:Next}(f:o.op = .call { callee:=.value (.tmp ty),args:=d,argTypes:=ts })(i:a.eval (.tmp ty) = .func (.yield l) #[] #[])
 (g:d.map a.eval=args) (e:(Instr.yield l args).run P W = .ok x W):(execOp a.eval o).run P W = .ok x W:=by
 unfold execOp;rw[f];simp only[Sem.run_bind,Go.resolve,i,Deferred.ofValue];simp[invoke,g,e]
def IY(aa:Wa)(ops:List Oper)(y:Oper)(s:St):Bool:=match y.guard with
 |none=>true
 |some (j,want)=>match ZR ops j with
  |some a=>!(aa.contains a)&&(match s.at a with|.bool b=>(bif b then want else !want)|_=>false)
  |none=>false
def qcx{ops:Array Oper}{y:Oper}{s:St}{g:Gh}{a:Act}{W:World}(h:IY aa ops.toList y s=true)(z:SR Gl aa nt g s a W):Region.wanted y (yielded ops a.tmps)=true:=by
 unfold IY at h;cases o:y.guard with
 |none=>simp[Region.wanted,o]
 |some p =>
  obtain⟨j,d⟩:=p;rw[o] at h;dsimp only at h;cases e:ZR ops.toList j with
  |none=>rw[e] at h;cases h
  |some i =>
   rw[e] at h;simp only[wg,vn] at h;obtain⟨A,h⟩:=h;cases ed:s.at i with
   |bool b =>
    rw[ed] at h;dsimp only at h;have f:=z.tmps i (by simpa using A);rw[ed] at f;have f:=f.bool;have x:yielded ops a.tmps j=some b:=by
     have B:(ops[j]?).bind (·.dst)=some i:=by
      unfold ZR at e;rw[vt] at e;cases r:ops[j]? with
      |none=>rw[r] at e;cases e
      |some C=>rw[r] at e;exact e
     unfold yielded;rw[B];simp only[Option.bind_some];have u:i<a.tmps.size:=by
      rcases wt i a.tmps.size with k|k
      .exact k
      .rw[wG,xb k] at f;cases f
     rw[wG,wL u] at f;rw[wL u];simp only[xz] at f;rw[f]
    have hw:Region.wanted y (yielded ops a.tmps)=(b==d):=by simp[Region.wanted,o,x]
    rw[hw,←M4 b d];exact h
   |_=>rw[ed] at h;cases h
def It.region(D:aT P Gl K){R:Nat->Prop}{J Y V:(Nat->Prop)->World->Prop}{X:Nat->Prop}{g:Gh}{s s1:St}{sb:Bool->St}{a:Act}{W:World}{ops:Array Oper}{pre post:List Oper}{y:Oper}{id d ty l n:Nat}{H:Array Operand}{ts:Array TypeId}
 {fE:List FP} {fpb:Bool->List FP} {xs:JO} {Q:Exit->Act->World->Prop} (hJ:w7 J) (Ob:w7 Y) (Oc:w7 V) (h:It Gl aa nt R J X g s a W)
 (w8:ops.toList=pre++y::post) (hy:y.op = .call { callee:=.value (.tmp ty),args:=H,argTypes:=ts }) (hd:y.dst=some d) (Do:IY aa ops.toList y s1=true)
 (mG:dC P K Gl aa nt ops.toList pre { s with loc:=λ_=>none,used:=λ_=>false } s1 fE) (Od:s1.at ty = .rW l) (N2:ty∉aa) (TY:d<nt) (u4:s1.used d=false)
 (E:H.toList.map (ev Gl aa s1)=xs) (n6:xs.all N9=true)
 (Cg:∀b,dC P K Gl aa nt ops.toList post (s1.lay d (.bool b) none) (sb b) (fpb b))
 (sH:∀X W args,J X W->Eo xs args->YieldAt (QC none) 0 P l args W λe f=>dI R X W f/\((e = .returned (.bool true)/\Y X f)∨(e = .returned (.bool false)/\V X f)))
 (Oe:∀N g' o f,It Gl aa nt R Y N g' (sb true) o f->Q .normal o f) (Of:∀N g' o f,It Gl aa nt R V N g' (sb false) o f->Q .normal o f) :
 (Code.region id ops false).wpIn (QC none) n P Q a W:=by
 refine wpIn_region_list ?_;rw[w8];have iA:=h.sr.bare s.env (λt=>.inl rfl);refine mG.ta D iA none n Q λM W1 g1 r fU gj=>?_;have h1:=h.IX (s':=s1) (g':=g1) hJ r fU gj;unfold wpListIn;rw[wl (qcx Do r)];refine⟨λ_ _=>trivial,?_⟩;have Oa:M.eval (.tmp ty) = .func (.yield l) #[] #[]:=by
  have:=r.tmps ty N2;rw[Od] at this;exact this.rW
 have A:Eo xs (H.map M.eval):=by
  refine⟨by rw[←E];simp,λi x B=>?_⟩;rw[←E] at B;rw[wE,wI] at B;obtain⟨o0,z,rfl⟩:=B;rw[vt] at z;refine⟨M.eval o0,by simp[z],qgg ?_ (r.ev o0)⟩;exact wA.1 n6 _ (by rw[←E];exact List.mem_map_of_mem (wo (by rw[vt];exact z)))
 obtain⟨fn,tm,as,bo,y1,y2⟩:=sH _ W1 _ h1.j A;rw[Yk (qhD hy Oa rfl y1) au,Oper.uponIn_round];refine⟨(λC=>by simp[QC] at C),?_⟩;have y3:RoundIn (QC none) (n-1) P l fn tm as bo W1 _:=⟨y2.1,λc cs _=>y2.2 c cs (λ_ C=>by simp[QC] at C)⟩;refine y3.mono ?_;rintro e W2 ⟨r1,⟨rfl,u⟩|⟨rfl,u⟩⟩
 .have k:=h1.round TY u4 r1 u (b:=true);rw[hd];have:=(Cg true).ta (l2:=[]) D k.sr none n Q λI O g3 Z U S=>Oe _ g3 I O (k.IX Ob Z U S);simpa using this
 .have k:=h1.round TY u4 r1 u (b:=false);rw[hd];have:=(Cg false).ta (l2:=[]) D k.sr none n Q λI O g3 Z U S=>Of _ g3 I O (k.IX Oc Z U S);simpa using this
end
section
variable (P:Program) (K:bA) (G:V9) (aa:Wa) (nt:Nat)
def TZ(m:Nat)(c:Code)(l:Wa)(vs:JO)(h:qa)(l':Wa):Option (Ex×JO×qa) :=
 ib P K G aa nt (λ_ _=>[]) (kG P K G aa nt (λ_ _=>[]) m) c (qB l vs h) λe s=>some (e,z7 s l',s.h)
def T0(ops:Array Oper)(k:Nat)(l:Wa)(vs:JO)(h:qa)(l':Wa):Option (Nat×JO×(JO×qa)×(JO×qa)) :=
 match ops.toList[k]? with
 |some y=>match y.op,y.dst with
  |.call { callee:=.value (.tmp a),args:=g,.. },some d=>bif !(aa.contains a)&&Nat.blt d nt then
   yt P K G aa nt ops.toList (ops.toList.take k) (qB l vs h) λs1 _=>match s1.at a with
    |.rW n=>bif !(s1.used d)&&IY aa ops.toList y s1 then
     yt P K G aa nt ops.toList (ops.toList.drop (k+1)) (s1.lay d (.bool true) none) λe _=>yt P K G aa nt ops.toList (ops.toList.drop (k+1)) (s1.lay d (.bool false) none) λf _ =>
      some (n,g.toList.map (ev G aa s1),(z7 e l',e.h),(z7 f l',f.h))
     else none
    |_=>none
   else none
  |_,_=>none
 |none=>none
end
section
variable {P:Program} {Gl:V9} {K:bA} {aa:Wa} {nt:Nat}
def It.only{R:Nat->Prop}{J:(Nat->Prop)->World->Prop}{X:Nat->Prop}{g:Gh}{s:St}{a:Act}{W:World}(h:It Gl aa nt R J X g s a W)(l:Wa):It Gl aa nt R J X g (qB l (z7 s l) s.h) a W :=
 ⟨h.sr.only l,h.own,h.u,h.lt,h.j,h.nd⟩
def It.AG(k:P.follows .mixedOrders=true)(o:aT P Gl K)(r:nt<=1024){m n:Nat}{c:Code}{l l':Wa}{vs aS:JO}{h h':qa}{e:Ex}{R:Nat->Prop}{J:(Nat->Prop)->World->Prop}{X:Nat->Prop}{g:Gh}{a:Act}{W:World}{Q:Exit->Act->World->Prop}
 (d:TZ P K Gl aa nt m c l vs h l'=some (e,aS,h')) (s:qt c=false) (A:w7 J) (x:It Gl aa nt R J X g (qB l vs h) a W)
 (z:∀j g' f i,It Gl aa nt R J j g' (qB l' aS h') f i->Q e.out f i):c.wpIn (QC none) n P Q a W:=by
 unfold TZ at d;obtain⟨C,s1,d,u⟩:=QG k o r ((kO k o r m).mono (S:=λ_=>True)) c (λ_ _=>trivial) d;simp only[wi,wy] at d;obtain⟨rfl,rfl,rfl⟩:=d;exact x.code A u s λj g' f i B=>z j g' f i (B.only l')
def It.yield(Y:aT P Gl K){k n id l0:Nat}{ops:Array Oper}{l l':Wa}{vs vsT vsF xs:JO}{h hT hF:qa}{R:Nat->Prop}{J C B:(Nat->Prop)->World->Prop}{X:Nat->Prop}{g:Gh}{a:Act}{W:World}{Q:Exit->Act->World->Prop}
 (f:T0 P K Gl aa nt ops k l vs h l'=some (l0,xs,(vsT,hT),(vsF,hF))) (O:xs.all N9=true) (Z:w7 J) (Ob:w7 C) (Oc:w7 B) (U:It Gl aa nt R J X g (qB l vs h) a W)
 (M:∀X W o,J X W->Eo xs o->YieldAt (QC none) 0 P l0 o W λe i=>dI R X W i/\((e = .returned (.bool true)/\C X i)∨(e = .returned (.bool false)/\B X i)))
 (Oe:∀r g' j i,It Gl aa nt R C r g' (qB l' vsT hT) j i->Q .normal j i) (Of:∀r g' j i,It Gl aa nt R B r g' (qB l' vsF hF) j i->Q .normal j i) :
 (Code.region id ops false).wpIn (QC none) n P Q a W:=by
 unfold T0 at f;split at f
 .rename_i y u;split at f
  .rename_i ty aW ts d H V;obtain⟨A,f⟩:=qm f;simp only[wg,vn] at A;obtain⟨s1,D,f,S⟩:=Yo _ f;split at f
   ·rename_i n' Od;obtain⟨s,f⟩:=qm f;simp only[wg] at s;obtain⟨s,Do⟩:=s;obtain⟨I,fT,f,x⟩:=Yo _ f;obtain⟨N,fF,f,z⟩:=Yo _ f;simp only[wi,wy] at f;obtain⟨rfl,rfl,⟨rfl,rfl⟩,rfl,rfl⟩:=f;have E:ops.toList=ops.toList.take k++y::ops.toList.drop (k+1):=by
     have aN:k<ops.toList.length:=by
      rcases wt k ops.toList.length with q|q
      .exact q
      .rw[wz q] at u;cases u
     have Oi:ops.toList[k]=y:=by rw[wj aN] at u;exact wa u
     rw[←Oi,List.getElem_cons_drop,xw]
    refine It.region Y Z Ob Oc U E H V Do (s1:=s1) (fE:=D) (sb:=λb=>bif b then I else N) (fpb:=λb=>bif b then fT else fF) ?_ Od (by simpa using A.1) (Qb A.2) (by simpa using s) rfl O ?_ M (λr g' j i q=>Oe r g' j i (q.only l')) (λr g' j i q=>Of r g' j i (q.only l'))
    .exact S
    .intro b;cases b
     .exact z
     .exact x
   .cases f
  .cases f
 .cases f
def qpu(Gl:V9)(aa:Wa)(nt:Nat)(R:Nat->Prop)(J d:Nat->(Nat->Prop)->World->Prop)(N:Nat)(e:Exit)(a:Act)(W:World):Prop :=
 (e = .normal∨e = .ret)/\∃X g s,It Gl aa nt R (J N) X g s a W∨∃i,i<N/\It Gl aa nt R (d i) X g s a W
def qlX{H:FuncId}{fn:Func}{c:Code}(D:P.funcs[H]?=some fn)(d:fn.body=some c)(Bh:(fn.name=="runtime.NumGoroutine")=false)(bB:fn.results = #[])(aY:fn.ntmps<=1024){B:JO}(bv:B.length+1<=fn.ntmps){N:Nat}{xs:Nat->JO}
 (h:∀(l:Nat) (R:Nat->Prop) (J z:Nat->(Nat->Prop)->World->Prop),(∀i,w7 (J i))->(∀i,w7 (z i)) →
  (∀i X W k,i<N->J i X W->Eo (xs i) k->YieldAt (QC none) 0 P l k W λe f=>dI R X W f/\((e = .returned (.bool true)/\J (i+1) X f)∨(e = .returned (.bool false)/\z i X f))) →
  ∀X g a W,It Gl aa fn.ntmps R (J 0) X g (enter (.rW l::B) []) a W->c.wpIn (QC none) 0 P (qpu Gl aa fn.ntmps R J z N) a W):nz P Gl H B N xs:=by
 refine⟨⟨fn,D,by rw[d];rfl,Bh⟩,λw U lb Y cJ E l J z Z Cf S W dM cY Ds=>?_⟩;refine callsIn_of_wp D d trivial (wpIn_mono (h l U J z (λi X W C f=>Z i X W C f) (λi X W C f=>Cf i X W C f) S (λ_=>False) { U:=U,φ:=λ_=>none,own:=λ_=>none,base:=W.heap.size,low:=W.heap.size } _ W ?_) ?_) rfl
 .have M:eE w U W U:=λb d=>⟨d,cY b d⟩;refine⟨SR.enter (wc _) ⟨λi b d=>(by cases d),λb d=>⟨vd (Y b d) dM,rfl⟩,λb o A=>(by cases A),wc _,λb o A=>(by cases A),λb i A=>(by cases A),λi b m d=>by simp at d⟩ (λgl cells V=>(cJ gl cells V).ar M) ⟨by simp[E.1];omega,λi x u=>?_⟩ aY (by simpa using bv),λb d=>absurd rfl d,λb d=>.inr d,λb d=>d.elim,Ds,rfl⟩;cases i with
  |zero =>
   simp at u;subst u;exact⟨.func (.yield l) #[] #[],by rw[xS au];rfl,.aH _ _ (.rW l)⟩
  |succ i =>
   simp at u;obtain⟨v,Q,O⟩:=E.2 i x u;refine⟨v,?_,.aH _ _ (O.ar M)⟩;rw[Array.getElem?_append_right au];simpa using Q
 ·rintro e I f ⟨he,X,g,s,r⟩;have key:bodyPost P fn (λe f=>(∃v,e = .returned v)/\((∃X,J N X f)∨(∃i X,i<N/\z i X f))) .ret I f:=by
   have hr:(results fn I.tmps).run P f = .ok (.tuple #[]) f:=by
    rw[Tz,bB];simp
   rcases r with r|⟨i,u,r⟩
   ·exact⟨r.nd,_,hr,⟨_,rfl⟩,.inl ⟨X,r.j⟩⟩
   ·exact⟨r.nd,_,hr,⟨_,rfl⟩,.inr ⟨i,X,u,r.j⟩⟩
  rcases he with rfl|rfl
  .exact key
  .exact key
end
def ak.refl(h:qa):ak h h:=⟨rfl,λi b d h1 a=>by rw[h1] at a;obtain rfl:=wa a;exact⟨rfl,rfl,rfl,rfl,.inl,λ_ _=>rfl⟩⟩
def ak.nil:ak [] []:=.refl []
def ak.cons{b b2:aq}{h h2:qa}(a:b2.aj=b.aj/\b2.sz=b.sz/\b2.n=b.n/\(b2.flat=true->b.flat=true)/\∀j,j<b.n->b2.get j=b.get j)(e:ak h h2)(f:b2.mp=b.mp:=by rfl):ak (b::h) (b2::h2):=by
 refine⟨by simp[e.1],λi x y h1 d=>?_⟩;cases i with
 |zero=>simp at h1 d;subst h1;subst d;exact⟨f,a.1,a.2.1,a.2.2.1,λq=>.inl (a.2.2.2.1 q),a.2.2.2.2⟩
 |succ i=>exact e.2 i x y (by simpa using h1) (by simpa using d)
def LT.w9{c:Bool}{e e':Ex}{vs aS:JO}{h h':qa}(a:(LT.ite c (.ret e vs h) .none).run (λe vs h=>some (e,vs,h))=some (e',aS,h')):c=true/\e=e'/\vs=aS/\h=h':=by
 simp only[LT.run] at a;obtain⟨d,a⟩:=qm a;simp only[wi,wy] at a;exact⟨d,a.1,a.2.1,a.2.2⟩
section
variable {P:Program} {Gl:V9}
def am.Gb{aa:Wa}{nt:Nat}{l:Wa}{k m:Nat}{vs:JO}{h:qa}(a:k<=m)(e:JF m vs h=true):am Gl aa nt l k vs h vs (h.take m) :=
 λg _ _ _ _ _ i d j f=>⟨_,f.take e,j.take d (wN i a),.cut g m⟩
def Ch(P:Program)(Gl:V9)(an:cq)(f r:Nat)(vs:JO)(h:qa)(e:Ex)(aS:JO)(h':qa):Prop :=
 ∃(A:FuncId->cq) (K:bA) (m:Nat) (l:List (Nat×(JO->qa->LT))),aT P Gl K/\(A f).aa=an.aa/\(A f).live r=an.live r/\(∀p∈l,aG P Gl (A f) f p.1 p.2)/\QB P Gl A K m f l r vs h=some (e,aS,h')
def qlY(o:P.follows .mixedOrders=true){f r:Nat}(u:JE P f r=true){an:cq}{fn:Func}(s:P.funcs[f]?=some fn)(B:fn.ntmps<=1024)(vs:Nat->JO)(a:Nat->qa){n:Nat}{e1:Ex}{fA:JO}{h1:qa}
 (round:∀i,i<n->∃aS h',Ch P Gl an f r (vs i) (a i) .normal aS h'/\am Gl an.aa fn.ntmps (an.live r false) (a 0).length aS h' (vs (i+1)) (a (i+1)))
 (last:e1≠.normal/\∃aS h',Ch P Gl an f r (vs n) (a n) e1 aS h'/\am Gl an.aa fn.ntmps (an.live r true) (a 0).length aS h' fA h1) :
 aC P Gl an.aa fn.ntmps (Z0 (Z6 P f r)) (qB (an.live r false) (vs 0) (a 0)) e1 (qB (an.live r true) fA h1):=by
 refine qi7 o u (λm v h=>∃i,i<=n/\m=n-i/\v=vs i/\h=a i) s B (λm v h x=>?_) (n:=n) ⟨0,ae,ae,rfl,rfl⟩;obtain⟨i,E,rfl,rfl,rfl⟩:=x;rcases wt i n with C|D
 .obtain⟨aS,h',⟨A,K,m,l,k,j,g,e,d⟩,hw⟩:=round i C;exact⟨A,K,m,l,k,j,g,e,.normal,aS,h',d,.inl ⟨rfl,n-(i+1),_,_,ae,hw,i+1,ae,rfl,rfl,rfl⟩⟩
 .obtain rfl:i=n:=by omega
  obtain⟨z,aS,h',⟨A,K,m,l,k,j,g,e,d⟩,hw⟩:=last;exact⟨A,K,m,l,k,j,g,e,e1,aS,h',d,.inr ⟨z,rfl,hw⟩⟩
noncomputable def Zy(vs:JO)(h:qa)(a:JO)(h0:qa):Bool:=@decide (∀(Gl:V9) (aa:Wa) (nt:Nat) (l:Wa),am Gl aa nt l h.length vs h a h0) (Classical.propDecidable _)
def T2{vs a:JO}{h h0:qa}:Zy vs h a h0=true↔∀(Gl:V9) (aa:Wa) (nt:Nat) (l:Wa),am Gl aa nt l h.length vs h a h0:=by simp[Zy]
def QH{vs a:JO}{h h0:qa}(q:vs=a/\ak h h0):Zy vs h a h0=true:=T2.2 λGl aa nt l=>by
 rw[q.1];exact am.same q.2
noncomputable def Qx(d:JO)(h0:qa)(e:Ex)(fA:JO)(h1:qa):JO->qa->LT:=λa h=>.ite (Zy a h d h0) (.ret e fA h1) .none
def aG.lit{an:cq}{f r:Nat}{a fA:JO}{h0 h1:qa}{e:Ex}
 (g:∀fn,P.funcs[f]?=some fn->fn.ntmps<=1024->aC P Gl an.aa fn.ntmps (Z0 (Z6 P f r)) (qB (an.live r false) a h0) e (qB (an.live r true) fA h1)):aG P Gl an f r (Qx a h0 e fA h1):=by
 intro fn i k o h s u h' d;unfold Qx at d;obtain⟨j,rfl,rfl,rfl⟩:=LT.w9 d;exact aC.NV (g fn i k) (T2.1 j _ _ _ _)
def QS{an:cq}{f r:Nat}{s:JO->qa->LT}(h:aG P Gl an f r s):∀p∈[(r,s)],aG P Gl an f p.1 p.2:=λp a=>by
 simp only[wM] at a;subst a;exact h
def IZ{an:cq}{f r:Nat}{s:JO->qa->LT}{l:List (Nat×(JO->qa->LT))}(h:aG P Gl an f r s)(d:∀p∈l,aG P Gl an f p.1 p.2):∀p∈(r,s)::l,aG P Gl an f p.1 p.2:=λp a=>by
 rcases wK.1 a with rfl|a
 .exact h
 .exact d p a
end
section
variable {P:Program} {Gl:V9} {A:FuncId->cq}
structure aR(P:Program)(Gl:V9)(f:FuncId)(args:JO)(h:qa)(r:T)(h':qa):Prop where
 enters:∃fn,P.funcs[f]?=some fn/\fn.body.isNone=false/\(fn.name=="runtime.NumGoroutine")=false
 calls:∀(g:Gh) (w:World) (aA:Array Value),HR g h w->Km g->ZB Gl w g.U->bQ g h w args aA →
  Calls P f aA w λe w'=>∃v,e = .returned v/\gV g h w r h' v w'
inductive ma where
 |none
 |ret (v:T) (h:qa)
 |ite (c:Bool) (x y:ma)
def ma.run{R:Type}:ma->(T->qa->Option R)->Option R
 |.none,_=>Option.none
 |.ret v h,k=>k v h
 |.ite c x y,k=>bif c then x.run k else y.run k
def ma.v4:∀t:ma,cV (A:=T×qa) λR k=>t.run (R:=R) λv h=>k (v,h)
 |.none=>qj
 |.ret v h=>qn (v,h)
 |.ite c x y=>qK c x.v4 y.v4
def bA.cE(K:bA)(f:FuncId)(d:JO->qa->ma):bA where
 cN e:=bif e==f then true else K.cN e
 val:=K.val
 ref e a h R k:=bif e==f then(d a h).run k else K.ref e a h R k
 dv:=K.dv
 dw e a h:=qK _ (d a h).v4 (K.dw e a h)
 ro e:=bif e==f then false else K.ro e
def qC{z:bA}(j:aT P Gl z){f:FuncId}{i:JO->qa->ma}(s:∀a h r h',(i a h).run (λv h=>some (v,h))=some (r,h')->aR P Gl f a h r h'):aT P Gl (z.cE f i):=by
 refine⟨λe hx=>?_,j.val,λe a h r h' hx g w aA hr o x u=>?_,λe k a h r h' hx=>?_⟩
 .rcases hx with hx|⟨a,h,⟨r,h'⟩,hx⟩
  .exact j.enters e (.inl hx)
  .simp only[bA.cE] at hx;rcases qx hx with⟨he,d⟩|⟨_,d⟩
   .have he:e=f:=by simpa using he
    subst he;exact(s a h r h' d).enters
   .exact j.enters e (.inr ⟨a,h,_,d⟩)
 .simp only[bA.cE] at hx;rcases qx hx with⟨he,d⟩|⟨_,d⟩
  .have he:e=f:=by simpa using he
   subst he;exact(s a h r h' d).calls g w aA hr o x u
  .exact j.ref e a h r h' d g w aA hr o x u
 .simp only[bA.cE] at k hx;rcases qx hx with⟨he,d⟩|⟨he,d⟩
  .rw[he] at k;cases k
  .rw[he] at k;exact j.ro e k a h r h' d
def bA.inl(K:bA)(P:Program)(Gl:V9)(A:FuncId->cq)(K0:bA)(m:Nat)(f:FuncId):bA where
 cN e:=bif e==f then true else K.cN e
 val:=K.val
 ref e a h R k:=bif e==f then j0 P Gl A K0 (uy P Gl A K0 m f) f a h k else K.ref e a h R k
 dv:=K.dv
 dw e a h:=qK _ (NC (kP P Gl A K0 m f) f a h) (K.dw e a h)
 ro e:=bif e==f then false else K.ro e
end
def qF{R:Type}{c:Bool}{x y r:R}(a:¬c=true)(h1:y=r):(bif c then x else y)=r:=by cases c;exact h1;exact absurd rfl a
def T3{a b:Nat}:((a==b)=true)=(a=b):=by simp
def qs1{a b:Nat}:(Nat.blt a b=true)=(a<b):=by simp[Nat.blt_eq]
def qs2{a b:Nat}:(Nat.ble a b=true)=(a<=b):=by simp[Nat.ble_eq]
def Qu(n:Nat):Int.ofNat n=(n:Int):=rfl
def qpv(n:Nat):(n:Int).toNat=n:=rfl
def qnE(n:Nat):((n:Int)+1).toNat=n+1:=rfl
section
variable {P:Program} {Gl:V9}
def Step(P:Program)(Gl:V9)(an:cq)(f r k:Nat)(vs:JO)(h:qa)(aS:JO)(h':qa):Prop :=
 ∃a h1,Ch P Gl an f r vs h .normal a h1/\∀nt,am Gl an.aa nt (an.live r false) k a h1 aS h'
def cz(P:Program)(Gl:V9)(an:cq)(f r k:Nat)(vs:JO)(h:qa)(e:Ex)(aS:JO)(h':qa):Prop :=
 e≠.normal/\∃a h1,Ch P Gl an f r vs h e a h1/\∀nt,am Gl an.aa nt (an.live r true) k a h1 aS h'
def T4{aa:Wa}{nt:Nat}{l:Wa}{k:Nat}{vs:JO}{h1 h':qa}(a:Nat)(f:k<=a)(d:JF a vs h1=true)(e:ak (h1.take a) h'):am Gl aa nt l k vs h1 vs h' :=
 .trans (.Gb f d) (.same e)
def Step.mk{an:cq}{A:FuncId->cq}{K:bA}{f r m k:Nat}{l:List (Nat×(JO->qa->LT))}{vs aS:JO}{h h1 h':qa}(o:aT P Gl K)(hp:(A f).aa=an.aa)(g:(A f).live r=an.live r)(j:∀p∈l,aG P Gl (A f) f p.1 p.2)
 (a:Nat) (i:k<=a) (hr:QB P Gl A K m f l r vs h=some (.normal,aS,h1)) (d:JF a aS h1=true) (e:ak (h1.take a) h'):Step P Gl an f r k vs h aS h' :=
 ⟨aS,h1,⟨A,K,m,l,o,hp,g,j,hr⟩,λ_=>T4 a i d e⟩
def Step.gu{an:cq}{A:FuncId->cq}{K:bA}{f r m k:Nat}{l:List (Nat×(JO->qa->LT))}{vs aS:JO}{h h1 h':qa}(g:aT P Gl K)(hp:(A f).aa=an.aa)(d:(A f).live r=an.live r)(e:∀p∈l,aG P Gl (A f) f p.1 p.2)
 (hr:QB P Gl A K m f l r vs h=some (.normal,aS,h1)) (a:ak h1 h'):Step P Gl an f r k vs h aS h' :=
 ⟨aS,h1,⟨A,K,m,l,g,hp,d,e,hr⟩,λ_=>.same a⟩
def cz.gu{an:cq}{A:FuncId->cq}{K:bA}{f r m k:Nat}{l:List (Nat×(JO->qa->LT))}{vs aS:JO}{h h1 h':qa}{e:Ex}(i:aT P Gl K)(hp:(A f).aa=an.aa)(d:(A f).live r=an.live r)(g:∀p∈l,aG P Gl (A f) f p.1 p.2)
 (he:e≠.normal) (hr:QB P Gl A K m f l r vs h=some (e,aS,h1)) (a:ak h1 h'):cz P Gl an f r k vs h e aS h' :=
 ⟨he,aS,h1,⟨A,K,m,l,i,hp,d,g,hr⟩,λ_=>.same a⟩
def cz.mk{an:cq}{A:FuncId->cq}{K:bA}{f r m k:Nat}{l:List (Nat×(JO->qa->LT))}{vs aS:JO}{h h1 h':qa}{e:Ex}(s:aT P Gl K)(hp:(A f).aa=an.aa)(i:(A f).live r=an.live r)(o:∀p∈l,aG P Gl (A f) f p.1 p.2)
 (he:e≠.normal) (a:Nat) (j:k<=a) (hr:QB P Gl A K m f l r vs h=some (e,aS,h1)) (d:JF a aS h1=true) (g:ak (h1.take a) h'):cz P Gl an f r k vs h e aS h' :=
 ⟨he,aS,h1,⟨A,K,m,l,s,hp,i,o,hr⟩,λ_=>T4 a j d g⟩
def qV(j:P.follows .mixedOrders=true){f r:Nat}(s:JE P f r=true){an:cq}(vs:Nat->JO)(a:Nat->qa){n:Nat}{e1:Ex}{fA:JO}{h1:qa}
 (round:∀i,i<n->Step P Gl an f r (a 0).length (vs i) (a i) (vs (i+1)) (a (i+1))) (last:cz P Gl an f r (a 0).length (vs n) (a n) e1 fA h1):aG P Gl an f r (Qx (vs 0) (a 0) e1 fA h1) :=
 .lit λfn o u=>qlY j s o u vs a (n:=n) (λi k=>by
  obtain⟨d,h1,g,e⟩:=round i k;exact⟨d,h1,g,e _⟩) (by
  obtain⟨he,d,h1,g,e⟩:=last;exact⟨he,d,h1,g,e _⟩)
def qP{an:cq}{f:Nat}:∀p∈([]:List (Nat×(JO->qa->LT))),aG P Gl an f p.1 p.2:=λp a=>by cases a
end
def qja{α:Type}{d x:α}{l:List α}{j:Nat}(q:j<l.length):(l++[x]).getD j d=l.getD j d:=by
 rw[wh,wh,wx q]
def qjb{α:Type}{d x:α}{l:List α}:(l++[x]).getD l.length d=x:=by
 rw[wh,wH (wc _),wW];rfl
def qnF{α:Type}{enc:α->JO}{d x:α}{l:List α}{g2:Nat->JO}(h2:g2 0=enc x){j:Nat}(a:j<l.length+1) :
 enc ((l++[x]).getD j d)=(bif Nat.blt j l.length then enc (l.getD (0+j) d) else g2 (j-l.length)):=by
 rw[wn];by_cases q:j<l.length
 .rw[qL q,qja q];rfl
 .obtain rfl:j=l.length:=by omega
  rw[QP (wc _),wW,wp,h2,qjb]
end Go.Ab
