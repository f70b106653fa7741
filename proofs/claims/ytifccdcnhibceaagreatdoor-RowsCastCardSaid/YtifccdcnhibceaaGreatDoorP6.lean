/- A part of the proof: nothing is assumed. -/
import Derived.Test.YtifccdcnhibceaaGreatDoorP4
set_option linter.all false
namespace Go.Ab
def NilT(H:qk)(lo:Nat)(x y:T):Prop:=x=y∨(x = .nils/\∃k b cap,lo<=k/\H[k]?=some b/\b.n=0/\(∀m,cap=some m->m=0)/\y = .own k b.ver 0 0 cap)
theorem NilT.refl{H:qk}{lo:Nat}(x:T):NilT H lo x x:=.inl rfl
theorem NilT.own{H:qk}{lo k:Nat}{b:Blk}(hk:lo<=k)(hb:H[k]?=some b)(hn:b.n=0):NilT H lo .nils (.own k b.ver 0 0 none):=.inr ⟨rfl,k,b,none,hk,hb,hn,fun _ h=>(by cases h),rfl⟩
def NilL(H:qk)(lo:Nat)(l m:List T):Prop:=l.length=m.length/\∀(i:Nat) a b,l[i]?=some a->m[i]?=some b->NilT H lo a b
theorem NilL.refl{H:qk}{lo:Nat}(l:List T):NilL H lo l l:=⟨rfl,fun i a b h1 h2=>by rw[h1] at h2;obtain rfl:=Option.some.inj h2;exact .refl _⟩
theorem NilL.cons{H:qk}{lo:Nat}{x y:T}{l m:List T}(h:NilT H lo x y)(hl:NilL H lo l m):NilL H lo (x::l) (y::m):=by
 refine⟨by simp[hl.1],fun i a b h1 h2=>?_⟩;cases i with
 |zero=>simp at h1 h2;subst h1;subst h2;exact h
 |succ i=>exact hl.2 i a b (by simpa using h1) (by simpa using h2)
theorem NilL.get{H:qk}{lo:Nat}{l m:List T}(h:NilL H lo l m){i:Nat}{b:T}(hb:m[i]?=some b):∃a,l[i]?=some a/\NilT H lo a b:=by
 have hi:=qR hb;have ha:l[i]?=some (l[i]'(by rw[h.1];exact hi)):=List.getElem?_eq_getElem _;exact⟨_,ha,h.2 i _ _ ha hb⟩
def NilS(H:qk)(lo:Nat)(x y:T):Prop:=NilT H lo x y∨(∃l m,x = .reg l/\y = .reg m/\NilL H lo l m)∨∃l m,x = .agg l/\y = .agg m/\NilL H lo l m
theorem NilS.refl{H:qk}{lo:Nat}(x:T):NilS H lo x x:=.inl (.refl x)
theorem NilS.reg{H:qk}{lo:Nat}{l m:List T}(h:NilL H lo l m):NilS H lo (.reg l) (.reg m):=.inr (.inl ⟨l,m,rfl,rfl,h⟩)
theorem NilS.agg{H:qk}{lo:Nat}{l m:List T}(h:NilL H lo l m):NilS H lo (.agg l) (.agg m):=.inr (.inr ⟨l,m,rfl,rfl,h⟩)
inductive NilBs(H:qk)(lo:Nat):qk->qk->Prop
 |nil:NilBs H lo [] []
 |same (b:Blk) {h h2:qk} (hs:NilBs H lo h h2):NilBs H lo (b::h) (b::h2)
 |chg {b b2:Blk} {h h2:qk} (e:b2.mp=b.mp/\b2.ver=b.ver/\b2.sz=b.sz/\b2.n=b.n) (hf:b2.flat=false) (hc:∀j,j<b.n->NilL H lo (b.get j) (b2.get j)) (hs:NilBs H lo h h2):NilBs H lo (b::h) (b2::h2)
theorem NilBs.refl{H:qk}{lo:Nat}:∀h:qk,NilBs H lo h h
 |[]=>.nil
 |b::h=>.same b (NilBs.refl h)
theorem NilBs.at{H:qk}{lo:Nat}{h h2:qk}(hs:NilBs H lo h h2):h2.length=h.length/\∀(i:Nat) b b2,h[i]?=some b->h2[i]?=some b2->(b2.mp=b.mp/\b2.ver=b.ver/\b2.sz=b.sz/\b2.n=b.n)/\(b2.flat=true->b=b2)/\∀j,j<b.n->NilL H lo (b.get j) (b2.get j):=by
 induction hs with
 |nil=>exact⟨rfl,fun i b b2 h=>by simp at h⟩
 |same b hs ih =>
  refine⟨by simp[ih.1],fun i x y q1 q2=>?_⟩;cases i with
  |zero=>simp at q1 q2;subst q1;subst q2;exact⟨⟨rfl,rfl,rfl,rfl⟩,fun _=>rfl,fun j _=>.refl _⟩
  |succ i=>exact ih.2 i x y (by simpa using q1) (by simpa using q2)
 |chg e hf hc hs ih =>
  refine⟨by simp[ih.1],fun i x y q1 q2=>?_⟩;cases i with
  |zero=>simp at q1 q2;subst q1;subst q2;exact⟨e,(fun h=>by rw[hf] at h;cases h),hc⟩
  |succ i=>exact ih.2 i x y (by simpa using q1) (by simpa using q2)
section
variable {g:Gh} {h:qk} {w:World}
theorem HR.adoptNils:∀(bs:qk) {g:Gh} {h:qk},HR g h w->(∀b,b∈bs->b.n=0/\b.mp=none) →
 ∃g',(∀k,h.length<=k->k<h.length+bs.length->g'.φ k=none)/\(∀k,k<h.length->g'.φ k=g.φ k)/\g'.U=g.U/\g'.bs=g.bs/\g'.own=g.own/\HR g' (h++bs) w/\zK g h w g' (h++bs) w
 |[],g,h,hr,_=>⟨g,fun k h1 h2=>by simp at h2;omega,fun _ _=>rfl,rfl,rfl,rfl,by rw[List.append_nil];exact hr,by rw[List.append_nil];exact .refl _ _ _ _⟩
 |b::bs,g,h,hr,hb=>by
  obtain⟨g1,q1,q2,q3,q4,q5,q6,q7⟩:=hr.adoptNil (hb b (by simp)).1 (hb b (by simp)).2;obtain⟨g2,r1,r2,r3,r4,r5,r6,r7⟩:=HR.adoptNils bs q6 (fun x hx=>hb x (by simp[hx]));have e:h++[b]++bs=h++b::bs:=by simp
  rw[e] at r6 r7;refine⟨g2,fun k h1 h2=>?_,fun k hk=>?_,r3.trans q3,r4.trans q4,r5.trans q5,r6,q7.trans r7⟩
  ·by_cases hk:k=h.length
   ·subst hk;exact(r2 _ (by simp)).trans q1
   ·exact r1 k (by simp;omega) (by simp at h2 ⊢;omega)
  ·exact(r2 k (by simp;omega)).trans (q2 k (by omega))
theorem NilT.vr{H:qk}{lo:Nat}{x y:T}{v:Value}(hφ:∀k b,lo<=k->H[k]?=some b->g.φ k=none)(r:NilT H lo x y)(hx:g.VR H w x v):g.VR H w y v:=by
 rcases r with rfl|⟨rfl,k,b,cap,h1,h2,h3,h4,rfl⟩
 ·exact hx
 ·obtain rfl:=hx.nils;exact .own _ _ _ _ _ b _ h2 (Nat.le_refl _) rfl fun _=>.inr ⟨hφ k b h1 h2,h3,rfl,rfl,h4,rfl⟩
theorem NilBs.keep{H:qk}{lo:Nat}{h h2:qk}(hs:NilBs H lo h h2)(w:World)(U:Nat->Prop)(φ:Nat->Option (Nat×Nat)):KeepR w U φ h w U φ h2 :=
 ⟨.refl _ _,fun i b hb=>by
  have hi:=qR hb;have hb2:h2[i]?=some (h2[i]'(by rw[hs.at.1];exact hi)):=List.getElem?_eq_getElem _;obtain⟨⟨_,q1,q2,q3⟩,_⟩:=hs.at.2 i b _ hb hb2;exact⟨_,hb2,by omega,fun _=>⟨q2,q3,rfl⟩⟩,fun _ _ hr=>hr⟩
theorem HR.nilBs{H h2:qk}{lo:Nat}(hr:HR g H w)(hs:NilBs h2 lo H h2)(hφ:∀k b,lo<=k->h2[k]?=some b->g.φ k=none):HR g h2 w:=by
 have back:∀i b2,h2[i]?=some b2->∃b,H[i]?=some b:=fun i b2 hb=>⟨_,List.getElem?_eq_getElem (by rw[←hs.at.1];exact qR hb)⟩;refine⟨fun i b2 hb hmp2=>?_,hr.u,hr.own,hr.base,hr.cells,fun b i ho=>by rw[hs.at.1];exact hr.lt b i ho,fun i b2 m hb hm=>by
  obtain⟨b,hb0⟩:=back i b2 hb;exact hr.mp_of hb0 ((hs.at.2 i b b2 hb0 hb).1.1▸hm) rfl (fun _ hc=>hc) fun _ _ _=>rfl⟩
 obtain⟨b,hb0⟩:=back i b2 hb;obtain⟨⟨q0,q1,q2,q3⟩,q4,q5⟩:=hs.at.2 i b b2 hb0 hb;rcases hr.blk0 i b hb0 (q0▸hmp2) with⟨cb,sh,arr,e,hok⟩|⟨w1,w2⟩
 rotate_left
 ·exact .inr ⟨w1,by omega⟩
 refine .inl ⟨cb,sh,arr,e,hok.φ,hok.own,hok.heap,by rw[q2,q3];exact hok.room,fun j hj=>?_,fun j o c hj ho=>?_,fun hf j hj c hc=>?_⟩
 ·rw[←(q5 j (by omega)).1,q2];exact hok.len j (by omega)
 ·obtain⟨c0,h0,hsim⟩:=(q5 j (by omega)).get ho;obtain⟨v,h1,h3,h4⟩:=hok.cell j o c0 (by omega) h0;rw[q2];exact⟨v,h1,h3,hsim.vr hφ (h4.keep (hs.keep _ _ _))⟩
 ·obtain rfl:=q4 hf;exact hok.flat hf j hj c hc
end
section
variable {P:Program} {Gl:Nat->Option (List T)} {prom:List Nat} {nt:Nat}
theorem WeakTo.ghost{l:List Nat}{k:Nat}{vs vs2:List T}{h h2:qk}(bs:qk)(hbs:∀b,b∈bs->b.n=0/\b.mp=none)(hl:vs.length=vs2.length)
 (hv:∀(i:Nat) x y,vs[i]?=some x->vs2[i]?=some y->NilS h2 h.length x y) (hb:NilBs h2 h.length (h++bs) h2):WeakTo Gl prom nt l k vs h vs2 h2:=by
 intro g a w g0 h0 w0 _ _ hf hsr;obtain⟨g2,r1,r2,r3,r4,r5,r6,r7⟩:=HR.adoptNils bs hsr.hr hbs;have hφ:∀k b,h.length<=k->h2[k]?=some b->g2.φ k=none:=fun k b h1 h2'=>r1 k h1 (by have:=qR h2';rw[hb.at.1,List.length_append] at this;exact this);have hk2:=hb.keep w g2.U g2.φ;have hk:zK g h w g2 h2 w:=r7.trans hk2;have hU:∀c,g.U c↔g2.U c:=fun c=>by rw[r3]
 have hS:∀t,NilS h2 h.length ((qO l vs h).at t) ((qO l vs2 h2).at t):=by
  intro t;unfold St.at
  cases ht:Nat.blt t 1024 with
  |false=>exact .refl _
  |true =>
   simp only[cond_true];exact jZ l vs vs2 .nil .nil hl hv (fun _ _=>.refl _) t (Qc ht)
 have hS1:∀x y v,NilS h2 h.length x y->g2.VR h2 w x v->g2.VR h2 w y v:=by
  intro x y v hs hx;rcases hs with hs|⟨l,m,rfl,rfl,hs⟩|⟨l,m,rfl,rfl,hs⟩
  ·exact hs.vr hφ hx
  ·exact absurd hx VR.not_reg
  ·obtain⟨cs,rfl,hl,h1,hc⟩:=hx.agg_inv;refine VR.mk_agg (by rw[←hs.1];exact hl) h1 (fun i c hi=>?_);obtain⟨a,ha,hab⟩:=hs.get hi;obtain⟨u,hu,hur⟩:=hc i a ha;exact⟨u,hu,hab.vr hφ hur⟩
 have hfr:FrC g h w g2 h2 w:=⟨hk,Nat.le_refl _,fun _ _=>by rw[r5],rfl,rfl,.refl _,fun _ _ _=>rfl,r4,fun c hc=>.inl ((hU c).2 hc),fun c hc=>(hU c).1 hc⟩;refine⟨g2,⟨r6.nilBs hb hφ,hfr.marks hsr.defers,hsr.size,hsr.nt,fun t ht=>hS1 _ _ _ (hS t) ((hsr.tmps t ht).keep hk),fun t ht cells hc=>?_,fun d t o h=>(by cases h),fun gl cells hg=>by rw[r3];exact hsr.glob gl cells hg,fun d t o h=>(by cases h)⟩,hf.trans hfr,fun c hc=>⟨by rw[r5];exact hc,fun hu=>(hU c).2 hu⟩⟩;have hreg:∃m,(qO l vs h).at t = .reg m/\NilL h2 h.length m cells:=by
  rcases hS t with (e|⟨_,_,_,_,_,_,_,_,e⟩)|⟨m,m2,e1,e2,hs⟩|⟨m,m2,e1,e2,hs⟩
  ·rw[hc] at e;exact⟨cells,e,.refl _⟩
  ·rw[hc] at e;cases e
  ·rw[hc] at e2;obtain rfl:=T.reg.inj e2;exact⟨m,e1,hs⟩
  ·rw[hc] at e2;cases e2
 obtain⟨m,hm,hsm⟩:=hreg;obtain⟨cb,arr,e,hok⟩:=hsr.regs t ht m hm;refine⟨cb,arr,e,hok.ptr,by rw[r5];exact hok.own,hok.heap,by rw[←hsm.1];exact hok.len,fun o c ho=>?_⟩;obtain⟨c0,h0',hs0⟩:=hsm.get ho;obtain⟨u,h1,h2',h3⟩:=hok.cell o c0 h0';exact⟨u,h1,h2',hs0.vr hφ (h3.keep hk)⟩
end
def CapT(H:qk)(x y:T):Prop:=x=y∨∃i ver off len c b,x = .own i ver off len (some c)/\y = .own i ver off len none/\H[i]?=some b/\b.n<=off+c
theorem CapT.refl{H:qk}(x:T):CapT H x x:=.inl rfl
section
variable {P:Program} {Gl:Nat->Option (List T)} {prom:List Nat} {nt:Nat}
end
inductive SimSL:List T->List T->Prop
 |nil:SimSL [] []
 |cons {x y:T} {l m:List T} (h:SimS x y) (t:SimSL l m):SimSL (x::l) (y::m)
theorem SimSL.refl:∀l,SimSL l l
 |[]=>.nil
 |x::l=>.cons (.refl x) (.refl l)
theorem SimSL.len{l m:List T}(h:SimSL l m):l.length=m.length:=by
 induction h with
 |nil=>rfl
 |cons _ _ ih=>simp[ih]
theorem SimSL.get{l m:List T}(h:SimSL l m):∀(i:Nat) x y,l[i]?=some x->m[i]?=some y->SimS x y:=by
 induction h with
 |nil=>intro i x y hx;simp at hx
 |cons h _ ih =>
  intro i x y hx hy;cases i with
  |zero =>
   obtain rfl:_=x:=by simpa using hx
   obtain rfl:_=y:=by simpa using hy
   exact h
  |succ i=>exact ih i x y (by simpa using hx) (by simpa using hy)
theorem WeakTo.sl{Gl:Nat->Option (List T)}{prom:List Nat}{nt:Nat}{l:List Nat}{k:Nat}{vs vs2:List T}{h h2:qk}(hv:SimSL vs vs2)(hb:SimBlks h h2):WeakTo Gl prom nt l k vs h vs2 h2:=.simAll hv.len hv.get hb
theorem SimBlks.refl(h:qk):SimBlks h h:=⟨rfl,fun i b b2 h1 h2=>by
 obtain rfl:=Option.some.inj (h1.symm.trans h2);exact⟨rfl,rfl,rfl,rfl,.inl,fun _ _=>.refl _,fun _ _ _=>rfl⟩⟩
theorem SimS.view{sz n:Nat}{g g':Nat->List T}{c c':Option Nat}(hc:c'=c∨c'=none)(hg:∀j,j<n->Sims (g j) (g' j)):SimS (.view sz n g c) (.view sz n g' c'):=.inl (.inr ⟨rfl,.view hc hg,rfl⟩)
theorem SimS.nilv(sz:Nat)(g:Nat->List T){cap:Option Nat}(hc:cap=none∨cap=some 0):SimS .nils (.view sz 0 g cap):=.inl (.inr ⟨rfl,.nilv sz g hc,rfl⟩)
inductive NilSL(H:qk)(lo:Nat):List T->List T->Prop
 |nil:NilSL H lo [] []
 |cons {x y:T} {l m:List T} (h:NilS H lo x y) (t:NilSL H lo l m):NilSL H lo (x::l) (y::m)
theorem NilSL.len{H:qk}{lo:Nat}{l m:List T}(h:NilSL H lo l m):l.length=m.length:=by
 induction h with
 |nil=>rfl
 |cons _ _ ih=>simp[ih]
theorem NilSL.get{H:qk}{lo:Nat}{l m:List T}(h:NilSL H lo l m):∀(i:Nat) x y,l[i]?=some x->m[i]?=some y->NilS H lo x y:=by
 induction h with
 |nil=>intro i x y hx;simp at hx
 |cons h _ ih =>
  intro i x y hx hy;cases i with
  |zero =>
   obtain rfl:_=x:=by simpa using hx
   obtain rfl:_=y:=by simpa using hy
   exact h
  |succ i=>exact ih i x y (by simpa using hx) (by simpa using hy)
theorem WeakTo.gh{Gl:Nat->Option (List T)}{prom:List Nat}{nt:Nat}{l:List Nat}{k:Nat}{vs vs2:List T}{h h2:qk}(bs:qk)(hbs:∀b,b∈bs->b.n=0/\b.mp=none)(hv:NilSL h2 h.length vs vs2)(hb:NilBs h2 h.length (h++bs) h2):WeakTo Gl prom nt l k vs h vs2 h2:=.ghost bs hbs hv.len hv.get hb
def cnT:Code->Code
 |.cond _ a _=>a
 |c=>c
def cnE:Code->Code
 |.cond _ _ b=>b
 |c=>c
def qbk:Nat->Code->Code
 |0,c=>inB c
 |1,c=>sq1 c
 |2,c=>sq2 c
 |3,c=>cnT c
 |_,c=>cnE c
def nav:List Nat->Code->Code
 |[],c=>c
 |k::p,c=>qbk k (nav p c)
theorem qff(k:Nat)(c:Code):∀b∈qG (qbk k c),b∈qG c:=by
 intro b hb
 match k with
 |0=>exact qgx c b hb
 |1=>exact qgv c b hb
 |2=>exact qgw c b hb
 |3 =>
  cases c with
  |cond o x y=>simp only[qbk,cnT,qG,List.mem_append] at *;exact .inl hb
  |_=>exact hb
 |k+4 =>
  cases c with
  |cond o x y=>simp only[qbk,cnE,qG,List.mem_append] at *;exact .inr hb
  |_=>exact hb
theorem qcl:∀(p:List Nat) (c:Code),∀b∈qG (nav p c),b∈qG c
 |[],_,_,hb=>hb
 |k::p,c,b,hb=>qcl p c b (qff k _ b hb)
def ZB(P:Program)(f:Nat)(p:List Nat)(t:Code->Bool):Bool:=match P.funcs[f]? with
 |some fn=>match fn.body with
  |some c=>t (nav p c)
  |none=>false
 |none=>false
theorem z8{P:Program}{f:Nat}{p:List Nat}{t:Code->Bool}(h:ZB P f p t=true){fn:Func}{c:Code}(hf:P.funcs[f]?=some fn)(hb:fn.body=some c):t (nav p c)=true:=by
 unfold ZB at h;rw[hf] at h;dsimp only at h;rw[hb] at h;exact h
def qjt:Code->Bool
 |.seq _ _=>true
 |_=>false
def qju(id:Nat):Code->Bool
 |.block i _=>i==id
 |_=>false
def qdg:Code->Bool
 |.loop b=>!(qy b)
 |_=>false
def qiO:Code->Bool
 |.scope _=>true
 |_=>false
section
variable {P:Program} {G:Nat->Option (List T)} {prom:List Nat} {nt:Nat} {A:FuncId->Ann} {f:FuncId}
theorem qgI{h0:qk}{b:Code}(hrg:qy b=false){lin lout:List Nat}(I:Nat->List T->qk->Prop)(Post:Ex->List T->qk->Prop)
 (round:∀n vs h,I n vs h->(∃m vs' h',m<n/\Qe P G prom nt h0 b (qO lin vs h) .normal (qO lin vs' h')/\I m vs' h')∨∃e vs' h',e≠.normal/\Qe P G prom nt h0 b (qO lin vs h) e (qO lout vs' h')/\Post e vs' h')
 {n:Nat} {vs:List T} {h:qk} (hI:I n vs h):∃e vs1 h1,Post e vs1 h1/\Qe P G prom nt h0 (.loop b) (qO lin vs h) e (qO lout vs1 h1):=by
 have key:∀n vs h,I n vs h->∃(N:Nat) (V:Nat->List T) (H:Nat->qk) (e:Ex) (vs1:List T) (h1:qk),V 0=vs/\H 0=h/\Post e vs1 h1/\(∀i,i<N->Qe P G prom nt h0 b (qO lin (V i) (H i)) .normal (qO lin (V (i+1)) (H (i+1))))/\e≠.normal/\Qe P G prom nt h0 b (qO lin (V N) (H N)) e (qO lout vs1 h1):=by
  intro n
  induction n using Nat.strongRecOn with
  |_ n ih =>
   intro vs h hI;rcases round n vs h hI with⟨m,vs',h',hm,hs,hI'⟩|⟨e,vs',h',hne,hl,hp⟩
   ·obtain⟨N,V,H,e,vs1,h1,q1,q2,q3,q4,q5⟩:=ih m hm vs' h' hI';refine⟨N+1,fun i=>match i with|0=>vs|i+1=>V i,fun i=>match i with|0=>h|i+1=>H i,e,vs1,h1,rfl,rfl,q3,fun i hi=>?_,q5⟩;cases i with
    |zero=>show Qe P G prom nt h0 b (qO lin vs h) .normal (qO lin (V 0) (H 0));rw[q1,q2];exact hs
    |succ i=>exact q4 i (by omega)
   ·exact⟨0,fun _=>vs,fun _=>h,e,vs',h',rfl,rfl,hp,fun i hi=>by omega,hne,hl⟩
 obtain⟨N,V,H,e,vs1,h1,q1,q2,q3,q4,hne,q5⟩:=key n vs h hI;refine⟨e,vs1,h1,q3,?_⟩;subst q1 q2;intro ro nn hro gg w0 g0 a0 ww hr0 hf0 hs0 Q hn;refine ZH (fun j a w=>∃i g,i<=N/\j=N-i/\SR G prom nt g (qO lin (V i) (H i)) a w/\FrC gg h0 w0 g (H i) w/\a.defers=a0.defers) (fun j a w hJ=>?_) N a0 ww ⟨0,g0,Nat.zero_le _,rfl,hs0,hf0,rfl⟩;obtain⟨i,g,hi,rfl,hs,hf,hdf⟩:=hJ;rcases Nat.lt_or_ge i N with q|q
 ·refine q4 i q ro nn (fun hh=>hro (by simpa [qy] using hh)) gg w0 g a w hr0 hf hs _ fun a' w' g' hs' hf' hd'=>?_;exact⟨N-(i+1),by omega,i+1,g',by omega,rfl,hs',hf',(hd' hrg).trans hdf⟩
 ·obtain rfl:i=N:=by omega
  refine q5 ro nn (fun hh=>hro (by simpa [qy] using hh)) gg w0 g a w hr0 hf hs _ fun a' w' g' hs' hf' hd'=>?_;have fin:=hn a' w' g' hs' hf' (fun h=>(hd' hrg).trans hdf);cases e with
  |normal=>exact absurd rfl hne
  |exit i=>exact fin
  |ret=>exact fin
theorem qfg{h0:qk}{c:Code}{id:Nat}{s s1:St}{e e':Ex}(he:e'=match e with|.exit i=>bif i==id then .normal else .exit i|e=>e)(h1:Qe P G prom nt h0 c s e s1):Qe P G prom nt h0 (.block id c) s e' s1:=by
 subst he;intro ro n hro g0 w0 g a w hr hf hs Q hn;refine wpIn_block (h1 ro n (fun h=>hro (by simp[qy,h])) g0 w0 g a w hr hf hs _ fun a1 w1 g1 hs1 hf1 hd1=>?_);have fin:=hn a1 w1 g1 hs1 hf1 fun h=>hd1 (by simpa only[qy] using h);cases e with
 |normal=>exact fin
 |ret=>exact fin
 |exit i =>
  simp only[Ex.out,Exit.inBlock] at fin ⊢;by_cases q:i=id
  ·subst q;rw[show(i==i)=true by simp] at fin;rw[if_pos rfl];exact fin
  ·rw[show(i==id)=false by simp[q]] at fin;rw[if_neg q];exact fin
theorem qgJ{h0:qk}{c d:Code}{s s1 s':St}{e:Ex}(h1:Qe P G prom nt h0 c s .normal s1)(h2:Qe P G prom nt h0 d s1 e s'):Qe P G prom nt h0 (.seq c d) s e s' :=
 fun ro n hro g0 w0 g a w hr hf hs Q hn=>wpIn_seq (h1 ro n (fun h=>hro (by simp[qy,h])) g0 w0 g a w hr hf hs _ fun a1 w1 g1 hs1 hf1 hd1=>h2 ro n (fun h=>hro (by simp[qy,h])) g0 w0 g1 a1 w1 hr hf1 hs1 Q fun a2 w2 g2 hs2 hf2 hd2=>hn a2 w2 g2 hs2 hf2 fun h=>by simp only[qy,Bool.or_eq_false_iff] at h;exact(hd2 h.2).trans (hd1 h.1))
theorem qgK{h0:qk}{c d:Code}{s s':St}{e:Ex}(he:e≠.normal)(h1:Qe P G prom nt h0 c s e s'):Qe P G prom nt h0 (.seq c d) s e s' :=
 fun ro n hro g0 w0 g a w hr hf hs Q hn=>wpIn_seq (h1 ro n (fun h=>hro (by simp[qy,h])) g0 w0 g a w hr hf hs _ fun a1 w1 g1 hs1 hf1 hd1=>by
  have fin:=hn a1 w1 g1 hs1 hf1 fun h=>by simp only[qy,Bool.or_eq_false_iff] at h;exact hd1 h.1
  cases e with
  |normal=>exact absurd rfl he
  |exit i=>exact fin
  |ret=>exact fin)
theorem qgL{h0:qk}{c:Code}{s:St}{e:Ex}{l:List Nat}{vs vs2:List T}{h h2:qk}(ht:Qe P G prom nt h0 c s e (qO l vs h))(hw:WeakTo G prom nt l h0.length vs h vs2 h2):Qe P G prom nt h0 c s e (qO l vs2 h2) :=
 fun ro n hro g0 w0 g a w hr hf hs Q hn=>ht ro n hro g0 w0 g a w hr hf hs Q fun a1 w1 g1 hs1 hf1 hd1=>by
  obtain⟨g2,q1,q2,_⟩:=hw g1 a1 w1 g0 h0 w0 (Nat.le_refl _) hr hf1 hs1;exact hn a1 w1 g2 q1 q2 hd1
def Pz(P:Program)(G:Nat->Option (List T))(A:FuncId->Ann)(f:FuncId)(h0:qk)(p:List Nat)(l:List Nat)(vs:List T)(h:qk)(e:Ex)(l':List Nat)(vs':List T)(h':qk):Prop :=
 ∀fn c,P.funcs[f]?=some fn->fn.body=some c->Qe P G (A f).prom fn.ntmps h0 (nav p c) (qO l vs h) e (qO l' vs' h')
def Wk(G:Nat->Option (List T))(A:FuncId->Ann)(f:FuncId)(k:Nat)(l:List Nat)(vs:List T)(h:qk)(vs2:List T)(h2:qk):Prop:=∀nt,WeakTo G (A f).prom nt l k vs h vs2 h2
variable {h0:qk} {p:List Nat} {l l1 l2:List Nat} {vs v1 v2:List T} {h h1 h2:qk} {e:Ex}
theorem Pz.seq(hq:ZB P f p qjt=true)(a:Pz P G A f h0 (1::p) l vs h .normal l1 v1 h1)(b:Pz P G A f h0 (2::p) l1 v1 h1 e l2 v2 h2):Pz P G A f h0 p l vs h e l2 v2 h2:=by
 intro fn c hf hb;have hc:=z8 hq hf hb;have ha:=a fn c hf hb;have hb':=b fn c hf hb;simp only[nav,qbk] at ha hb';revert hc ha hb';generalize nav p c=d;intro hc ha hb';cases d with
 |seq x y=>exact qgJ ha hb'
 |_=>cases hc
theorem Pz.seqX(hq:ZB P f p qjt=true)(he:e≠.normal)(a:Pz P G A f h0 (1::p) l vs h e l1 v1 h1):Pz P G A f h0 p l vs h e l1 v1 h1:=by
 intro fn c hf hb;have hc:=z8 hq hf hb;have ha:=a fn c hf hb;simp only[nav,qbk] at ha;revert hc ha;generalize nav p c=d;intro hc ha;cases d with
 |seq x y=>exact qgK he ha
 |_=>cases hc
theorem Pz.blk{id:Nat}{e':Ex}(hq:ZB P f p (qju id)=true)(he:e'=match e with|.exit i=>bif i==id then .normal else .exit i|e=>e)(a:Pz P G A f h0 (0::p) l vs h e l1 v1 h1):Pz P G A f h0 p l vs h e' l1 v1 h1:=by
 intro fn c hf hb;have hc:=z8 hq hf hb;have ha:=a fn c hf hb;simp only[nav,qbk] at ha;revert hc ha;generalize nav p c=d;intro hc ha;cases d with
 |block i x =>
  obtain rfl:i=id:=by simpa [qju] using hc
  exact qfg he ha
 |_=>cases hc
theorem Pz.scope(hq:ZB P f p qiO=true)(a:Pz P G A f h0 (0::p) l vs h e l1 v1 h1):Pz P G A f h0 p l vs h e l1 v1 h1:=by
 intro fn c hf hb;have hc:=z8 hq hf hb;have ha:=a fn c hf hb;simp only[nav,qbk] at ha;revert hc ha;generalize nav p c=d;intro hc ha;cases d with
 |scope x=>exact qfa ha
 |_=>cases hc
theorem Pz.post(a:Pz P G A f h0 p l vs h e l1 v1 h1)(w:Wk G A f h0.length l1 v1 h1 v2 h2):Pz P G A f h0 p l vs h e l1 v2 h2 :=
 fun fn c hf hb=>qgL (a fn c hf hb) (w _)
theorem Pz.pre(w:Wk G A f h0.length l vs h v1 h1)(a:Pz P G A f h0 p l v1 h1 e l2 v2 h2):Pz P G A f h0 p l vs h e l2 v2 h2 :=
 fun fn c hf hb=>qgy (w _) (a fn c hf hb)
theorem Pz.only(a:Pz P G A f h0 p l vs h e l1 v1 h1)(hv:zA (qO l1 v1 h1) l2=v2):Pz P G A f h0 p l vs h e l2 v2 h1:=by
 intro fn c hf hb ro n hro g0 w0 g a' w hr hfr hs Q hn;subst hv;exact a fn c hf hb ro n hro g0 w0 g a' w hr hfr hs Q fun a1 w1 g1 hs1 hf1 hd1=>hn a1 w1 g1 (hs1.only l2) hf1 hd1
theorem Pz.loop(hq:ZB P f p qdg=true)(I:Nat->List T->qk->Prop)(Post:Ex->List T->qk->Prop)
 (round:∀n vs h,I n vs h->(∃m vs' h',m<n/\Pz P G A f h0 (0::p) l vs h .normal l vs' h'/\I m vs' h')∨∃e vs' h',e≠.normal/\Pz P G A f h0 (0::p) l vs h e l1 vs' h'/\Post e vs' h')
 {n:Nat} (hI:I n vs h):∃e vs' h',Post e vs' h'/\Pz P G A f h0 p l vs h e l1 vs' h':=by
 by_cases hh:∃fn c,P.funcs[f]?=some fn/\fn.body=some c
 ·obtain⟨fn,c,hf,hb⟩:=hh;have hc:=z8 hq hf hb;have key:∃b,nav p c = .loop b/\qy b=false:=by
   revert hc;generalize nav p c=d;intro hc;cases d with
   |loop b=>exact⟨b,rfl,by simpa [qdg] using hc⟩
   |_=>cases hc
  obtain⟨b,hb1,hb2⟩:=key;have hb0:nav (0::p) c=b:=by simp only[nav,qbk,hb1,inB]
  obtain⟨e,vs1,h1,q1,q2⟩:=qgI (P:=P) (G:=G) (prom:=(A f).prom) (nt:=fn.ntmps) (h0:=h0) hb2 (lin:=l) (lout:=l1) I Post (fun n vs h hI=>by
   rcases round n vs h hI with⟨m,vs',h',hm,hs,hI'⟩|⟨e,vs',h',hne,hl,hp⟩
   ·exact .inl ⟨m,vs',h',hm,hb0▸hs fn c hf hb,hI'⟩
   ·exact .inr ⟨e,vs',h',hne,hb0▸hl fn c hf hb,hp⟩) hI
  refine⟨e,vs1,h1,q1,fun fn2 c2 hf2 hb2=>?_⟩;rw[hf] at hf2;obtain rfl:=Option.some.inj hf2;rw[hb] at hb2;obtain rfl:=Option.some.inj hb2;rw[hb1];exact q2
 ·unfold ZB at hq;cases hf:P.funcs[f]? with
  |none=>rw[hf] at hq;cases hq
  |some fn =>
   rw[hf] at hq;dsimp only at hq;cases hb:fn.body with
   |none=>rw[hb] at hq;cases hq
   |some c=>exact absurd ⟨fn,c,hf,hb⟩ hh
theorem Pz.count(hq:ZB P f p qdg=true)(V:Nat->List T)(H:Nat->qk){n:Nat}(he:e≠.normal)
 (round:∀i,i<n->Pz P G A f h0 (0::p) l (V i) (H i) .normal l (V (i+1)) (H (i+1))) (last:Pz P G A f h0 (0::p) l (V n) (H n) e l1 v1 h1):Pz P G A f h0 p l (V 0) (H 0) e l1 v1 h1:=by
 obtain⟨e',vs',h',⟨rfl,rfl,rfl⟩,q⟩:=Pz.loop (P:=P) (G:=G) (A:=A) (f:=f) (h0:=h0) (p:=p) (l:=l) (l1:=l1) hq (fun m vs h=>∃i,i<=n/\m=n-i/\vs=V i/\h=H i) (fun e' vs' h'=>e'=e/\vs'=v1/\h'=h1) (fun m vs h hI=>by
  obtain⟨i,hi,rfl,rfl,rfl⟩:=hI;rcases Nat.lt_or_ge i n with q|q
  ·exact .inl ⟨n-(i+1),_,_,by omega,round i q,i+1,by omega,rfl,rfl,rfl⟩
  ·obtain rfl:i=n:=by omega
   exact .inr ⟨e,v1,h1,he,last,rfl,rfl,rfl⟩) (n:=n) ⟨0,Nat.zero_le _,rfl,rfl,rfl⟩
 exact q
def qhH(P:Program)(f:Nat):Bool:=match P.funcs[f]? with
 |some fn=>Nat.ble fn.ntmps 1024
 |none=>false
theorem Pz.run{K:Orc}(hm:P.follows .mixedOrders=true)(hK:OrcOk P G K){m:Nat}(ha:(Q8 P f&&qhH P f)=true){lo:List (Nat×(List T->qk->LT))}(hL:∀p∈lo,LoopOk P G (A f) f p.1 p.2)
 (hk:qw P G A K m f lo (nav p) l vs h l1=some (e,v1,h1)):Pz P G A f h0 p l vs h e l1 v1 h1:=by
 intro fn c hf hb;simp only[Bool.and_eq_true] at ha;have hnt:fn.ntmps<=1024:=by
  have:=ha.2;unfold qhH at this;rw[hf] at this;exact Qm this
 exact qd8 (qe9 hm hK hf hb hnt ha.1 hL (nav p) rfl (fun b hb=>qcl p c b hb) hk)
theorem Pz.told(hn:QG P=true){args:List T}{fn:Func}(hfn:P.funcs[f]?=some fn)(hc:(Nat.ble fn.ntmps 1024&&Nat.ble args.length fn.ntmps)=true)(hbd:fn.body.isSome=true)(hl:enter args []=qO l args [])
 (hgo:Pz P G A f [] [] l args [] .ret l1 v1 h1) {r:T} (hres:KR P G (A f).prom fn (qO l1 v1 h1) (fun v=>some (ji h1 v))=some r):ToldOk P G f args r:=by
 obtain⟨c,hb⟩:=Option.isSome_iff_exists.1 hbd;have:=hgo fn c hfn hb;rw[show nav [] c=c from rfl,←hl] at this;exact qgz hn hfn hb hc (Jr (s:=enter args []) this) hres
end
section
variable {P:Program} {Gl:Nat->Option (List T)} {A:FuncId->Ann}
theorem qdh(hn:QG P=true){f:FuncId}{fn:Func}{c:Code}(hf:P.funcs[f]?=some fn)(hb:fn.body=some c){args:List T}{h:qk}(hc:(Nat.ble fn.ntmps 1024&&Nat.ble args.length fn.ntmps)=true){s':St}
 (hgo:CodeGoes P Gl (A f).prom fn.ntmps c (enter args h) .ret s') {r:T} {h':qk} (hk:KR P Gl (A f).prom fn s' (fun v=>some (v,s'.h))=some (r,h')):ToldRef P Gl f args h r h':=by
 simp only[Bool.and_eq_true] at hc;have hnt:=Qm hc.1;have hle:=Qm hc.2;refine⟨⟨fn,hf,by rw[hb];rfl,?_⟩,fun g w cargs hr hno hgl ha=>?_⟩
 ·have:=Array.all_eq_true'.1 hn fn (Array.mem_of_getElem? hf);rw[hb] at this;simpa using this
 have hs0:=SR.enter (Gl:=Gl) (prom:=(A f).prom) (Nat.le_refl _) (hr.setLow w.heap.size) hgl ha hnt hle;rw[←callsIn_wide (n:=0)];refine callsIn_of_wp_marks hf hb trivial (hgo none 0 (fun _=>rfl) _ _ w hs0 _ fun a' w' g' hs' hf' _=>?_) rfl;show LeavesInM Fence.wide 0 P fn a'.tmps (fun e w'=>∃v,e = .returned v/\Res g h w r h' v w') a'.defers .returning w';obtain⟨hlo,l,hl1,hl2,hl3⟩:=hs'.defers;obtain⟨t1,t2,t3,t4,t5⟩:=Kg l w';have hlow:g'.low=w.heap.size:=hf'.low;have hoff:∀b,g'.U b∨g'.own b≠none->b∉l:=by
  rintro b hb hbl;obtain⟨q1,q2,q3,q4⟩:=hl3 b hbl;rcases hb with hb|hb
  ·exact q3 hb
  ·exact hb q2
 have hrm:∀b n,room w' b n->room (turn l w') b n:=by
  rintro b n ⟨arr,e,h1,h2⟩;refine⟨arr,e,?_,h2⟩;rw[t5 b fun hbl=>?_]
  ·exact h1
  ·have:=(hl3 b hbl).2.2.2;rw[h1] at this;cases this
 have hs2:=hs'.world (w':=turn l w') (ds:=[]) (by omega) (fun b hb=>t5 b (hoff b hb)) hrm (Marks.nil (by omega));obtain⟨x,hk,v,h1,h2⟩:=yH hs2 hk;simp only[Option.some.injEq,Prod.mk.injEq] at hk;obtain⟨rfl,rfl⟩:=hk;rw[hl1];refine zQ l w' hl2 (fun D hD=>(hl3 D hD).2.2.2) ⟨v,h1,v,rfl,{ g' with own:=fun b=>match g'.own b with|some (.inl i)=>some (.inl i)|_=>none,low:=g.low },(hs2.hr.strip).setLow g.low,h2,?_,?_⟩
 ·exact hf'.keep.trans ⟨fun b hb=>⟨hb,t5 b (hoff b (.inl hb))⟩,fun i b hb=>⟨b,hb,Nat.le_refl _,fun _=>⟨rfl,rfl,rfl⟩⟩,hrm⟩
 ·refine⟨by have:=hf'.size;omega,fun b hb=>?_,t2.trans hf'.os,t3.trans hf'.tape,t4.trans hf'.output,fun b hb hn=>?_,?_,hf'.u,fun b hb t=>by dsimp only;split<;>simp⟩
  ·dsimp only;rw[hf'.own b hb];dsimp only;cases ho:g.own b with
   |none=>rfl
   |some q =>
    cases q with
    |inl i=>rfl
    |inr t=>exact absurd ho (hno b t)
  ·rw[t5 b fun hbl=>by have:=(hl3 b hbl).1;omega];refine hf'.same b hb ?_;dsimp only;cases ho:g.own b with
   |none=>rfl
   |some q =>
    cases q with
    |inl i=>exact absurd ho (hn i)
    |inr t=>exact absurd ho (hno b t)
  ·have:=hf'.base;simp only[Gh.bs,this]
theorem Pz.toldRef(hn:QG P=true){f:Nat}{args:List T}{h:qk}{fn:Func}(hfn:P.funcs[f]?=some fn)(hc:(Nat.ble fn.ntmps 1024&&Nat.ble args.length fn.ntmps)=true)(hbd:fn.body.isSome=true){l l1:List Nat}{v1:List T}{h1:qk}(hl:enter args h=qO l args h)
 (hgo:Pz P Gl A f h [] l args h .ret l1 v1 h1) {r:T} {h':qk} (hres:KR P Gl (A f).prom fn (qO l1 v1 h1) (fun v=>some (v,h1))=some (r,h')):ToldRef P Gl f args h r h':=by
 obtain⟨c,hb⟩:=Option.isSome_iff_exists.1 hbd;have:=hgo fn c hfn hb;rw[show nav [] c=c from rfl,←hl] at this;exact qdh (A:=A) hn hfn hb hc (Jr (s:=enter args h) this) hres
end
section
variable {P:Program} {Gl:Nat->Option (List T)} {A:FuncId->Ann}
theorem qbP(hn:QG P=true){f:FuncId}{fn:Func}{c:Code}(hf:P.funcs[f]?=some fn)(hb:fn.body=some c){args:List T}{h:qk}(hc:(Nat.ble fn.ntmps 1024&&Nat.ble args.length fn.ntmps)=true){s':St}
 (hgo:CodeGoes P Gl (A f).prom fn.ntmps c (enter args h) .normal s') {r:T} {h':qk} (hk:KR P Gl (A f).prom fn s' (fun v=>some (v,s'.h))=some (r,h')):ToldRef P Gl f args h r h':=by
 simp only[Bool.and_eq_true] at hc;have hnt:=Qm hc.1;have hle:=Qm hc.2;refine⟨⟨fn,hf,by rw[hb];rfl,?_⟩,fun g w cargs hr hno hgl ha=>?_⟩
 ·have:=Array.all_eq_true'.1 hn fn (Array.mem_of_getElem? hf);rw[hb] at this;simpa using this
 have hs0:=SR.enter (Gl:=Gl) (prom:=(A f).prom) (Nat.le_refl _) (hr.setLow w.heap.size) hgl ha hnt hle;rw[←callsIn_wide (n:=0)];refine callsIn_of_wp_marks hf hb trivial (hgo none 0 (fun _=>rfl) _ _ w hs0 _ fun a' w' g' hs' hf' _=>?_) rfl;show LeavesInM Fence.wide 0 P fn a'.tmps (fun e w'=>∃v,e = .returned v/\Res g h w r h' v w') a'.defers .returning w';obtain⟨hlo,l,hl1,hl2,hl3⟩:=hs'.defers;obtain⟨t1,t2,t3,t4,t5⟩:=Kg l w';have hlow:g'.low=w.heap.size:=hf'.low;have hoff:∀b,g'.U b∨g'.own b≠none->b∉l:=by
  rintro b hb hbl;obtain⟨q1,q2,q3,q4⟩:=hl3 b hbl;rcases hb with hb|hb
  ·exact q3 hb
  ·exact hb q2
 have hrm:∀b n,room w' b n->room (turn l w') b n:=by
  rintro b n ⟨arr,e,h1,h2⟩;refine⟨arr,e,?_,h2⟩;rw[t5 b fun hbl=>?_]
  ·exact h1
  ·have:=(hl3 b hbl).2.2.2;rw[h1] at this;cases this
 have hs2:=hs'.world (w':=turn l w') (ds:=[]) (by omega) (fun b hb=>t5 b (hoff b hb)) hrm (Marks.nil (by omega));obtain⟨x,hk,v,h1,h2⟩:=yH hs2 hk;simp only[Option.some.injEq,Prod.mk.injEq] at hk;obtain⟨rfl,rfl⟩:=hk;rw[hl1];refine zQ l w' hl2 (fun D hD=>(hl3 D hD).2.2.2) ⟨v,h1,v,rfl,{ g' with own:=fun b=>match g'.own b with|some (.inl i)=>some (.inl i)|_=>none,low:=g.low },(hs2.hr.strip).setLow g.low,h2,?_,?_⟩
 ·exact hf'.keep.trans ⟨fun b hb=>⟨hb,t5 b (hoff b (.inl hb))⟩,fun i b hb=>⟨b,hb,Nat.le_refl _,fun _=>⟨rfl,rfl,rfl⟩⟩,hrm⟩
 ·refine⟨by have:=hf'.size;omega,fun b hb=>?_,t2.trans hf'.os,t3.trans hf'.tape,t4.trans hf'.output,fun b hb hn=>?_,?_,hf'.u,fun b hb t=>by dsimp only;split<;>simp⟩
  ·dsimp only;rw[hf'.own b hb];dsimp only;cases ho:g.own b with
   |none=>rfl
   |some q =>
    cases q with
    |inl i=>rfl
    |inr t=>exact absurd ho (hno b t)
  ·rw[t5 b fun hbl=>by have:=(hl3 b hbl).1;omega];refine hf'.same b hb ?_;dsimp only;cases ho:g.own b with
   |none=>rfl
   |some q =>
    cases q with
    |inl i=>exact absurd ho (hn i)
    |inr t=>exact absurd ho (hno b t)
  ·have:=hf'.base;simp only[Gh.bs,this]
theorem Pz.toldRefN(hn:QG P=true){f:Nat}{args:List T}{h:qk}{fn:Func}(hfn:P.funcs[f]?=some fn)(hc:(Nat.ble fn.ntmps 1024&&Nat.ble args.length fn.ntmps)=true)(hbd:fn.body.isSome=true){l l1:List Nat}{v1:List T}{h1:qk}(hl:enter args h=qO l args h)
 (hgo:Pz P Gl A f h [] l args h .normal l1 v1 h1) {r:T} {h':qk} (hres:KR P Gl (A f).prom fn (qO l1 v1 h1) (fun v=>some (v,h1))=some (r,h')):ToldRef P Gl f args h r h':=by
 obtain⟨c,hb⟩:=Option.isSome_iff_exists.1 hbd;have:=hgo fn c hfn hb;rw[show nav [] c=c from rfl,←hl] at this;exact qbP (A:=A) hn hfn hb hc (Jr (s:=enter args h) this) hres
end
def CapS(h:qk)(x y:T):Prop:=x=y∨∃i ver off n m,(∀b,h[i]?=some b->b.n<=off+m)/\x = .own i ver off n (some m)/\y = .own i ver off n none
theorem CapS.refl{h:qk}(x:T):CapS h x x:=.inl rfl
theorem CapS.own{h:qk}{i ver off n m:Nat}{b:Blk}(hb:h[i]?=some b)(hm:b.n<=off+m):CapS h (.own i ver off n (some m)) (.own i ver off n none):=.inr ⟨i,ver,off,n,m,fun c hc=>by rw[hb] at hc;cases hc;exact hm,rfl,rfl⟩
theorem VR.capS{w:World}{U:Nat->Prop}{φ:Nat->Option (Nat×Nat)}{h:qk}{x y:T}{v:Value}(hs:CapS h x y)(hx:VR w U φ h x v):VR w U φ h y v:=by
 rcases hs with rfl|⟨i,ver,off,n,c,hm,rfl,rfl⟩
 ·exact hx
 ·cases hx with
  |imm _ _ hv=>cases hv
  |own _ _ _ _ _ b _ hb hver h1 hok =>
   refine .own _ _ _ _ _ b _ hb hver h1 fun e=>?_;rcases hok e with q|q
   ·obtain⟨cb,sh,c,ad,q1,q2,q3,q4,q5,q6,q7,q8,_⟩:=q;exact .inl ⟨cb,sh,c,ad,q1,q2,q3,q4,q5,fun m hm=>(by cases hm),q7,q8,fun _=>by have:=hm b hb;have:=(q6 _ rfl).1;omega⟩
   ·obtain⟨q1,q2,q3,q4,q5,q6⟩:=q;exact .inr ⟨q1,q2,q3,q4,fun m hm=>(by cases hm),q6⟩
inductive CapSL(H:qk):List T->List T->Prop
 |nil:CapSL H [] []
 |cons {x y:T} {l m:List T} (h:CapS H x y) (t:CapSL H l m):CapSL H (x::l) (y::m)
theorem CapSL.refl{H:qk}:∀l,CapSL H l l
 |[]=>.nil
 |x::l=>.cons (.refl x) (.refl l)
theorem CapSL.len{H:qk}{l m:List T}(h:CapSL H l m):l.length=m.length:=by
 induction h with
 |nil=>rfl
 |cons _ _ ih=>simp[ih]
theorem CapSL.get{H:qk}{l m:List T}(h:CapSL H l m):∀(i:Nat) x y,l[i]?=some x->m[i]?=some y->CapS H x y:=by
 induction h with
 |nil=>intro i x y hx;simp at hx
 |cons h _ ih =>
  intro i x y hx hy;cases i with
  |zero =>
   obtain rfl:_=x:=by simpa using hx
   obtain rfl:_=y:=by simpa using hy
   exact h
  |succ i=>exact ih i x y (by simpa using hx) (by simpa using hy)
theorem WeakTo.cap{Gl:Nat->Option (List T)}{prom:List Nat}{nt:Nat}{l:List Nat}{k:Nat}{vs vs2:List T}{h:qk}(hv:CapSL h vs vs2):WeakTo Gl prom nt l k vs h vs2 h:=by
 intro g a w g0 h0 w0 _ _ hf hsr;have hS:∀t,CapS h ((qO l vs h).at t) ((qO l vs2 h).at t):=by
  intro t;unfold St.at
  cases ht:Nat.blt t 1024 with
  |false=>exact .refl _
  |true =>
   simp only[cond_true];exact jZ l vs vs2 .nil .nil hv.len hv.get (fun _ _=>.refl _) t (Qc ht)
 refine⟨g,⟨hsr.hr,hsr.defers,hsr.size,hsr.nt,fun t ht=>VR.capS (hS t) (hsr.tmps t ht),fun t ht cells hc=>?_,fun d t o h=>(by cases h),hsr.glob,fun d t o h=>(by cases h)⟩,hf,.refl g⟩;have hreg:(qO l vs h).at t = .reg cells:=by
  rcases hS t with e|⟨_,_,_,_,_,_,_,e⟩
  ·rw[e];exact hc
  ·rw[hc] at e;cases e
 exact hsr.regs t ht cells hreg
end Go.Ab

