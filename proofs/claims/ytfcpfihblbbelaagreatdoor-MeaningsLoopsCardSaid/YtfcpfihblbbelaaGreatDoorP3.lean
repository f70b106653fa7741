/- A part of the proof: nothing is assumed. -/
import Derived.Test.YtfcpfihblbbelaaGreatDoorP2
import Derived.Test.YtfcpfihblbbelaaGreatDoorP1
import Derived.DefersIn
set_option linter.all false
namespace Go.Ab
def QU:Wa->Nat->Option Nat
 |[],_=>none
 |a::l,i=>bif a==i then some 0 else(QU l i).map (·+1)
def ZO:∀{l:Wa} {i j:Nat},QU l i=some j->l[j]?=some i
 |[],i,j,h=>by cases h
 |a::l,i,j,h=>by
  simp only[QU] at h;cases q:a==i with
  |true =>
   rw[q] at h;obtain rfl:0=j:=by simpa using h
   have:a=i:=by simpa using q
   rw[this];rfl
  |false =>
   rw[q] at h;simp only[wp,wI] at h;obtain⟨k,d,rfl⟩:=h;rw[vZ];exact ZO d
def T5:∀{l:Wa} {i:Nat},QU l i=none->i∉l
 |[],i,_=>by simp
 |a::l,i,h=>by
  simp only[QU] at h;cases q:a==i with
  |true=>rw[q] at h;cases h
  |false =>
   rw[q] at h;simp only[wp,Option.map_eq_none_iff] at h;have:a≠i:=by simpa using q
   simp only[wK,not_or];exact⟨λe=>this e.symm,T5 h⟩
def Y9:∀{l:Wa} {i j:Nat},zU l=true->l[j]?=some i->QU l i=some j
 |[],i,j,_,h=>by simp at h
 |a::l,i,j,d,h=>by
  simp only[zU,wg,vn] at d;cases j with
  |zero=>simp at h;subst h;simp[QU]
  |succ j =>
   have f:l[j]?=some i:=by simpa using h
   have k:a≠i:=λe=>by
    have:=wo f;rw[←e] at this;have g:l.contains a=true:=List.contains_iff_mem.2 this;rw[g] at d;cases d.1
   simp only[QU,ud.2 k,wp,Y9 d.2 f];rfl
def qJ(σ:Wa)(h:qa)(x:T):T :=
 match x with
 |.own i aj a len cap=>match QU σ i with|some j=>.own j aj a len cap|none=>resolve 4 σ h x
 |.ptr i aj j o=>match QU σ i with|some d=>.ptr d aj j o|none=>resolve 4 σ h x
 |.mp i aj=>match QU σ i with|some j=>.mp j aj|none=>resolve 4 σ h (.mp i aj)
 |x=>bif aH x then x else resolve 4 σ h x
def mV(σ:Wa)(h:qa)(x:T):T :=
 match x with
 |.agg l=>.agg (l.map (qJ σ h))
 |.fn f a=>.fn f (a.map (qJ σ h))
 |.ah l=>.ah (l.map (qJ σ h))
 |x=>qJ σ h x
def QJ(σ:Wa)(h:qa)(b:aq):aq:=bif b.flat then b else { b with get:=λj=>(b.get j).map (qJ σ h) }
def td(σ:Wa)(h:qa):qa:=σ.filterMap λi=>(h[i]?).map (QJ σ h)
def zn(k:Nat)(σ:Wa)(h:qa):Bool:=(List.range k).all (λi=>match σ[i]? with|some j=>j==i|none=>false)&&zU σ&&σ.all λi=>Nat.blt i h.length
def yO{α β:Type}{f:α->Option β}:∀{l:List α},(∀a∈l,∃b,f a=some b)->(l.filterMap f).length=l.length/\∀i:Nat,(l.filterMap f)[i]?=(l[i]?).bind f
 |[],_=>⟨rfl,λi=>by simp⟩
 |a::l,h=>by
  obtain⟨b,d⟩:=h a au;obtain⟨g,e⟩:=yO (l:=l) λa j=>h a (by simp[j]);rw[List.filterMap_cons_some d];refine⟨by simp[g],λi=>?_⟩;cases i with
  |zero=>simp[d]
  |succ i=>simpa using e i
def Dt:T->Bool
 |.ah _=>true
 |_=>false
def yQ(d:Nat)(ex:Wa)(h:qa)(x:T):Dt (resolve (d+1) ex h x)=false:=by
 cases x with
 |own i aj a len cap =>
  simp only[resolve];cases ex.contains i with
  |true=>rfl
  |false =>
   cases h[i]? with
   |none=>rfl
   |some b=>cases e:(b.mp.isNone&&(b.aj==aj&&Nat.ble (a+len) b.n))<;>simp only[wp,e,wm]<;>rfl
 |ptr i aj j o =>
  simp only[resolve];cases ex.contains i with
  |true=>rfl
  |false =>
   cases h[i]? with
   |none=>rfl
   |some b=>cases e:(b.mp.isNone&&(b.aj==aj&&Nat.blt j b.n))<;>simp only[wp,e,wm]<;>rfl
 |agg l=>rfl
 |aK l=>rfl
 |fn f g=>rfl
 |iface t v=>rfl
 |ah l=>rfl
 |_=>simp[resolve,Dt,zK]
def qjc{σ:Wa}{h:qa}{x:T}(hx:Dt x=false):Dt (qJ σ h x)=false:=by
 have AF:Dt (bif aH x then x else resolve 4 σ h x)=false:=by
  cases aH x with
  |true=>exact hx
  |false=>exact yQ 3 σ h x
 cases x with
 |own i aj a len cap=>simp only[qJ];cases QU σ i with
  |none=>exact yQ 3 σ h _
  |some j=>rfl
 |ptr i aj j o=>simp only[qJ];cases QU σ i with
  |none=>exact yQ 3 σ h _
  |some j=>rfl
 |mp i aj=>simp only[qJ];cases QU σ i with
  |none=>exact yQ 3 σ h _
  |some j=>rfl
 |_=>exact AF
def qnG{σ:Wa}{h:qa}{x:T}{cells:JO}(hx:mV σ h x = .ah cells):∃m,x = .ah m/\cells=m.map (qJ σ h):=by
 have AF:Dt x=false->mV σ h x=qJ σ h x->False:=λh1 a=>by
  have:=qjc (σ:=σ) (h:=h) h1;rw[←a,hx] at this;cases this
 cases x with
 |ah m=>simp only[mV,T.ah.injEq] at hx;exact⟨m,rfl,hx.symm⟩
 |agg l=>cases hx
 |fn f d=>cases hx
 |_=>exact absurd (AF rfl rfl) id
section
variable {P:Program} {Gl:V9} {aa:Wa} {nt:Nat}
def zD(f:T->T)(j:f .undef = .undef)(l:Wa)(vs:JO)(h h2:qa)(t:Nat):(qB l (vs.map f) h2).at t=f ((qB l vs h).at t):=by
 unfold St.at
 cases o:Nat.blt t 1024 with
 |false=>simp[j]
 |true =>
  simp only[wm];have key:∀(l:Wa) (vs:JO) (e a:Tr),(∀t,t<1024->Tr.get QQ a t=f (Tr.get QQ e t))->∀t,t<1024->Tr.get QQ (yu l (vs.map f) a) t=f (Tr.get QQ (yu l vs e) t):=by
   intro l
   induction l with
   |nil=>intro vs e a he;simpa only[yu] using he
   |cons i l k =>
    intro vs e a he;cases vs with
    |nil=>simpa only[yu,List.map_nil] using he
    |cons x vs =>
     simp only[xA,yu];refine k vs _ _ (λt d=>?_);cases g:Nat.blt i 1024 with
     |false=>exact he t d
     |true =>
      simp only[wm];have h1:Tr.get QQ (Tr.set QQ e i x) t=if t=i then x else Tr.get QQ e t:=Tr.eP 10 e i t x (by have:=Qb g;omega) d;have h2:Tr.get QQ (Tr.set QQ a i (f x)) t=if t=i then f x else Tr.get QQ a t:=Tr.eP 10 a i t (f x) (by have:=Qb g;omega) d;rw[h1,h2];by_cases q:t=i
      .rw[wl q,wl q]
      .rw[we q,we q];exact he t d
  exact key l vs .nil .nil (λt _=>by show T.undef=f .undef;rw[j]) t (Qb o)
def am.oM{l:Wa}{k:Nat}{vs:JO}{h:qa}(σ:Wa)(s:zn k σ h=true):am Gl aa nt l k vs h (vs.map (mV σ h)) (td σ h):=by
 simp only[zn,wg] at s;obtain⟨⟨mG,mA⟩,aN⟩:=s;have mG:∀i,i<k->σ[i]?=some i:=by
  intro i z;have:=wA.1 mG i (vQ.2 z);cases Q:σ[i]? with
  |none=>rw[Q] at this;cases this
  |some j=>rw[Q] at this;rw[show j=i by simpa using this]
 have aN:∀i,i∈σ->i<h.length:=λi z=>Qb (wA.1 aN i z);intro g a w g0 h0 w0 hk iC M Q;have hr:=Q.hr;simp only[qB] at hr;obtain⟨hHl,T6⟩:=yO (l:=σ) (f:=λi=>(h[i]?).map (QJ σ h)) λi z=>⟨_,by rw[wj (aN i z)];rfl⟩;have te:∀(j i:Nat) (b:aq),σ[j]?=some i->h[i]?=some b->(td σ h)[j]?=some (QJ σ h b):=λj i b h1 V=>by
  show(σ.filterMap _)[j]?=_;rw[T6,h1];simp[V]
 have x7:∀(j:Nat) (Y:aq),(td σ h)[j]?=some Y->∃(i:Nat) (b:aq),σ[j]?=some i/\h[i]?=some b/\Y=QJ σ h b:=by
  intro j Y r;have r:(σ.filterMap λi=>(h[i]?).map (QJ σ h))[j]?=some Y:=r;rw[T6] at r;obtain⟨i,h1,V⟩:=Option.bind_eq_some_iff.1 r;obtain⟨b,h3,h4⟩:=wI.1 V;exact⟨i,b,h1,h3,h4.symm⟩
 have gr:∀cb i,g.own cb=some (.inl i)->k<=i->w0.heap.size<=cb:=by
  intro cb i s z;rcases wt cb w0.heap.size with q|q
  .rw[M.own cb q] at s;have:=iC.lt cb i s;omega
  .exact q
 have Gc:∀i,QU σ i=none->k<=i:=λi z=>by
  rcases wt i k with q|q
  .exact absurd (wo (mG i q)) (T5 z)
  .exact q
 let fr:Nat->Prop:=λcb=>∃i,i∉σ/\g.own cb=some (.inl i)/\∃(b:aq) (R:Nat),h[i]?=some b/\g.φ i=some (cb,R)
 let g2:Gh:={ g with
  U:=λb=>g.U b∨fr b
  φ:=λj=>(σ[j]?).bind g.φ
  own:=λb=>match g.own b with|some (.inl i)=>(QU σ i).map .inl|o=>o }
 have gZ:∀b i,g.own b=some (.inl i)->g2.own b=(QU σ i).map .inl:=λb i r=>by simp only[g2,r]
 have fV:∀b,g.own b=none->g2.own b=none:=λb r=>by simp only[g2,r]
 have nP:∀b t,g.own b=some (.inr t)->g2.own b=some (.inr t):=λb t r=>by simp only[g2,r]
 have hU:∀b,g.U b->g2.U b:=λb r=>.inl r;have iK:Reads g h w σ g2.U:=⟨hU,λi b cb R r z hφ=>by
  exact .inr ⟨i,z,hr.mD r hφ,b,R,r,hφ⟩⟩
 have Bi:eE w g.U w g2.U:=λb r=>⟨hU b r,rfl⟩;have iW:∀x v,g.VR h w x v->g2.VR (td σ h) w (qJ σ h x) v:=by
  intro x v hx;have other:qJ σ h x=(bif aH x then x else resolve 4 σ h x)->g2.VR (td σ h) w (qJ σ h x) v:=λe=>by
   rw[e];cases z:aH x with
   |true=>exact .aH _ _ ((ZM z hx).ar Bi)
   |false=>exact .aH _ _ (Ze hr iK 4 x v hx)
  cases x with
  |own i aj S len cap =>
   cases H:QU σ i with
   |none =>
    have e:qJ σ h (.own i aj S len cap)=resolve 4 σ h (.own i aj S len cap):=by simp only[qJ,H]
    rw[e];exact .aH _ _ (Ze hr iK 4 _ v hx)
   |some j =>
    have e:qJ σ h (.own i aj S len cap) = .own j aj S len cap:=by simp only[qJ,H]
    rw[e];obtain⟨b,r,aD,h1,A⟩:=hx.cW;have E:=ZO H;have B:(QJ σ h b).aj=b.aj/\(QJ σ h b).sz=b.sz/\(QJ σ h b).n=b.n:=by unfold QJ;cases b.flat<;>exact⟨rfl,rfl,rfl⟩
    refine .own _ _ _ _ _ (QJ σ h b) _ (te j i b E r) (by rw[B.1];exact aD) h1 λev=>?_;rcases A (by rw[←B.1];exact ev) with⟨cb,R,c,ad,e1,e2,es,so,e3,e4,e5,e6,e7⟩|⟨Z,X,q3⟩
    rotate_left
    .exact .inr ⟨by show(σ[j]?).bind g.φ=_;rw[E];exact Z,by rw[B.2.2];exact X,q3⟩
    exact .inl ⟨cb,R,c,ad,by show(σ[j]?).bind g.φ=_;rw[E];exact e1,e2,es,by rw[B.2.1];exact so,e3,by rw[B.2.2];exact e4,by rw[B.2.2];exact e5,by rw[B.2.1];exact e6,by rw[B.2.2];exact e7⟩
  |ptr i aj jj o =>
   cases H:QU σ i with
   |none =>
    have e:qJ σ h (.ptr i aj jj o)=resolve 4 σ h (.ptr i aj jj o):=by simp only[qJ,H]
    rw[e];exact .aH _ _ (Ze hr iK 4 _ v hx)
   |some j =>
    have e:qJ σ h (.ptr i aj jj o) = .ptr j aj jj o:=by simp only[qJ,H]
    rw[e];obtain⟨b,r,aD,h1,A⟩:=hx.cX;have E:=ZO H;have B:(QJ σ h b).aj=b.aj/\(QJ σ h b).sz=b.sz/\(QJ σ h b).n=b.n:=by unfold QJ;cases b.flat<;>exact⟨rfl,rfl,rfl⟩
    refine .ptr _ _ _ _ (QJ σ h b) _ (te j i b E r) (by rw[B.1];exact aD) h1 λev=>?_;obtain⟨cb,R,e1,e2⟩:=A (by rw[←B.1];exact ev);exact⟨cb,R,by show(σ[j]?).bind g.φ=_;rw[E];exact e1,by rw[B.2.1];exact e2⟩
  |mp i aj =>
   cases H:QU σ i with
   |none =>
    have e:qJ σ h (.mp i aj)=resolve 4 σ h (.mp i aj):=by simp only[qJ,H]
    rw[e];exact .aH _ _ (Ze hr iK 4 _ v hx)
   |some j =>
    have e:qJ σ h (.mp i aj) = .mp j aj:=by simp only[qJ,H]
    rw[e];obtain⟨b,r,aD,h1,A⟩:=hx.iH;have E:=ZO H;have B:(QJ σ h b).aj=b.aj:=by unfold QJ;cases b.flat<;>rfl
    refine .mp _ _ (QJ σ h b) _ (te j i b E r) (by rw[B];exact aD) h1 λev=>?_;obtain⟨cb,e1,e2⟩:=A (by rw[←B];exact ev);exact⟨cb,by show(σ[j]?).bind g.φ=_;rw[E];exact e1,e2⟩
  |_=>exact other rfl
 have hv:∀x v,g.VR h w x v->g2.VR (td σ h) w (mV σ h x) v:=by
  intro x v hx;cases x with
  |agg m =>
   obtain⟨cs,rfl,hl,h1,I⟩:=hx.bM;refine VR.dc (by simpa using hl) h1 (λi c z=>?_);obtain⟨c0,h0,rfl⟩:=QE z;obtain⟨u,O,dm⟩:=I i c0 h0;exact⟨u,O,iW _ _ dm⟩
  |fn f m =>
   obtain⟨cs,rfl,hl,I⟩:=hx.gG;refine VR.oF (by simpa using hl) (λi c z=>?_);obtain⟨c0,h0,rfl⟩:=QE z;obtain⟨u,O,dm⟩:=I i c0 h0;exact⟨u,O,iW _ _ dm⟩
  |ah m=>exact absurd hx VR.dP
  |_=>exact iW _ _ hx
 have v7:HR g2 (td σ h) w:=by
  have lY:∀b:aq,(QJ σ h b).mp=b.mp:=λb=>by unfold QJ;cases b.flat<;>rfl
  refine⟨λj Y B iM=>?_,λb r=>?_,λb o s=>?_,hr.base,λb o s=>?_,λb j s=>?_,λj Y m B hm=>?_⟩
  .obtain⟨i,b,E,r,rfl⟩:=x7 j Y B;have cC:b.mp=none:=(lY b).symm.trans iM;have J:(QJ σ h b).sz=b.sz/\(QJ σ h b).n=b.n/\(QJ σ h b).flat=b.flat:=by unfold QJ;cases N:b.flat<;>simp[N]
   rcases hr.dh i b r cC with⟨cb,R,arr,e,A⟩|⟨Z,X⟩
   rotate_left
   .exact .inr ⟨by show(σ[j]?).bind g.φ=_;rw[E];exact Z,by rw[J.2.1];exact X⟩
   refine .inl ⟨cb,R,arr,e,by show(σ[j]?).bind g.φ=_;rw[E];exact A.φ,by rw[gZ cb i A.own,Y9 mA E];rfl,A.heap,by rw[J.1,J.2.1];exact A.room,λq N=>?_,λq o c N I=>?_,λcA q N c I=>?_⟩
   .rw[J.2.1] at N;rw[J.1,←A.len q N];unfold QJ;cases b.flat<;>simp
   .rw[J.2.1] at N;rw[J.1];cases cA:b.flat with
    |true =>
     have:(QJ σ h b).get q=b.get q:=by unfold QJ;rw[cA];rfl
     rw[this] at I;obtain⟨v,h1,V,h3⟩:=A.cell q o c N I;exact⟨v,h1,V,.aH _ _ (Zp (A.flat cA q N c (wo I)) h3)⟩
    |false =>
     have:(QJ σ h b).get q=(b.get q).map (qJ σ h):=by unfold QJ;rw[cA];rfl
     rw[this] at I;obtain⟨c0,pv,rfl⟩:=QE I;obtain⟨v,h1,V,h3⟩:=A.cell q o c0 N pv;exact⟨v,h1,V,iW _ _ h3⟩
   .rw[J.2.2] at cA;rw[J.2.1] at N;have:(QJ σ h b).get q=b.get q:=by unfold QJ;rw[cA];rfl
    rw[this] at I;exact A.flat cA q N c I
  .rcases r with r|⟨i,z,s,_⟩
   .exact⟨(hr.u b r).1,fV b (hr.u b r).2⟩
   .refine⟨(hr.own b _ s).2,?_⟩;rw[gZ b i s];cases H:QU σ i with
    |none=>rfl
    |some j=>exact absurd (wo (ZO H)) z
  .cases C:g.own b with
   |none=>rw[fV b C] at s;cases s
   |some o'=>exact hr.own b o' C
  .cases C:g.own b with
   |none=>rw[fV b C] at s;cases s
   |some o' =>
    rcases hr.cells b o' C with q|⟨i,es,c,rfl,q⟩
    .exact .inl q
    .rw[gZ b i C] at s;obtain⟨j',_,e⟩:=wI.1 s;exact .inr ⟨j',es,c,e.symm,q⟩
  .cases C:g.own b with
   |none=>rw[fV b C] at s;cases s
   |some o' =>
    cases o' with
    |inr t=>rw[nP b t C] at s;cases s
    |inl i =>
     rw[gZ b i C] at s;obtain⟨j',iS,e⟩:=wI.1 s;obtain rfl:j'=j:=by simpa using e
     have Oj:(td σ h).length=σ.length:=hHl;rw[Oj];exact qy (ZO iS)
  .obtain⟨i,b,E,r,rfl⟩:=x7 j Y B;obtain⟨cb,o1,o2,o3⟩:=hr.mp i b m r ((lY b).symm.trans hm);exact⟨cb,by show(σ[j]?).bind g.φ=_;rw[E];exact o1,by rw[gZ cb i o2,Y9 mA E];rfl,o3⟩
 refine⟨g2,⟨v7,?_,Q.size,Q.nt,λt ht=>?_,λt ht cells I=>?_,λd t o hh=>(by cases hh),λgl cells hg=>(Q.dU gl cells hg).ar Bi,λd t o hh=>(by cases hh)⟩,?_,λb r=>⟨fV b r,λO=>?_⟩⟩
 .obtain⟨m0,l0,m1,m2,m3⟩:=Q.defers;refine⟨m0,l0,m1,m2,λD hD=>?_⟩;obtain⟨Z,X,q3,q4⟩:=m3 D hD;refine⟨Z,fV D X,λO=>?_,q4⟩;rcases O with O|⟨i,_,s,_⟩
  .exact q3 O
  .rw[X] at s;cases s
 .rw[zD (mV σ h) rfl l vs h];exact hv _ _ (Q.tmps t ht)
 .rw[zD (mV σ h) rfl l vs h] at I;have bt:=qnG I;obtain⟨m,hx,rfl⟩:=bt;obtain⟨cb,arr,e,A⟩:=Q.eA t ht m hx;refine⟨cb,arr,e,A.ptr,nP cb t A.own,A.heap,by rw[wQ];exact A.len,λo c pW=>?_⟩;obtain⟨c0,pv,rfl⟩:=QE pW;obtain⟨u,h1,V,h3⟩:=A.cell o c0 pv;exact⟨u,h1,V,iW _ _ h3⟩
 .refine⟨⟨λb r=>⟨hU b (M.ar.u b r).1,(M.ar.u b r).2⟩,λi b r=>?_,M.ar.rm⟩,M.size,λb r=>?_,M.os,M.tape,M.output,M.same,M.bs,λb r=>?_,λb r=>hU b (M.u' b r)⟩
  .obtain⟨W,dH,Z,X⟩:=M.ar.ey i b r;have z:i<k:=vd (qy r) hk;have J:(QJ σ h W).aj=W.aj/\(QJ σ h W).sz=W.sz/\(QJ σ h W).n=W.n:=by unfold QJ;cases W.flat<;>exact⟨rfl,rfl,rfl⟩
   refine⟨QJ σ h W,te i i W (mG i z) dH,by rw[J.1];exact Z,λev=>?_⟩;rw[J.1] at ev;obtain⟨r1,r2,r3⟩:=X ev;exact⟨by rw[J.2.1];exact r1,by rw[J.2.2];exact r2,by show(σ[i]?).bind g.φ=_;rw[mG i z];exact r3⟩
  .have:=M.own b r;cases C:g.own b with
   |none=>rw[fV b C,←this,C]
   |some o =>
    cases o with
    |inr t=>rw[nP b t C,←this,C]
    |inl i =>
     have Gd:i<k:=vd (iC.lt b i (by rw[←this];exact C)) hk;rw[gZ b i C,Y9 mA (mG i Gd),←this,C];rfl
  .rcases r with r|⟨i,z,s,_⟩
   .exact M.u b r
   .refine .inr (gr b i s (Gc i ?_));cases H:QU σ i with
    |none=>rfl
    |some j=>exact absurd (wo (ZO H)) z
 .rcases O with O|⟨i,_,s,_⟩
  .exact O
  .rw[r] at s;cases s
def fu(x y:T):Prop:=x=y∨(aH x=true/\mH x y/\Dt y=false)
def fu.refl(x:T):fu x x:=.inl rfl
def VR.Bj{w:World}{U:Nat->Prop}{φ:Nat->Option (Nat×Nat)}{h:qa}{x y:T}{v:Value}(a:fu x y)(hx:VR w U φ h x v):VR w U φ h y v:=by
 rcases a with rfl|⟨d,a,_⟩
 .exact hx
 .exact .aH _ _ (a _ _ _ (ZM (g:={ U:=U,φ:=φ,own:=λ_=>none,base:=0,low:=0 }) d hx))
def dY(l m:JO):Prop:=l.length=m.length/\∀(i:Nat) a b,l[i]?=some a->m[i]?=some b->fu a b
def dY.refl(l:JO):dY l l:=⟨rfl,λi a b h1 d=>by rw[h1] at d;obtain rfl:=wa d;exact .refl _⟩
def dY.nil:dY [] []:=.refl _
def dY.cons{x y:T}{l m:JO}(h:fu x y)(e:dY l m):dY (x::l) (y::m):=by
 refine⟨by simp[e.1],λi a b h1 d=>?_⟩;cases i with
 |zero=>simp at h1 d;subst h1;subst d;exact h
 |succ i=>exact e.2 i a b (by simpa using h1) (by simpa using d)
def dY.get{l m:JO}(h:dY l m){i:Nat}{b:T}(d:m[i]?=some b):∃a,l[i]?=some a/\fu a b:=by
 have f:=qy d;have e:l[i]?=some (l[i]'(by rw[h.1];exact f)):=wj _;exact⟨_,e,h.2 i _ _ e d⟩
def mI(x y:T):Prop:=fu x y∨(∃l m,x = .ah l/\y = .ah m/\dY l m)∨∃l m,x = .agg l/\y = .agg m/\dY l m
def mI.refl(x:T):mI x x:=.inl (.refl x)
def VR.Ol{w:World}{U:Nat->Prop}{φ:Nat->Option (Nat×Nat)}{h:qa}{x y:T}{v:Value}(d:mI x y)(hx:VR w U φ h x v):VR w U φ h y v:=by
 rcases d with d|⟨l,m,rfl,rfl,d⟩|⟨l,m,rfl,rfl,d⟩
 .exact hx.Bj d
 .exact absurd hx VR.dP
 .obtain⟨s,rfl,f,h1,j⟩:=hx.bM;refine VR.dc (by rw[←d.1];exact f) h1 (λi c g=>?_);obtain⟨a,k,r⟩:=d.get g;obtain⟨u,e,o⟩:=j i a k;exact⟨u,e,o.Bj r⟩
def kQ{R:T->T->Prop}:∀(l:Wa) (vs dE:JO) (e d:Tr),vs.length=dE.length->(∀(i:Nat) x y,vs[i]?=some x->dE[i]?=some y->R x y)->(∀t,t<1024->R (Tr.get QQ e t) (Tr.get QQ d t)) →
 ∀t,t<1024->R (Tr.get QQ (yu l vs e) t) (Tr.get QQ (yu l dE d) t)
 |[],_,_,e,d,_,_,he=>by simpa only[yu] using he
 |i::l,[],[],e,d,_,_,he=>by simpa only[yu] using he
 |i::l,x::vs,y::dE,e,d,f,k,he=>by
  simp only[yu];refine kQ l vs dE _ _ (by simpa using f) (λj x y a b=>k (j+1) x y (by simpa using a) (by simpa using b)) (λt g=>?_);cases o:Nat.blt i 1024 with
  |false=>exact he t g
  |true =>
   simp only[wm];have h1:Tr.get QQ (Tr.set QQ e i x) t=if t=i then x else Tr.get QQ e t:=Tr.eP 10 e i t x (by have:=Qb o;omega) g;have r:Tr.get QQ (Tr.set QQ d i y) t=if t=i then y else Tr.get QQ d t:=Tr.eP 10 d i t y (by have:=Qb o;omega) g;rw[h1,r];by_cases q:t=i
   .rw[wl q,wl q];exact k 0 x y rfl rfl
   .rw[we q,we q];exact he t g
 |i::l,[],_::_,_,_,f,_,_=>by simp at f
 |i::l,x::vs,[],_,_,f,_,_=>by simp at f
def qk2{l:Wa}{vs dE:JO}(h h2:qa)(e:vs.length=dE.length)(a:∀(i:Nat) x y,vs[i]?=some x->dE[i]?=some y->mI x y)(t:Nat):mI ((qB l vs h).at t) ((qB l dE h2).at t):=by
 unfold St.at
 cases d:Nat.blt t 1024 with
 |false=>exact .refl _
 |true =>
  simp only[wm];exact kQ l vs dE .nil .nil e a (λ_ _=>.refl _) t (Qb d)
def bk(h h2:qa):Prop:=h2.length=h.length/\∀(i:Nat) b a,h[i]?=some b->h2[i]?=some a->a.mp=b.mp/\a.aj=b.aj/\a.sz=b.sz/\a.n=b.n/\(a.flat=true->b.flat=true∨∀j,j<b.n->(b.get j).all qG=true)/\(∀j,j<b.n->dY (b.get j) (a.get j))/\(a.flat=true->∀j,j<b.n->a.get j=b.get j)
def bk.nil:bk [] []:=⟨rfl,λi b a h=>by simp at h⟩
def bk.cons{b b2:aq}{h h2:qa}(h1:b2.aj=b.aj/\b2.sz=b.sz/\b2.n=b.n)(f:b2.flat=true->b.flat=true/\∀j,j<b.n->b2.get j=b.get j)(k:∀j,j<b.n->dY (b.get j) (b2.get j))(e:bk h h2)(g:b2.mp=b.mp:=by rfl):bk (b::h) (b2::h2):=by
 refine⟨by simp[e.1],λi x y d a=>?_⟩;cases i with
 |zero=>simp at d a;subst d;subst a;exact⟨g,h1.1,h1.2.1,h1.2.2,λq=>.inl (f q).1,k,λq=>(f q).2⟩
 |succ i=>exact e.2 i x y (by simpa using d) (by simpa using a)
def bk.at{h h2:qa}(a:bk h h2){i:Nat}{b:aq}(e:h[i]?=some b):∃b2,h2[i]?=some b2:=by
 have d:=qy e;exact⟨_,wj (by rw[a.1];exact d)⟩
def bk.back{h h2:qa}(a:bk h h2){i:Nat}{b2:aq}(e:h2[i]?=some b2):∃b,h[i]?=some b:=by
 have d:=qy e;exact⟨_,wj (by rw[←a.1];exact d)⟩
def bk.ar{h h2:qa}(a:bk h h2)(w:World)(U:Nat->Prop)(φ:Nat->Option (Nat×Nat)):fO w U φ h w U φ h2 :=
 ⟨.refl _ _,λi b d=>by
  obtain⟨f,e⟩:=a.at d;obtain⟨_,k,j,g,_⟩:=a.2 i b f d e;exact⟨f,e,ae,λ_=>⟨j,g,rfl⟩⟩,λ_ _ hr=>hr⟩
def HR.pw{g:Gh}{h h2:qa}{w:World}(hr:HR g h w)(d:bk h h2):HR g h2 w:=by
 refine⟨λi z k O=>?_,hr.u,hr.own,hr.base,hr.cells,λb i x=>by rw[d.1];exact hr.lt b i x,λi z m k Q=>by
  obtain⟨b,r⟩:=d.back k;exact hr.eX r ((d.2 i b z r k).1▸Q) rfl (λ_ f=>f) λ_ _ _=>rfl⟩
 obtain⟨b,r⟩:=d.back k;obtain⟨N,X,s,M,J,B,q6⟩:=d.2 i b z r k;rcases hr.dh i b r (N▸O) with⟨cb,I,A,e,a⟩|⟨E,W⟩
 rotate_left
 .exact .inr ⟨E,ae⟩
 refine .inl ⟨cb,I,A,e,a.φ,a.own,a.heap,by rw[s,M];exact a.room,λj C=>?_,λj o c C x=>?_,λD j C c f=>?_⟩
 .rw[←(B j ae).1,s];exact a.len j ae
 .obtain⟨V,U,H⟩:=(B j ae).get x;obtain⟨v,h1,S,R⟩:=a.cell j o V ae U;rw[s];exact⟨v,h1,S,VR.Bj H (R.ar (d.ar _ _ _))⟩
 .rw[q6 D j ae] at f;rcases J D with q|q
  .exact a.flat q j ae c f
  .exact wA.1 (q j ae) c f
def am.mJ{l:Wa}{k:Nat}{vs dE:JO}{h h2:qa}(V:vs.length=dE.length)(Q:∀(i:Nat) x y,vs[i]?=some x->dE[i]?=some y->mI x y)(D:bk h h2):am Gl aa nt l k vs h dE h2:=by
 intro g a w g0 h0 w0 _ _ W f;have A:=D.ar w g.U g.φ;have E:=qk2 (l:=l) h h2 V Q;refine⟨g,⟨f.hr.pw D,f.defers,f.size,f.nt,λt z=>VR.Ol (E t) ((f.tmps t z).ar A),λt z cells s=>?_,λd t o h=>(by cases h),f.dU,λd t o h=>(by cases h)⟩,W.trans ⟨A,wc _,λ_ _=>rfl,rfl,rfl,.refl _,λ_ _ _=>rfl,rfl,λ_ h=>.inl h,λ_ h=>h⟩,.refl g⟩;have Z:∃m,(qB l vs h).at t = .ah m/\dY m cells:=by
  rcases E t with (e|⟨_,_,e⟩)|⟨m,N,H,j,C⟩|⟨m,N,H,j,C⟩
  .rw[s] at e;exact⟨cells,e,.refl _⟩
  .rw[s] at e;cases e
  .rw[s] at j;obtain rfl:=T.ah.inj j;exact⟨m,H,C⟩
  .rw[s] at j;cases j
 obtain⟨m,S,I⟩:=Z;obtain⟨cb,B,e,r⟩:=f.eA t z m S;refine⟨cb,B,e,r.ptr,r.own,r.heap,by rw[←I.1];exact r.len,λo c R=>?_⟩;obtain⟨Y,J,O⟩:=I.get R;obtain⟨u,h1,M,X⟩:=r.cell o Y J;exact⟨u,h1,M,VR.Bj O (X.ar A)⟩
end
def dY.Ue{x:T}{l m:List T}(h:dY l m):dY (x::l) (x::m):=.cons (.refl _) h
def mH.fG(sz:Nat)(g:Nat->JO){cap:Option Nat}(a:cap=none∨cap=some 0):mH .ag (.view sz 0 g cap):=by
 intro w U v h;cases h;exact .eS sz g cap a
def x8:T->T
 |.fresh true sz _ g len cap=>.new (.view sz len g cap)
 |.fresh false sz _ g len cap=>.view sz len g cap
 |x=>x
def Ci:T->T
 |.agg l=>.agg (l.map x8)
 |x=>x8 x
def fh:T->T
 |.aK l=>.aK (l.map Ci)
 |x=>Ci x
section
variable {w:World} {B:Nat} {U:Nat->Prop}
def gO.mono{r:Nat->Prop}(f:∀b,U b->r b){x:T}{v:Value}{X:Wa}(h:gO w B U x v X):gO w B r x v X:=by
 cases h with
 |vi x v d=>exact .vi _ _ (d.ar λb a=>⟨f b a,rfl⟩)
 |nw x v d=>exact .nw _ _ (d.ar λb a=>⟨⟨f b a.1,a.2⟩,rfl⟩)
 |sC m cb I=>exact .sC m cb I
 |AD flat sz g cap i=>exact .AD flat sz g cap i
 |fresh flat sz n g len cap cb s cc ad k e es W V i S R N A z J Q O =>
  exact .fresh flat sz n g len cap cb s cc ad k e es W V i S R N A z J (λj o c M H=>by
   obtain⟨u,E,D,C⟩:=Q j o c M H;exact⟨u,E,D,C.ar λb a=>⟨f b a,rfl⟩⟩) O
def Du(w:World)(B:Nat)(U:Nat->Prop)(Q:(Nat->Prop)->Wa->Prop)(X:Wa):Prop :=
 ∃d Y,X.Perm (d++Y)/\∀a:Nat->Prop,(∀b,U b->a b)->(∀b,b∈Y->a b/\B<=b)->Q a d
def T7{flat:Bool}{sz n:Nat}{gg:Nat->JO}{len:Nat}{cap:Option Nat}{cb sh cc:Nat}{ad:Addr}{arr:Array Value}{e:TypeId}{g:Nat->Prop}
 (es:ad.spot=none) (k:0<cc->ad=⟨cb,sh,none⟩) (J:len<=cc) (I:∀m,cap=some m->cc=m/\m<=n) (N:len<=n) (E:w.heap[cb]?=some (.cells arr e (0,0)))
 (D:∀j,j<n->(gg j).length=sz) (H:∀j o c,j<n->(gg j)[o]?=some c->∃u,arr[sh+j*sz+o]?=some u/\u.oneCell'=true/\VI w g c u) (z:g cb):VI w g (.view sz len gg cap) (.slice (some ad) len cc):=by
 let a:Nat->Nat->Value:=λj o=>(arr[sh+j*sz+o]?).getD Go.undef
 have r:∀j o c,j<len->(gg j)[o]?=some c->cellAt w ad.block (ad.off+j*sz+o) (a j o)/\VI w g c (a j o):=by
  intro j o c f d;obtain⟨u,i,x,s⟩:=H j o c ae d;have A:a j o=u:=by simp[a,i]
  rw[A,k ae];exact⟨⟨by simp[World.cell?,E,i],x⟩,s⟩
 exact .view sz len gg cap ad cc a (λ_=>es) (λm C=>(I m C).1) J (λM _=>by rw[k ae];exact z) (λj f=>D j ae) (λj o c f d=>(r j o c f d).1) (λj o c f d=>(r j o c f d).2)
def gO.fh{x:T}{v:Value}{X:Wa}(h:gO w B U x v X):Du w B U (λa A=>gO w B a (x8 x) v A) X:=by
 have same:x8 x=x->Du w B U (λa A=>gO w B a (x8 x) v A) X:=λe=>⟨X,[],au,λa i _=>by rw[e];exact h.mono i⟩;cases h with
 |vi x v D=>exact same (by cases D<;>rfl)
 |nw x v D=>exact same rfl
 |sC m cb hm=>exact same rfl
 |AD flat sz S cap k =>
  have d:cap=none∨cap=some 0:=by
   cases cap with
   |none=>exact .inl rfl
   |some c=>exact .inr (by rw[k c rfl])
  refine⟨[],[],au,λa i J=>?_⟩;cases flat with
  |true=>exact .nw _ _ (.eS _ _ _ d)
  |false=>exact .vi _ _ (.eS _ _ _ d)
 |fresh flat sz n S len cap cb W cc ad V e es N M k d e7 H Z Y E I Q =>
  refine⟨[],[cb],au,λa i J=>?_⟩;obtain⟨C,O⟩:=J cb au;cases flat with
  |true =>
   exact .nw _ _ (T7 (flat:=true) (n:=n) es N M k d H E (λj o c g f=>by
    obtain⟨u,z,s,r⟩:=I j o c g f;exact⟨u,z,s,Nh (Q rfl j g c (wo f)) r⟩) ⟨C,O⟩)
  |false =>
   exact .vi _ _ (T7 (flat:=false) (n:=n) es N M k d H E (λj o c g f=>by
    obtain⟨u,z,s,r⟩:=I j o c g f;exact⟨u,z,s,r.ar λb R=>⟨i b R,rfl⟩⟩) C)
def mE.fh{Q:(Nat->Prop)->T->Value->Wa->Prop}{f:T->T}{l:JO}{vs:List Value}{X:Wa}(h:mE (Q U) l vs X)
 (A:∀x v X,Q U x v X->Du w B U (λa d=>Q a (f x) v d) X):Du w B U (λa d=>mE (Q a) (l.map f) vs d) X:=by
 induction h with
 |nil=>exact⟨[],[],au,λ_ _ _=>.nil⟩
 |cons x v X l vs Y hx D z =>
  obtain⟨k,C,u,r⟩:=A x v X hx;obtain⟨d,j,s,o⟩:=z;refine⟨k++d,C++j,?_,λa i g=>.cons _ _ _ _ _ _ (r a i λb e=>g b (by simp[e])) (o a i λb e=>g b (by simp[e]))⟩;refine(u.append s).trans ?_;simp only[wX];refine xf k ?_;rw[←wX,←wX];exact vy j xU
def qjd{x:T}(h:∀l,x≠.agg l):∀l,x8 x≠.agg l:=by
 intro l;cases x with
 |agg m=>exact absurd rfl (h m)
 |fresh flat=>cases flat<;>simp[x8]
 |_=>simp[x8]
def gO.Om{x:T}{v:Value}{X:Wa}(h:gO w B U x v X)(hx:∀l,x≠.agg l):lU w B U x v X:=by
 cases x with
 |agg l=>exact absurd rfl (hx l)
 |_=>exact h
def lU.fh{x:T}{v:Value}{X:Wa}(h:lU w B U x v X):Du w B U (λd a=>lU w B d (Ci x) v a) X:=by
 cases x with
 |agg l =>
  obtain⟨j,rfl,h1,i⟩:=h;obtain⟨a,Y,p,q⟩:=mE.fh (w:=w) (B:=B) (Q:=λU=>gO w B U) (f:=x8) i λx v X h=>h.fh;exact⟨a,Y,p,λd g e=>⟨j,rfl,h1,q d g e⟩⟩
 |_ =>
  obtain⟨a,Y,p,q⟩:=gO.fh (show gO w B U _ v X from h);exact⟨a,Y,p,λd g e=>(q d g e).Om (qjd (λl=>by simp))⟩
def lU.On{x:T}{v:Value}{X:Wa}(h:lU w B U x v X)(hx:∀l,x≠.aK l):oa w B U x v X:=by
 cases x with
 |aK l=>exact absurd rfl (hx l)
 |_=>exact h
def qje{x:T}(h:∀l,x≠.aK l):∀l,Ci x≠.aK l:=by
 intro l;cases x with
 |aK m=>exact absurd rfl (h m)
 |fresh flat=>cases flat<;>simp[Ci,x8]
 |_=>simp[Ci,x8]
def oa.Ed{x:T}{v:Value}{X:Wa}(h:oa w B U x v X)(hx:∀l,x≠.aK l):lU w B U x v X:=by
 cases x with
 |aK l=>exact absurd rfl (hx l)
 |_=>exact h
def qnH{x:T}(hx:∀l,x≠.aK l):Ab.fh x=Ci x:=by
 cases x with
 |aK l=>exact absurd rfl (hx l)
 |_=>rfl
def oa.fh{x:T}{v:Value}{X:Wa}(h:oa w B U x v X):Du w B U (λd a=>oa w B d (Ab.fh x) v a) X:=by
 have k:(∀l,x≠.aK l)->Du w B U (λd a=>oa w B d (Ab.fh x) v a) X:=λhx=>by
  obtain⟨a,Y,p,q⟩:=(h.Ed hx).fh;refine⟨a,Y,p,λd g e=>?_⟩;rw[qnH hx];exact(q d g e).On (qje hx)
 cases x with
 |aK l =>
  obtain⟨j,rfl,i⟩:=h;obtain⟨a,Y,p,q⟩:=mE.fh (w:=w) (B:=B) (Q:=λU=>lU w B U) (f:=Ci) i λx v X h=>h.fh;exact⟨a,Y,p,λd g e=>⟨j,rfl,q d g e⟩⟩
 |_=>exact k (λl=>by simp)
def RV.fh{r:T}{v:Value}{w':World}(h:RV w U r v w'):RV w U (Ab.fh r) v w':=by
 obtain⟨o,s,X,h1,k,j,e,i⟩:=h;obtain⟨f,Y,p,q⟩:=i.fh;have g:(f++Y).Nodup:=p.nodup_iff.1 j;have d:∀b,b∈f++Y->b∈X:=λb a=>p.mem_iff.2 a;refine⟨o,λb=>s b∨b∈Y,f,λb a=>.inl (h1 b a),λb a=>?_,(xB.1 g).1,λb a=>?_,q _ (λb a=>.inl a) λb a=>⟨.inr a,(e b (d b (by simp[a]))).1⟩⟩
 .rcases a with a|a
  .exact k b a
  .have:=e b (d b (by simp[a]));exact⟨.inr this.1,this.2.1⟩
 .have:=e b (d b (by simp[a]));refine⟨this.1,this.2.1,λhu=>?_⟩;rcases hu with hu|hu
  .exact this.2.2 hu
  .exact(xB.1 g).2.2 b a b hu rfl
end
section
variable {P:Program} {Gl:V9}
def aI.fh{f:FuncId}{a:JO}{r:T}(t:aI P Gl f a r):aI P Gl f a (Ab.fh r) :=
 ⟨t.enters,λw U aA j k i=>(t.calls w U aA j k i).mono λe w' ⟨v,g,d⟩=>⟨v,g,d.fh⟩⟩
end
section
variable {P:Program} {Gl:V9}
def Step.tg{an:cq}{A:FuncId->cq}{K:bA}{f r m k:Nat}{l:List (Nat×(JO->qa->LT))}{vs v1 v2 aS:JO}{h h1 h2 h':qa}(j:aT P Gl K)(hp:(A f).aa=an.aa)(e:(A f).live r=an.live r)(i:∀p∈l,aG P Gl (A f) f p.1 p.2)
 (σ:Wa) (hr:QB P Gl A K m f l r vs h=some (.normal,v1,h1)) (d:zn k σ h1=true) (a:v1.map (mV σ h1)=v2) (g:td σ h1=h2) (hw:∀nt,am Gl an.aa nt (an.live r false) k v2 h2 aS h'):Step P Gl an f r k vs h aS h' :=
 ⟨v1,h1,⟨A,K,m,l,j,hp,e,i,hr⟩,λnt=>.trans (.oM σ d) (by rw[a,g];exact hw nt)⟩
def cz.tg{an:cq}{A:FuncId->cq}{K:bA}{f r m k:Nat}{l:List (Nat×(JO->qa->LT))}{vs v1 v2 aS:JO}{h h1 h2 h':qa}{e:Ex}(o:aT P Gl K)(hp:(A f).aa=an.aa)(g:(A f).live r=an.live r)(j:∀p∈l,aG P Gl (A f) f p.1 p.2)
 (he:e≠.normal) (σ:Wa) (hr:QB P Gl A K m f l r vs h=some (e,v1,h1)) (d:zn k σ h1=true) (a:v1.map (mV σ h1)=v2) (i:td σ h1=h2) (hw:∀nt,am Gl an.aa nt (an.live r true) k v2 h2 aS h'):cz P Gl an f r k vs h e aS h' :=
 ⟨he,v1,h1,⟨A,K,m,l,o,hp,g,j,hr⟩,λnt=>.trans (.oM σ d) (by rw[a,i];exact hw nt)⟩
end
inductive bY:T->T->Prop
 |refl (x:T):bY x x
 |fG (sz:Nat) (g:Nat->JO) (cap:Option Nat) (hc:cap=none∨cap=some 0):bY .ag (.view sz 0 g cap)
 |Aa (sz:Nat) (g:Nat->JO) (cap:Option Nat) (hc:cap=none∨cap=some 0):bY .ag (.new (.view sz 0 g cap))
 |Gf (flat:Bool) (sz:Nat) (g:Nat->JO) (cap:Option Nat) (hc:cap=none∨cap=some 0):bY .ag (.fresh flat sz 0 g 0 cap)
 |px (x:T):bY (.new x) x
 |new {x y:T} (h:mH x y):bY (.new x) (.new y)
 |fresh {flat:Bool} {sz n:Nat} {g:Nat->JO} {len:Nat} {cap:Option Nat} {n':Nat} {g':Nat->JO} (h1:len<=n') (h2:n'<=n) (h3:∀m,cap=some m->m<=n') (h4:∀j,j<n'->g' j=g j):bY (.fresh flat sz n g len cap) (.fresh flat sz n' g' len cap)
 |view {sz n:Nat} {g:Nat->JO} {cap:Option Nat} {uR n':Nat} {g':Nat->JO} {Gg:Option Nat} (h:mH (.view sz n g cap) (.view uR n' g' Gg)):bY (.view sz n g cap) (.view uR n' g' Gg)
section
variable {w:World} {B:Nat} {U:Nat->Prop} {P:Program} {Gl:V9}
def bY.sI{x y:T}(h:bY x y){v:Value}{X:Wa}(hx:gO w B U x v X):gO w B U y v X:=by
 cases h with
 |refl=>exact hx
 |fG sz g cap d=>cases hx with|vi _ _ a=>cases a;exact .vi _ _ (.eS sz g cap d)
 |Aa sz g cap d=>cases hx with|vi _ _ a=>cases a;exact .nw _ _ (.eS sz g cap d)
 |px=>cases hx with
  |vi _ _ a=>cases a
  |nw _ _ a=>exact .vi _ _ (a.ar λb M=>⟨M.1,rfl⟩)
 |Gf flat sz g cap d=>cases hx with|vi _ _ a=>cases a;exact .AD _ _ _ _ λm f=>by rcases d with q|q<;>rw[q] at f<;>cases f;rfl
 |new h=>cases hx with
  |vi _ _ a=>cases a
  |nw _ _ a=>exact .nw _ _ (h _ _ _ a)
 |view h=>cases hx with|vi _ _ a=>exact .vi _ _ (h _ _ _ a)
 |fresh h1 r N k=>cases hx with
  |vi _ _ a=>cases a
  |AD flat sz V cap s =>
   obtain rfl:=Nat.le_zero.1 r;exact .AD _ _ _ _ s
  |fresh _ _ _ _ _ _ cb A cc ad u e es R Q s W O I D C H d J =>
   refine .fresh _ _ _ _ _ _ cb A cc ad u e es R Q (λm f=>⟨(s m f).1,N m f⟩) h1 (λd=>wN r (O d)) I (wN (xC (wJ _ r) _) D) C (λj i=>by rw[k j i];exact H j ae) (λj o c i E=>d j o c ae (by rw[←k j i];exact E)) λS j i c z=>J S j ae c (by rw[←k j i];exact z)
def bY.rt1{x y:T}(h:bY x y){v:Value}{X:Wa}(hx:lU w B U x v X):lU w B U y v X:=by
 cases h with
 |refl=>exact hx
 |fG sz g cap a=>exact(bY.fG sz g cap a).sI (w:=w) (B:=B) (U:=U) hx
 |Aa sz g cap a=>exact(bY.Aa sz g cap a).sI (w:=w) (B:=B) (U:=U) hx
 |px=>exact((bY.px y).sI (w:=w) (B:=B) (U:=U) hx).Ed
 |Gf flat sz g cap a=>exact(bY.Gf flat sz g cap a).sI (w:=w) (B:=B) (U:=U) hx
 |new h=>exact(bY.new h).sI (w:=w) (B:=B) (U:=U) hx
 |view h=>exact(bY.view h).sI (w:=w) (B:=B) (U:=U) hx
 |fresh h1 f e d=>exact(bY.fresh h1 f e d).sI (w:=w) (B:=B) (U:=U) hx
def bY.rt2{x y:T}(h:bY x y){v:Value}{X:Wa}(hx:oa w B U x v X):oa w B U y v X:=by
 cases h with
 |refl=>exact hx
 |fG sz g cap a=>exact(bY.fG sz g cap a).sI (w:=w) (B:=B) (U:=U) hx
 |Aa sz g cap a=>exact(bY.Aa sz g cap a).sI (w:=w) (B:=B) (U:=U) hx
 |px=>exact((bY.px y).sI (w:=w) (B:=B) (U:=U) hx).Ed.S2
 |Gf flat sz g cap a=>exact(bY.Gf flat sz g cap a).sI (w:=w) (B:=B) (U:=U) hx
 |new h=>exact(bY.new h).sI (w:=w) (B:=B) (U:=U) hx
 |view h=>exact(bY.view h).sI (w:=w) (B:=B) (U:=U) hx
 |fresh h1 f e d=>exact(bY.fresh h1 f e d).sI (w:=w) (B:=B) (U:=U) hx
inductive fW:JO->JO->Prop
 |nil:fW [] []
 |cons {x y:T} {l m:JO} (h:bY x y) (hl:fW l m):fW (x::l) (y::m)
def fW.rtl{l m:JO}(h:fW l m):∀{vs:List Value} {X:Wa},mE (lU w B U) l vs X->mE (lU w B U) m vs X:=by
 induction h with
 |nil=>intro vs X hx;exact hx
 |cons h e a =>
  intro vs X hx;cases hx with
  |cons _ _ _ _ _ _ d h1=>exact .cons _ _ _ _ _ _ (h.rt1 d) (a h1)
def fW.Gi{l m:JO}(h:fW l m):∀{vs:List Value} {X:Wa},mE (gO w B U) l vs X->mE (gO w B U) m vs X:=by
 induction h with
 |nil=>intro vs X hx;exact hx
 |cons h e a =>
  intro vs X hx;cases hx with
  |cons _ _ _ _ _ _ d h1=>exact .cons _ _ _ _ _ _ (h.sI d) (a h1)
def aI.tj{f:FuncId}{a:JO}{l m:JO}(t:aI P Gl f a (.agg l))(h:fW l m):aI P Gl f a (.agg m) :=
 ⟨t.enters,λw U aA j A i=>(t.calls w U aA j A i).mono λe w' ⟨v,g,d⟩=>⟨v,g,by
  obtain⟨x,C,X,h1,u,s,r,z,rfl,k,o⟩:=d;exact⟨x,C,X,h1,u,s,r,z,rfl,k,h.Gi o⟩⟩⟩
def aI.tn{f:FuncId}{a:JO}{r d:T}(t:aI P Gl f a r)(h:bY r d):aI P Gl f a d :=
 ⟨t.enters,λw U aA k A j=>(t.calls w U aA k A j).mono λe w' ⟨v,i,g⟩=>⟨v,i,by
  obtain⟨z,C,X,h1,x,u,s,o⟩:=g;exact⟨z,C,X,h1,x,u,s,h.rt2 o⟩⟩⟩
def aI.oO{f:FuncId}{a:JO}{l m:JO}(t:aI P Gl f a (.aK l))(h:fW l m):aI P Gl f a (.aK m) :=
 ⟨t.enters,λw U aA j z i=>(t.calls w U aA j z i).mono λe w' ⟨v,g,d⟩=>⟨v,g,by
  obtain⟨u,A,X,h1,s,r,o,x,rfl,k⟩:=d;exact⟨u,A,X,h1,s,r,o,x,rfl,h.rtl k⟩⟩⟩
end
section
variable {P:Program} {Gl:V9}
end
def fW.Ue{x:T}{l m:List T}(h:fW l m):fW (x::l) (x::m):=.cons (.refl _) h
variable {P:Program} {Gl:V9}
def Cj:(∀{x:Int},-9223372036854775808<=x->x<=9223372036854775807->IntKind.i64.wrap x=x)/\(∀{x:Int},0<=x->x<=255->IntKind.u8.wrap x=x)/\(∀{x:Int},0<=x->x<=65535->IntKind.u16.wrap x=x)/\(∀{x:Int},0<=x->x<=4294967295->IntKind.u32.wrap x=x) ∧
 (∀n:Nat,Int.ofNat n=(n:Int))/\(∀n:Nat,(n:Int).toNat=n)/\(∀n:Nat,((n:Int)+1).toNat=n+1)/\(∀a b:Bool,((a&&b)=true)=(a=true/\b=true))/\(∀a b:Bool,((a || b)=true)=(a=true∨b=true))/\(∀b:Bool,((!b)=true)=(b=false)) ∧
 (∀(p:Prop) [Decidable p],(decide p=true)=p)/\(∀(p:Prop) [Decidable p],(decide p=false) = ¬p)/\(∀a b:Nat,(Nat.ble a b=true)=(a<=b))/\(∀a b:Nat,(Nat.blt a b=true)=(a<b))/\(∀a b:Nat,((a==b)=true)=(a=b)) ∧
 (∀n:Nat,0+n=n)/\(∀n:Nat,n+0=n)/\(∀n:Int,0+n=n)/\(∀n:Int,n+0=n)/\(∀p:Prop,(True/\p)=p)/\(∀p:Prop,(p/\True)=p)/\∀p:Prop,(p/\p)=p :=
 ⟨Qp,s9,qsZ,qsY,Qu,qpv,qnE,λ_ _=>wg _ _,λ_ _=>vY _ _,λ_=>vn _,λ_=>wC,λ_=>by simp,λ_ _=>qs2,λ_ _=>qs1,λ_ _=>T3,wn,xV,Int.zero_add,Int.add_zero,true_and,and_true,and_self⟩
def BT{R:Type}{c:Bool}{x y r:R}(h1:x=r)(a:c=true:=by first|assumption|omega|(simp (disch:=omega) only[Cj,vc,vE,Nat.reduceAdd];done)|(simp (disch:=omega) only[Cj,vc,vE,Nat.reduceAdd];omega)):(bif c then x else y)=r:=qk a h1
def BF{R:Type}{c:Bool}{x y r:R}(h1:y=r)(a:¬c=true:=by first|with_reducible assumption|(simp (disch:=omega) only[Cj,vc,vE,Nat.reduceAdd];done)|(simp (disch:=omega) only[Cj,vc,vE,Nat.reduceAdd];omega)|(simp;done)|fail):(bif c then x else y)=r:=qF a h1
def BG{R:Type}{c:Bool}{x y r:R}(h1:y=r)(a:¬c=true:=by first|assumption|(simp (disch:=omega) only[Cj,vc,vE,Nat.reduceAdd];done)|(simp (disch:=omega) only[Cj,vc,vE,Nat.reduceAdd];omega)):(bif c then x else y)=r:=qF a h1
def am.bZ{Gl:V9}{aa:Wa}{nt:Nat}{l:Wa}{k:Nat}{vs aS:JO}{h h2 h':qa}(σ:Wa)(e:zn k σ h=true)(a:vs.map (mV σ h)=aS)(f:td σ h=h2)(d:ak h2 h'):am Gl aa nt l k vs h aS h' :=
 .trans (.oM σ e) (by rw[a,f];exact .same d)
section
variable {P:Program} {Gl:V9}
noncomputable def qM(q:Prop):Bool:=@decide q (Classical.propDecidable _)
def YL{q:Prop}:qM q=true↔q:=by simp[qM]
noncomputable def Qa(p:JO->T->Prop)(F:JO->Option T)(a:JO):o9:=match F a with
 |some r=>.ite (qM (p a r)) (.ret r) .none
 |none=>.none
def qq{f:FuncId}{p:JO->T->Prop}{F:JO->Option T}(hp:p=aI P Gl f):∀a r,(Qa p F a).run some=some r->aI P Gl f a r:=by
 intro a r hr;unfold Qa at hr;split at hr
 .simp only[o9.run] at hr;obtain⟨d,hr⟩:=qm hr;obtain rfl:=wa hr;have:=YL.1 d;rw[hp] at this;exact this
 .cases hr
def qu{f:FuncId}{p:JO->T->Prop}(hp:p=aI P Gl f){a:JO}{r:T}(t:aI P Gl f a r):qM (p a r)=true:=YL.2 (by rw[hp];exact t)
noncomputable def jo(p:JO->qa->T->qa->Prop)(F:JO->qa->Option (T×qa))(a:JO)(h:qa):ma:=match F a h with
 |some (r,h')=>.ite (qM (p a h r h')) (.ret r h') .none
 |none=>.none
def zg{f:FuncId}{p:JO->qa->T->qa->Prop}{F:JO->qa->Option (T×qa)}(hp:p=aR P Gl f):∀a h r h',(jo p F a h).run (λv h=>some (v,h))=some (r,h')->aR P Gl f a h r h':=by
 intro a h r h' hr;unfold jo at hr;split at hr
 .simp only[ma.run] at hr;obtain⟨d,hr⟩:=qm hr;simp only[wi,wy] at hr;obtain⟨rfl,rfl⟩:=hr;have:=YL.1 d;rw[hp] at this;exact this
 .cases hr
def zM{f:FuncId}{p:JO->qa->T->qa->Prop}(hp:p=aR P Gl f){a:JO}{h:qa}{r:T}{h':qa}(t:aR P Gl f a h r h'):qM (p a h r h')=true:=YL.2 (by rw[hp];exact t)
def YM(P:Program)(Gl:V9)(f:FuncId):∃p:JO->qa->T->qa->Prop,p=aR P Gl f:=⟨_,rfl⟩
def qE(P:Program)(Gl:V9)(f:FuncId):∃p:JO->T->Prop,p=aI P Gl f:=⟨_,rfl⟩
end
section
variable {P:Program} {Gl:V9}
noncomputable def jp(q:JO->qa->Ex->JO->qa->Prop):LT->JO->qa->LT
 |.none,_,_=>.none
 |.ret e d h',a,h=>.ite (qM (q a h e d h')) (.ret e d h') .none
 |.ite c x y,a,h=>.ite c (jp q x a h) (jp q y a h)
def jJ(P:Program)(Gl:V9)(an:cq)(f r:Nat):∃q:JO->qa->Ex->JO->qa->Prop,q=λvs h e aS h'=>aG P Gl an f r (Qx vs h e aS h'):=⟨_,rfl⟩
def Zf{an:cq}{f r:Nat}{q:JO->qa->Ex->JO->qa->Prop}(i:q=λvs h e aS h'=>aG P Gl an f r (Qx vs h e aS h')):∀t:LT,aG P Gl an f r (jp q t)
 |.none,fn,d,g,vs,h,e,aS,h',a=>by cases a
 |.ret o j h1,fn,d,g,vs,h,e,aS,h',a=>by
  simp only[jp,LT.run] at a;obtain⟨k,a⟩:=qm a;simp only[wi,wy] at a;obtain⟨rfl,rfl,rfl⟩:=a;have:=YL.1 k;rw[i] at this;refine this fn d g vs h o j h1 ?_;unfold Qx;simp only[LT.run];rw[QH ⟨rfl,.refl _⟩];rfl
 |.ite c x y,fn,d,g,vs,h,e,aS,h',a=>by
  simp only[jp,LT.run] at a;cases c
  .exact Zf i y fn d g vs h e aS h' a
  .exact Zf i x fn d g vs h e aS h' a
def zs(g:Nat->Bool):Nat->Bool
 |0=>true
 |n+1=>zs g n&&g n
def Z7(g:Nat->Bool):∀n,zs g n=true↔∀i,i<n->g i=true
 |0=>⟨λ_ i h=>ae,λ_=>rfl⟩
 |n+1=>by
  have a:=Z7 g n;unfold zs;rw[wg,a];constructor
  .intro ⟨h1,f⟩ i d;by_cases e:i=n
   .rw[e];exact f
   .exact h1 i ae
  .exact λh=>⟨λi d=>h i ae,h n ae⟩
def JG(p:Nat->Bool)(n:Nat):zs p n=true∨∃I,I<n/\p I=false/\∀i,i<I->p i=true:=by
 induction n with
 |zero=>exact .inl rfl
 |succ n a =>
  rcases a with h|⟨I,h1,e,d⟩
  .cases q:p n
   .exact .inr ⟨n,ae,q,(Z7 p n).1 h⟩
   .exact .inl (by unfold zs;rw[h,q];rfl)
  .exact .inr ⟨I,ae,e,d⟩
def JH(p:Nat->Bool)(n:Nat):zs p n=false↔∃i,i<n/\p i=false:=by
 constructor
 .intro h;rcases JG p n with q|⟨I,h1,e,_⟩
  .rw[q] at h;cases h
  .exact⟨I,h1,e⟩
 .rintro⟨i,d,a⟩;cases q:zs p n
  .rfl
  .rw[(Z7 p n).1 q i d] at a;cases a
def jK(k:P.follows .mixedOrders=true){f r:Nat}(o:JE P f r=true){an:cq}(vs:Nat->JO)(a:Nat->qa)(fH:Nat->Bool){n:Nat}{e1 s:Ex}{v1 v2:JO}{h1 h2:qa}
 (step:∀i,i<n->(∀j,j<i->fH j=true)->fH i=true->Step P Gl an f r (a 0).length (vs i) (a i) (vs (i+1)) (a (i+1)))
 (e:∀i,i<n->(∀j,j<i->fH j=true)->fH i=false->cz P Gl an f r (a 0).length (vs i) (a i) s v2 h2)
 (last:(∀i,i<n->fH i=true)->cz P Gl an f r (a 0).length (vs n) (a n) e1 v1 h1) :
 (zs fH n=true->aG P Gl an f r (Qx (vs 0) (a 0) e1 v1 h1))/\(zs fH n=false->aG P Gl an f r (Qx (vs 0) (a 0) s v2 h2)):=by
 constructor
 .intro h;have h:=(Z7 fH n).1 h;exact qV k o vs a (n:=n) (λi d=>step i d (λj u=>h j ae) (h i d)) (last h)
 .intro h;rcases JG fH n with q|⟨I,z,x,g⟩
  .rw[q] at h;cases h
  .exact qV k o vs a (n:=I) (λi d=>step i ae (λj u=>g j ae) (g i d)) (e I z g x)
def qjf(s:P.follows .mixedOrders=true){f r:Nat}(u:JE P f r=true){an:cq}(vs:Nat->JO)(a:Nat->qa)(fH:Nat->Bool){n:Nat}{e1:Ex}{v1:JO}{h1:qa}(o:Ex->JO->qa->Prop)
 (step:∀i,i<n->(∀j,j<i->fH j=true)->fH i=true->Step P Gl an f r (a 0).length (vs i) (a i) (vs (i+1)) (a (i+1)))
 (g:∀i,i<n->(∀j,j<i->fH j=true)->fH i=false->∃d v2 h2,o d v2 h2/\cz P Gl an f r (a 0).length (vs i) (a i) d v2 h2)
 (last:(∀i,i<n->fH i=true)->cz P Gl an f r (a 0).length (vs n) (a n) e1 v1 h1) :
 (zs fH n=true->aG P Gl an f r (Qx (vs 0) (a 0) e1 v1 h1))/\(zs fH n=false->∃d v2 h2,o d v2 h2/\aG P Gl an f r (Qx (vs 0) (a 0) d v2 h2)):=by
 constructor
 .intro h;have h:=(Z7 fH n).1 h;exact qV s u vs a (n:=n) (λi e=>step i e (λj A=>h j ae) (h i e)) (last h)
 .intro h;rcases JG fH n with q|⟨I,C,B,k⟩
  .rw[q] at h;cases h
  .obtain⟨d,v2,h2,z,x⟩:=g I C k B;exact⟨d,v2,h2,z,qV s u vs a (n:=I) (λi e=>step i ae (λj A=>k j ae) (k i e)) x⟩
end
section
variable {P:Program} {Gl:V9}
def T8{f:FuncId}{p:JO->T->Prop}(hp:p=aI P Gl f){a:JO}{r:T}(t:aI P Gl f a r):p a r:=by rw[hp];exact t
def qpw{f:FuncId}{p:JO->qa->T->qa->Prop}(hp:p=aR P Gl f){a:JO}{h:qa}{r:T}{h':qa}(t:aR P Gl f a h r h'):p a h r h':=by rw[hp];exact t
def qnI{an:cq}{f r:Nat}{q:JO->qa->Ex->JO->qa->Prop}(a:q=λvs h e aS h'=>aG P Gl an f r (Qx vs h e aS h')){vs fA:JO}{h h1:qa}{e:Ex}(l:aG P Gl an f r (Qx vs h e fA h1)):q vs h e fA h1:=by rw[a];exact l
end
def BS{R:Type}{c:Bool}{x y r:R}(h1:x=r) (a:c=true:=by
 first
 |(with_reducible refine YL.2 ?_);first|exact T8 (by assumption) (by assumption)|exact qnI (by assumption) (by assumption)|exact qpw (by assumption) (by assumption)
 |(with_reducible refine QH ?_);exact⟨rfl,.refl _⟩
 |with_reducible assumption
 |omega
 |(simp (disch:=omega) only[Cj,vc,vE,Nat.reduceAdd];done)
 |(simp (disch:=omega) only[Cj,vc,vE,Nat.reduceAdd];omega)):(bif c then x else y)=r:=qk a h1
def il{i:Nat}(h:i<=1000000):IntKind.i64.wrap (Int.ofNat i+1)=Int.ofNat (i+1):=by rw[Qp (by show(-9223372036854775808:Int)<=(i:Int)+1;omega) (by show(i:Int)+1<=9223372036854775807;omega)];rfl
def up{R:Type}{x r:R}(h:x=r:=by
  (repeat (first|refine BS ?_|refine BF ?_))
  rfl):x=r:=h
def Ck:Code->Code
 |.seq a _=>a
 |c=>c
def Gj:Code->Code
 |.seq _ b=>b
 |c=>c
def y9(P:Program)(G:V9)(A:FuncId->cq)(K:bA)(m:Nat)(f:FuncId)(a:List (Nat×(JO->qa->LT)))(pick:Code->Code)(l:Wa)(vs:JO)(h:qa)(l':Wa):Option (Ex×JO×qa) :=
 match P.funcs[f]? with
 |some fn=>match fn.body with
  |some c=>ib P K G (A f).aa fn.ntmps (A f).live (Y7 a (uy P G A K m f) fn) (pick c) (qB l vs h) λe s=>some (e,z7 s l',s.h)
  |none=>none
 |none=>none
section
variable {P:Program} {Gl:V9} {K:bA} {A:FuncId->cq}
def Oo(c:Code):∀b∈qA (Ck c),b∈qA c:=by
 intro b a;cases c with
 |seq x y=>simp only[Ck,qA,wS] at *;exact .inl a
 |_=>exact a
def Oq(c:Code):∀b∈qA (Gj c),b∈qA c:=by
 intro b a;cases c with
 |seq x y=>simp only[Gj,qA,wS] at *;exact .inr a
 |_=>exact a
end
section
variable {P:Program} {Gl:V9} {aa:Wa} {nt:Nat}
def Ks{K:bA}{A:FuncId->cq}(j:P.follows .mixedOrders=true)(r:aT P Gl K){m:Nat}{f:FuncId}{fn:Func}{c:Code}(k:P.funcs[f]?=some fn)(o:fn.body=some c)(u:fn.ntmps<=1024)(H:zc P f=true){i:List (Nat×(JO->qa->LT))}(I:∀p∈i,aG P Gl (A f) f p.1 p.2)
 (pick:Code->Code) {s:Code} (E:pick c=s) (z:∀b∈qA (pick c),b∈qA c) {l l':Wa} {vs aS:JO} {h h':qa} {e:Ex}
 (d:y9 P Gl A K m f i pick l vs h l'=some (e,aS,h')):aC P Gl (A f).aa fn.ntmps s (qB l vs h) e (qB l' aS h'):=by
 subst E;unfold y9 at d;rw[k] at d;dsimp only at d;rw[o] at d;dsimp only at d;have O:=Kr (A:=A) H (kP P Gl A K m f) (IL j r m f) I fn c k o u;obtain⟨U,s1,d,B⟩:=QG j r u O (pick c) z d;simp only[wi,wy] at d;obtain⟨rfl,rfl,rfl⟩:=d;exact λro n N g a w C Q D=>B ro n N g a w C Q λS w' J M R x=>D S w' J (M.only l') R x
end
def Gk:Code->Code
 |.block _ c=>c
 |.loop c=>c
 |.scope c=>c
 |c=>c
def T9(c:Code):∀b∈qA (Gk c),b∈qA c:=by
 intro b a;cases c with
 |loop x=>simp only[Gk,qA,wK] at *;exact .inr a
 |_=>exact a
section
variable {P:Program} {Gl:V9} {aa:Wa} {nt:Nat} {K:bA} {A:FuncId->cq}
def qR(P:Program)(Gl:V9)(aa:Wa)(nt:Nat)(h0:qa)(c:Code)(s:St)(e:Ex)(s':St):Prop :=
 ∀(ro:Option Nat) (n:Nat),(qt c=true->ro=none)->∀(g0:Gh) (d:World) (g:Gh) (a:Act) (w:World),HR g0 h0 d->cS g0 h0 d g s.h w->SR Gl aa nt g s a w->∀Q:Exit->Act->World->Prop,
  (∀f w' i,SR Gl aa nt i s' f w'->cS g0 h0 d i s'.h w'->(qt c=false->f.defers=a.defers)->Q e.out f w')->c.wpIn (QC ro) n P Q a w
def jq{h0:qa}{c:Code}{s s':St}{e:Ex}(h:aC P Gl aa nt c s e s'):qR P Gl aa nt h0 c s e s' :=
 λro n r _ _ g a w _ j f Q i=>h ro n r g a w f Q λx w' k o u d=>i x w' k o (j.trans u) d
def Ua{h0:qa}{c d:Code}{s s1 s':St}{e:Ex}(h1:aC P Gl aa nt c s .normal s1)(h2:qR P Gl aa nt h0 d s1 e s'):qR P Gl aa nt h0 (.seq c d) s e s' :=
 λro n f g0 k g a w hr B x Q z=>wpIn_seq (h1 ro n (λh=>f (by simp[qt,h])) g a w x _ λI j g1 E D C=>h2 ro n (λh=>f (by simp[qt,h])) g0 k g1 I j hr (B.trans D) E Q λH i g2 u r o=>z H i g2 u r λh=>by simp only[qt,wY] at h;exact(o h.2).trans (C h.1))
def Ub{h0:qa}{c:Code}{s s':St}{e:Ex}(h:qR P Gl aa nt h0 c s e s'):qR P Gl aa nt h0 (.scope c) s e s' :=
 λro n x g0 f g a w hr k i Q j=>Tx (h ro n (λh=>x (by simpa [qt] using h)) g0 f g a w hr k i _ λz d g1 u r o=>by
  have:=j z d g1 u r λh=>o (by simpa only[qt] using h);cases e<;>exact this)
def Uc{h0:qa}{c:Code}{s':St}{e:Ex}{l:Wa}{vs dE:JO}{h h2:qa}(hw:am Gl aa nt l h0.length vs h dE h2)(j:qR P Gl aa nt h0 c (qB l dE h2) e s'):qR P Gl aa nt h0 c (qB l vs h) e s' :=
 λro n s g0 d g a w hr r k Q o=>by
  obtain⟨g2,i,f,_⟩:=hw g a w g0 h0 d (wc _) hr r k;exact j ro n s g0 d g2 a w hr f i Q o
def jL{c:Code}{s s':St}{e:Ex}(h:qR P Gl aa nt s.h c s e s'):aC P Gl aa nt c s e s' :=
 λro n i g a w d Q f=>h ro n i g w g a w d.hr (.refl _ _ _) d Q f
def Ud(hn:QF P=true){f:FuncId}{fn:Func}{c:Code}(g:P.funcs[f]?=some fn)(a:fn.body=some c){args:JO}(N:(Nat.ble fn.ntmps 1024&&Nat.ble args.length fn.ntmps)=true){s':St}(ic:aC P Gl aa fn.ntmps c (enter args []) .ret s'){r:T}(bB:ZE P Gl aa fn s' (λv=>some (ye s'.h v))=some r):aI P Gl f args r:=by
 obtain⟨rv,C9,Ac⟩:=qH (jl (P:=P) (Gl:=Gl) (aa:=aa) fn s') bB;obtain rfl:=wa C9;simp only[wg] at N;have aY:=Qg N.1;have bv:=Qg N.2;refine⟨⟨fn,g,by rw[a];rfl,?_⟩,λw U aA hU cJ R=>?_⟩
 .have:=xI.1 hn fn (vM g);rw[a] at this;simpa using this
 let g0:Gh:={ U:=U,φ:=λ_=>none,own:=λ_=>none,base:=w.heap.size,low:=0 }
 have hr:HR g0 [] w:=⟨λi b a=>by simp at a,λb a=>⟨hU b a,rfl⟩,λb o s=>(by cases s),wc _,λb o s=>(by cases s),λb i s=>(by cases s),λi b m a=>by simp at a⟩;have Gm:bQ g0 [] w args aA:=⟨R.1,λi x hi=>by
  obtain⟨v,C,j⟩:=R.2 i x hi;exact⟨v,C,.aH _ _ j⟩⟩
 have iA:=SR.enter (Gl:=Gl) (aa:=aa) (wc _) (hr.dX w.heap.size) cJ Gm aY bv;rw[←callsIn_wide (n:=0)];refine callsIn_of_wp_marks g a trivial (ic none 0 (λ_=>rfl) _ _ w iA _ λV w' z S d _=>?_) rfl;obtain⟨pV,l,J,W,E⟩:=S.defers;replace J:=J.nil d.dt;obtain⟨t1,t2,t3,t4,H⟩:=jI l w';have Z:∀b,z.U b∨z.own b≠none->b∉l:=by
  rintro b a k;obtain⟨C,j,I,q4⟩:=E b k;rcases a with a|a
  .exact I a
  .exact a j
 have Y:∀b n,room w' b n->room (dy l w') b n:=by
  rintro b n ⟨Q,e,h1,O⟩;refine⟨Q,e,?_,O⟩;rw[H b λk=>?_]
  .exact h1
  .have:=(E b k).2.2.2;rw[h1] at this;cases this
 have M:=S.world (w':=dy l w') (ds:=[]) ae (λb a=>H b (Z b a)) Y (Marks.nil ae);obtain⟨x,hk,v,h1,O⟩:=ZN M (Ac T some);obtain rfl:=wa hk;show LeavesInM Fence.wide 0 P fn V.tmps (λe w'=>∃v,e = .returned v/\RV w U (ye s'.h x) v w') V.defers .returning w';rw[J];refine Zq l w' W (λD hD=>(E D hD).2.2.2) ⟨v,h1,v,rfl,?_⟩;have dS:z.base=w.heap.size:=d.base;obtain⟨X,C,j,I⟩:=Kk M.hr (B:=w.heap.size) ae O;refine⟨⟨⟨t2.trans d.os,t3.trans d.tape,(t4.trans d.output).1,by have:=d.size;omega,λb a=>?_⟩,(t4.trans d.output).2⟩,y8 z (dy l w') w.heap.size (ZK x),X,λb a=>.inl ((d.ar.u b a).1),λb a=>?_,j,I,C⟩
 .rw[H b λk=>by have:=(E b k).1;have h4:z.low=w.heap.size:=d.low;omega];exact d.same b a rfl
 .rcases a with a|a
  .exact⟨d.u b a,(M.hr.u b a).1⟩
  .exact⟨.inr a.1,a.2.1⟩
end
section
variable {P:Program} {Gl:V9} {aa:Wa} {nt:Nat} {K:bA} {A:FuncId->cq}
end
def nQ(H:qa)(a:Nat)(x y:T):Prop:=x=y∨(x = .ag/\∃k b cap,a<=k/\H[k]?=some b/\b.n=0/\(∀m,cap=some m->m=0)/\y = .own k b.aj 0 0 cap)
def nQ.refl{H:qa}{a:Nat}(x:T):nQ H a x x:=.inl rfl
def nQ.own{H:qa}{a k:Nat}{b:aq}(e:a<=k)(f:H[k]?=some b)(d:b.n=0):nQ H a .ag (.own k b.aj 0 0 none):=.inr ⟨rfl,k,b,none,e,f,d,λ_ h=>(by cases h),rfl⟩
def mb(H:qa)(d:Nat)(l m:JO):Prop:=l.length=m.length/\∀(i:Nat) a b,l[i]?=some a->m[i]?=some b->nQ H d a b
def mb.refl{H:qa}{e:Nat}(l:JO):mb H e l l:=⟨rfl,λi a b h1 d=>by rw[h1] at d;obtain rfl:=wa d;exact .refl _⟩
def mb.cons{H:qa}{d:Nat}{x y:T}{l m:JO}(h:nQ H d x y)(f:mb H d l m):mb H d (x::l) (y::m):=by
 refine⟨by simp[f.1],λi a b h1 e=>?_⟩;cases i with
 |zero=>simp at h1 e;subst h1;subst e;exact h
 |succ i=>exact f.2 i a b (by simpa using h1) (by simpa using e)
def mb.get{H:qa}{d:Nat}{l m:JO}(h:mb H d l m){i:Nat}{b:T}(e:m[i]?=some b):∃a,l[i]?=some a/\nQ H d a b:=by
 have j:=qy e;have f:l[i]?=some (l[i]'(by rw[h.1];exact j)):=wj _;exact⟨_,f,h.2 i _ _ f e⟩
def ng(H:qa)(a:Nat)(x y:T):Prop:=nQ H a x y∨(∃l m,x = .ah l/\y = .ah m/\mb H a l m)∨∃l m,x = .agg l/\y = .agg m/\mb H a l m
def ng.refl{H:qa}{a:Nat}(x:T):ng H a x x:=.inl (.refl x)
def ng.ah{H:qa}{a:Nat}{l m:JO}(h:mb H a l m):ng H a (.ah l) (.ah m):=.inr (.inl ⟨l,m,rfl,rfl,h⟩)
inductive cT(H:qa)(lo:Nat):qa->qa->Prop
 |nil:cT H lo [] []
 |same (b:aq) {h h2:qa} (hs:cT H lo h h2):cT H lo (b::h) (b::h2)
 |I0 {b b2:aq} {h h2:qa} (e:b2.mp=b.mp/\b2.aj=b.aj/\b2.sz=b.sz/\b2.n=b.n) (hf:b2.flat=false) (hc:∀j,j<b.n->mb H lo (b.get j) (b2.get j)) (hs:cT H lo h h2):cT H lo (b::h) (b2::h2)
def cT.refl{H:qa}{a:Nat}:∀h:qa,cT H a h h
 |[]=>.nil
 |b::h=>.same b (cT.refl h)
def cT.at{H:qa}{o:Nat}{h h2:qa}(k:cT H o h h2):h2.length=h.length/\∀(i:Nat) b b2,h[i]?=some b->h2[i]?=some b2->(b2.mp=b.mp/\b2.aj=b.aj/\b2.sz=b.sz/\b2.n=b.n)/\(b2.flat=true->b=b2)/\∀j,j<b.n->mb H o (b.get j) (b2.get j):=by
 induction k with
 |nil=>exact⟨rfl,λi b b2 h=>by simp at h⟩
 |same b k f =>
  refine⟨by simp[f.1],λi x y d a=>?_⟩;cases i with
  |zero=>simp at d a;subst d;subst a;exact⟨⟨rfl,rfl,rfl,rfl⟩,λ_=>rfl,λj _=>.refl _⟩
  |succ i=>exact f.2 i x y (by simpa using d) (by simpa using a)
 |I0 e r s k f =>
  refine⟨by simp[f.1],λi x y d a=>?_⟩;cases i with
  |zero=>simp at d a;subst d;subst a;exact⟨e,(λh=>by rw[r] at h;cases h),s⟩
  |succ i=>exact f.2 i x y (by simpa using d) (by simpa using a)
section
variable {g:Gh} {h:qa} {w:World}
def HR.oP:∀(bs:qa) {g:Gh} {h:qa},HR g h w->(∀b,b∈bs->b.n=0/\b.mp=none) →
 ∃g',(∀k,h.length<=k->k<h.length+bs.length->g'.φ k=none)/\(∀k,k<h.length->g'.φ k=g.φ k)/\g'.U=g.U/\g'.bs=g.bs/\g'.own=g.own/\HR g' (h++bs) w/\z8 g h w g' (h++bs) w
 |[],g,h,hr,_=>⟨g,λk h1 d=>by simp at d;omega,λ_ _=>rfl,rfl,rfl,rfl,by rw[vu];exact hr,by rw[vu];exact .refl _ _ _ _⟩
 |b::bs,g,h,hr,a=>by
  obtain⟨g1,C,B,A,z,u,q6,q7⟩:=hr.nO (a b au).1 (a b au).2;obtain⟨g2,s,i,r,o,r5,f,r7⟩:=HR.oP bs q6 (λx hx=>a x (by simp[hx]));have e:h++[b]++bs=h++b::bs:=by simp
  rw[e] at f r7;refine⟨g2,λk h1 d=>?_,λk j=>?_,r.trans A,o.trans z,r5.trans u,f,q7.trans r7⟩
  .by_cases j:k=h.length
   .subst j;exact(i _ au).trans C
   .exact s k (by simp;omega) (by simp at d ⊢;omega)
  .exact(i k (by simp;omega)).trans (B k ae)
def nQ.vr{H:qa}{a:Nat}{x y:T}{v:Value}(e:∀k b,a<=k->H[k]?=some b->g.φ k=none)(r:nQ H a x y)(hx:g.VR H w x v):g.VR H w y v:=by
 rcases r with rfl|⟨rfl,k,b,cap,h1,d,i,f,rfl⟩
 .exact hx
 .obtain rfl:=hx.ag;exact .own _ _ _ _ _ b _ d (wc _) rfl λ_=>.inr ⟨e k b h1 d,i,rfl,rfl,f,rfl⟩
def cT.ar{H:qa}{k:Nat}{h h2:qa}(a:cT H k h h2)(w:World)(U:Nat->Prop)(φ:Nat->Option (Nat×Nat)):fO w U φ h w U φ h2 :=
 ⟨.refl _ _,λi b d=>by
  have o:=qy d;have e:h2[i]?=some (h2[i]'(by rw[a.at.1];exact o)):=wj _;obtain⟨⟨_,r,j,f⟩,_⟩:=a.at.2 i b _ d e;exact⟨_,e,ae,λ_=>⟨j,f,rfl⟩⟩,λ_ _ hr=>hr⟩
def HR.Gn{H h2:qa}{E:Nat}(hr:HR g H w)(r:cT h2 E H h2)(U:∀k b,E<=k->h2[k]?=some b->g.φ k=none):HR g h2 w:=by
 have back:∀i a,h2[i]?=some a->∃b,H[i]?=some b:=λi a d=>⟨_,wj (by rw[←r.at.1];exact qy d)⟩;refine⟨λi a d S=>?_,hr.u,hr.own,hr.base,hr.cells,λb i z=>by rw[r.at.1];exact hr.lt b i z,λi a m d V=>by
  obtain⟨b,s⟩:=back i a d;exact hr.eX s ((r.at.2 i b a s d).1.1▸V) rfl (λ_ B=>B) λ_ _ _=>rfl⟩
 obtain⟨b,s⟩:=back i a d;obtain⟨⟨R,q1,x,Q⟩,O,D⟩:=r.at.2 i b a s d;rcases hr.dh i b s (R▸S) with⟨cb,N,C,e,f⟩|⟨J,w2⟩
 rotate_left
 .exact .inr ⟨J,ae⟩
 refine .inl ⟨cb,N,C,e,f.φ,f.own,f.heap,by rw[x,Q];exact f.room,λj A=>?_,λj o c A z=>?_,λI j A c B=>?_⟩
 .rw[←(D j ae).1,x];exact f.len j ae
 .obtain⟨Z,Y,M⟩:=(D j ae).get z;obtain⟨v,h1,X,W⟩:=f.cell j o Z ae Y;rw[x];exact⟨v,h1,X,M.vr U (W.ar (r.ar _ _ _))⟩
 .obtain rfl:=O I;exact f.flat I j A c B
end
section
variable {P:Program} {Gl:V9} {aa:Wa} {nt:Nat}
def am.Cl{l:Wa}{k:Nat}{vs dE:JO}{h h2:qa}(bs:qa)(Ec:∀b,b∈bs->b.n=0/\b.mp=none)(E:vs.length=dE.length)
 (hv:∀(i:Nat) x y,vs[i]?=some x->dE[i]?=some y->ng h2 h.length x y) (I:cT h2 h.length (h++bs) h2):am Gl aa nt l k vs h dE h2:=by
 intro g a w g0 h0 w0 _ _ hf r;obtain⟨g2,Y,r2,O,X,r5,W,r7⟩:=HR.oP bs r.hr Ec;have B:∀k b,h.length<=k->h2[k]?=some b->g2.φ k=none:=λk b h1 C=>Y k h1 (by have:=qy C;rw[I.at.1,wD] at this;exact this);have l7:=I.ar w g2.U g2.φ;have H:z8 g h w g2 h2 w:=r7.trans l7;have J:∀c,g.U c↔g2.U c:=λc=>by rw[O]
 have Q:∀t,ng h2 h.length ((qB l vs h).at t) ((qB l dE h2).at t):=by
  intro t;unfold St.at
  cases s:Nat.blt t 1024 with
  |false=>exact .refl _
  |true =>
   simp only[wm];exact kQ l vs dE .nil .nil E hv (λ_ _=>.refl _) t (Qb s)
 have M:∀x y v,ng h2 h.length x y->g2.VR h2 w x v->g2.VR h2 w y v:=by
  intro x y v j hx;rcases j with j|⟨l,m,rfl,rfl,j⟩|⟨l,m,rfl,rfl,j⟩
  .exact j.vr B hx
  .exact absurd hx VR.dP
  .obtain⟨cs,rfl,E,h1,f⟩:=hx.bM;refine VR.dc (by rw[←j.1];exact E) h1 (λi c hi=>?_);obtain⟨a,ha,Bk⟩:=j.get hi;obtain⟨u,D,cU⟩:=f i a ha;exact⟨u,D,Bk.vr B cU⟩
 have S:cS g h w g2 h2 w:=⟨H,wc _,λ_ _=>by rw[r5],rfl,rfl,.refl _,λ_ _ _=>rfl,X,λc f=>.inl ((J c).2 f),λc f=>(J c).1 f⟩;refine⟨g2,⟨W.Gn I B,S.marks r.defers,r.size,r.nt,λt s=>M _ _ _ (Q t) ((r.tmps t s).ar H),λt s cells f=>?_,λd t o h=>(by cases h),λgl cells hg=>by rw[O];exact r.dU gl cells hg,λd t o h=>(by cases h)⟩,hf.trans S,λc f=>⟨by rw[r5];exact f,λD=>(J c).2 D⟩⟩;have bt:∃m,(qB l vs h).at t = .ah m/\mb h2 h.length m cells:=by
  rcases Q t with (e|⟨_,_,_,_,_,_,_,_,e⟩)|⟨m,m2,R,z,j⟩|⟨m,m2,R,z,j⟩
  .rw[f] at e;exact⟨cells,e,.refl _⟩
  .rw[f] at e;cases e
  .rw[f] at z;obtain rfl:=T.ah.inj z;exact⟨m,R,j⟩
  .rw[f] at z;cases z
 obtain⟨m,hm,V⟩:=bt;obtain⟨cb,N,e,A⟩:=r.eA t s m hm;refine⟨cb,N,e,A.ptr,by rw[r5];exact A.own,A.heap,by rw[←V.1];exact A.len,λo c ho=>?_⟩;obtain⟨c0,Z,iA⟩:=V.get ho;obtain⟨u,h1,C,h3⟩:=A.cell o c0 Z;exact⟨u,h1,C,iA.vr B (h3.ar H)⟩
end
def rN(H:qa)(x y:T):Prop:=x=y∨∃i aj a len c b,x = .own i aj a len (some c)/\y = .own i aj a len none/\H[i]?=some b/\b.n<=a+c
def rN.refl{H:qa}(x:T):rN H x x:=.inl rfl
section
variable {P:Program} {Gl:V9} {aa:Wa} {nt:Nat}
def am.Gp{l:Wa}{k:Nat}{vs dE:JO}{h:qa}(U:vs.length=dE.length)(S:∀(i:Nat) x y,vs[i]?=some x->dE[i]?=some y->rN h x y):am Gl aa nt l k vs h dE h:=by
 intro g a w g0 Z Y _ _ V f;have J:∀t,rN h ((qB l vs h).at t) ((qB l dE h).at t):=by
  intro t;unfold St.at
  cases j:Nat.blt t 1024 with
  |false=>exact .refl _
  |true =>
   simp only[wm];exact kQ l vs dE .nil .nil U S (λ_ _=>.refl _) t (Qb j)
 refine⟨g,⟨f.hr,f.defers,f.size,f.nt,λt j=>?_,λt j cells H=>?_,λd t o h=>(by cases h),f.dU,λd t o h=>(by cases h)⟩,V,.refl g⟩
 .have hx:=f.tmps t j;rcases J t with e|⟨i,aj,B,len,c,b,M,r,I,E⟩
  .rw[←e];exact hx
  ·rw[M] at hx;rw[r];obtain⟨Q,O,X,h1,W⟩:=hx.cW;obtain rfl:b=Q:=by
    have N:h[i]?=some Q:=O;rw[I] at N;exact wa N
   refine .own _ _ _ _ _ b _ O X h1 λev=>?_;rcases W ev with⟨cb,R,cc,ad,A,z,u,s,D,q6,q7,q8,q9⟩|⟨A,z,u,s,D,q6⟩
   .obtain rfl:=(q6 c rfl).1;exact .inl ⟨cb,R,cc,ad,A,z,u,s,D,λ_ C=>(by cases C),q7,q8,λ_=>E⟩
   .exact .inr ⟨A,z,u,s,λ_ C=>(by cases C),q6⟩
 .rcases J t with e|⟨i,aj,B,len,c,b,M,r,I,E⟩
  .exact f.eA t j cells (e.trans H)
  .rw[H] at r;cases r
end
def mb.Ue{H:qa}{a:Nat}{x:T}{l m:List T}(h:mb H a l m):mb H a (x::l) (x::m):=.cons (.refl _) h
def Ug:Code->Code
 |.cond _ a _=>a
 |c=>c
def Uh:Code->Code
 |.cond _ _ b=>b
 |c=>c
def Ad:Nat->Code->Code
 |0,c=>Gk c
 |1,c=>Ck c
 |2,c=>Gj c
 |3,c=>Ug c
 |_,c=>Uh c
def iX:Wa->Code->Code
 |[],c=>c
 |k::p,c=>Ad k (iX p c)
def qjg(k:Nat)(c:Code):∀b∈qA (Ad k c),b∈qA c:=by
 intro b a
 match k with
 |0=>exact T9 c b a
 |1=>exact Oo c b a
 |2=>exact Oq c b a
 |3 =>
  cases c with
  |cond o x y=>simp only[Ad,Ug,qA,wS] at *;exact .inl a
  |_=>exact a
 |k+4 =>
  cases c with
  |cond o x y=>simp only[Ad,Uh,qA,wS] at *;exact .inr a
  |_=>exact a
def Ui:∀(p:Wa) (c:Code),∀b∈qA (iX p c),b∈qA c
 |[],_,_,a=>a
 |k::p,c,b,a=>Ui p c b (qjg k _ b a)
def ZP(P:Program)(f:Nat)(p:Wa)(t:Code->Bool):Bool:=match P.funcs[f]? with
 |some fn=>match fn.body with
  |some c=>t (iX p c)
  |none=>false
 |none=>false
def ZW{P:Program}{f:Nat}{p:Wa}{t:Code->Bool}(h:ZP P f p t=true){fn:Func}{c:Code}(a:P.funcs[f]?=some fn)(d:fn.body=some c):t (iX p c)=true:=by
 unfold ZP at h;rw[a] at h;dsimp only at h;rw[d] at h;exact h
def I1:Code->Bool
 |.seq _ _=>true
 |_=>false
def Ou(id:Nat):Code->Bool
 |.block i _=>i==id
 |_=>false
def Ov:Code->Bool
 |.loop b=>!(qt b)
 |_=>false
section
variable {P:Program} {G:V9} {aa:Wa} {nt:Nat} {A:FuncId->cq} {f:FuncId}
def qk3{h0:qa}{b:Code}(U:qt b=false){lin lout:Wa}(I:Nat->JO->qa->Prop)(B:Ex->JO->qa->Prop)
 (round:∀n vs h,I n vs h->(∃m aS h',m<n/\qR P G aa nt h0 b (qB lin vs h) .normal (qB lin aS h')/\I m aS h')∨∃e aS h',e≠.normal/\qR P G aa nt h0 b (qB lin vs h) e (qB lout aS h')/\B e aS h')
 {n:Nat} {vs:JO} {h:qa} (E:I n vs h):∃e fA h1,B e fA h1/\qR P G aa nt h0 (.loop b) (qB lin vs h) e (qB lout fA h1):=by
 have key:∀n vs h,I n vs h->∃(N:Nat) (V:Nat->JO) (H:Nat->qa) (e:Ex) (fA:JO) (h1:qa),V 0=vs/\H 0=h/\B e fA h1/\(∀i,i<N->qR P G aa nt h0 b (qB lin (V i) (H i)) .normal (qB lin (V (i+1)) (H (i+1))))/\e≠.normal/\qR P G aa nt h0 b (qB lin (V N) (H N)) e (qB lout fA h1):=by
  intro n
  induction n using Nat.strongRecOn with
  |_ n ih =>
   intro vs h E;rcases round n vs h E with⟨m,aS,h',hm,k,Dk⟩|⟨e,aS,h',S,hl,hp⟩
   .obtain⟨N,V,H,e,fA,h1,z,x,u,s,r⟩:=ih m hm aS h' Dk;refine⟨N+1,λi=>match i with|0=>vs|i+1=>V i,λi=>match i with|0=>h|i+1=>H i,e,fA,h1,rfl,rfl,u,λi Z=>?_,r⟩;cases i with
    |zero=>show qR P G aa nt h0 b (qB lin vs h) .normal (qB lin (V 0) (H 0));rw[z,x];exact k
    |succ i=>exact s i ae
   .exact⟨0,λ_=>vs,λ_=>h,e,aS,h',rfl,rfl,hp,λi Z=>ae,S,hl⟩
 obtain⟨N,V,H,e,fA,h1,z,x,u,s,S,r⟩:=key n vs h E;refine⟨e,fA,h1,u,?_⟩;subst z x;intro ro X cL J o g0 a0 ww Y F6 iA Q hn;refine yM (λj a w=>∃i g,i<=N/\j=N-i/\SR G aa nt g (qB lin (V i) (H i)) a w/\cS J h0 o g (H i) w/\a.defers=a0.defers) (λj a w hJ=>?_) N a0 ww ⟨0,g0,wR _,rfl,iA,F6,rfl⟩;obtain⟨i,g,Z,rfl,k,hf,W⟩:=hJ;rcases wt i N with q|q
 .refine s i q ro X (λD=>cL (by simpa [qt] using D)) J o g a w Y hf k _ λa' w' M O R C=>?_;exact⟨N-(i+1),ae,i+1,M,ae,rfl,O,R,(C U).trans W⟩
 .obtain rfl:i=N:=by omega
  refine r ro X (λD=>cL (by simpa [qt] using D)) J o g a w Y hf k _ λa' w' M O R C=>?_;have d:=hn a' w' M O R (λh=>(C U).trans W);cases e with
  |normal=>exact absurd rfl S
  |exit i=>exact d
  |ret=>exact d
def qji{h0:qa}{c:Code}{id:Nat}{s s1:St}{e e':Ex}(he:e'=match e with|.exit i=>bif i==id then .normal else .exit i|e=>e)(h1:qR P G aa nt h0 c s e s1):qR P G aa nt h0 (.block id c) s e' s1:=by
 subst he;intro ro n C g0 k g a w hr u o Q r;refine wpIn_block (h1 ro n (λh=>C (by simp[qt,h])) g0 k g a w hr u o _ λD j g1 B z x=>?_);have d:=r D j g1 B z λh=>x (by simpa only[qt] using h);cases e with
 |normal=>exact d
 |ret=>exact d
 |exit i =>
  simp only[Ex.out,Exit.inBlock] at d ⊢;by_cases q:i=id
  .subst q;rw[show(i==i)=true by simp] at d;rw[wl rfl];exact d
  .rw[show(i==id)=false by simp[q]] at d;rw[we q];exact d
def qk4{h0:qa}{c d:Code}{s s1 s':St}{e:Ex}(h1:qR P G aa nt h0 c s .normal s1)(h2:qR P G aa nt h0 d s1 e s'):qR P G aa nt h0 (.seq c d) s e s' :=
 λro n j g0 i g a w hr C z Q B=>wpIn_seq (h1 ro n (λh=>j (by simp[qt,h])) g0 i g a w hr C z _ λJ o g1 H E D=>h2 ro n (λh=>j (by simp[qt,h])) g0 i g1 J o hr E H Q λI k g2 x u r=>B I k g2 x u λh=>by simp only[qt,wY] at h;exact(r h.2).trans (D h.1))
def qk5{h0:qa}{c d:Code}{s s':St}{e:Ex}(he:e≠.normal)(h1:qR P G aa nt h0 c s e s'):qR P G aa nt h0 (.seq c d) s e s' :=
 λro n D g0 o g a w hr x r Q u=>wpIn_seq (h1 ro n (λh=>D (by simp[qt,h])) g0 o g a w hr x r _ λE k g1 C B z=>by
  have j:=u E k g1 C B λh=>by simp only[qt,wY] at h;exact z h.1
  cases e with
  |normal=>exact absurd rfl he
  |exit i=>exact j
  |ret=>exact j)
def qk6{h0:qa}{c:Code}{s:St}{e:Ex}{l:Wa}{vs dE:JO}{h h2:qa}(r:qR P G aa nt h0 c s e (qB l vs h))(hw:am G aa nt l h0.length vs h dE h2):qR P G aa nt h0 c s e (qB l dE h2) :=
 λro n E g0 i g a w hr z u Q x=>r ro n E g0 i g a w hr z u Q λj d g1 D C B=>by
  obtain⟨g2,o,k,_⟩:=hw g1 j d g0 h0 i (wc _) hr C D;exact x j d g2 o k B
def Pz(P:Program)(G:V9)(A:FuncId->cq)(f:FuncId)(h0:qa)(p:Wa)(l:Wa)(vs:JO)(h:qa)(e:Ex)(l':Wa)(aS:JO)(h':qa):Prop :=
 ∀fn c,P.funcs[f]?=some fn->fn.body=some c->qR P G (A f).aa fn.ntmps h0 (iX p c) (qB l vs h) e (qB l' aS h')
def Wk(G:V9)(A:FuncId->cq)(f:FuncId)(k:Nat)(l:Wa)(vs:JO)(h:qa)(dE:JO)(h2:qa):Prop:=∀nt,am G (A f).aa nt l k vs h dE h2
variable {h0:qa} {p:Wa} {l l1 l2:Wa} {vs v1 v2:JO} {h h1 h2:qa} {e:Ex}
def Pz.seq(r:ZP P f p I1=true)(a:Pz P G A f h0 (1::p) l vs h .normal l1 v1 h1)(b:Pz P G A f h0 (2::p) l1 v1 h1 e l2 v2 h2):Pz P G A f h0 p l vs h e l2 v2 h2:=by
 intro fn c j o;have k:=ZW r j o;have g:=a fn c j o;have i:=b fn c j o;simp only[iX,Ad] at g i;revert k g i;generalize iX p c=d;intro k g i;cases d with
 |seq x y=>exact qk4 g i
 |_=>cases k
def Pz.Ow(o:ZP P f p I1=true)(he:e≠.normal)(a:Pz P G A f h0 (1::p) l vs h e l1 v1 h1):Pz P G A f h0 p l vs h e l1 v1 h1:=by
 intro fn c j k;have i:=ZW o j k;have g:=a fn c j k;simp only[iX,Ad] at g;revert i g;generalize iX p c=d;intro i g;cases d with
 |seq x y=>exact qk5 he g
 |_=>cases i
def Pz.ey{id:Nat}{e':Ex}(r:ZP P f p (Ou id)=true)(he:e'=match e with|.exit i=>bif i==id then .normal else .exit i|e=>e)(a:Pz P G A f h0 (0::p) l vs h e l1 v1 h1):Pz P G A f h0 p l vs h e' l1 v1 h1:=by
 intro fn c k o;have g:=ZW r k o;have j:=a fn c k o;simp only[iX,Ad] at j;revert g j;generalize iX p c=d;intro g j;cases d with
 |block i x =>
  obtain rfl:i=id:=by simpa [Ou] using g
  exact qji he j
 |_=>cases g
def Pz.post(a:Pz P G A f h0 p l vs h e l1 v1 h1)(w:Wk G A f h0.length l1 v1 h1 v2 h2):Pz P G A f h0 p l vs h e l1 v2 h2 :=
 λfn c d g=>qk6 (a fn c d g) (w _)
def Pz.pre(w:Wk G A f h0.length l vs h v1 h1)(a:Pz P G A f h0 p l v1 h1 e l2 v2 h2):Pz P G A f h0 p l vs h e l2 v2 h2 :=
 λfn c d g=>Uc (w _) (a fn c d g)
def Pz.only(a:Pz P G A f h0 p l vs h e l1 v1 h1)(j:z7 (qB l1 v1 h1) l2=v2):Pz P G A f h0 p l vs h e l2 v2 h1:=by
 intro fn c r s ro n B g0 i g E w hr C k Q o;subst j;exact a fn c r s ro n B g0 i g E w hr C k Q λD d g1 z x u=>o D d g1 (z.only l2) x u
def Pz.loop(a:ZP P f p Ov=true)(I:Nat->JO->qa->Prop)(o:Ex->JO->qa->Prop)
 (round:∀n vs h,I n vs h->(∃m aS h',m<n/\Pz P G A f h0 (0::p) l vs h .normal l aS h'/\I m aS h')∨∃e aS h',e≠.normal/\Pz P G A f h0 (0::p) l vs h e l1 aS h'/\o e aS h')
 {n:Nat} (r:I n vs h):∃e aS h',o e aS h'/\Pz P G A f h0 p l vs h e l1 aS h':=by
 by_cases x:∃fn c,P.funcs[f]?=some fn/\fn.body=some c
 ·obtain⟨fn,c,g,i⟩:=x;have j:=ZW a g i;have key:∃b,iX p c = .loop b/\qt b=false:=by
   revert j;generalize iX p c=d;intro j;cases d with
   |loop b=>exact⟨b,rfl,by simpa [Ov] using j⟩
   |_=>cases j
  obtain⟨b,B,k⟩:=key;have z:iX (0::p) c=b:=by simp only[iX,Ad,B,Gk]
  obtain⟨e,O,h1,D,C⟩:=qk3 (P:=P) (G:=G) (aa:=(A f).aa) (nt:=fn.ntmps) (h0:=h0) k (lin:=l) (lout:=l1) I o (λn vs h r=>by
   rcases round n vs h r with⟨m,aS,h',M,H,R⟩|⟨e,aS,h',Q,N,J⟩
   .exact .inl ⟨m,aS,h',M,z▸H fn c g i,R⟩
   .exact .inr ⟨e,aS,h',Q,z▸N fn c g i,J⟩) r
  refine⟨e,O,h1,D,λU S s k=>?_⟩;rw[g] at s;obtain rfl:=wa s;rw[i] at k;obtain rfl:=wa k;rw[B];exact C
 .unfold ZP at a;cases g:P.funcs[f]? with
  |none=>rw[g] at a;cases a
  |some fn =>
   rw[g] at a;dsimp only at a;cases i:fn.body with
   |none=>rw[i] at a;cases a
   |some c=>exact absurd ⟨fn,c,g,i⟩ x
def Pz.count(g:ZP P f p Ov=true)(V:Nat->JO)(H:Nat->qa){n:Nat}(he:e≠.normal)
 (round:∀i,i<n->Pz P G A f h0 (0::p) l (V i) (H i) .normal l (V (i+1)) (H (i+1))) (last:Pz P G A f h0 (0::p) l (V n) (H n) e l1 v1 h1):Pz P G A f h0 p l (V 0) (H 0) e l1 v1 h1:=by
 obtain⟨a,d,h',⟨rfl,rfl,rfl⟩,q⟩:=Pz.loop (P:=P) (G:=G) (A:=A) (f:=f) (h0:=h0) (p:=p) (l:=l) (l1:=l1) g (λm vs h=>∃i,i<=n/\m=n-i/\vs=V i/\h=H i) (λa d h'=>a=e/\d=v1/\h'=h1) (λm vs h j=>by
  obtain⟨i,k,rfl,rfl,rfl⟩:=j;rcases wt i n with q|q
  .exact .inl ⟨n-(i+1),_,_,ae,round i q,i+1,ae,rfl,rfl,rfl⟩
  .obtain rfl:i=n:=by omega
   exact .inr ⟨e,v1,h1,he,last,rfl,rfl,rfl⟩) (n:=n) ⟨0,wR _,rfl,rfl,rfl⟩
 exact q
def I2(P:Program)(f:Nat):Bool:=match P.funcs[f]? with
 |some fn=>Nat.ble fn.ntmps 1024
 |none=>false
def Pz.run{K:bA}(j:P.follows .mixedOrders=true)(r:aT P G K){m:Nat}(d:(zc P f&&I2 P f)=true){g:List (Nat×(JO->qa->LT))}(o:∀p∈g,aG P G (A f) f p.1 p.2)
 (k:y9 P G A K m f g (iX p) l vs h l1=some (e,v1,h1)):Pz P G A f h0 p l vs h e l1 v1 h1:=by
 intro fn c i a;simp only[wg] at d;have s:fn.ntmps<=1024:=by
  have:=d.2;unfold I2 at this;rw[i] at this;exact Qg this
 exact jq (Ks j r i a s d.1 o (iX p) rfl (λb a=>Ui p c b a) k)
def Pz.told(i:QF P=true){args:JO}{fn:Func}(a:P.funcs[f]?=some fn)(k:(Nat.ble fn.ntmps 1024&&Nat.ble args.length fn.ntmps)=true)(u:fn.body.isSome=true)(j:enter args []=qB l args [])
 (g:Pz P G A f [] [] l args [] .ret l1 v1 h1) {r:T} (o:ZE P G (A f).aa fn (qB l1 v1 h1) (λv=>some (ye h1 v))=some r):aI P G f args r:=by
 obtain⟨c,d⟩:=vh.1 u;have:=g fn c a d;rw[show iX [] c=c from rfl,←j] at this;exact Ud i a d k (jL (s:=enter args []) this) o
end
section
variable {P:Program} {Gl:V9} {A:FuncId->cq}
def qgj(E:QF P=true){f:FuncId}{fn:Func}{c:Code}(H:P.funcs[f]?=some fn)(a:fn.body=some c){args:JO}{h:qa}(I:(Nat.ble fn.ntmps 1024&&Nat.ble args.length fn.ntmps)=true){s':St}
 (Y:aC P Gl (A f).aa fn.ntmps c (enter args h) .ret s') {r:T} {h':qa} (B:ZE P Gl (A f).aa fn s' (λv=>some (v,s'.h))=some (r,h')):aR P Gl f args h r h':=by
 simp only[wg] at I;have aY:=Qg I.1;have bv:=Qg I.2;refine⟨⟨fn,H,by rw[a];rfl,?_⟩,λg w aA hr O cJ ha=>?_⟩
 .have:=xI.1 E fn (vM H);rw[a] at this;simpa using this
 have Z:=SR.enter (Gl:=Gl) (aa:=(A f).aa) (wc _) (hr.dX w.heap.size) cJ ha aY bv;rw[←callsIn_wide (n:=0)];refine callsIn_of_wp_marks H a trivial (Y none 0 (λ_=>rfl) _ _ w Z _ λS w' k R d _=>?_) rfl;show LeavesInM Fence.wide 0 P fn S.tmps (λe w'=>∃v,e = .returned v/\gV g h w r h' v w') S.defers .returning w';obtain⟨pV,l,C,X,s⟩:=R.defers;replace C:=C.nil d.dt;obtain⟨t1,t2,t3,t4,o⟩:=jI l w';have o5:k.low=w.heap.size:=d.low;have N:∀b,k.U b∨k.own b≠none->b∉l:=by
  rintro b a j;obtain⟨q1,W,V,q4⟩:=s b j;rcases a with a|a
  .exact V a
  .exact a W
 have M:∀b n,room w' b n->room (dy l w') b n:=by
  rintro b n ⟨J,e,h1,h2⟩;refine⟨J,e,?_,h2⟩;rw[o b λj=>?_]
  .exact h1
  .have:=(s b j).2.2.2;rw[h1] at this;cases this
 have Q:=R.world (w':=dy l w') (ds:=[]) ae (λb a=>o b (N b a)) M (Marks.nil ae);obtain⟨x,B,v,h1,h2⟩:=ZN Q B;simp only[wi,wy] at B;obtain⟨rfl,rfl⟩:=B;rw[C];refine Zq l w' X (λD hD=>(s D hD).2.2.2) ⟨v,h1,v,rfl,{ k with own:=λb=>match k.own b with|some (.inl i)=>some (.inl i)|_=>none,low:=g.low,dt:=g.dt },(Q.hr.gX).dX g.low g.dt,h2,?_,?_⟩
 .exact d.ar.trans ⟨λb a=>⟨a,o b (N b (.inl a))⟩,λi b a=>⟨b,a,wc _,λ_=>⟨rfl,rfl,rfl⟩⟩,M⟩
 .refine⟨by have:=d.size;omega,λb a=>?_,t2.trans d.os,t3.trans d.tape,t4.trans d.output,λb a E=>?_,?_,d.u,λb a t=>by dsimp only;split<;>simp⟩
  .dsimp only;rw[d.own b a];dsimp only;cases z:g.own b with
   |none=>rfl
   |some q =>
    cases q with
    |inl i=>rfl
    |inr t=>exact absurd z (O b t)
  .rw[o b λj=>by have:=(s b j).1;omega];refine d.same b a ?_;dsimp only;cases z:g.own b with
   |none=>rfl
   |some q =>
    cases q with
    |inl i=>exact absurd z (E i)
    |inr t=>exact absurd z (O b t)
  .have:=d.base;simp only[Gh.bs,this]
def Pz.fI(i:QF P=true){f:Nat}{args:JO}{h:qa}{fn:Func}(a:P.funcs[f]?=some fn)(k:(Nat.ble fn.ntmps 1024&&Nat.ble args.length fn.ntmps)=true)(u:fn.body.isSome=true){l l1:Wa}{v1:JO}{h1:qa}(j:enter args h=qB l args h)
 (g:Pz P Gl A f h [] l args h .ret l1 v1 h1) {r:T} {h':qa} (o:ZE P Gl (A f).aa fn (qB l1 v1 h1) (λv=>some (v,h1))=some (r,h')):aR P Gl f args h r h':=by
 obtain⟨c,d⟩:=vh.1 u;have:=g fn c a d;rw[show iX [] c=c from rfl,←j] at this;exact qgj (A:=A) i a d k (jL (s:=enter args h) this) o
end
section
variable{P:Program}{G:V9}{A:FuncId->cq}{f:FuncId}{h0:qa}{p l l1 l2:Wa}{vs v1 v2:JO}{h h1 h2:qa}{e:Ex}
def av(a:Pz P G A f h0 (1::p) l vs h .normal l1 v1 h1)(b:Pz P G A f h0 (2::p) l1 v1 h1 e l2 v2 h2)(d:ZP P f p I1=true:=by kernel_rfl):Pz P G A f h0 p l vs h e l2 v2 h2:=Pz.seq d a b
def lk(a:Pz P G A f h0 (1::p) l vs h e l1 v1 h1)(d:ZP P f p I1=true:=by kernel_rfl)(he:e≠.normal:=by intro h;cases h):Pz P G A f h0 p l vs h e l1 v1 h1:=Pz.Ow d he a
def exB(id:Nat):Ex->Ex|.exit i=>bif i==id then .normal else .exit i|e=>e
def fi{e' e:Ex}(id:Nat)(a:Pz P G A f h0 (0::p) l vs h e l1 v1 h1)(d:ZP P f p (Ou id)=true:=by kernel_rfl)(he:e'=exB id e:=by exact rfl):Pz P G A f h0 p l vs h e' l1 v1 h1:=Pz.ey d (he.trans (by cases e<;>rfl)) a
end
section
variable {P:Program} {Gl:V9} {A:FuncId->cq}
def qey(E:QF P=true){f:FuncId}{fn:Func}{c:Code}(H:P.funcs[f]?=some fn)(a:fn.body=some c){args:JO}{h:qa}(I:(Nat.ble fn.ntmps 1024&&Nat.ble args.length fn.ntmps)=true){s':St}
 (Z:aC P Gl (A f).aa fn.ntmps c (enter args h) .normal s') {r:T} {h':qa} (B:ZE P Gl (A f).aa fn s' (λv=>some (v,s'.h))=some (r,h')):aR P Gl f args h r h':=by
 simp only[wg] at I;have aY:=Qg I.1;have bv:=Qg I.2;refine⟨⟨fn,H,by rw[a];rfl,?_⟩,λg w aA hr Q cJ ha=>?_⟩
 .have:=xI.1 E fn (vM H);rw[a] at this;simpa using this
 have iA:=SR.enter (Gl:=Gl) (aa:=(A f).aa) (wc _) (hr.dX w.heap.size) cJ ha aY bv;rw[←callsIn_wide (n:=0)];refine callsIn_of_wp_marks H a trivial (Z none 0 (λ_=>rfl) _ _ w iA _ λV w' k S d _=>?_) rfl;show LeavesInM Fence.wide 0 P fn V.tmps (λe w'=>∃v,e = .returned v/\gV g h w r h' v w') V.defers .returning w';obtain⟨pV,l,C,Y,s⟩:=S.defers;replace C:=C.nil d.dt;obtain⟨t1,t2,t3,t4,o⟩:=jI l w';have o5:k.low=w.heap.size:=d.low;have O:∀b,k.U b∨k.own b≠none->b∉l:=by
  rintro b a j;obtain⟨q1,X,W,q4⟩:=s b j;rcases a with a|a
  .exact W a
  .exact a X
 have N:∀b n,room w' b n->room (dy l w') b n:=by
  rintro b n ⟨M,e,h1,J⟩;refine⟨M,e,?_,J⟩;rw[o b λj=>?_]
  .exact h1
  .have:=(s b j).2.2.2;rw[h1] at this;cases this
 have R:=S.world (w':=dy l w') (ds:=[]) ae (λb a=>o b (O b a)) N (Marks.nil ae);obtain⟨x,B,v,h1,J⟩:=ZN R B;simp only[wi,wy] at B;obtain⟨rfl,rfl⟩:=B;rw[C];refine Zq l w' Y (λD hD=>(s D hD).2.2.2) ⟨v,h1,v,rfl,{ k with own:=λb=>match k.own b with|some (.inl i)=>some (.inl i)|_=>none,low:=g.low,dt:=g.dt },(R.hr.gX).dX g.low g.dt,J,?_,?_⟩
 .exact d.ar.trans ⟨λb a=>⟨a,o b (O b (.inl a))⟩,λi b a=>⟨b,a,wc _,λ_=>⟨rfl,rfl,rfl⟩⟩,N⟩
 .refine⟨by have:=d.size;omega,λb a=>?_,t2.trans d.os,t3.trans d.tape,t4.trans d.output,λb a E=>?_,?_,d.u,λb a t=>by dsimp only;split<;>simp⟩
  .dsimp only;rw[d.own b a];dsimp only;cases z:g.own b with
   |none=>rfl
   |some q =>
    cases q with
    |inl i=>rfl
    |inr t=>exact absurd z (Q b t)
  .rw[o b λj=>by have:=(s b j).1;omega];refine d.same b a ?_;dsimp only;cases z:g.own b with
   |none=>rfl
   |some q =>
    cases q with
    |inl i=>exact absurd z (E i)
    |inr t=>exact absurd z (Q b t)
  .have:=d.base;simp only[Gh.bs,this]
def Pz.Ae(g:QF P=true){f:Nat}{args:JO}{h:qa}{fn:Func}(a:P.funcs[f]?=some fn)(j:(Nat.ble fn.ntmps 1024&&Nat.ble args.length fn.ntmps)=true)(o:fn.body.isSome=true){l l1:Wa}{v1:JO}{h1:qa}(i:enter args h=qB l args h)
 (e:Pz P Gl A f h [] l args h .normal l1 v1 h1) {r:T} {h':qa} (k:ZE P Gl (A f).aa fn (qB l1 v1 h1) (λv=>some (v,h1))=some (r,h')):aR P Gl f args h r h':=by
 obtain⟨c,d⟩:=vh.1 o;have:=e fn c a d;rw[show iX [] c=c from rfl,←i] at this;exact qey (A:=A) g a d j (jL (s:=enter args h) this) k
end
def I3(t:Nat):Code->Bool
 |.cond (.tmp u) _ _=>u==t
 |_=>false
section
variable {P:Program} {G:V9} {A:FuncId->cq} {f:FuncId}
variable {h0:qa} {p:Wa} {l l1:Wa} {vs v1:JO} {h h1:qa} {e:Ex}
def qjj{aa:Wa}{nt:Nat}{h0:qa}{c:Operand}{x y:Code}{s s':St}{e:Ex}(r:Ab.ev G aa s c = .bool true)(h1:qR P G aa nt h0 x s e s'):qR P G aa nt h0 (.cond c x y) s e s':=by
 intro ro n C g0 j g a w hr o d Q k;have:=d.ev c;rw[r] at this;exact wpIn_cond_true this.bool (h1 ro n (λh=>C (by simp[qt,h])) g0 j g a w hr o d Q λD i g1 B z u=>k D i g1 B z λh=>by simp only[qt,wY] at h;exact u h.1)
def qjk{aa:Wa}{nt:Nat}{h0:qa}{c:Operand}{x y:Code}{s s':St}{e:Ex}(r:Ab.ev G aa s c = .bool false)(h1:qR P G aa nt h0 y s e s'):qR P G aa nt h0 (.cond c x y) s e s':=by
 intro ro n C g0 j g a w hr o d Q k;have:=d.ev c;rw[r] at this;exact wpIn_cond_false this.bool (h1 ro n (λh=>C (by simp[qt,h])) g0 j g a w hr o d Q λD i g1 B z u=>k D i g1 B z λh=>by simp only[qt,wY] at h;exact u h.2)
def Pz.gE(t:Nat)(s:ZP P f p (I3 t)=true)(r:Ab.ev G (A f).aa (qB l vs h) (.tmp t) = .bool true)(a:Pz P G A f h0 (3::p) l vs h e l1 v1 h1):Pz P G A f h0 p l vs h e l1 v1 h1:=by
 intro fn c j k;have g:=ZW s j k;have i:=a fn c j k;simp only[iX,Ad] at i;revert g i;generalize iX p c=d;intro g i;cases d with
 |cond o x y =>
  cases o with
  |tmp u =>
   obtain rfl:u=t:=by simpa [I3] using g
   exact qjj r i
  |_=>cases g
 |_=>cases g
def Pz.fc(t:Nat)(s:ZP P f p (I3 t)=true)(r:Ab.ev G (A f).aa (qB l vs h) (.tmp t) = .bool false)(a:Pz P G A f h0 (4::p) l vs h e l1 v1 h1):Pz P G A f h0 p l vs h e l1 v1 h1:=by
 intro fn c j k;have g:=ZW s j k;have i:=a fn c j k;simp only[iX,Ad] at i;revert g i;generalize iX p c=d;intro g i;cases d with
 |cond o x y =>
  cases o with
  |tmp u =>
   obtain rfl:u=t:=by simpa [I3] using g
   exact qjk r i
  |_=>cases g
 |_=>cases g
end
variable {P:Program} {G:V9} {A:FuncId->cq} {f:FuncId} {h0:qa} {p:Wa} {l l1 l2:Wa} {vs v1 v2:JO} {h h1:qa} {e:Ex}
def Pz.drop(i:z7 (qB l vs h) l2=v2)(a:Pz P G A f h0 p l2 v2 h e l1 v1 h1):Pz P G A f h0 p l vs h e l1 v1 h1:=by
 intro fn c o r ro n s g0 d g x w hr u j Q k;subst i;exact a fn c o r ro n s g0 d g x w hr u (j.only l2) Q k
def I4:T->T
 |.new x=>x
 |x=>x
def gX:T->T
 |.agg l=>.agg (l.map I4)
 |x=>I4 x
def Uj(x:T):bY x (I4 x):=by cases x<;>first|exact .px _|exact .refl _
def Uk:∀l:JO,fW l (l.map I4)
 |[]=>.nil
 |x::l=>.cons (Uj x) (Uk l)
def aI.gX{P:Program}{Gl:V9}{f:FuncId}{a:JO}{r:T}(t:aI P Gl f a r):aI P Gl f a (Ab.gX r):=by
 cases r with
 |agg l=>exact t.tj (Uk l)
 |_=>exact t.tn (Uj _)
def I5(o:Option T):o.bind some=o:=by cases o<;>rfl
def AH(o:Oper):Bool:=o.guard.isNone&&match o.op with
 |.move _|.assign _|.slice ..=>true
 |.call { callee:=.builtin .len,.. }=>true
 |_=>false
def js:Code->Bool
 |.skip=>true
 |.region _ ops _=>ops.toList.all AH
 |.seq a b=>js a&&js b
 |.cond _ a b=>js a&&js b
 |.ret=>true
 |_=>false
section
variable {P:Program} {Gl:V9} {K:bA} {R:Type} {aa:Wa} {nt:Nat} {live:Nat->Bool->Wa}
def jM{len gn:Nat}{cap:Option Nat}{g j f:Option T}{k:Nat->Nat->Option Nat->Option R}{r:R}(h:Yr len gn cap g j f k=some r):∃a b c,k a b c=some r:=by
 have e:∀{x:Option T} {d:Int} {k:Int->Option R} {r:R},k9 x d k=some r->∃i,k i=some r:=by
  intro x d k r h;unfold k9 at h;split at h
  all_goals first|exact⟨_,h⟩|cases h
 unfold Yr at h;obtain⟨l,h⟩:=e h;obtain⟨u,h⟩:=e h;split at h
 .exact⟨_,_,_,(qm h).2⟩
 .split at h
  .cases h
  .exact⟨_,_,_,(qm h).2⟩
 .cases h
def Ul{h:qa}{i aj:Nat}{k:aq->Option R}{r:R}(a:Qc h i aj k=some r):∃b,k b=some r:=by
 obtain⟨b,_,_,_,h⟩:=Y3 a;exact⟨b,h⟩
def qhH{t:TypeId}{x:T}{f g e:Option T}{h:qa}{k:Qd R}{r:R}(d:zh P t x f g e h k=some r):∃v,k v h false=some r:=by
 unfold zh at d;split at d
 .split at d
  .obtain⟨a,b,c,q⟩:=jM (qm d).2;exact⟨_,q⟩
  .cases d
 .split at d
  .obtain⟨a,b,c,q⟩:=jM (qm d).2;exact⟨_,q⟩
  .cases d
 .split at d
  .obtain⟨a,b,c,q⟩:=jM (qm d).2;exact⟨_,(qm q).2⟩
  .cases d
 .split at d
  .obtain⟨b,q⟩:=Ul d;obtain⟨a,b,c,q⟩:=jM (qm q).2;exact⟨_,q⟩
  .cases d
 .cases d
def qk7{t:TypeId}{x:T}{h:qa}{k:Qd R}{r:R}(a:Jq P t x h k=some r):∃v,k v h false=some r:=by
 unfold Jq at a;split at a
 .exact⟨_,(qm a).2⟩
 .exact⟨_,(qm a).2⟩
 .exact⟨_,(qm a).2⟩
 .obtain⟨b,q⟩:=Ul (qm a).2;exact⟨_,q⟩
 .split at a
  .exact⟨_,a⟩
  .cases a
 .cases a
def Um{o:Oper}(f:AH o=true){e:Operand->T}{h:qa}{k:Qd R}{r:R}(a:Qe P K o.op e h k=some r):∃v,k v h false=some r:=by
 unfold AH at f;simp only[wg] at f;obtain⟨_,f⟩:=f;split at f
 .rename_i d;rw[d] at a;exact⟨_,a⟩
 .rename_i d;rw[d] at a;exact⟨_,a⟩
 .rename_i d;rw[d] at a;exact qhH a
 .rename_i d;rw[d] at a;simp only[Qe,Za] at a;split at a
  all_goals first|exact qk7 a|cases a|skip
  all_goals simp_all
 .cases f
def qk8{A:Type}{v:T}{k:T->Option A}{r:A}(a:D4 v k=some r):∃v,k v=some r:=by
 rw[zC] at a;exact⟨v,a⟩
def Un{o:Oper}{s:St}{v:T}{rs:Wa}{rd wr:Bool}{k:du->FP->Option R}{r:R}(a:done nt o s v none rs rd wr k=some r):∃f d,f.heap=none/\k f d=some r:=by
 unfold done at a;split at a
 .exact⟨_,_,rfl,a⟩
 .obtain⟨v,q⟩:=qk8 (qm a).2;exact⟨_,_,rfl,q⟩
def Yf{o:Oper}(d:AH o=true){s:St}{k:du->FP->Option R}{r:R}(a:Qf P K Gl aa nt o s k=some r):∃f e,f.heap=none/\k f e=some r:=by
 unfold Qf at a;rcases qx a with⟨_,a⟩|⟨_,a⟩
 .obtain⟨v,q⟩:=Um d a;exact Un q
 .obtain⟨v,q⟩:=Um d a;obtain⟨f,e,h1,g⟩:=Un q;exact⟨f,_,h1,g⟩
def qk9{o:Oper}(e:AH o=true){s:St}{k:du->FP->Option R}{r:R}(a:zW P K Gl aa nt o s k=some r):∃f i,f.heap=none/\k f i=some r:=by
 have g:=e;unfold AH at e;simp only[wg] at e;obtain⟨_,e⟩:=e;unfold zW at a;split at e
 .rename_i d;rw[d] at a;exact Yf g a
 .rename_i d;rw[d] at a;exact Yf g a
 .rename_i d;rw[d] at a;exact Yf g a
 .rename_i d;rw[d] at a;exact Yf g a
 .cases e
def qjl{ops:List Oper}{o:Oper}(d:AH o=true){s:St}{k:du->FP->Option R}{r:R}(a:zu P K Gl aa nt ops o s k=some r):∃f i,f.heap=none/\k f i=some r:=by
 have g:o.guard=none:=by
  unfold AH at d;simp only[wg] at d;exact Option.isNone_iff_eq_none.1 d.1
 unfold zu at a;rw[g] at a;dsimp only at a;rcases qx a with⟨j,a⟩|⟨_,a⟩
 .unfold AH at d;unfold Zk at a;split at a
  .rename_i e;rw[e] at d;simp at d
  .cases a
 .exact qk9 d a
def Uo{ops:List Oper}:∀{l:List Oper} {s:St} {k:St->List FP->Option R} {r:R},l.all AH=true->yt P K Gl aa nt ops l s k=some r->∃s' fE,s'.h=s.h/\k s' fE=some r
 |[],s,k,r,_,a=>⟨s,[],rfl,a⟩
 |o::l,s,k,r,d,a=>by
  simp only[xJ,wg] at d;simp only[yt] at a;obtain⟨f,j,h1,i⟩:=qjl d.1 a;obtain⟨s',fE,g,e⟩:=Uo d.2 i;refine⟨s',j::fE,?_,e⟩;rw[g];show f.heap.getD s.h=s.h;rw[h1];rfl
def Gq{rec:Rec}:∀{c:Code} {s:St} {k:Ex->St->Option R} {r:R},js c=true->ib P K Gl aa nt live rec c s k=some r->∃e s',s'.h=s.h/\k e s'=some r
 |.skip,s,k,r,_,d=>⟨_,s,rfl,d⟩
 |.ret,s,k,r,_,d=>⟨_,s,rfl,d⟩
 |.region id ops j,s,k,r,g,d=>by
  simp only[ib] at d;obtain⟨s',z,h1,f⟩:=Uo g d;have f:=(qm f).2;refine⟨.normal,s',h1,?_⟩;rcases qx f with⟨_,f⟩|⟨_,f⟩
  .exact(qm f).2
  .exact f
 |.seq a b,s,k,r,g,d=>by
  simp only[js,wg] at g;simp only[ib] at d;obtain⟨e,s',h1,f⟩:=Gq g.1 d;cases e with
  |normal =>
   obtain⟨e,o,x,u⟩:=Gq g.2 f;exact⟨e,o,x.trans h1,u⟩
  |exit i=>exact⟨_,s',h1,f⟩
  |ret=>exact⟨_,s',h1,f⟩
 |.cond c a b,s,k,r,g,d=>by
  simp only[js,wg] at g;simp only[ib] at d;split at d
  .rcases qx d with⟨_,d⟩|⟨_,d⟩
   .exact Gq g.1 d
   .exact Gq g.2 d
  .cases d
def Oy(P:Program)(f:FuncId):Bool:=match P.funcs[f]? with
 |some fn=>match fn.body with|some c=>js c|none=>false
 |none=>false
def qnK{fn:Func}{e:Ex}{s:St}{k:T->qa->Option R}{r:R}(a:Ij P Gl aa fn e s k=some r):∃v,k v s.h=some r:=by
 have all:∀(l:List ResultVar) {k:JO->Option R} {r:R},K4 P Gl aa s l k=some r->∃d,k d=some r:=by
  intro l
  induction l with
  |nil=>intro k r h;exact⟨_,h⟩
  |cons x l f =>
   intro k r h;simp only[K4] at h;obtain⟨v,h1,_⟩:=qH (Sb P Gl aa s x) h;obtain⟨d,g⟩:=f h1;exact⟨_,g⟩
 unfold Ij at a;split at a
 .cases a
 .unfold ZE at a;obtain⟨d,h⟩:=all _ a;split at h
  .exact⟨_,h⟩
  .exact⟨_,h⟩
def qnL{A:FuncId->cq}{rec:Func->Rec}{f:FuncId}(d:Oy P f=true){g:JO}{h:qa}{r:T}{h':qa}(a:j0 P Gl A K rec f g h (λv h=>some (v,h))=some (r,h')):h'=h:=by
 unfold Oy at d;unfold j0 at a;split at a
 .split at a
  .rename_i fn i _ c k;rw[i] at d;dsimp only at d;rw[k] at d;dsimp only at d;unfold Fk at a;obtain⟨e,s,h1,o⟩:=Gq d (qm a).2;obtain⟨v,j⟩:=qnK o;simp only[wi,wy] at j;rw[←j.2,h1];rfl
  .cases a
 .cases a
end
def JI(P:Program)(Gl:V9)(sq:FuncId->JO->Option (List JO)):Prop:=∀a d l,sq a d=some l->nz P Gl a d l.length (λi=>l.getD i [])
section
variable (P:Program) (K:bA) (G:V9) (aa:Wa) (nt:Nat) (live:Nat->Bool->Wa)
def Kt{R:Type}(rec:Rec)(lin ps:Wa)(vs:JO)(ij ik:Code):List JO->qa->(Ex->qa->Option R)->Option R
 |[],h,k=>k .normal h
 |xs::l,h,k=>ib P K G aa nt live rec ij (qB (lin++ps) (vs++xs) h) λe s=>match e with
  |.normal=>ib P K G aa nt live rec ik s λe a=>match e with
   |.normal=>Kt rec lin ps vs ij ik l a.h k
   |e=>k e a.h
  |_=>none
def jt(sq:FuncId->JO->Option (List JO))(m:Nat):Rec:=λR b g h k=>match b with
 |.rangeFunc (.tmp t) a f d =>
  bif a.toList.all (λt=>Nat.blt t nt)&&!(qt f)&&!(qt d)&&(live (qz (.rangeFunc (.tmp t) a f d)) false).all (λt=>!(aa.contains t))&&!(aa.contains t)&&Nat.beq (live (qz (.rangeFunc (.tmp t) a f d)) false).length g.length then
   match (qB (live (qz (.rangeFunc (.tmp t) a f d)) false) g h).at t with
   |.fn j i=>bif i.all zK then match sq j i with
    |some l=>bif l.all (λxs=>Nat.beq xs.length a.toList.length) then
     Kt P K G aa nt live (kG P K G aa nt live m) (live (qz (.rangeFunc (.tmp t) a f d)) false) a.toList g f d l h λe h' =>
      k e (z7 (qB (live (qz (.rangeFunc (.tmp t) a f d)) false) g h) (live (qz (.rangeFunc (.tmp t) a f d)) true)) h'
     else none
    |none=>none
    else none
   |_=>none
  else none
 |b=>kG P K G aa nt live m R b g h k
def ju{rec:Rec}(a:Z3 rec)(lin ps:Wa)(vs:JO)(ij ik:Code):∀(l:List JO) (h:qa),cV (A:=Ex×qa) λR k=>Kt (R:=R) P K G aa nt live rec lin ps vs ij ik l h λe h=>k (e,h)
 |[],h=>qn (_,_)
 |xs::l,h=>by
  simp only[Kt];refine zx (Z5 P K G aa nt live a ij _) λe s=>?_;cases e with
  |normal =>
   refine zx (Z5 P K G aa nt live a ik _) λe d=>?_;cases e with
   |normal=>exact ju a lin ps vs ij ik l d.h
   |exit i=>exact qn (_,_)
   |ret=>exact qn (_,_)
  |exit i=>exact qj
  |ret=>exact qj
def Up(sq:FuncId->JO->Option (List JO))(m:Nat):Z3 (jt P K G aa nt live sq m):=λb a h=>by
 unfold jt;split
 .refine qw _ ?_;split
  .refine qw _ ?_;split
   .exact qw _ (zx (ju P K G aa nt live (ZS P K G aa nt live m) _ _ a _ _ _ h) λe h'=>qn (_,_,_))
   .exact qj
  .exact qj
 .exact ZS P K G aa nt live m _ a h
end
section
variable {P:Program} {K:bA} {Gl:V9} {aa:Wa} {nt:Nat} {live:Nat->Bool->Wa}
def Uq(k:P.follows .mixedOrders=true)(o:aT P Gl K)(s:nt<=1024){rec:Rec}(r:gY P Gl aa nt live (λ_=>True) rec){lin ps:Wa}{vs:JO}{ij ik:Code}{e1:Ex}{h1:qa} :
 ∀{l:List JO} {h:qa},Kt P K Gl aa nt live rec lin ps vs ij ik l h (λe h=>some (e,h))=some (e1,h1) →
 ∃(st:Nat->qa) (n:Nat),st 0=h/\n<=l.length ∧
  (∀i,i<n->∃s1 s2,aC P Gl aa nt ij (qB (lin++ps) (vs++l.getD i []) (st i)) .normal s1/\aC P Gl aa nt ik s1 .normal s2/\s2.h=st (i+1)) ∧
  ((n=l.length/\e1 = .normal/\h1=st l.length)∨(n<l.length/\e1≠.normal/\∃s1 s2,aC P Gl aa nt ij (qB (lin++ps) (vs++l.getD n []) (st n)) .normal s1/\aC P Gl aa nt ik s1 e1 s2/\s2.h=h1))
 |[],h,a=>by
  simp only[Kt,wi,wy] at a;exact⟨λ_=>h,0,rfl,wc _,λi u=>ae,.inl ⟨rfl,a.1.symm,a.2.symm⟩⟩
 |xs::l,h,a=>by
  simp only[Kt] at a;obtain⟨e,s1,a,g1⟩:=QG k o s r ij (λ_ _=>trivial) a;cases e with
  |normal =>
   dsimp only at a;obtain⟨e,s2,a,g2⟩:=QG k o s r ik (λ_ _=>trivial) a
   have out:∀d,e=d->d≠.normal->some (d,s2.h)=some (e1,h1)->∃(st:Nat->qa) (n:Nat),st 0=h/\n<=(xs::l).length ∧
    (∀i,i<n->∃s1 s2,aC P Gl aa nt ij (qB (lin++ps) (vs++(xs::l).getD i []) (st i)) .normal s1/\aC P Gl aa nt ik s1 .normal s2/\s2.h=st (i+1)) ∧
    ((n=(xs::l).length/\e1 = .normal/\h1=st (xs::l).length)∨(n<(xs::l).length/\e1≠.normal/\∃s1 s2,aC P Gl aa nt ij (qB (lin++ps) (vs++(xs::l).getD n []) (st n)) .normal s1/\aC P Gl aa nt ik s1 e1 s2/\s2.h=h1)):=by
    intro d he D a;simp only[wi,wy] at a;obtain⟨rfl,rfl⟩:=a;subst he;exact⟨λ_=>h,0,rfl,au,λi u=>ae,.inr ⟨au,D,s1,s2,g1,g2,rfl⟩⟩
   cases e with
   |normal =>
    obtain⟨st,n,C,B,z,x⟩:=Uq k o s r a;refine⟨λi=>match i with|0=>h|i+1=>st i,n+1,rfl,by simpa using B,λi u=>?_,?_⟩
    .cases i with
     |zero=>exact⟨s1,s2,g1,g2,C.symm⟩
     |succ i=>exact z i ae
    .rcases x with⟨j,g,f⟩|⟨j,g,f⟩
     .exact .inl ⟨by simp[j],g,f⟩
     .exact .inr ⟨by simpa using j,g,f⟩
   |exit i=>exact out _ rfl au a
   |ret=>exact out _ rfl au a
  |exit i=>cases a
  |ret=>cases a
def jN(o:P.follows .mixedOrders=true)(C:aT P Gl K)(D:nt<=1024){sq:FuncId->JO->Option (List JO)}(J:JI P Gl sq)(m:Nat):gY P Gl aa nt live (λ_=>True) (jt P K Gl aa nt live sq m):=by
 refine⟨Up P K Gl aa nt live sq m,λb s h e aS h' _ d=>?_⟩;unfold jt at d;split at d
 .rename_i t f j g _;obtain⟨E,d⟩:=qm d;simp only[wg,vn,wA] at E;obtain⟨⟨⟨⟨⟨a1,a2⟩,a3⟩,a4⟩,a5⟩,a6⟩:=E;split at d
  .rename_i gf aE ed;obtain⟨N3,d⟩:=qm d;split at d
   ·rename_i l Y;obtain⟨I,d⟩:=qm d;obtain⟨⟨H,h1⟩,d,bP⟩:=qH (ju P K Gl aa nt live (ZS P K Gl aa nt live m) _ _ s _ _ _ h) (k:=λp=>some (p.1,z7 (qB (live (qz (.rangeFunc (.tmp t) f j g)) false) s h) (live (qz (.rangeFunc (.tmp t) f j g)) true),p.2)) d;simp only[wi,wy] at d;obtain⟨rfl,rfl,rfl⟩:=d;obtain⟨st,n,R,O,N,M⟩:=Uq o C D (kO o C D m) (bP _ some);subst R;have W:=qi8 (aa:=aa) (nt:=nt) (psa:=f) (ij:=j) (ik:=g) (ps:=f.toList) o (xE a6) (λt B=>by simpa using a4 t B) (by simpa using a5) rfl (λt B=>Qb (a1 t B)) a2 a3 N3 (J gf aE l Y)
     (λi r=>by
      have:=wA.1 I (l.getD i []) (by rw[wh,wj r];exact List.getElem_mem r);exact(xE this).symm) st ed O (e1:=H) (h1:=h1)
     (λi r=>by
      obtain⟨s1,u,g1,g2,g3⟩:=N i r;exact⟨s1,u,g1,g2,g3▸am.refl _ _⟩)
     (by
      rcases M with⟨z,x,S⟩|⟨z,x,s1,u,g1,g2,g3⟩
      .exact .inl ⟨z,x,S⟩
      .exact .inr ⟨z,x,s1,u,g1,g2,g3▸am.refl _ _⟩)
    rw[show Z0 (.rangeFunc (.tmp t) f j g) = .rangeFunc (.tmp t) f j g from rfl];intro ro U cL g0 a w X Q Z;exact W ro U cL g0 a w X Q λa' w' g' eF bC V=>Z a' w' g' (eF.only _) bC V
   .cases d
  .cases d
 .exact(kO o C D m).2 b s h e aS h' trivial d
end
section
variable (P:Program) (G:V9) (A:FuncId->cq) (sq:FuncId->JO->Option (List JO))
def I6(K:bA)(m:Nat)(f:FuncId)(fn:Func):Rec:=jt P K G (A f).aa fn.ntmps (A f).live sq m
def Ur(K:bA)(m:Nat)(f:FuncId)(a:JO):Option T:=j0 P G A K (I6 P G A sq K m f) f a [] λv h'=>some (ye h' v)
end
section
variable {P:Program} {G:V9} {A:FuncId->cq} {sq:FuncId->JO->Option (List JO)}
def Us(K:bA)(m:Nat)(f:FuncId)(fn:Func):Z3 (I6 P G A sq K m f fn):=Up _ _ _ _ _ _ _ _
def Ut(d:P.follows .mixedOrders=true){K:bA}(e:aT P G K)(a:JI P G sq)(m:Nat)(f:FuncId):El P G A f (I6 P G A sq K m f):=λ_ _ _ _ g=>(jN d e g a m).mono
def qjm(d:P.follows .mixedOrders=true)(i:QF P=true){K:bA}(e:aT P G K)(g:JI P G sq){m:Nat}{f:FuncId}{a:JO}{r:T}(h:Ur P G A sq K m f a=some r):aI P G f a r :=
 ⟨Y6 i h,λ_ _ _ j k o=>ND d e (Us K m f) (Ut d e g m f) h j k o⟩
end
inductive lv:JO->JO->Prop
 |nil:lv [] []
 |cons {x y:T} {l m:JO} (h:mI x y) (t:lv l m):lv (x::l) (y::m)
def lv.refl:∀l,lv l l
 |[]=>.nil
 |x::l=>.cons (.refl x) (.refl l)
def lv.len{l m:JO}(h:lv l m):l.length=m.length:=by
 induction h with
 |nil=>rfl
 |cons _ _ a=>simp[a]
def lv.get{l m:JO}(h:lv l m):∀(i:Nat) x y,l[i]?=some x->m[i]?=some y->mI x y:=by
 induction h with
 |nil=>intro i x y hx;simp at hx
 |cons h _ d =>
  intro i x y hx a;cases i with
  |zero =>
   obtain rfl:_=x:=by simpa using hx
   obtain rfl:_=y:=by simpa using a
   exact h
  |succ i=>exact d i x y (by simpa using hx) (by simpa using a)
def am.sl{Gl:V9}{aa:Wa}{nt:Nat}{l:Wa}{k:Nat}{vs dE:JO}{h h2:qa}(a:lv vs dE)(d:bk h h2):am Gl aa nt l k vs h dE h2:=.mJ a.len a.get d
def bk.refl(h:qa):bk h h:=⟨rfl,λi b d h1 a=>by
 obtain rfl:=wa (h1.symm.trans a);exact⟨rfl,rfl,rfl,rfl,.inl,λ_ _=>.refl _,λ_ _ _=>rfl⟩⟩
def mI.view{sz n:Nat}{g g':Nat->JO}{c a:Option Nat}(e:a=c∨a=none)(d:∀j,j<n->eO (g j) (g' j)):mI (.view sz n g c) (.view sz n g' a):=.inl (.inr ⟨rfl,.view e d,rfl⟩)
def mI.fG(sz:Nat)(g:Nat->JO){cap:Option Nat}(a:cap=none∨cap=some 0):mI .ag (.view sz 0 g cap):=.inl (.inr ⟨rfl,.fG sz g a,rfl⟩)
inductive iN(H:qa)(lo:Nat):JO->JO->Prop
 |nil:iN H lo [] []
 |cons {x y:T} {l m:JO} (h:ng H lo x y) (t:iN H lo l m):iN H lo (x::l) (y::m)
def iN.len{H:qa}{a:Nat}{l m:JO}(h:iN H a l m):l.length=m.length:=by
 induction h with
 |nil=>rfl
 |cons _ _ d=>simp[d]
def iN.get{H:qa}{a:Nat}{l m:JO}(h:iN H a l m):∀(i:Nat) x y,l[i]?=some x->m[i]?=some y->ng H a x y:=by
 induction h with
 |nil=>intro i x y hx;simp at hx
 |cons h _ e =>
  intro i x y hx d;cases i with
  |zero =>
   obtain rfl:_=x:=by simpa using hx
   obtain rfl:_=y:=by simpa using d
   exact h
  |succ i=>exact e i x y (by simpa using hx) (by simpa using d)
def am.gh{Gl:V9}{aa:Wa}{nt:Nat}{l:Wa}{k:Nat}{vs dE:JO}{h h2:qa}(bs:qa)(e:∀b,b∈bs->b.n=0/\b.mp=none)(a:iN h2 h.length vs dE)(d:cT h2 h.length (h++bs) h2):am Gl aa nt l k vs h dE h2:=.Cl bs e a.len a.get d
def lv.Ue{x:T}{l m:List T}(h:lv l m):lv (x::l) (x::m):=.cons (.refl _) h
def iN.Ue{H:qa}{a:Nat}{x:T}{l m:List T}(h:iN H a l m):iN H a (x::l) (x::m):=.cons (.refl _) h
def rQ(h:qa)(x y:T):Prop:=x=y∨∃i aj a n m,(∀b,h[i]?=some b->b.n<=a+m)/\x = .own i aj a n (some m)/\y = .own i aj a n none
def rQ.refl{h:qa}(x:T):rQ h x x:=.inl rfl
def rQ.own{h:qa}{i aj off n m:Nat}{b:aq}(e:h[i]?=some b)(d:b.n<=off+m):rQ h (.own i aj off n (some m)) (.own i aj off n none):=.inr ⟨i,aj,off,n,m,λc a=>by rw[e] at a;cases a;exact d,rfl,rfl⟩
def VR.OZ{w:World}{U:Nat->Prop}{φ:Nat->Option (Nat×Nat)}{h:qa}{x y:T}{v:Value}(z:rQ h x y)(hx:VR w U φ h x v):VR w U φ h y v:=by
 rcases z with rfl|⟨i,aj,s,n,c,a,rfl,rfl⟩
 .exact hx
 .cases hx with
  |aH _ _ u=>cases u
  |own _ _ _ _ _ b _ o B h1 A =>
   refine .own _ _ _ _ _ b _ o B h1 λe=>?_;rcases A e with q|q
   .obtain⟨cb,r,c,ad,j,g,f,d,k,q6,q7,q8,_⟩:=q;exact .inl ⟨cb,r,c,ad,j,g,f,d,k,λm a=>(by cases a),q7,q8,λ_=>by have:=a b o;have:=(q6 _ rfl).1;omega⟩
   .obtain⟨j,g,f,d,k,q6⟩:=q;exact .inr ⟨j,g,f,d,λm a=>(by cases a),q6⟩
inductive lw(H:qa):JO->JO->Prop
 |nil:lw H [] []
 |cons {x y:T} {l m:JO} (h:rQ H x y) (t:lw H l m):lw H (x::l) (y::m)
def lw.len{H:qa}{l m:JO}(h:lw H l m):l.length=m.length:=by
 induction h with
 |nil=>rfl
 |cons _ _ a=>simp[a]
def lw.get{H:qa}{l m:JO}(h:lw H l m):∀(i:Nat) x y,l[i]?=some x->m[i]?=some y->rQ H x y:=by
 induction h with
 |nil=>intro i x y hx;simp at hx
 |cons h _ d =>
  intro i x y hx a;cases i with
  |zero =>
   obtain rfl:_=x:=by simpa using hx
   obtain rfl:_=y:=by simpa using a
   exact h
  |succ i=>exact d i x y (by simpa using hx) (by simpa using a)
def am.cap{Gl:V9}{aa:Wa}{nt:Nat}{l:Wa}{k:Nat}{vs dE:JO}{h:qa}(j:lw h vs dE):am Gl aa nt l k vs h dE h:=by
 intro g a w g0 A z _ _ u f;have s:∀t,rQ h ((qB l vs h).at t) ((qB l dE h).at t):=by
  intro t;unfold St.at
  cases i:Nat.blt t 1024 with
  |false=>exact .refl _
  |true =>
   simp only[wm];exact kQ l vs dE .nil .nil j.len j.get (λ_ _=>.refl _) t (Qb i)
 refine⟨g,⟨f.hr,f.defers,f.size,f.nt,λt i=>VR.OZ (s t) (f.tmps t i),λt i cells r=>?_,λd t o h=>(by cases h),f.dU,λd t o h=>(by cases h)⟩,u,.refl g⟩;have x:(qB l vs h).at t = .ah cells:=by
  rcases s t with e|⟨_,_,_,_,_,_,_,e⟩
  .rw[e];exact r
  .rw[r] at e;cases e
 exact f.eA t i cells x
def lw.Ue{H:qa}{x:T}{l m:List T}(h:lw H l m):lw H (x::l) (x::m):=.cons (.refl _) h
section
variable {P:Program} {G:V9} {A:FuncId->cq} {f:Nat} {h0:qa} {p l l1 l2:Wa} {v1 v2:JO} {h1:qa} {e:Ex}
end
section
variable {P:Program} {Gl:V9}
def mc:T->Bool
 |.own j _ _ _ _=>j==0
 |.ptr j _ _ _=>j==0
 |x=>aH x
end
abbrev CA:=JO×qa
def Pp{A R:Type}(f:Nat->A->(A->Option R)->Option R):Wa->A->(A->Option R)->Option R
 |[],a,k=>k a
 |i::l,a,k=>f i a λa=>Pp f l a k
def CB(P:Program)(K:bA)(G:V9)(aa:Wa)(nt:Nat)(ops:Array Oper)(l1:Wa){R:Type}:Nat->Array Bool->St->List CA->(List CA->Option R)->Option R
 |0,listed,s,a,k=>bif (Region.ready .any ops listed).isEmpty then k ((z7 s l1,s.h)::a) else none
 |n+1,listed,s,a,k=>match Region.ready .any ops listed with
  |[]=>k ((z7 s l1,s.h)::a)
  |r=>Pp (λi a k=>match ops[i]? with
   |some o=>zu P K G aa nt ops.toList o s λf _=>CB P K G aa nt ops l1 n (listed.setIfInBounds i true) (f.dN s) a k
   |none=>none) r a k
def mZ(P:Program)(K:bA)(G:V9)(aa:Wa)(nt:Nat)(ops:Array Oper)(l1:Wa)(L:List CA):Nat->Array Bool->St->Prop
 |0,listed,s=>Region.ready .any ops listed=[]/\(z7 s l1,s.h)∈L
 |n+1,listed,s=>(Region.ready .any ops listed=[]->(z7 s l1,s.h)∈L)/\∀i∈Region.ready .any ops listed,∃o f a,ops[i]?=some o/\dV P K G aa nt ops.toList o s f a/\mZ P K G aa nt ops l1 L n (listed.setIfInBounds i true) (f.dN s)
def YP(P:Program)(f:Nat)(p:Wa):Array Oper:=match P.funcs[f]? with
 |some fn=>match fn.body with
  |some c=>match iX p c with
   |.region _ ops _=>ops
   |_=>#[]
  |none=>#[]
 |none=>#[]
def GI(P:Program)(f:Nat):Nat:=match P.funcs[f]? with
 |some fn=>fn.ntmps
 |none=>0
def qp1:Code->Bool
 |.region _ _ a=>a
 |_=>false
section
variable {P:Program} {K:bA} {G:V9}
def mZ.mono{aa:Wa}{nt:Nat}{ops:Array Oper}{l1:Wa}{L d:List CA}(a:∀x∈L,x∈d):∀{n:Nat} {listed:Array Bool} {s:St},mZ P K G aa nt ops l1 L n listed s->mZ P K G aa nt ops l1 d n listed s
 |0,_,_,h=>⟨h.1,a _ h.2⟩
 |n+1,_,_,h=>⟨λq=>a _ (h.1 q),λi e=>by
  obtain⟨o,f,k,h1,j,g⟩:=h.2 i e;exact⟨o,f,k,h1,j,mZ.mono a g⟩⟩
def Vp{A R:Type}{f:Nat->A->(A->Option R)->Option R}{I:Nat->A->Prop}{Le:A->A->Prop}(hr:∀a,Le a a)(g:∀a b c,Le a b->Le b c->Le a c)(o:∀i a b,Le a b->I i a->I i b)
 {r:R} (s:∀i d k,f i d k=some r->∃a,k a=some r/\Le d a/\I i a):∀(l:Wa) (d:A) (k:A->Option R),Pp f l d k=some r->∃a,k a=some r/\Le d a/\∀i∈l,I i a
 |[],d,k,h=>⟨d,h,hr d,λi e=>by cases e⟩
 |j::l,d,k,h=>by
  obtain⟨a,h1,C,B⟩:=s j d _ h;obtain⟨b,z,u,x⟩:=Vp hr g o s l a k h1;refine⟨b,z,g _ _ _ C u,λi e=>?_⟩;rcases wK.1 e with rfl|e
  .exact o _ _ _ u B
  .exact x i e
def Vq{aa:Wa}{nt:Nat}{ops:Array Oper}{l1:Wa}{R:Type}{r:R}:∀(n:Nat) (listed:Array Bool) (s:St) (d:List CA) (k:List CA->Option R),CB P K G aa nt ops l1 n listed s d k=some r →
 ∃L,k L=some r/\(∀x∈d,x∈L)/\mZ P K G aa nt ops l1 L n listed s
 |0,listed,s,d,k,h=>by
  unfold CB at h;obtain⟨H,h⟩:=qm h;exact⟨_,h,λx hx=>wT _ hx,xQ.1 H,vK⟩
 |n+1,listed,s,d,k,h=>by
  unfold CB at h;cases hr:Region.ready .any ops listed with
  |nil =>
   rw[hr] at h;exact⟨_,h,λx hx=>wT _ hx,λ_=>vK,λi e=>by rw[hr] at e;cases e⟩
  |cons x y =>
   rw[hr] at h;obtain⟨L,h1,B,J⟩:=Vp (I:=λi L=>∃o f g,ops[i]?=some o/\dV P K G aa nt ops.toList o s f g/\mZ P K G aa nt ops l1 L n (listed.setIfInBounds i true) (f.dN s)) (Le:=λa b=>∀x∈a,x∈b)
    (λ_ _ h=>h) (λa b c h1 B x hx=>B x (h1 x hx)) (λi a b S ⟨o,f,g,z,u,D⟩=>⟨o,f,g,z,u,D.mono S⟩) (λi d k j=>by
     cases C:ops[i]? with
     |none=>rw[C] at j;cases j
     |some o =>
      rw[C] at j;obtain⟨⟨f,g⟩,z,u⟩:=qH (K9 P K G aa nt ops.toList o s) (k:=λp=>CB P K G aa nt ops l1 n (listed.setIfInBounds i true) (p.1.dN s) d k) j;obtain⟨L,O,N,M⟩:=Vq n _ _ _ _ z;exact⟨L,O,N,o,f,g,rfl,λQ E=>u Q λp=>E p.1 p.2,M⟩) (x::y) d k h
   exact⟨L,h1,B,(λq=>(by rw[hr] at q;cases q)),(λi e=>J i (by rw[hr] at e;exact e))⟩
def Vr{aa:Wa}{nt:Nat}(x:aT P G K){ops:Array Oper}{l1:Wa}{L:List CA}{ro:Option Nat}{n:Nat}{Q:Exit->Act->World->Prop}{g0:Gh}{h0:qa}{w0:World}{d0:List Deferred}
 (u:∀o∈L,∀r w' g',SR G aa nt g' (qB l1 o.1 o.2) r w'->cS g0 h0 w0 g' o.2 w'->r.defers=d0->Q .normal r w'):∀(d:Nat) (listed:Array Bool) {s:St} {g:Gh} {a:Act} {w:World},
 mZ P K G aa nt ops l1 L d listed s->SR G aa nt g s a w->cS g0 h0 w0 g s.h w->a.defers=d0->wpAnyIn (QC ro) n P .any ops Q d listed a w
 |0,listed,s,g,a,w,h,e,j,k=>⟨h.1,u (z7 s l1,s.h) h.2 a w g (e.only l1) j k⟩
 |d+1,listed,s,g,a,w,h,e,j,k=>by
  refine⟨λh0=>u (z7 s l1,s.h) (h.1 h0) a w g (e.only l1) j k,λi C=>?_⟩;obtain⟨o,f,I,B,h1,D⟩:=h.2 i C;have:=h1.goes x e ro n (wpAnyIn (QC ro) n P .any ops Q d (listed.setIfInBounds i true)) Q λr w' g' E H z=>Vr x u d _ D E (j.trans H) (z.trans k);unfold wpOpIn;rw[B];dsimp only;split at this
  .rename_i hw;rw[wl hw];exact this
  .rename_i hw;rw[we hw];exact⟨λ_ _=>trivial,this⟩
variable {A:FuncId->cq} {f:Nat} {h0:qa} {p l l1:Wa} {vs:JO} {h:qa}
def Pz.any(N:P.follows .mixedOrders=true)(O:aT P G K)(I:ZP P f p qp1=true){L:List CA}
 (s:CB P K G (A f).aa (GI P f) (YP P f p) l1 (YP P f p).size (Array.replicate (YP P f p).size false) (qB l vs h) [] some=some L) {v2:JO} {h2:qa} (hw:∀o∈L,Wk G A f h0.length l1 o.1 o.2 v2 h2):Pz P G A f h0 p l vs h .normal l1 v2 h2:=by
 intro fn c x z ro m cL g0 k g a w hr d H Q M;have i:=ZW I x z;have J:∀id ops j,iX p c = .region id ops j->YP P f p=ops:=λid ops j e=>by simp only[YP,x,z,e]
 have X:GI P f=fn.ntmps:=by simp only[GI,x]
 rw[X] at s;revert i;cases e:iX p c with
 |region id ops j =>
  intro i;rw[J _ _ _ e] at s;obtain rfl:j=true:=i;obtain⟨Y,V,_,U⟩:=Vq _ _ _ _ _ s;obtain rfl:=wa V;refine wpIn_region_any N (Vr O (L:=Y) (g0:=g0) (h0:=h0) (w0:=k) (d0:=a.defers) (λo r B w' R S W E=>?_) _ _ U (H.drawn _) ?_ rfl)
  rotate_left
  .exact⟨⟨d.ar.u,d.ar.ey,d.ar.rm⟩,d.size,d.own,d.os,d.tape,⟨d.output.1,wc _⟩,d.same,d.bs,d.u,d.u'⟩
  .obtain⟨g2,D,C,_⟩:=hw o r _ R B w' g0 h0 k (wc _) hr W S;exact M B w' g2 D C λ_=>E
 |_=>intro i;cases i
end
def dG(h h2:qa):Prop:=h2.length=h.length/\∀(i:Nat) b a,h[i]?=some b->h2[i]?=some a->a.mp=b.mp/\a.aj=b.aj/\a.sz=b.sz/\a.n=b.n/\(a=b∨(a.flat=false/\∀j,j<b.n->(a.get j).length=(b.get j).length/\∀(o:Nat) c d,(b.get j)[o]?=some c->(a.get j)[o]?=some d->rN h c d))
def VR.Ps{w:World}{U:Nat->Prop}{φ:Nat->Option (Nat×Nat)}{h:qa}{x y:T}{v:Value}(u:rN h x y)(hx:VR w U φ h x v):VR w U φ h y v:=by
 rcases u with rfl|⟨i,aj,s,len,c,b,rfl,rfl,k,z⟩
 .exact hx
 .obtain⟨A,o,C,h1,B⟩:=hx.cW;obtain rfl:b=A:=by rw[k] at o;exact wa o
  refine .own _ _ _ _ _ b _ k C h1 λev=>?_;rcases B ev with⟨cb,r,cc,ad,f,e,d,a,j,q6,q7,q8,q9⟩|⟨f,e,d,a,j,q6⟩
  .obtain rfl:=(q6 c rfl).1;exact .inl ⟨cb,r,cc,ad,f,e,d,a,j,λ_ g=>(by cases g),q7,q8,λ_=>z⟩
  .exact .inr ⟨f,e,d,a,λ_ g=>(by cases g),q6⟩
def dG.at{h h2:qa}(a:dG h h2){i:Nat}{b:aq}(e:h[i]?=some b):∃b2,h2[i]?=some b2:=by
 have d:=qy e;exact⟨_,wj (by rw[a.1];exact d)⟩
def dG.back{h h2:qa}(a:dG h h2){i:Nat}{b2:aq}(e:h2[i]?=some b2):∃b,h[i]?=some b:=by
 have d:=qy e;exact⟨_,wj (by rw[←a.1];exact d)⟩
def dG.ar{h h2:qa}(a:dG h h2)(w:World)(U:Nat->Prop)(φ:Nat->Option (Nat×Nat)):fO w U φ h w U φ h2 :=
 ⟨.refl w U,λi b d=>by
  obtain⟨f,e⟩:=a.at d;obtain⟨_,k,j,g,_⟩:=a.2 i b f d e;exact⟨f,e,by rw[k];exact wc _,λ_=>⟨j,g,rfl⟩⟩,λ_ _ h=>h⟩
def HR.sO{g:Gh}{h h2:qa}{w:World}(hr:HR g h w)(d:dG h h2):HR g h2 w:=by
 refine⟨λi E r S=>?_,hr.u,hr.own,hr.base,hr.cells,λb i f=>by rw[d.1];exact hr.lt b i f,λi E m r U=>by
  obtain⟨b,s⟩:=d.back r;exact hr.eX s ((d.2 i b E s r).1▸U) rfl (λ_ B=>B) λ_ _ _=>rfl⟩
 obtain⟨b,s⟩:=d.back r;obtain⟨R,W,z,Q,x⟩:=d.2 i b E s r;rcases hr.dh i b s (R▸S) with⟨cb,M,H,e,a⟩|⟨J,V⟩
 rotate_left
 .exact .inr ⟨J,ae⟩
 refine .inl ⟨cb,M,H,e,a.φ,a.own,a.heap,by rw[z,Q];exact a.room,λj k=>?_,λj o c k f=>?_,λA j k c B=>?_⟩
 .rcases x with rfl|⟨_,q⟩
  .exact a.len j k
  .rw[(q j ae).1,z];exact a.len j ae
 .rcases x with rfl|⟨_,q⟩
  .obtain⟨v,h1,D,C⟩:=a.cell j o c k f;exact⟨v,h1,D,C.ar (d.ar _ _ _)⟩
  .obtain⟨N,O⟩:=q j ae;have I:o<(b.get j).length:=by rw[←N];exact qy f
   obtain⟨v,h1,D,C⟩:=a.cell j o (b.get j)[o] ae (wj I);rw[z];exact⟨v,h1,D,(VR.Ps (O o _ c (wj I) f) C).ar (d.ar _ _ _)⟩
 .rcases x with rfl|⟨q,_⟩
  .exact a.flat A j k c B
  .rw[q] at A;cases A
section
variable {P:Program} {Gl:V9} {aa:Wa} {nt:Nat}
def am.sO{l:Wa}{k:Nat}{vs:JO}{h h2:qa}(x:dG h h2):am Gl aa nt l k vs h vs h2:=by
 intro g a w g0 I H _ _ B f;have r:=x.ar w g.U g.φ;have D:∀t,(qB l vs h2).at t=(qB l vs h).at t:=λt=>rfl;refine⟨g,⟨f.hr.sO x,f.defers,f.size,f.nt,λt j=>by rw[D];exact(f.tmps t j).ar r,λt j cells C=>?_,λd t o h=>(by cases h),f.dU,λd t o h=>(by cases h)⟩,B.trans ⟨r,wc _,λ_ _=>rfl,rfl,rfl,.refl _,λ_ _ _=>rfl,rfl,λ_ h=>.inl h,λ_ h=>h⟩,.refl g⟩;obtain⟨cb,s,e,i⟩:=f.eA t j cells C;refine⟨cb,s,e,i.ptr,i.own,i.heap,i.len,λo c A=>?_⟩;obtain⟨u,h1,z,E⟩:=i.cell o c A;exact⟨u,h1,z,E.ar r⟩
end
def dG.one{p q:qa}{b b2:aq}(h1:b2.mp=b.mp/\b2.aj=b.aj/\b2.sz=b.sz/\b2.n=b.n)(f:b2.flat=false)(g:∀j,j<b.n->(b2.get j).length=(b.get j).length/\∀(o:Nat) c d,(b.get j)[o]?=some c->(b2.get j)[o]?=some d->rN (p++b::q) c d):dG (p++b::q) (p++b2::q):=by
 refine⟨au,λi x y hx a=>?_⟩;rcases Nat.lt_trichotomy i p.length with c|c|c
 .rw[wx c] at hx a;rw[hx] at a;obtain rfl:=wa a;exact⟨rfl,rfl,rfl,rfl,.inl rfl⟩
 .subst c;rw[wH (wc _),wW] at hx a;obtain rfl:b=x:=wa hx;obtain rfl:b2=y:=wa a;exact⟨h1.1,h1.2.1,h1.2.2.1,h1.2.2.2,.inr ⟨f,g⟩⟩
 .rw[wH ae] at hx a;obtain⟨k,e⟩:∃k,i-p.length=k+1:=⟨i-p.length-1,ae⟩;rw[e] at hx a;have hx:q[k]?=some x:=hx;have a:q[k]?=some y:=a;rw[hx] at a;obtain rfl:=wa a;exact⟨rfl,rfl,rfl,rfl,.inl rfl⟩
section
variable {P:Program} {Gl:V9}
def AR(d:Nat):T->T
 |.own i v o l c=>.own (d+i) v o l c
 |.ptr i v j o=>.ptr (d+i) v j o
 |x=>x
def GO:T->Bool
 |.own _ _ _ _ _=>true
 |.ptr _ _ _ _=>true
 |x=>aH x
def Lz(d:Nat):T->T
 |.agg l=>.agg (l.map (AR d))
 |x=>AR d x
def LA:T->Bool
 |.agg l=>l.all GO
 |x=>GO x
def VA(d:Nat):T->T
 |.aK l=>.aK (l.map (Lz d))
 |x=>Lz d x
def VB:T->Bool
 |.aK l=>l.all LA
 |x=>LA x
def zz(d:Nat)(b:aq):aq:={ b with get:=λj=>(b.get j).map (AR d) }
def EO(b:aq):Prop:=b.mp=none/\∀j,j<b.n->(b.get j).all GO=true
def qob{d:Nat}{x:T}(hx:aH x=true):AR d x=x:=by
 cases x<;>first|rfl|(simp[aH,zK] at hx)
def VR.Al{w:World}{U:Nat->Prop}{φ r:Nat->Option (Nat×Nat)}{h h2:qa}{d:Nat}(C:∀i b,h2[i]?=some b->h[d+i]?=some (zz d b))(u:∀i,φ (d+i)=r i){x:T}{v:Value}(E:GO x=true)(hx:VR w U r h2 x v):VR w U φ h (AR d x) v:=by
 have other:Go.Ab.aH x=true->VR w U φ h (AR d x) v:=λB=>by rw[qob B];exact .aH _ _ (ZM (g:=⟨U,r,λ_=>none,0,0,[]⟩) (h:=h2) B hx)
 cases x with
 |own j aj D len cap =>
  obtain⟨f,h1,h2,A,z⟩:=hx.cW;refine .own _ _ _ _ _ (zz d f) _ (C j f h1) h2 A λq=>?_;rcases z q with⟨cb,s,c,ad,e,a⟩|⟨e,a⟩
  .exact .inl ⟨cb,s,c,ad,(u j).trans e,a⟩
  .exact .inr ⟨(u j).trans e,a⟩
 |ptr j aj k o =>
  obtain⟨f,h1,h2,A,z⟩:=hx.cX;refine .ptr _ _ _ _ (zz d f) _ (C j f h1) h2 A λq=>?_;obtain⟨cb,s,e,a⟩:=z q;exact⟨cb,s,(u j).trans e,a⟩
 |_=>exact other E
def VR.CD{w:World}{U:Nat->Prop}{φ A:Nat->Option (Nat×Nat)}{h h2:qa}{d:Nat}(C:∀i b,h2[i]?=some b->h[d+i]?=some (zz d b))(B:∀i,φ (d+i)=A i){x:T}{v:Value}(u:LA x=true)(hx:VR w U A h2 x v):VR w U φ h (Lz d x) v:=by
 cases x with
 |agg l =>
  have u:∀c∈l,GO c=true:=wA.1 u;have key:∀(f:Nat->Value) (e:Array Value),l.length=e.size->(∀(i:Nat) (v:Value),e[i]?=some v->v.oneCell'=true)->(∀(i:Nat) (c:T),l[i]?=some c->e[i]?=some (f i))->(∀(i:Nat) (c:T),l[i]?=some c->VR w U A h2 c (f i))->VR w U φ h (.agg (l.map (AR d))) (.agg e):=λf e s r o j=>by
   refine .agg _ e f (by rw[wQ];exact s) r (λi c a=>?_) (λi c a=>?_)
   .rw[wE] at a;cases g:l[i]? with
    |none=>rw[g] at a;cases a
    |some z=>exact o i z g
   .rw[wE] at a;cases g:l[i]? with
    |none=>rw[g] at a;cases a
    |some z =>
     rw[g] at a;obtain rfl:=wa a;exact VR.Al C B (u z (wo g)) (j i z g)
  cases hx with
  |aH _ _ D=>cases D with
   |agg _ e f s r o j=>exact key f e s r o λi c a=>.aH _ _ (j i c a)
  |agg _ e f s r o j=>exact key f e s r o j
 |_ =>
  have k:=λE=>VR.Al C B E hx;exact k u
def VR.GP{w:World}{U:Nat->Prop}{φ z:Nat->Option (Nat×Nat)}{h h2:qa}{d:Nat}(B:∀i b,h2[i]?=some b->h[d+i]?=some (zz d b))(A:∀i,φ (d+i)=z i){x:T}{v:Value}(s:VB x=true)(hx:VR w U z h2 x v):VR w U φ h (VA d x) v:=by
 cases x with
 |aK l =>
  have s:∀c∈l,LA c=true:=wA.1 s;have key:∀(f:Nat->Value) (e:Array Value),l.length=e.size->(∀(i:Nat) (c:T),l[i]?=some c->e[i]?=some (f i))->(∀(i:Nat) (c:T),l[i]?=some c->VR w U z h2 c (f i))->VR w U φ h (.aK (l.map (Lz d))) (.tuple e):=λf e r o j=>by
   refine .aK _ e f (by rw[wQ];exact r) (λi c a=>?_) (λi c a=>?_)
   .rw[wE] at a;cases g:l[i]? with
    |none=>rw[g] at a;cases a
    |some u=>exact o i u g
   .rw[wE] at a;cases g:l[i]? with
    |none=>rw[g] at a;cases a
    |some u =>
     rw[g] at a;obtain rfl:=wa a;exact VR.CD B A (s u (wo g)) (j i u g)
  cases hx with
  |aH _ _ C=>cases C with
   |aK _ e f r o j=>exact key f e r o λi c a=>.aH _ _ (j i c a)
  |aK _ e f r o j=>exact key f e r o j
 |_ =>
  have k:=λD=>VR.CD B A D hx;exact k s
def aR.push{f:FuncId}{args:JO}{r:T}{I:qa}(t:aR P Gl f args [] r I)(ha:args.all aH=true)(iC:VB r=true)(VC:∀b∈I,EO b)(h:qa) :
 aR P Gl f args h (VA h.length r) (h++I.map (zz h.length)):=by
 refine⟨t.enters,λg w aA hr iy cJ bK=>?_⟩
 let g1:Gh:={ U:=g.U,φ:=λ_=>none,own:=λ_=>none,base:=w.heap.size,low:=g.low,dt:=g.dt }
 have h1:HR g1 [] w:=⟨λi b H=>by simp at H,λb H=>⟨(hr.u b H).1,rfl⟩,λb o E=>(by cases E),wc _,λb o E=>(by cases E),λb i E=>(by cases E),λi b m H=>by simp at H⟩;have DC:Km g1:=λc t a=>by cases a
 have FO:bQ g1 [] w args aA:=⟨bK.1,λk x W=>by
  obtain⟨v,A,z⟩:=bK.2 k x W;exact⟨v,A,.aH _ _ (ZM (g:=g) (h:=h) (wA.1 ha x (wo W)) z)⟩⟩
 refine(t.calls g1 w aA h1 DC cJ FO).mono λe w' ⟨v,he,g2,Q,r2,r3,D⟩=>⟨v,he,?_⟩
 let d:=h.length
 let g3:Gh:={ g with
  U:=g2.U
  φ:=λj=>if j<d then g.φ j else g2.φ (j-d)
  own:=λc=>if c<w.heap.size then g.own c else match g2.own c with|some (.inl j)=>some (.inl (d+j))|_=>none }
 have M:∀c,c<w.heap.size->g3.own c=g.own c:=λc a=>by simp only[g3,wl a]
 have R:∀c o,¬c<w.heap.size->g3.own c=some o->∃j,o = .inl (d+j)/\g2.own c=some (.inl j):=λc o a E=>by
  simp only[g3,we a] at E;split at E
  .rename_i j s;exact⟨j,(wa E).symm,s⟩
  .cases E
 have p0:∀c o,g2.own c=some o->¬c<w.heap.size:=λc o a q=>by
  rw[D.own c q] at a;cases a
 have p3:∀c j,g2.own c=some (.inl j)->g3.own c=some (.inl (d+j)):=λc j a=>by
  simp only[g3,we (p0 c _ a),a]
 have f1:∀j,j<d->g3.φ j=g.φ j:=λj s=>by simp only[g3,wl s]
 have Z:∀j,g3.φ (d+j)=g2.φ j:=λj=>by simp only[g3,we (show ¬d+j<d by omega)];rw[show d+j-d=j by omega]
 have same:∀c,c<w.heap.size->w'.heap[c]?=w.heap[c]?:=λc a=>D.same c a λi q=>by cases q
 have dK:∀i b,I[i]?=some b->(h++I.map (zz d))[d+i]?=some (zz d b):=λi b H=>by
  rw[wH (by show d<=d+i;omega),show d+i-h.length=i by show d+i-d=i;omega,wE,H];rfl
 have mU:∀j b,(h++I.map (zz d))[j]?=some b->(j<d/\h[j]?=some b)∨∃i B,j=d+i/\I[i]?=some B/\b=zz d B:=λj b s=>by
  by_cases q:j<d
  .rw[wx q] at s;exact .inl ⟨q,s⟩
  .rw[wH (Nat.le_of_not_lt q),wE] at s;cases J:I[j-h.length]? with
   |none=>rw[J] at s;cases s
   |some B=>rw[J] at s;exact .inr ⟨j-d,B,ae,J,(wa s).symm⟩
 have W:fO w g.U g.φ h w' g3.U g3.φ (h++I.map (zz d)):=by
  refine⟨r3.u,λj N s=>?_,r3.rm⟩;have VD:j<d:=(xo.1 s).1;exact⟨N,by rw[wx VD];exact s,wc _,λ_=>⟨rfl,rfl,f1 j VD⟩⟩
 refine⟨g3,⟨λj N s S=>?_,λc a=>?_,λc o a=>?_,wN hr.base D.size,λc o a=>?_,λc j a=>?_,λj N m s S=>?_⟩,?_,W,?_⟩
 .rcases mU j N s with⟨q,s⟩|⟨i,B,rfl,Y,rfl⟩
  .rcases hr.dh j N s S with⟨cb,sh,O,e,ok⟩|⟨A,z⟩
   rotate_left
   .exact .inr ⟨by rw[f1 j q];exact A,z⟩
   have V:=(hr.own cb _ ok.own).2;exact .inl ⟨cb,sh,O,e,by rw[f1 j q];exact ok.φ,by rw[M cb V];exact ok.own,by rw[same cb V];exact ok.heap,ok.room,ok.len,λj o c s a=>by
    obtain⟨v,A,z,C⟩:=ok.cell j o c s a;exact⟨v,A,z,VR.ar W C⟩,ok.flat⟩
  .obtain⟨s1,s2⟩:=VC B (wo Y);rcases Q.dh i B Y s1 with⟨cb,sh,O,e,ok⟩|⟨A,z⟩
   rotate_left
   .exact .inr ⟨by rw[Z];exact A,z⟩
   refine .inl ⟨cb,sh,O,e,by rw[Z];exact ok.φ,p3 cb i ok.own,ok.heap,ok.room,λj s=>by
    show((B.get j).map (AR d)).length=B.sz;rw[wQ];exact ok.len j s,λj o c s a=>?_,λhf j s c a=>?_⟩
   .have a:((B.get j).map (AR d))[o]?=some c:=a;rw[wE] at a;cases J:(B.get j)[o]? with
    |none=>rw[J] at a;cases a
    |some X =>
     rw[J] at a;obtain rfl:=wa a;obtain⟨v,A,z,C⟩:=ok.cell j o X s J;exact⟨v,A,z,VR.Al dK Z (wA.1 (s2 j s) X (wo J)) C⟩
   .obtain⟨X,h0,rfl⟩:=vb.1 (show c∈(B.get j).map (AR d) from a);have:=ok.flat hf j s X h0;cases X<;>first|exact this|(simp[qG] at this)
 .obtain⟨A,z⟩:=Q.u c a;refine⟨A,?_⟩;by_cases q:c<w.heap.size
  .rw[M c q];rcases D.u c a with C|C
   .exact(hr.u c C).2
   .omega
  .cases C:g3.own c with
   |none=>rfl
   |some o =>
    obtain⟨j,_,q4⟩:=R c o q C;rw[q4] at z;cases z
 .by_cases q:c<w.heap.size
  .rw[M c q] at a;exact⟨(hr.own c o a).1,vd q D.size⟩
  .obtain⟨j,_,z⟩:=R c o q a;exact⟨wN hr.base (Nat.le_of_not_lt q),(Q.own c _ z).2⟩
 .by_cases q:c<w.heap.size
  .rw[M c q] at a;exact hr.eU a (same c q)
  .obtain⟨j,A,z⟩:=R c o q a;rcases Q.cells c _ z with q|⟨k,es,cl,C,q4⟩
   .exact .inl q
   .exact .inr ⟨d+j,es,cl,A,q4⟩
 .rw[wD,wQ];by_cases q:c<w.heap.size
  .rw[M c q] at a;have:=hr.lt c j a;omega
  .obtain⟨i,A,z⟩:=R c _ q a;obtain rfl:j=d+i:=by injection A
   have:=Q.lt c i z;show d+i<h.length+_;omega
 .rcases mU j N s with⟨q,s⟩|⟨i,B,rfl,Y,rfl⟩
  .obtain⟨cb,A,z,C⟩:=hr.mp j N m s S;have V:=(hr.own cb _ z).2;exact⟨cb,by rw[f1 j q];exact A,by rw[M cb V];exact z,C.of_heap (same cb V)⟩
  .rw[show(zz d B).mp=none from(VC B (wo Y)).1] at S;cases S
 .exact VR.GP dK Z iC r2
 ·exact⟨D.size,M,D.os,D.tape,D.output,λc a _=>same c a,rfl,λb H=>D.u b H,λc a t ht=>by
   obtain⟨j,q,_⟩:=R c _ (Nat.not_lt.2 a) ht;cases q⟩
end
def nj(i vi j d:Nat)(x:T):T :=
 match x with
 |.own m aj a len cap=>bif m==j then(bif aj==d then .own i (vi+1) a len cap else .undef) else .own m aj a len cap
 |.ptr m aj q o=>bif m==j then .undef else .ptr m aj q o
 |.mp m aj=>bif m==j then .undef else .mp m aj
 |x=>bif aH x then x else .undef
def ad(i vi j a:Nat)(x:T):T :=
 match x with
 |.agg l=>.agg (l.map (nj i vi j a))
 |.ah l=>.ah (l.map (nj i vi j a))
 |x=>nj i vi j a x
def nD(i vi j a:Nat)(b:aq):aq:=bif b.flat then b else { b with get:=λe=>(b.get e).map (nj i vi j a) }
def Bw(i vi j a:Nat)(b:aq):aq:={ nD i vi j a b with aj:=vi+1 }
def PX(i vi j a:Nat)(bj:aq)(h:qa):qa:=((h.map (nD i vi j a)).set i (Bw i vi j a bj)).take j
def Wu(i vi j a:Nat)(b:aq):(nD i vi j a b).aj=b.aj/\(nD i vi j a b).sz=b.sz/\(nD i vi j a b).n=b.n/\(nD i vi j a b).flat=b.flat/\(nD i vi j a b).mp=b.mp:=by
 unfold nD;cases h:b.flat<;>simp[h]
def qqm{i vi j a:Nat}{x:T}{cells:JO}(hx:ad i vi j a x = .ah cells):∃m,x = .ah m/\cells=m.map (nj i vi j a):=by
 cases x with
 |ah m=>simp only[ad,T.ah.injEq] at hx;exact⟨m,rfl,hx.symm⟩
 |agg l=>cases hx
 |own m aj d len cap =>
  simp only[ad,nj] at hx;cases h1:m==j<;>rw[h1] at hx
  .cases hx
  .cases e:aj==a<;>rw[e] at hx<;>cases hx
 |ptr m aj q o=>simp only[ad,nj] at hx;cases h1:m==j<;>rw[h1] at hx<;>cases hx
 |mp m aj=>simp only[ad,nj] at hx;cases h1:m==j<;>rw[h1] at hx<;>cases hx
 |_=>simp only[ad,nj] at hx;revert hx;cases aH _<;>intro hx<;>cases hx
section
variable {P:Program} {Gl:V9} {aa:Wa} {nt:Nat}
def am.rF{l:Wa}{k:Nat}{vs:JO}{h:qa}(i j:Nat){bi bj:aq}(mB:i<j)(hj:j+1=h.length)(hkj:k<=j)(oJ:h[i]?=some bi)(uB:h[j]?=some bj)(hm:bj.mp=none) :
 am Gl aa nt l k vs h (vs.map (ad i bi.aj j bj.aj)) (PX i bi.aj j bj.aj bj h):=by
 intro g a w g0 h0 w0 hk iC J W;have hr:=W.hr;simp only[qB] at hr
 let Q:=nj i bi.aj j bj.aj
 let C:=PX i bi.aj j bj.aj bj h
 have fm:∀m,m<j->m≠i->∀b,h[m]?=some b->C[m]?=some (nD i bi.aj j bj.aj b):=λm hm aZ b f=>by
  show(((h.map _).set i _).take j)[m]?=_;rw[vv hm,wV (λe=>aZ e.symm),wE,f];rfl
 have tI:C[i]?=some (Bw i bi.aj j bj.aj bj):=by
  show(((h.map _).set i _).take j)[i]?=_;rw[vv mB,wP (by rw[wQ];omega)]
 have bc:C.length=j:=by show(((h.map _).set i _).take j).length=_;rw[vB,xM,wQ];omega
 have m5:∀m E,C[m]?=some E->m<j/\((m=i/\E=Bw i bi.aj j bj.aj bj)∨(m≠i/\∃b,h[m]?=some b/\E=nD i bi.aj j bj.aj b)):=λm E f=>by
  have M:m<j:=by have:=qy f;omega
  refine⟨M,?_⟩;by_cases e:m=i
  .subst e;rw[tI] at f;exact .inl ⟨rfl,(wa f).symm⟩
  .have gk:h[m]?=some (h[m]'ae):=wj ae;rw[fm m M e _ gk] at f;exact .inr ⟨e,_,gk,(wa f).symm⟩
 let g2:Gh:={ g with
  φ:=λm=>if m=i then g.φ j else if m=j then none else g.φ m
  own:=λb=>match g.own b with|some (.inl m)=>if m=j then some (.inl i) else some (.inl m)|o=>o }
 have gZ:∀b m,g.own b=some (.inl m)->g2.own b=if m=j then some (.inl i) else some (.inl m):=λb m f=>by simp only[g2,f]
 have X:∀b,g.own b=none->g2.own b=none:=λb f=>by simp only[g2,f]
 have nP:∀b t,g.own b=some (.inr t)->g2.own b=some (.inr t):=λb t f=>by simp only[g2,f]
 have PY:g2.φ i=g.φ j:=wl rfl;have DI:∀m,m≠i->m≠j->g2.φ m=g.φ m:=λm h1 C=>by show(if m=i then _ else if m=j then _ else _)=_;rw[we h1,we C]
 have Bi:eE w g.U w g2.U:=λb f=>⟨f,rfl⟩;have s:=Wu i bi.aj j bj.aj;have B:(Bw i bi.aj j bj.aj bj).aj=bi.aj+1/\(Bw i bi.aj j bj.aj bj).sz=bj.sz/\(Bw i bi.aj j bj.aj bj).n=bj.n/\(Bw i bi.aj j bj.aj bj).flat=bj.flat/\(Bw i bi.aj j bj.aj bj).mp=bj.mp:=⟨rfl,(s bj).2.1,(s bj).2.2.1,(s bj).2.2.2.1,(s bj).2.2.2.2⟩;have iW:∀x v,g.VR h w x v->g2.VR C w (Q x) v:=by
  intro x v hx;have other:Q x=(bif aH x then x else .undef)->g2.VR C w (Q x) v:=λe=>by
   rw[e];cases hi:aH x with
   |true=>exact .aH _ _ ((ZM hi hx).ar Bi)
   |false=>exact .aH _ _ (.undef v)
  cases x with
  |own m aj N len cap =>
   obtain⟨b,f,aD,h1,z⟩:=hx.cW;by_cases c:m=j
   .obtain rfl:b=bj:=by rw[c,uB] at f;exact(wa f).symm
    by_cases d:aj=b.aj
    ·have e:Q (.own m aj N len cap) = .own i (bi.aj+1) N len cap:=by
      show(bif m==j then(bif aj==b.aj then _ else _) else _)=_;rw[show(m==j)=true by simpa using c,show(aj==b.aj)=true by simpa using d];rfl
     rw[e];refine .own _ _ _ _ _ _ _ tI (wc _) h1 λ_=>?_;rcases z d.symm with⟨cb,R,cc,ad,Z,Y,es,so,e3,e4,e5,e6,e7⟩|⟨V,S,q3⟩
     .exact .inl ⟨cb,R,cc,ad,by rw[PY,←c];exact Z,Y,es,by rw[B.2.1];exact so,e3,by rw[B.2.2.1];exact e4,by rw[B.2.2.1];exact e5,by rw[B.2.1];exact e6,by rw[B.2.2.1];exact e7⟩
     .exact .inr ⟨by rw[PY,←c];exact V,by rw[B.2.2.1];exact S,q3⟩
    ·have e:Q (.own m aj N len cap) = .undef:=by
      show(bif m==j then(bif aj==b.aj then _ else _) else _)=_;rw[show(m==j)=true by simpa using c,show(aj==b.aj)=false by simpa using d];rfl
     rw[e];exact .aH _ _ (.undef v)
   ·have e:Q (.own m aj N len cap) = .own m aj N len cap:=by
     show(bif m==j then _ else _)=_;rw[show(m==j)=false by simpa using c];rfl
    rw[e];have M:m<j:=by have:=qy f;omega
    by_cases d:m=i
    .obtain rfl:b=bi:=by rw[d,oJ] at f;exact(wa f).symm
     refine .own _ _ _ _ _ _ _ (by rw[d];exact tI) (by rw[B.1];omega) h1 λev=>?_;rw[B.1] at ev;omega
    .refine .own _ _ _ _ _ _ _ (fm m M d b f) (by rw[(s b).1];exact aD) h1 λev=>?_;rw[(s b).1] at ev;rcases z ev with⟨cb,R,cc,ad,Z,Y,es,so,e3,e4,e5,e6,e7⟩|⟨V,S,q3⟩
     .exact .inl ⟨cb,R,cc,ad,by rw[DI m d c];exact Z,Y,es,by rw[(s b).2.1];exact so,e3,by rw[(s b).2.2.1];exact e4,by rw[(s b).2.2.1];exact e5,by rw[(s b).2.1];exact e6,by rw[(s b).2.2.1];exact e7⟩
     .exact .inr ⟨by rw[DI m d c];exact V,by rw[(s b).2.2.1];exact S,q3⟩
  |ptr m aj q o =>
   obtain⟨b,f,aD,h1,z⟩:=hx.cX;by_cases c:m=j
   ·have e:Q (.ptr m aj q o) = .undef:=by
     show(bif m==j then _ else _)=_;rw[show(m==j)=true by simpa using c];rfl
    rw[e];exact .aH _ _ (.undef v)
   ·have e:Q (.ptr m aj q o) = .ptr m aj q o:=by
     show(bif m==j then _ else _)=_;rw[show(m==j)=false by simpa using c];rfl
    rw[e];have M:m<j:=by have:=qy f;omega
    by_cases d:m=i
    .obtain rfl:b=bi:=by rw[d,oJ] at f;exact(wa f).symm
     refine .ptr _ _ _ _ _ _ (by rw[d];exact tI) (by rw[B.1];omega) h1 λev=>?_;rw[B.1] at ev;omega
    .refine .ptr _ _ _ _ _ _ (fm m M d b f) (by rw[(s b).1];exact aD) h1 λev=>?_;rw[(s b).1] at ev;obtain⟨cb,R,Z,Y⟩:=z ev;exact⟨cb,R,by rw[DI m d c];exact Z,by rw[(s b).2.1];exact Y⟩
  |mp m aj =>
   obtain⟨b,f,aD,h1,z⟩:=hx.iH;by_cases c:m=j
   ·have e:Q (.mp m aj) = .undef:=by
     show(bif m==j then _ else _)=_;rw[show(m==j)=true by simpa using c];rfl
    rw[e];exact .aH _ _ (.undef v)
   ·have e:Q (.mp m aj) = .mp m aj:=by
     show(bif m==j then _ else _)=_;rw[show(m==j)=false by simpa using c];rfl
    rw[e];have M:m<j:=by have:=qy f;omega
    by_cases d:m=i
    .obtain rfl:b=bi:=by rw[d,oJ] at f;exact(wa f).symm
     refine .mp _ _ _ _ (by rw[d];exact tI) (by rw[B.1];omega) h1 λev=>?_;rw[B.1] at ev;omega
    .refine .mp _ _ _ _ (fm m M d b f) (by rw[(s b).1];exact aD) h1 λev=>?_;rw[(s b).1] at ev;obtain⟨cb,Z,Y⟩:=z ev;exact⟨cb,by rw[DI m d c];exact Z,Y⟩
  |_=>exact other rfl
 have hv:∀x v,g.VR h w x v->g2.VR C w (ad i bi.aj j bj.aj x) v:=by
  intro x v hx;cases x with
  |agg m =>
   obtain⟨cs,rfl,hl,h1,H⟩:=hx.bM;refine VR.dc (by simpa using hl) h1 (λe c hi=>?_);obtain⟨c0,h0,rfl⟩:=QE hi;obtain⟨u,hu,dm⟩:=H e c0 h0;exact⟨u,hu,iW _ _ dm⟩
  |ah m=>exact absurd hx VR.dP
  |_=>exact iW _ _ hx
 have ey:∀(m m':Nat) (b E:aq),h[m]?=some b->b.mp=none->E.sz=b.sz->E.n=b.n->E.flat=b.flat->(E.get=(nD i bi.aj j bj.aj b).get)->g2.φ m'=g.φ m->(∀cb,g.own cb=some (.inl m)->g2.own cb=some (.inl m')) →
  (∃cb R O e,mO w g2 C m' E cb R O e)∨(g2.φ m'=none/\E.n=0):=by
  intro m m' b E f cC z1 z2 z3 z4 z5 z6;rcases hr.dh m b f cC with⟨cb,R,O,e,z⟩|⟨V,S⟩
  rotate_left
  .exact .inr ⟨by rw[z5];exact V,by rw[z2];exact S⟩
  refine .inl ⟨cb,R,O,e,by rw[z5];exact z.φ,z6 cb z.own,z.heap,by rw[z1,z2];exact z.room,λq I=>?_,λq o c I H=>?_,λcA q I c H=>?_⟩
  .rw[z2] at I;rw[z1,z4,←z.len q I];unfold nD;cases b.flat<;>simp
  .rw[z2] at I;rw[z1];rw[z4] at H;cases cA:b.flat with
   |true =>
    have:(nD i bi.aj j bj.aj b).get q=b.get q:=by unfold nD;rw[cA];rfl
    rw[this] at H;obtain⟨v,h1,C,h3⟩:=z.cell q o c I H;exact⟨v,h1,C,.aH _ _ (Zp (z.flat cA q I c (wo H)) h3)⟩
   |false =>
    have:(nD i bi.aj j bj.aj b).get q=(b.get q).map Q:=by unfold nD;rw[cA];rfl
    rw[this] at H;obtain⟨c0,pv,rfl⟩:=QE H;obtain⟨v,h1,C,h3⟩:=z.cell q o c0 I pv;exact⟨v,h1,C,iW _ _ h3⟩
  .rw[z3] at cA;rw[z2] at I;rw[z4] at H;have:(nD i bi.aj j bj.aj b).get q=b.get q:=by unfold nD;rw[cA];rfl
   rw[this] at H;exact z.flat cA q I c H
 have v7:HR g2 C w:=by
  refine⟨λm E dK iM=>?_,λb f=>⟨(hr.u b f).1,X b (hr.u b f).2⟩,λb o r=>?_,hr.base,λb o r=>?_,λb m r=>?_,λm E q dK I=>?_⟩
  .obtain⟨M,⟨rfl,rfl⟩|⟨aZ,b,f,rfl⟩⟩:=m5 m E dK
   .exact ey j m bj _ uB hm B.2.1 B.2.2.1 B.2.2.2.1 rfl PY λcb r=>by rw[gZ cb j r,wl rfl]
   .have e:=s b;exact ey m m b _ f (e.2.2.2.2.symm.trans iM) e.2.1 e.2.2.1 e.2.2.2.1 rfl (DI m aZ ae) λcb r=>by rw[gZ cb m r,we ae]
  .cases A:g.own b with
   |none=>rw[X b A] at r;cases r
   |some o'=>exact hr.own b o' A
  .cases A:g.own b with
   |none=>rw[X b A] at r;cases r
   |some o' =>
    rcases hr.cells b o' A with q|⟨m,es,c,rfl,q⟩
    .exact .inl q
    .rw[gZ b m A] at r;by_cases d:m=j
     .rw[wl d] at r;exact .inr ⟨i,es,c,(wa r).symm,q⟩
     .rw[we d] at r;exact .inr ⟨m,es,c,(wa r).symm,q⟩
  .rw[bc];cases A:g.own b with
   |none=>rw[X b A] at r;cases r
   |some o' =>
    cases o' with
    |inr t=>rw[nP b t A] at r;cases r
    |inl q =>
     rw[gZ b q A] at r;have:=hr.lt b q A;by_cases d:q=j
     .rw[wl d] at r;obtain rfl:i=m:=by simpa using r
      exact mB
     .rw[we d] at r;obtain rfl:q=m:=by simpa using r
      omega
  .obtain⟨M,⟨rfl,rfl⟩|⟨aZ,b,f,rfl⟩⟩:=m5 m E dK
   .rw[B.2.2.2.2,hm] at I;cases I
   .obtain⟨cb,o1,o2,o3⟩:=hr.mp m b q f ((s b).2.2.2.2.symm.trans I);exact⟨cb,by rw[DI m aZ ae];exact o1,by rw[gZ cb m o2,we ae],o3⟩
 refine⟨g2,⟨v7,?_,W.size,W.nt,λt ht=>?_,λt ht cells H=>?_,λd t o hh=>(by cases hh),λgl cells hg=>(W.dU gl cells hg).ar Bi,λd t o hh=>(by cases hh)⟩,?_,λb f=>⟨X b f,λhu=>hu⟩⟩
 .obtain⟨m0,l0,m1,m2,m3⟩:=W.defers;refine⟨m0,l0,m1,m2,λD hD=>?_⟩;obtain⟨V,S,q3,q4⟩:=m3 D hD;exact⟨V,X D S,q3,q4⟩
 .rw[zD (ad i bi.aj j bj.aj) rfl l vs h];exact hv _ _ (W.tmps t ht)
 .rw[zD (ad i bi.aj j bj.aj) rfl l vs h] at H;obtain⟨m,hx,rfl⟩:=qqm H;obtain⟨cb,O,e,z⟩:=W.eA t ht m hx;refine⟨cb,O,e,z.ptr,nP cb t z.own,z.heap,by rw[wQ];exact z.len,λo c pW=>?_⟩;obtain⟨c0,pv,rfl⟩:=QE pW;obtain⟨u,h1,C,h3⟩:=z.cell o c0 pv;exact⟨u,h1,C,iW _ _ h3⟩
 .refine⟨⟨λb f=>⟨(J.ar.u b f).1,(J.ar.u b f).2⟩,λm b f=>?_,J.ar.rm⟩,J.size,λb f=>?_,J.os,J.tape,J.output,J.same,J.bs,λb f=>J.u b f,λb f=>J.u' b f⟩
  .obtain⟨b',dH,V,S⟩:=J.ar.ey m b f;have M:m<j:=vd (vd (qy f) hk) hkj;by_cases d:m=i
   .obtain rfl:b'=bi:=by rw[d,oJ] at dH;exact(wa dH).symm
    refine⟨_,by rw[d];exact tI,by rw[B.1];omega,λev=>?_⟩;rw[B.1] at ev;omega
   .refine⟨_,fm m M d b' dH,by rw[(s b').1];exact V,λev=>?_⟩;rw[(s b').1] at ev;obtain⟨r1,r2,r3⟩:=S ev;exact⟨by rw[(s b').2.1];exact r1,by rw[(s b').2.2.1];exact r2,by rw[DI m d ae];exact r3⟩
  .have:=J.own b f;cases A:g.own b with
   |none=>rw[X b A,←this,A]
   |some o =>
    cases o with
    |inr t=>rw[nP b t A,←this,A]
    |inl m =>
     have Gd:m<k:=vd (iC.lt b m (by rw[←this];exact A)) hk;rw[gZ b m A,we ae,←this,A]
end
def Q1(_:qa)(x y:T):Prop:=x=y∨y = .undef
def fZ(h h2:qa):Prop:=h2.length=h.length/\∀(i:Nat) b a,h[i]?=some b->h2[i]?=some a->a.mp=b.mp/\a.aj=b.aj/\a.sz=b.sz/\a.n=b.n/\(a=b∨(a.flat=false/\∀j,j<b.n->(a.get j).length=(b.get j).length/\∀(o:Nat) c d,(b.get j)[o]?=some c->(a.get j)[o]?=some d->Q1 h c d))
def VR.fgT{w:World}{U:Nat->Prop}{φ:Nat->Option (Nat×Nat)}{h:qa}{x y:T}{v:Value}(a:Q1 h x y)(hx:VR w U φ h x v):VR w U φ h y v:=by
 rcases a with rfl|rfl
 .exact hx
 .exact .aH _ _ (.undef v)
def fZ.at{h h2:qa}(a:fZ h h2){i:Nat}{b:aq}(e:h[i]?=some b):∃b2,h2[i]?=some b2:=by
 have d:=qy e;exact⟨_,wj (by rw[a.1];exact d)⟩
def fZ.back{h h2:qa}(a:fZ h h2){i:Nat}{b2:aq}(e:h2[i]?=some b2):∃b,h[i]?=some b:=by
 have d:=qy e;exact⟨_,wj (by rw[←a.1];exact d)⟩
def fZ.ar{h h2:qa}(a:fZ h h2)(w:World)(U:Nat->Prop)(φ:Nat->Option (Nat×Nat)):fO w U φ h w U φ h2 :=
 ⟨.refl w U,λi b d=>by
  obtain⟨f,e⟩:=a.at d;obtain⟨_,k,j,g,_⟩:=a.2 i b f d e;exact⟨f,e,by rw[k];exact wc _,λ_=>⟨j,g,rfl⟩⟩,λ_ _ h=>h⟩
def HR.Q2{g:Gh}{h h2:qa}{w:World}(hr:HR g h w)(d:fZ h h2):HR g h2 w:=by
 refine⟨λi E r S=>?_,hr.u,hr.own,hr.base,hr.cells,λb i f=>by rw[d.1];exact hr.lt b i f,λi E m r U=>by
  obtain⟨b,s⟩:=d.back r;exact hr.eX s ((d.2 i b E s r).1▸U) rfl (λ_ B=>B) λ_ _ _=>rfl⟩
 obtain⟨b,s⟩:=d.back r;obtain⟨R,W,z,Q,x⟩:=d.2 i b E s r;rcases hr.dh i b s (R▸S) with⟨cb,M,H,e,a⟩|⟨J,V⟩
 rotate_left
 .exact .inr ⟨J,ae⟩
 refine .inl ⟨cb,M,H,e,a.φ,a.own,a.heap,by rw[z,Q];exact a.room,λj k=>?_,λj o c k f=>?_,λA j k c B=>?_⟩
 .rcases x with rfl|⟨_,q⟩
  .exact a.len j k
  .rw[(q j ae).1,z];exact a.len j ae
 .rcases x with rfl|⟨_,q⟩
  .obtain⟨v,h1,D,C⟩:=a.cell j o c k f;exact⟨v,h1,D,C.ar (d.ar _ _ _)⟩
  .obtain⟨N,O⟩:=q j ae;have I:o<(b.get j).length:=by rw[←N];exact qy f
   obtain⟨v,h1,D,C⟩:=a.cell j o (b.get j)[o] ae (wj I);rw[z];exact⟨v,h1,D,(VR.fgT (O o _ c (wj I) f) C).ar (d.ar _ _ _)⟩
 .rcases x with rfl|⟨q,_⟩
  .exact a.flat A j k c B
  .rw[q] at A;cases A
section
variable {P:Program} {Gl:V9} {aa:Wa} {nt:Nat}
def am.Q2{l:Wa}{k:Nat}{vs:JO}{h h2:qa}(x:fZ h h2):am Gl aa nt l k vs h vs h2:=by
 intro g a w g0 I H _ _ B f;have r:=x.ar w g.U g.φ;have D:∀t,(qB l vs h2).at t=(qB l vs h).at t:=λt=>rfl;refine⟨g,⟨f.hr.Q2 x,f.defers,f.size,f.nt,λt j=>by rw[D];exact(f.tmps t j).ar r,λt j cells C=>?_,λd t o h=>(by cases h),f.dU,λd t o h=>(by cases h)⟩,B.trans ⟨r,wc _,λ_ _=>rfl,rfl,rfl,.refl _,λ_ _ _=>rfl,rfl,λ_ h=>.inl h,λ_ h=>h⟩,.refl g⟩;obtain⟨cb,s,e,i⟩:=f.eA t j cells C;refine⟨cb,s,e,i.ptr,i.own,i.heap,i.len,λo c A=>?_⟩;obtain⟨u,h1,z,E⟩:=i.cell o c A;exact⟨u,h1,z,E.ar r⟩
end
def fZ.one{p q:qa}{b b2:aq}(h1:b2.mp=b.mp/\b2.aj=b.aj/\b2.sz=b.sz/\b2.n=b.n)(f:b2.flat=false)(g:∀j,j<b.n->(b2.get j).length=(b.get j).length/\∀(o:Nat) c d,(b.get j)[o]?=some c->(b2.get j)[o]?=some d->Q1 (p++b::q) c d):fZ (p++b::q) (p++b2::q):=by
 refine⟨au,λi x y hx a=>?_⟩;rcases Nat.lt_trichotomy i p.length with c|c|c
 .rw[wx c] at hx a;rw[hx] at a;obtain rfl:=wa a;exact⟨rfl,rfl,rfl,rfl,.inl rfl⟩
 .subst c;rw[wH (wc _),wW] at hx a;obtain rfl:b=x:=wa hx;obtain rfl:b2=y:=wa a;exact⟨h1.1,h1.2.1,h1.2.2.1,h1.2.2.2,.inr ⟨f,g⟩⟩
 .rw[wH ae] at hx a;obtain⟨k,e⟩:∃k,i-p.length=k+1:=⟨i-p.length-1,ae⟩;rw[e] at hx a;have hx:q[k]?=some x:=hx;have a:q[k]?=some y:=a;rw[hx] at a;obtain rfl:=wa a;exact⟨rfl,rfl,rfl,rfl,.inl rfl⟩
def G8(x y:T):Prop:=x=y∨∃l m,x = .ah l/\y = .ah m/\l.length=m.length/\∀(i:Nat) a b,l[i]?=some a->m[i]?=some b->a=b∨b = .undef
def G8.refl(x:T):G8 x x:=.inl rfl
inductive oz:JO->JO->Prop
 |nil:oz [] []
 |cons {x y:T} {l m:JO} (h:G8 x y) (t:oz l m):oz (x::l) (y::m)
def oz.len{l m:JO}(h:oz l m):l.length=m.length:=by
 induction h with
 |nil=>rfl
 |cons _ _ a=>simp[a]
def oz.get{l m:JO}(h:oz l m):∀(i:Nat) x y,l[i]?=some x->m[i]?=some y->G8 x y:=by
 induction h with
 |nil=>intro i x y hx;simp at hx
 |cons h _ d =>
  intro i x y hx a;cases i with
  |zero =>
   obtain rfl:_=x:=by simpa using hx
   obtain rfl:_=y:=by simpa using a
   exact h
  |succ i=>exact d i x y (by simpa using hx) (by simpa using a)
def am.fgR{Gl:V9}{aa:Wa}{nt:Nat}{l:Wa}{k:Nat}{vs dE:JO}{h:qa}(C:oz vs dE):am Gl aa nt l k vs h dE h:=by
 intro g a w g0 R Q _ _ M f;have E:∀t,G8 ((qB l vs h).at t) ((qB l dE h).at t):=by
  intro t;unfold St.at
  cases i:Nat.blt t 1024 with
  |false=>exact .refl _
  |true =>
   simp only[wm];exact kQ l vs dE .nil .nil C.len C.get (λ_ _=>.refl _) t (Qb i)
 refine⟨g,⟨f.hr,f.defers,f.size,f.nt,λt i=>?_,λt i cells s=>?_,λd t o h=>(by cases h),f.dU,λd t o h=>(by cases h)⟩,M,.refl g⟩
 .rcases E t with e|⟨r,B,x,J,_⟩
  .rw[←e];exact f.tmps t i
  .exact absurd (x▸f.tmps t i) VR.dP
 .rcases E t with e|⟨r,B,x,J,I,O⟩
  .exact f.eA t i cells (by rw[e];exact s)
  .rw[J] at s;obtain rfl:B=cells:=by simpa using s
   obtain⟨cb,z,e,j⟩:=f.eA t i r x;refine⟨cb,z,e,j.ptr,j.own,j.heap,by rw[←I];exact j.len,λo c A=>?_⟩;have D:o<r.length:=by rw[I];exact qy A
   obtain⟨u,h1,H,N⟩:=j.cell o _ (wj D);rcases O o _ c (wj D) A with q|q
   .exact⟨u,h1,H,q▸N⟩
   .exact⟨u,h1,H,by rw[q];exact .aH _ _ (.undef u)⟩
def oz.Ue{x:T}{l m:List T}(h:oz l m):oz (x::l) (x::m):=.cons (.refl _) h
def rj(i n:Nat)(x:T):T :=
 match x with
 |.own m aj a len cap=>bif m==i then(bif cap.isNone&&Nat.ble (a+len) n then .own m aj a len cap else .undef) else .own m aj a len cap
 |.ptr m aj q o=>.ptr m aj q o
 |.mp m aj=>.mp m aj
 |x=>bif aH x then x else .undef
def sk(i n:Nat)(x:T):T :=
 match x with
 |.agg l=>.agg (l.map (rj i n))
 |.ah l=>.ah (l.map (rj i n))
 |x=>rj i n x
def iE(i n:Nat)(b:aq):aq:=bif b.flat then b else { b with get:=λe=>(b.get e).map (rj i n) }
def W5(i n:Nat)(b:aq)(h:qa):qa:=(h.map (iE i n)).set i { iE i n b with n:=n }
def Xa(i n:Nat)(b:aq):(iE i n b).aj=b.aj/\(iE i n b).sz=b.sz/\(iE i n b).n=b.n/\(iE i n b).flat=b.flat/\(iE i n b).mp=b.mp:=by
 unfold iE;cases h:b.flat<;>simp[h]
def qqp{i n:Nat}{x:T}{cells:JO}(hx:sk i n x = .ah cells):∃m,x = .ah m/\cells=m.map (rj i n):=by
 cases x with
 |ah m=>simp only[sk,T.ah.injEq] at hx;exact⟨m,rfl,hx.symm⟩
 |agg l=>cases hx
 |own m aj a len cap =>
  simp only[sk,rj] at hx;cases h1:m==i<;>rw[h1] at hx
  .cases hx
  .revert hx;cases (cap.isNone&&Nat.ble (a+len) n)<;>intro hx<;>cases hx
 |ptr m aj q o=>cases hx
 |mp m aj=>cases hx
 |_=>simp only[sk,rj] at hx;revert hx;cases aH _<;>intro hx<;>cases hx
section
variable {P:Program} {Gl:V9} {aa:Wa} {nt:Nat}
def am.shrink{l:Wa}{k:Nat}{vs:JO}{h:qa}(i n:Nat){bi:aq}(hki:k<=i)(V:h[i]?=some bi)(I:bi.mp=none)(hn:n<=bi.n) :
 am Gl aa nt l k vs h (vs.map (sk i n)) (W5 i n bi h):=by
 intro g a w g0 h0 w0 hk iC D N;have hr:=N.hr;simp only[qB] at hr
 let A:=W5 i n bi h
 have f:=Xa i n;have X:∀m,m≠i->∀b,h[m]?=some b->A[m]?=some (iE i n b):=λm aZ b j=>by
  show((h.map _).set i _)[m]?=_;rw[wV (λe=>aZ e.symm),wE,j];rfl
 have tI:A[i]?=some { iE i n bi with n:=n }:=by
  show((h.map _).set i _)[i]?=_;rw[wP (by rw[wQ];exact qy V)]
 have bc:A.length=h.length:=by show((h.map _).set i _).length=_;rw[xM,wQ]
 have m5:∀m B,A[m]?=some B->(m=i/\B = { iE i n bi with n:=n })∨(m≠i/\∃b,h[m]?=some b/\B=iE i n b):=λm B j=>by
  by_cases e:m=i
  .subst e;rw[tI] at j;exact .inl ⟨rfl,(wa j).symm⟩
  .have I:m<h.length:=by have:=qy j;omega
   have gk:h[m]?=some (h[m]'I):=wj I;rw[X m e _ gk] at j;exact .inr ⟨e,_,gk,(wa j).symm⟩
 have Bi:eE w g.U w g.U:=λb j=>⟨j,rfl⟩;have iW:∀x v,g.VR h w x v->g.VR A w (rj i n x) v:=by
  intro x v hx;have other:rj i n x=(bif aH x then x else .undef)->g.VR A w (rj i n x) v:=λe=>by
   rw[e];cases hi:aH x with
   |true=>exact .aH _ _ ((ZM hi hx).ar Bi)
   |false=>exact .aH _ _ (.undef v)
  cases x with
  |own m aj z len cap =>
   obtain⟨b,j,J,h1,r⟩:=hx.cW;by_cases c:m=i
   .obtain rfl:b=bi:=by rw[c,V] at j;exact(wa j).symm
    cases s:(cap.isNone&&Nat.ble (z+len) n) with
    |false =>
     have e:rj i n (.own m aj z len cap) = .undef:=by
      show(bif m==i then(bif _ then _ else _) else _)=_;rw[show(m==i)=true by simpa using c,s];rfl
     rw[e];exact .aH _ _ (.undef v)
    |true =>
     have e:rj i n (.own m aj z len cap) = .own m aj z len cap:=by
      show(bif m==i then(bif _ then _ else _) else _)=_;rw[show(m==i)=true by simpa using c,s];rfl
     rw[e];simp only[wg] at s;have pW:z+len<=n:=xu s.2;have hc1:cap=none:=by cases cap<;>first|rfl|cases s.1
     refine .own _ _ _ _ _ _ _ (by rw[c];exact tI) (by show aj<=(iE i n b).aj;rw[(f b).1];exact J) h1 λev=>?_;have ev:(iE i n b).aj=aj:=ev;rw[(f b).1] at ev;rcases r ev with⟨cb,C,cc,ad,Q,O,es,so,e3,e4,e5,e6,e7⟩|⟨M,S,q3⟩
     .exact .inl ⟨cb,C,cc,ad,Q,O,es,by show 0<cc->ad=⟨cb,C+z*(iE i n b).sz,none⟩;rw[(f b).2.1];exact so,e3,λm I=>(by rw[hc1] at I;cases I),pW,by show room w cb (C+(z+cc)*(iE i n b).sz);rw[(f b).2.1];exact e6,λfL=>wN hn (e7 fL)⟩
     .exact .inr ⟨M,by show n=0;omega,q3⟩
   ·have e:rj i n (.own m aj z len cap) = .own m aj z len cap:=by
     show(bif m==i then _ else _)=_;rw[show(m==i)=false by simpa using c];rfl
    rw[e];refine .own _ _ _ _ _ _ _ (X m c b j) (by rw[(f b).1];exact J) h1 λev=>?_;rw[(f b).1] at ev;rcases r ev with⟨cb,C,cc,ad,Q,O,es,so,e3,e4,e5,e6,e7⟩|⟨M,S,q3⟩
    .exact .inl ⟨cb,C,cc,ad,Q,O,es,by rw[(f b).2.1];exact so,e3,by rw[(f b).2.2.1];exact e4,by rw[(f b).2.2.1];exact e5,by rw[(f b).2.1];exact e6,by rw[(f b).2.2.1];exact e7⟩
    .exact .inr ⟨M,by rw[(f b).2.2.1];exact S,q3⟩
  |ptr m aj q o =>
   obtain⟨b,j,J,h1,r⟩:=hx.cX;show g.VR A w (.ptr m aj q o) v;by_cases c:m=i
   .obtain rfl:b=bi:=by rw[c,V] at j;exact(wa j).symm
    refine .ptr _ _ _ _ _ _ (by rw[c];exact tI) (by show aj<=(iE i n b).aj;rw[(f b).1];exact J) h1 λev=>?_;have ev:(iE i n b).aj=aj:=ev;rw[(f b).1] at ev;obtain⟨cb,C,Q,O⟩:=r ev;exact⟨cb,C,Q,by show v = .pointer (some ⟨cb,C+q*(iE i n b).sz+o,none⟩);rw[(f b).2.1];exact O⟩
   .refine .ptr _ _ _ _ _ _ (X m c b j) (by rw[(f b).1];exact J) h1 λev=>?_;rw[(f b).1] at ev;obtain⟨cb,C,Q,O⟩:=r ev;exact⟨cb,C,Q,by rw[(f b).2.1];exact O⟩
  |mp m aj =>
   obtain⟨b,j,J,h1,r⟩:=hx.iH;show g.VR A w (.mp m aj) v;by_cases c:m=i
   .obtain rfl:b=bi:=by rw[c,V] at j;exact(wa j).symm
    refine .mp _ _ _ _ (by rw[c];exact tI) (by show aj<=(iE i n b).aj;rw[(f b).1];exact J) h1 λev=>?_;have ev:(iE i n b).aj=aj:=ev;rw[(f b).1] at ev;exact r ev
   .refine .mp _ _ _ _ (X m c b j) (by rw[(f b).1];exact J) h1 λev=>?_;rw[(f b).1] at ev;exact r ev
  |_=>exact other rfl
 have hv:∀x v,g.VR h w x v->g.VR A w (sk i n x) v:=by
  intro x v hx;cases x with
  |agg m =>
   obtain⟨cs,rfl,hl,h1,s⟩:=hx.bM;refine VR.dc (by simpa using hl) h1 (λe c hi=>?_);obtain⟨Y,h0,rfl⟩:=QE hi;obtain⟨u,hu,dm⟩:=s e Y h0;exact⟨u,hu,iW _ _ dm⟩
  |ah m=>exact absurd hx VR.dP
  |_=>exact iW _ _ hx
 have ey:∀(m:Nat) (b B:aq),h[m]?=some b->b.mp=none->B.sz=b.sz->B.n<=b.n->B.flat=b.flat->(B.get=(iE i n b).get) →
  (∃cb C E e,mO w g A m B cb C E e)∨(g.φ m=none/\B.n=0):=by
  intro m b B j cC z1 z2 z3 z4;rcases hr.dh m b j cC with⟨cb,C,E,e,r⟩|⟨M,S⟩
  rotate_left
  .exact .inr ⟨M,ae⟩
  refine .inl ⟨cb,C,E,e,r.φ,r.own,r.heap,by rw[z1];exact wN (xC (wJ _ z2) C) r.room,λq H=>?_,λq o c H s=>?_,λR q H c s=>?_⟩
  .rw[z1,z4,←r.len q ae];unfold iE;cases b.flat<;>simp
  .rw[z1];rw[z4] at s;cases R:b.flat with
   |true =>
    have:(iE i n b).get q=b.get q:=by unfold iE;rw[R];rfl
    rw[this] at s;obtain⟨v,h1,A,W⟩:=r.cell q o c ae s;exact⟨v,h1,A,.aH _ _ (Zp (r.flat R q ae c (wo s)) W)⟩
   |false =>
    have:(iE i n b).get q=(b.get q).map (rj i n):=by unfold iE;rw[R];rfl
    rw[this] at s;obtain⟨Y,pv,rfl⟩:=QE s;obtain⟨v,h1,A,W⟩:=r.cell q o Y ae pv;exact⟨v,h1,A,iW _ _ W⟩
  .rw[z3] at R;rw[z4] at s;have:(iE i n b).get q=b.get q:=by unfold iE;rw[R];rfl
   rw[this] at s;exact r.flat R q ae c s
 have v7:HR g A w:=by
  refine⟨λm B dK iM=>?_,hr.u,hr.own,hr.base,hr.cells,λb m ho=>by rw[bc];exact hr.lt b m ho,λm B q dK H=>?_⟩
  .rcases m5 m B dK with⟨rfl,rfl⟩|⟨aZ,b,j,rfl⟩
   .exact ey m bi _ V I (f bi).2.1 hn (f bi).2.2.2.1 rfl
   .have e:=f b;exact ey m b _ j (e.2.2.2.2.symm.trans iM) e.2.1 (by rw[e.2.2.1];exact wc _) e.2.2.2.1 rfl
  .rcases m5 m B dK with⟨rfl,rfl⟩|⟨aZ,b,j,rfl⟩
   .have H:(iE m n bi).mp=some q:=H;rw[(f bi).2.2.2.2,I] at H;cases H
   .exact hr.mp m b q j ((f b).2.2.2.2.symm.trans H)
 refine⟨g,⟨v7,N.defers,N.size,N.nt,λt ht=>?_,λt ht cells s=>?_,λd t o hh=>(by cases hh),N.dU,λd t o hh=>(by cases hh)⟩,?_,.refl g⟩
 .rw[zD (sk i n) rfl l vs h];exact hv _ _ (N.tmps t ht)
 .rw[zD (sk i n) rfl l vs h] at s;obtain⟨m,hx,rfl⟩:=qqp s;obtain⟨cb,E,e,r⟩:=N.eA t ht m hx;refine⟨cb,E,e,r.ptr,r.own,r.heap,by rw[wQ];exact r.len,λo c pW=>?_⟩;obtain⟨Y,pv,rfl⟩:=QE pW;obtain⟨u,h1,A,W⟩:=r.cell o Y pv;exact⟨u,h1,A,iW _ _ W⟩
 .refine⟨⟨D.ar.u,λm b j=>?_,D.ar.rm⟩,D.size,D.own,D.os,D.tape,D.output,D.same,D.bs,D.u,D.u'⟩;obtain⟨Z,dH,M,S⟩:=D.ar.ey m b j;have pY:m<k:=vd (qy j) hk;refine⟨_,X m ae Z dH,by rw[(f Z).1];exact M,λev=>?_⟩;rw[(f Z).1] at ev;obtain⟨r1,r2,r3⟩:=S ev;exact⟨by rw[(f Z).2.1];exact r1,by rw[(f Z).2.2.1];exact r2,r3⟩
end
def Xc:∀(n i s:Nat),s<=i->i<s+n->QU (List.range' s n) i=some (i-s)
 |0,i,s,h1,a=>by omega
 |n+1,i,s,h1,a=>by
  show(bif s==i then some 0 else(QU (List.range' (s+1) n) i).map (·+1))=_;by_cases c:s=i
  .rw[show(s==i)=true by simpa using c,c,wW];rfl
  .rw[show(s==i)=false by simpa using c,Xc n i (s+1) ae ae];show some (i-(s+1)+1)=_;congr 1;omega
def Q6{n i:Nat}(h:i<n):QU (List.range n) i=some i:=by
 rw[List.range_eq_range',Xc n i 0 (wR _) ae];rfl
def Q7{n:Nat}{h:qa}{x:T}(hx:cu n x=true):qJ (List.range n) h x=x:=by
 cases x with
 |own i aj d len cap=>simp only[qJ,Q6 (show i<n by simpa [cu] using hx)]
 |ptr i aj j o=>simp only[qJ,Q6 (show i<n by simpa [cu] using hx)]
 |mp i aj=>simp only[qJ,Q6 (show i<n by simpa [cu] using hx)]
 |fn f a =>
  have hx:a.isEmpty=true:=hx;obtain rfl:a=[]:=xQ.1 hx;rfl
 |_=>first|rfl|(simp[cu,zK] at hx;done)
def qoA{n:Nat}{h:qa}{x:T}(hx:low n x=true):mV (List.range n) h x=x:=by
 have d:∀y,cu n y=true->qJ (List.range n) h y=y:=λ_=>Q7;have key:∀l:JO,l.all (cu n)=true->l.map (qJ (List.range n) h)=l:=λl e=>by
  have:l.map (qJ (List.range n) h)=l.map id:=va λa g=>Q7 (wA.1 e a g);rw[this,xP]
 cases x with
 |agg l=>show T.agg _=_;rw[key l hx]
 |ah l=>show T.ah _=_;rw[key l hx]
 |fn f l=>show T.fn f _=_;rw[key l hx]
 |_=>(simp only[mV];exact d _ hx)
def fg(n:Nat)(b:aq):Prop:=b.flat=true∨∀j,j<b.n->∀c∈b.get j,cu n c=true
def am.DL{Gl:V9}{aa:Wa}{nt:Nat}{l:Wa}{k:Nat}{vs aS:JO}{p z:qa}{n:Nat}(hp:p.length=n)(H:k<=n)(u:zn k (List.range n) (p++z)=true)(s:vs.map (mV (List.range n) (p++z))=aS)(D:∀b∈p,fg n b):am Gl aa nt l k vs (p++z) aS p:=by
 refine am.bZ (List.range n) u s rfl ⟨?_,λi b d h1 o=>?_⟩
 .obtain⟨x,_⟩:=yO (l:=List.range n) (f:=λi=>((p++z)[i]?).map (QJ (List.range n) (p++z))) λi e=>⟨_,by rw[wj (by rw[wD];have:=vQ.1 e;omega)];rfl⟩;show _=(List.filterMap _ _).length;rw[x,xt,hp]
 .obtain⟨_,B⟩:=yO (l:=List.range n) (f:=λi=>((p++z)[i]?).map (QJ (List.range n) (p++z))) λi e=>⟨_,by rw[wj (by rw[wD];have:=vQ.1 e;omega)];rfl⟩;have e:i<n:=by have:=qy o;omega
  have h1:(List.filterMap (λi=>((p++z)[i]?).map (QJ (List.range n) (p++z))) (List.range n))[i]?=some b:=h1;rw[B,vW e] at h1;have h1:((p++z)[i]?).map (QJ (List.range n) (p++z))=some b:=h1;rw[wx ae,o] at h1;obtain rfl:QJ (List.range n) (p++z) d=b:=wa h1;have r:=D d (wo o);unfold QJ;rcases r with g|C
  .rw[g];exact⟨rfl,rfl,rfl,rfl,λ_=>.inl g,λ_ _=>rfl⟩
  .cases g:d.flat with
   |true=>exact⟨rfl,rfl,rfl,rfl,λ_=>.inl g,λ_ _=>rfl⟩
   |false =>
    refine⟨rfl,rfl,rfl,rfl,λh=>(by cases h),λj A=>?_⟩;show d.get j=(d.get j).map _;have:(d.get j).map (qJ (List.range n) (p++z))=(d.get j).map id:=va λa E=>Q7 (C j A a E);rw[this,xP]
def am.DM{Gl:V9}{aa:Wa}{nt:Nat}{l:Wa}{k:Nat}{vs:JO}{p z:qa}{n:Nat}(hp:p.length=n)(f:k<=n)(e:zn k (List.range n) (p++z)=true)(d:∀x∈vs,low n x=true)(g:∀b∈p,fg n b):am Gl aa nt l k vs (p++z) vs p:=by
 refine am.DL hp f e ?_ g;have:vs.map (mV (List.range n) (p++z))=vs.map id:=va λa i=>qoA (d a i);rw[this,xP]
def mw(i o n:Nat)(x:T):T :=
 match x with
 |.own m aj a len cap=>bif m==i then(bif aj==o then .own m n a len cap else .undef) else .own m aj a len cap
 |.ptr m aj q f=>bif m==i then .undef else .ptr m aj q f
 |.mp m aj=>bif m==i then .undef else .mp m aj
 |x=>bif aH x then x else .undef
def rv(i o n:Nat)(x:T):T :=
 match x with
 |.agg l=>.agg (l.map (mw i o n))
 |.ah l=>.ah (l.map (mw i o n))
 |x=>mw i o n x
def iF(i o n:Nat)(b:aq):aq:=bif b.flat then b else { b with get:=λe=>(b.get e).map (mw i o n) }
def Xt(i o n:Nat)(b:aq)(h:qa):qa:=(h.map (iF i o n)).set i { iF i o n b with aj:=n }
def Xu(i o n:Nat)(b:aq):(iF i o n b).aj=b.aj/\(iF i o n b).sz=b.sz/\(iF i o n b).n=b.n/\(iF i o n b).flat=b.flat/\(iF i o n b).mp=b.mp:=by
 unfold iF;cases h:b.flat<;>simp[h]
def qqx{i o n:Nat}{x:T}{cells:JO}(hx:rv i o n x = .ah cells):∃m,x = .ah m/\cells=m.map (mw i o n):=by
 cases x with
 |ah m=>simp only[rv,T.ah.injEq] at hx;exact⟨m,rfl,hx.symm⟩
 |agg l=>cases hx
 |own m aj a len cap =>
  simp only[rv,mw] at hx;cases h1:m==i<;>rw[h1] at hx
  .cases hx
  .revert hx;cases (aj==o)<;>intro hx<;>cases hx
 |ptr m aj q f=>simp only[rv,mw] at hx;cases h1:m==i<;>rw[h1] at hx<;>cases hx
 |mp m aj=>simp only[rv,mw] at hx;cases h1:m==i<;>rw[h1] at hx<;>cases hx
 |_=>simp only[rv,mw] at hx;revert hx;cases aH _<;>intro hx<;>cases hx
section
variable {P:Program} {Gl:V9} {aa:Wa} {nt:Nat}
def am.CO{l:Wa}{k:Nat}{vs:JO}{h:qa}(i n:Nat){ov:Nat}{bi:aq}(hki:k<=i)(oJ:h[i]?=some bi)(Q:bi.mp=none)(hn:bi.aj=ov) :
 am Gl aa nt l k vs h (vs.map (rv i ov n)) (Xt i ov n bi h):=by
 intro g a w g0 h0 w0 hk iC E M;have hr:=M.hr;simp only[qB] at hr
 let C:=Xt i ov n bi h
 have j:=Xu i ov n;have S:∀m,m≠i->∀b,h[m]?=some b->C[m]?=some (iF i ov n b):=λm aZ b r=>by
  show((h.map _).set i _)[m]?=_;rw[wV (λe=>aZ e.symm),wE,r];rfl
 have tI:C[i]?=some { iF i ov n bi with aj:=n }:=by
  show((h.map _).set i _)[i]?=_;rw[wP (by rw[wQ];exact qy oJ)]
 have bc:C.length=h.length:=by show((h.map _).set i _).length=_;rw[xM,wQ]
 have m5:∀m A,C[m]?=some A->(m=i/\A = { iF i ov n bi with aj:=n })∨(m≠i/\∃b,h[m]?=some b/\A=iF i ov n b):=λm A r=>by
  by_cases e:m=i
  .subst e;rw[tI] at r;exact .inl ⟨rfl,(wa r).symm⟩
  .have Q:m<h.length:=by have:=qy r;omega
   have gk:h[m]?=some (h[m]'Q):=wj Q;rw[S m e _ gk] at r;exact .inr ⟨e,_,gk,(wa r).symm⟩
 have Bi:eE w g.U w g.U:=λb r=>⟨r,rfl⟩;have iW:∀x v,g.VR h w x v->g.VR C w (mw i ov n x) v:=by
  intro x v hx;have other:mw i ov n x=(bif aH x then x else .undef)->g.VR C w (mw i ov n x) v:=λe=>by
   rw[e];cases hi:aH x with
   |true=>exact .aH _ _ ((ZM hi hx).ar Bi)
   |false=>exact .aH _ _ (.undef v)
  cases x with
  |own m aj z len cap =>
   obtain⟨b,r,Z,h1,s⟩:=hx.cW;by_cases c:m=i
   .obtain rfl:b=bi:=by rw[c,oJ] at r;exact(wa r).symm
    by_cases d:aj=ov
    ·have e:mw i ov n (.own m aj z len cap) = .own m n z len cap:=by
      show(bif m==i then(bif aj==ov then _ else _) else _)=_;rw[show(m==i)=true by simpa using c,show(aj==ov)=true by simpa using d];rfl
     rw[e];refine .own _ _ _ _ _ _ _ (by rw[c];exact tI) (wc _) h1 λ_=>?_;rcases s (hn.trans d.symm) with⟨cb,D,cc,ad,W,V,es,so,e3,e4,e5,e6,e7⟩|⟨J,O,q3⟩
     .exact .inl ⟨cb,D,cc,ad,W,V,es,by show 0<cc->ad=⟨cb,D+z*(iF i ov n b).sz,none⟩;rw[(j b).2.1];exact so,e3,by show ∀m,cap=some m->cc=m/\z+m<=(iF i ov n b).n;rw[(j b).2.2.1];exact e4,by show z+len<=(iF i ov n b).n;rw[(j b).2.2.1];exact e5,by show room w cb (D+(z+cc)*(iF i ov n b).sz);rw[(j b).2.1];exact e6,by show cap=none->(iF i ov n b).n<=z+cc;rw[(j b).2.2.1];exact e7⟩
     .exact .inr ⟨J,by show(iF i ov n b).n=0;rw[(j b).2.2.1];exact O,q3⟩
    ·have e:mw i ov n (.own m aj z len cap) = .undef:=by
      show(bif m==i then(bif aj==ov then _ else _) else _)=_;rw[show(m==i)=true by simpa using c,show(aj==ov)=false by simpa using d];rfl
     rw[e];exact .aH _ _ (.undef v)
   ·have e:mw i ov n (.own m aj z len cap) = .own m aj z len cap:=by
     show(bif m==i then _ else _)=_;rw[show(m==i)=false by simpa using c];rfl
    rw[e];refine .own _ _ _ _ _ _ _ (S m c b r) (by rw[(j b).1];exact Z) h1 λev=>?_;rw[(j b).1] at ev;rcases s ev with⟨cb,D,cc,ad,W,V,es,so,e3,e4,e5,e6,e7⟩|⟨J,O,q3⟩
    .exact .inl ⟨cb,D,cc,ad,W,V,es,by rw[(j b).2.1];exact so,e3,by rw[(j b).2.2.1];exact e4,by rw[(j b).2.2.1];exact e5,by rw[(j b).2.1];exact e6,by rw[(j b).2.2.1];exact e7⟩
    .exact .inr ⟨J,by rw[(j b).2.2.1];exact O,q3⟩
  |ptr m aj q f =>
   obtain⟨b,r,Z,h1,s⟩:=hx.cX;by_cases c:m=i
   ·have e:mw i ov n (.ptr m aj q f) = .undef:=by
     show(bif m==i then _ else _)=_;rw[show(m==i)=true by simpa using c];rfl
    rw[e];exact .aH _ _ (.undef v)
   ·have e:mw i ov n (.ptr m aj q f) = .ptr m aj q f:=by
     show(bif m==i then _ else _)=_;rw[show(m==i)=false by simpa using c];rfl
    rw[e];refine .ptr _ _ _ _ _ _ (S m c b r) (by rw[(j b).1];exact Z) h1 λev=>?_;rw[(j b).1] at ev;obtain⟨cb,D,W,V⟩:=s ev;exact⟨cb,D,W,by rw[(j b).2.1];exact V⟩
  |mp m aj =>
   obtain⟨b,r,Z,h1,s⟩:=hx.iH;by_cases c:m=i
   ·have e:mw i ov n (.mp m aj) = .undef:=by
     show(bif m==i then _ else _)=_;rw[show(m==i)=true by simpa using c];rfl
    rw[e];exact .aH _ _ (.undef v)
   ·have e:mw i ov n (.mp m aj) = .mp m aj:=by
     show(bif m==i then _ else _)=_;rw[show(m==i)=false by simpa using c];rfl
    rw[e];refine .mp _ _ _ _ (S m c b r) (by rw[(j b).1];exact Z) h1 λev=>?_;rw[(j b).1] at ev;exact s ev
  |_=>exact other rfl
 have hv:∀x v,g.VR h w x v->g.VR C w (rv i ov n x) v:=by
  intro x v hx;cases x with
  |agg m =>
   obtain⟨cs,rfl,hl,h1,B⟩:=hx.bM;refine VR.dc (by simpa using hl) h1 (λe c hi=>?_);obtain⟨X,h0,rfl⟩:=QE hi;obtain⟨u,hu,dm⟩:=B e X h0;exact⟨u,hu,iW _ _ dm⟩
  |ah m=>exact absurd hx VR.dP
  |_=>exact iW _ _ hx
 have ey:∀(m:Nat) (b A:aq),h[m]?=some b->b.mp=none->A.sz=b.sz->A.n<=b.n->A.flat=b.flat->(A.get=(iF i ov n b).get) →
  (∃cb D H e,mO w g C m A cb D H e)∨(g.φ m=none/\A.n=0):=by
  intro m b A r cC z1 z2 z3 z4;rcases hr.dh m b r cC with⟨cb,D,H,e,s⟩|⟨J,O⟩
  rotate_left
  .exact .inr ⟨J,ae⟩
  refine .inl ⟨cb,D,H,e,s.φ,s.own,s.heap,by rw[z1];exact wN (xC (wJ _ z2) D) s.room,λq I=>?_,λq o c I B=>?_,λN q I c B=>?_⟩
  .rw[z1,z4,←s.len q ae];unfold iF;cases b.flat<;>simp
  .rw[z1];rw[z4] at B;cases N:b.flat with
   |true =>
    have:(iF i ov n b).get q=b.get q:=by unfold iF;rw[N];rfl
    rw[this] at B;obtain⟨v,h1,C,R⟩:=s.cell q o c ae B;exact⟨v,h1,C,.aH _ _ (Zp (s.flat N q ae c (wo B)) R)⟩
   |false =>
    have:(iF i ov n b).get q=(b.get q).map (mw i ov n):=by unfold iF;rw[N];rfl
    rw[this] at B;obtain⟨X,pv,rfl⟩:=QE B;obtain⟨v,h1,C,R⟩:=s.cell q o X ae pv;exact⟨v,h1,C,iW _ _ R⟩
  .rw[z3] at N;rw[z4] at B;have:(iF i ov n b).get q=b.get q:=by unfold iF;rw[N];rfl
   rw[this] at B;exact s.flat N q ae c B
 have v7:HR g C w:=by
  refine⟨λm A dK iM=>?_,hr.u,hr.own,hr.base,hr.cells,λb m ho=>by rw[bc];exact hr.lt b m ho,λm A q dK I=>?_⟩
  .rcases m5 m A dK with⟨rfl,rfl⟩|⟨aZ,b,r,rfl⟩
   .exact ey m bi _ oJ Q (j bi).2.1 (by show(iF m ov n bi).n<=bi.n;rw[(j bi).2.2.1];exact wc _) (j bi).2.2.2.1 rfl
   .have e:=j b;exact ey m b _ r (e.2.2.2.2.symm.trans iM) e.2.1 (by rw[e.2.2.1];exact wc _) e.2.2.2.1 rfl
  .rcases m5 m A dK with⟨rfl,rfl⟩|⟨aZ,b,r,rfl⟩
   .have I:(iF m ov n bi).mp=some q:=I;rw[(j bi).2.2.2.2,Q] at I;cases I
   .exact hr.mp m b q r ((j b).2.2.2.2.symm.trans I)
 refine⟨g,⟨v7,M.defers,M.size,M.nt,λt ht=>?_,λt ht cells B=>?_,λd t o hh=>(by cases hh),M.dU,λd t o hh=>(by cases hh)⟩,?_,.refl g⟩
 .rw[zD (rv i ov n) rfl l vs h];exact hv _ _ (M.tmps t ht)
 .rw[zD (rv i ov n) rfl l vs h] at B;obtain⟨m,hx,rfl⟩:=qqx B;obtain⟨cb,H,e,s⟩:=M.eA t ht m hx;refine⟨cb,H,e,s.ptr,s.own,s.heap,by rw[wQ];exact s.len,λo c pW=>?_⟩;obtain⟨X,pv,rfl⟩:=QE pW;obtain⟨u,h1,C,R⟩:=s.cell o X pv;exact⟨u,h1,C,iW _ _ R⟩
 .refine⟨⟨E.ar.u,λm b r=>?_,E.ar.rm⟩,E.size,E.own,E.os,E.tape,E.output,E.same,E.bs,E.u,E.u'⟩;obtain⟨Y,dH,J,O⟩:=E.ar.ey m b r;have pY:m<k:=vd (qy r) hk;refine⟨_,S m ae Y dH,by rw[(j Y).1];exact J,λev=>?_⟩;rw[(j Y).1] at ev;obtain⟨r1,r2,r3⟩:=O ev;exact⟨by rw[(j Y).2.1];exact r1,by rw[(j Y).2.2.1];exact r2,r3⟩
end
def Ms(cells:JO):aq:=⟨0,cells.length,1,λ_=>cells,cells.all qG,false,none⟩
def Mt(t:Nat)(cells:JO)(s:St):St:={ env:=s.env.set QQ t (.ptr s.h.length 0 0 0),loc:=λ_=>none,used:=λ_=>false,h:=s.h++[Ms cells] }
def HN(aa:Wa)(t:Nat):Wa:=aa.filter λx=>!(x==t)
def ka:Wa->Wa->Wa
 |aa,[]=>aa
 |aa,t::l=>ka (HN aa t) l
def HO:Wa->Wa->St->Option St
 |_,[],s=>some s
 |aa,t::l,s=>match s.at t with
  |.ah cells=>bif aa.contains t then HO (HN aa t) l (Mt t cells s) else none
  |_=>none
section
variable {P:Program} {Gl:V9} {aa gi:Wa} {nt:Nat} {K:bA} {A:FuncId->cq}
def qcm{t u:Nat}:u∈HN aa t↔u∈aa/\u≠t:=by simp[HN]
def qoO{g:Gh}{s:St}{a:Act}{w:World}(H:SR Gl aa nt g s a w){t:Nat}(ht:t∈aa){cells:JO}(E:s.at t = .ah cells) :
 ∃g',SR Gl (HN aa t) nt g' (Mt t cells s) a w/\∀g0 h0 w0,Km g0->cS g0 h0 w0 g s.h w->cS g0 h0 w0 g' (Mt t cells s).h w:=by
 obtain⟨cb,O,e,B⟩:=H.eA t ht cells E;have hr:=H.hr;have W:t<1024:=by
  rcases wt t 1024 with q|q
  .exact q
  .rw[BZ ae] at E;cases E
 let h:=s.h
 let J:aq:=Ms cells
 let g':Gh:={ g with φ:=λk=>if k=h.length then some (cb,0) else g.φ k,own:=λk=>if k=cb then some (.inl h.length) else g.own k }
 have hU:eE w g.U w g.U:=λk r=>⟨r,rfl⟩;have Q:z8 g h w g' (h++[J]) w:=by
  refine⟨hU,λk x hx=>?_,λk n ci=>ci⟩;have r:k<h.length:=by
   rcases wt k h.length with Z|Z
   .exact Z
   .simp[wz Z] at hx
  exact⟨x,by rw[wx r];exact hx,wc _,λ_=>⟨rfl,rfl,by simp[g',vq r]⟩⟩
 have aZ:∀k i,g.own k=some (.inl i)->k≠cb:=by
  rintro k i r rfl;rw[B.own] at r;cases r
 have gr:(h++[J])[h.length]?=some J:=by simp
 have dm:HR g' (h++[J]) w:=by
  refine⟨λk x hx S=>?_,λk r=>?_,λk o C=>?_,hr.base,λk o C=>?_,λk j C=>?_,λk x m hx S=>?_⟩
  .rcases wt k h.length with r|r
   .rw[wx r] at hx;rcases hr.dh k x hx S with⟨R,oW,eZ,e2,I⟩|⟨q1,q2⟩
    .refine .inl ⟨R,oW,eZ,e2,by simp[g',vq r,I.φ],by simp[g',aZ _ _ I.own,I.own],I.heap,I.room,I.len,λj o c Y E=>?_,I.flat⟩;obtain⟨v,h1,z,N⟩:=I.cell j o c Y E;exact⟨v,h1,z,N.ar Q⟩
    .exact .inr ⟨by simp[g',vq r,q1],q2⟩
   ·have gQ:k=h.length:=by
     rcases wt h.length k with h'|h'
     ·rw[wz (by simp;omega)] at hx;simp at hx
     ·omega
    subst gQ;rw[gr] at hx;obtain rfl:=wa hx;refine .inl ⟨cb,0,O,e,by simp[g'],by simp[g'],B.heap,by simpa [J,Ms] using B.len,λj _=>rfl,λj o c Y E=>?_,λhf j _ c E=>wA.1 hf c E⟩;have Ds:j=0:=by simp[J,Ms] at Y;omega
    subst Ds;obtain⟨v,h1,z,N⟩:=B.cell o c E;exact⟨v,by simpa using h1,z,N.ar Q⟩
  ·obtain⟨h1,z⟩:=hr.u k r;have l7:k≠cb:=by
    rintro rfl;rw[B.own] at z;cases z
   exact⟨h1,by simp[g',l7,z]⟩
  .by_cases r:k=cb
   .subst r;exact hr.own _ _ B.own
   .simp only[g',r,ve] at C;exact hr.own k o C
  .by_cases r:k=cb
   .subst r;exact .inl ⟨O,e,B.heap⟩
   .simp only[g',r,ve] at C;exact hr.cells k o C |>.imp id λ⟨i2,es,c,h1,z⟩=>⟨i2,es,c,h1,z⟩
  .rw[wD,xD];by_cases r:k=cb
   .subst r;simp only[g',vH,wi,Sum.inl.injEq] at C;omega
   .simp only[g',r,ve] at C;have:=hr.lt k j C;show j<h.length+1;have:j<h.length:=this;omega
  .rcases wt k h.length with r|r
   .rw[wx r] at hx;obtain⟨c,h1,z,N⟩:=hr.mp k x m hx S;exact⟨c,by simp[g',vq r,h1],by simp[g',aZ _ _ z,z],N⟩
   ·have gQ:k=h.length:=by
     rcases wt h.length k with h'|h'
     ·rw[wz (by simp;omega)] at hx;simp at hx
     ·omega
    subst gQ;rw[gr] at hx;obtain rfl:=wa hx;cases S
 have ed:=λu=>Ef (s:=s) (s':=Mt t cells s) (d:=t) (v:=.ptr h.length 0 0 0) rfl W u;refine⟨g',⟨dm,?_,H.size,H.nt,λu M=>?_,λu M cs F3=>?_,λd t o X=>(by cases X),λgl cs hg=>(H.dU gl cs hg).ar hU,λd t o X=>(by cases X)⟩,λg0 h0 w0 hn f=>?_⟩
 ·obtain⟨p0,l,p1,p2,p3⟩:=H.defers;refine⟨p0,l,p1,p2,λD hD=>?_⟩;obtain⟨r1,V,r3,r4⟩:=p3 D hD;have hD2:D≠cb:=by
   rintro rfl;rw[B.own] at V;cases V
  exact⟨r1,by simp[g',hD2,V],r3,r4⟩
 .rw[ed];by_cases q:u=t
  .subst q;rw[wl rfl];exact .ptr _ _ _ _ J _ gr (wc _) (by rw[B.ptr];rfl) λ_=>⟨cb,0,by simp[g',h],by rw[B.ptr];simp⟩
  .rw[we q];exact(H.tmps u λhm=>M (qcm.2 ⟨hm,q⟩)).ar Q
 ·rw[ed] at F3;obtain⟨M,HP⟩:=qcm.1 M;rw[we HP] at F3;obtain⟨R,eZ,e2,rJ⟩:=H.eA u M cs F3;refine⟨R,eZ,e2,rJ.ar Q ?_ rfl⟩;have:R≠cb:=by
   rintro rfl;have:=rJ.own;rw[B.own] at this;exact HP (by simpa using this.symm)
  simp[g',this]
 ·refine⟨f.ar.trans Q,f.size,λb hb=>?_,f.os,f.tape,f.output,f.same,f.bs,f.u,f.u'⟩;have:b≠cb:=by
   rintro rfl;have:=f.own b hb;rw[B.own] at this;exact hn b t this.symm
  show(if b=cb then _ else g.own b)=_;rw[we this];exact f.own b hb
def qkI:∀(ds:Wa) {aa:Wa} {g:Gh} {s s2:St} {a:Act} {w:World},HO aa ds s=some s2->SR Gl aa nt g s a w →
 ∃g',SR Gl (ka aa ds) nt g' s2 a w/\∀g0 h0 w0,Km g0->cS g0 h0 w0 g s.h w->cS g0 h0 w0 g' s2.h w
 |[],aa,g,s,s2,a,w,d,e=>by
  obtain rfl:=wa d;exact⟨g,e,λ_ _ _ _ f=>f⟩
 |t::l,aa,g,s,s2,a,w,d,e=>by
  simp only[HO] at d;split at d
  .rename_i cells x;obtain⟨u,d⟩:=qm d;obtain⟨g1,r,o⟩:=qoO e (by simpa using u) x;obtain⟨g2,k,j⟩:=qkI l d r;exact⟨g2,k,λg0 h0 w0 i f=>j g0 h0 w0 i (o g0 h0 w0 i f)⟩
  .cases d
def zT(P:Program)(Gl:V9)(aa gi:Wa)(nt:Nat)(h0:qa)(c:Code)(s:St)(e:Ex)(s':St):Prop :=
 ∀(ro:Option Nat) (n:Nat),(qt c=true->ro=none)->∀(g0:Gh) (d:World) (g:Gh) (a:Act) (w:World),HR g0 h0 d->Km g0->cS g0 h0 d g s.h w->SR Gl aa nt g s a w->∀Q:Exit->Act->World->Prop,
  (∀i w' f,SR Gl gi nt f s' i w'->cS g0 h0 d f s'.h w'->Q e.out i w')->c.wpIn (QC ro) n P Q a w
def qlx{h0:qa}{c:Code}{s s':St}{e:Ex}(h:aC P Gl aa nt c s e s'):zT P Gl aa aa nt h0 c s e s' :=
 λro n o _ _ g a w _ _ i d Q f=>h ro n o g a w d Q λu w' j k r _=>f u w' j k (i.trans r)
def qly{h0:qa}{c d:Code}{s s1 s':St}{e:Ex}(h1:aC P Gl aa nt c s .normal s1)(h2:zT P Gl aa gi nt h0 d s1 e s'):zT P Gl aa gi nt h0 (.seq c d) s e s' :=
 λro n f g0 k g a w hr r B x Q z=>wpIn_seq (h1 ro n (λh=>f (by simp[qt,h])) g a w x _ λH j g1 D C _=>h2 ro n (λh=>f (by simp[qt,h])) g0 k g1 H j hr r (B.trans C) D Q λE i g2 u o=>z E i g2 u o)
def qlz{h0:qa}{c:Code}{s d s':St}{e:Ex}{ds:Wa}(x:HO aa ds s=some d)(h:zT P Gl (ka aa ds) gi nt h0 c d e s'):zT P Gl aa gi nt h0 c s e s' :=
 λro n z g0 i g a w hr f u o Q r=>by
  obtain⟨g2,k,j⟩:=qkI ds x o;exact h ro n z g0 i g2 a w hr f (j _ _ _ f u) k Q r
def qjP(hn:QF P=true){f:FuncId}{fn:Func}{c:Code}(g:P.funcs[f]?=some fn)(a:fn.body=some c){args:JO}(N:(Nat.ble fn.ntmps 1024&&Nat.ble args.length fn.ntmps)=true){s':St}(ic:zT P Gl aa gi fn.ntmps [] c (enter args []) .ret s'){r:T}(bB:ZE P Gl gi fn s' (λv=>some (ye s'.h v))=some r):aI P Gl f args r:=by
 obtain⟨rv,C9,Ac⟩:=qH (jl (P:=P) (Gl:=Gl) (aa:=gi) fn s') bB;obtain rfl:=wa C9;simp only[wg] at N;have aY:=Qg N.1;have bv:=Qg N.2;refine⟨⟨fn,g,by rw[a];rfl,?_⟩,λw U aA hU cJ R=>?_⟩
 .have:=xI.1 hn fn (vM g);rw[a] at this;simpa using this
 let g0:Gh:={ U:=U,φ:=λ_=>none,own:=λ_=>none,base:=w.heap.size,low:=0 }
 have hr:HR g0 [] w:=⟨λi b a=>by simp at a,λb a=>⟨hU b a,rfl⟩,λb o s=>(by cases s),wc _,λb o s=>(by cases s),λb i s=>(by cases s),λi b m a=>by simp at a⟩;have Gm:bQ g0 [] w args aA:=⟨R.1,λi x hi=>by
  obtain⟨v,C,j⟩:=R.2 i x hi;exact⟨v,C,.aH _ _ j⟩⟩
 have iA:=SR.enter (Gl:=Gl) (aa:=aa) (wc _) (hr.dX w.heap.size) cJ Gm aY bv;rw[←callsIn_wide (n:=0)];refine callsIn_of_wp_marks g a trivial (ic none 0 (λ_=>rfl) _ w _ _ w (hr.dX w.heap.size) (λb t h=>by cases h) (.refl _ _ _) iA _ λV w' z S d=>?_) rfl;obtain⟨pV,l,J,W,E⟩:=S.defers;replace J:=J.nil d.dt;obtain⟨t1,t2,t3,t4,H⟩:=jI l w';have Z:∀b,z.U b∨z.own b≠none->b∉l:=by
  rintro b a k;obtain⟨C,j,I,q4⟩:=E b k;rcases a with a|a
  .exact I a
  .exact a j
 have Y:∀b n,room w' b n->room (dy l w') b n:=by
  rintro b n ⟨Q,e,h1,O⟩;refine⟨Q,e,?_,O⟩;rw[H b λk=>?_]
  .exact h1
  .have:=(E b k).2.2.2;rw[h1] at this;cases this
 have M:=S.world (w':=dy l w') (ds:=[]) ae (λb a=>H b (Z b a)) Y (Marks.nil ae);obtain⟨x,hk,v,h1,O⟩:=ZN M (Ac T some);obtain rfl:=wa hk;show LeavesInM Fence.wide 0 P fn V.tmps (λe w'=>∃v,e = .returned v/\RV w U (ye s'.h x) v w') V.defers .returning w';rw[J];refine Zq l w' W (λD hD=>(E D hD).2.2.2) ⟨v,h1,v,rfl,?_⟩;have dS:z.base=w.heap.size:=d.base;obtain⟨X,C,j,I⟩:=Kk M.hr (B:=w.heap.size) ae O;refine⟨⟨⟨t2.trans d.os,t3.trans d.tape,(t4.trans d.output).1,by have:=d.size;omega,λb a=>?_⟩,(t4.trans d.output).2⟩,y8 z (dy l w') w.heap.size (ZK x),X,λb a=>.inl ((d.ar.u b a).1),λb a=>?_,j,I,C⟩
 .rw[H b λk=>by have:=(E b k).1;have h4:z.low=w.heap.size:=d.low;omega];exact d.same b a rfl
 .rcases a with a|a
  .exact⟨d.u b a,(M.hr.u b a).1⟩
  .exact⟨.inr a.1,a.2.1⟩
end
section
variable (P:Program) (G:V9) (A:FuncId->cq) (sq:FuncId->JO->Option (List JO))
def kA(K:bA)(aa:Wa)(nt:Nat)(live:Nat->Bool->Wa)(rec:Rec):Nat->Code->St->Option (St×Code)
 |0,c,s=>some (s,c)
 |n+1,.seq a b,s=>match ib P K G aa nt live rec a s (λe s=>some (e,s)) with
  |some (.normal,d)=>kA K aa nt live rec n b d
  |_=>none
 |_,_,_=>none
end
section
variable {P:Program} {Gl:V9} {A:FuncId->cq} {sq:FuncId->JO->Option (List JO)}
def jA(k:P.follows .mixedOrders=true){K:bA}(o:aT P Gl K){aa gi:Wa}{nt:Nat}(u:nt<=1024){live:Nat->Bool->Wa}{rec:Rec}(r:gY P Gl aa nt live (λ_=>True) rec){h0:qa}{e:Ex}{i:St} :
 ∀(n:Nat) {c d:Code} {s s1:St},kA P Gl K aa nt live rec n c s=some (s1,d)->zT P Gl aa gi nt h0 d s1 e i->zT P Gl aa gi nt h0 c s e i
 |0,c,d,s,s1,f,g=>by
  simp only[kA,wi,wy] at f;obtain⟨rfl,rfl⟩:=f;exact g
 |n+1,c,d,s,s1,f,g=>by
  cases c with
  |seq a b =>
   simp only[kA] at f;split at f
   .rename_i B hx;obtain⟨C,z,j,x⟩:=QG k o u r a (λ_ _=>trivial) hx;simp only[wi,wy] at j;obtain⟨rfl,rfl⟩:=j;exact qly x (jA k o u r n f g)
   .cases f
  |_=>cases f
end
section
def bA.tL(K:bA)(P:Program)(Gl:V9)(A:FuncId->cq)(m:Nat)(f:FuncId):bA where
 cN e:=bif e==f then false else K.cN e
 val e a R k:=bif e==f then(Yw P Gl A K m f a).bind k else K.val e a R k
 ref:=K.ref
 dv e a:=qK _ (match Yw P Gl A K m f a with|some r=>.inr ⟨r,λ_ _=>rfl⟩|none=>.inl λ_ _=>rfl) (K.dv e a)
 dw:=K.dw
 ro:=K.ro
def qnq{P:Program}{Gl:V9}{A:FuncId->cq}(s:P.follows .mixedOrders=true)(o:QF P=true){K:bA}(g:aT P Gl K){m:Nat}{f:FuncId}:aT P Gl (K.tL P Gl A m f):=by
 have key:∀a r,(Yw P Gl A K m f a).bind some=some r->aI P Gl f a r:=λa r h=>by
  rw[I5] at h;exact QA s o g h
 refine⟨λe hx=>?_,λe a r hx w U aA j k i=>?_,g.ref,g.ro⟩
 .rcases hx with⟨a,r,hx⟩|hx
  .simp only[bA.tL] at hx;rcases qx hx with⟨he,d⟩|⟨_,d⟩
   .have he:e=f:=by simpa using he
    subst he;exact(key a r d).enters
   .exact g.enters e (.inl ⟨a,r,d⟩)
  .exact g.enters e (.inr hx)
 .simp only[bA.tL] at hx;rcases qx hx with⟨he,d⟩|⟨_,d⟩
  .have he:e=f:=by simpa using he
   subst he;exact(key a r d).calls w U aA j k i
  .exact g.val e a r d w U aA j k i
def Mu(P:Program)(Gl:V9)(A:FuncId->cq)(m:Nat):List FuncId->bA->bA
 |[],K=>K
 |f::l,K=>Mu P Gl A m l (K.tL P Gl A m f)
def RH{P:Program}{Gl:V9}{A:FuncId->cq}(d:P.follows .mixedOrders=true)(a:QF P=true){m:Nat}:∀(l:List FuncId) {K:bA},aT P Gl K->aT P Gl (Mu P Gl A m l K)
 |[],_,h=>h
 |f::l,K,h=>RH d a l (qnq d a h)
end
section
variable {P:Program} {Gl:V9} {aa gi:Wa} {nt:Nat}
def qix{h0:qa}{c:Code}{s s':St}{e:Ex}(l:Wa)(σ:Wa)(o:zn h0.length σ s.h=true)(h:zT P Gl aa gi nt h0 c (qB l ((z7 s l).map (mV σ s.h)) (td σ s.h)) e s'):zT P Gl aa gi nt h0 c s e s' :=
 λro n x g0 d g a w hr j u k Q r=>by
  obtain⟨g2,i,f,_⟩:=am.oM (Gl:=Gl) (aa:=aa) (nt:=nt) (l:=l) (vs:=z7 s l) σ o g a w g0 h0 d (wc _) hr u (k.only l);exact h ro n x g0 d g2 a w hr j f i Q r
end
structure sU where
 n1:Nat
 ds:Wa
 n2:Nat
 l:Wa
 σ:St->Wa
 fs:List FuncId
section
variable (P:Program) (G:V9) (A:FuncId->cq) (sq:FuncId->JO->Option (List JO))
def RI(K:bA)(m:Nat)(p:sU)(f:FuncId)(args:JO):Option T:=match P.funcs[f]? with
 |some fn=>match fn.body with
  |some c=>bif Nat.ble fn.ntmps 1024&&Nat.ble args.length fn.ntmps then
   match kA P G K (A f).aa fn.ntmps (A f).live (jt P K G (A f).aa fn.ntmps (A f).live sq m) p.n1 c (enter args []) with
   |some (s1,j)=>match HO (A f).aa p.ds s1 with
    |some g=>match kA P G K (ka (A f).aa p.ds) fn.ntmps (A f).live (jt P K G (ka (A f).aa p.ds) fn.ntmps (A f).live sq m) p.n2 j g with
     |some (a,i)=>bif zn 0 (p.σ a) a.h then
      match ib P (Mu P G A m p.fs K) G (ka (A f).aa p.ds) fn.ntmps (A f).live (jt P (Mu P G A m p.fs K) G (ka (A f).aa p.ds) fn.ntmps (A f).live sq m) i (qB p.l ((z7 a p.l).map (mV (p.σ a) a.h)) (td (p.σ a) a.h)) (λe s=>some (e,s)) with
      |some (.ret,d)=>ZE P G (ka (A f).aa p.ds) fn d λv=>some (ye d.h v)
      |_=>none
      else none
     |none=>none
    |none=>none
   |none=>none
   else none
  |none=>none
 |none=>none
end
section
variable {P:Program} {Gl:V9} {A:FuncId->cq} {sq:FuncId->JO->Option (List JO)}
def qjQ(a:P.follows .mixedOrders=true)(k:QF P=true){K:bA}(g:aT P Gl K)(j:JI P Gl sq){m:Nat}{p:sU}{f:FuncId}{d:JO}{r:T}(h:RI P Gl A sq K m p f d=some r):aI P Gl f d r:=by
 unfold RI at h;split at h
 .rename_i fn o;split at h
  .rename_i c C;obtain⟨u,h⟩:=qm h;have i:=Qg (wg _ _▸u).1;split at h
   .rename_i s1 O h1;split at h
    .rename_i N H;split at h
     .rename_i x I E;obtain⟨B,h⟩:=qm h;split at h
      .rename_i M D;obtain⟨e,J,s,z⟩:=QG a (RH a k p.fs g) i (jN a (RH a k p.fs g) i j m) I (λ_ _=>trivial) D;simp only[wi,wy] at s;obtain⟨rfl,rfl⟩:=s;exact qjP k o C u (jA a g i (jN a g i j m) p.n1 h1 (qlz H (jA a g i (jN a g i j m) p.n2 E (qix p.l (p.σ x) B (qlx z))))) h
      .cases h
     .cases h
    .cases h
   .cases h
  .cases h
 .cases h
end
section
def Ya(P:Program)(G:V9)(A:FuncId->cq)(sq:FuncId->JO->Option (List JO))(Z:FuncId->Option sU)(K:bA)(m:Nat)(f:FuncId)(a:JO):Option T :=
 match Z f with
 |none=>Ur P G A sq K m f a
 |some p=>RI P G A sq K m p f a
def QI{P:Program}{G:V9}{A:FuncId->cq}{sq:FuncId->JO->Option (List JO)}{Z:FuncId->Option sU}(g:P.follows .mixedOrders=true)(e:QF P=true){K:bA}(i:aT P G K)(d:JI P G sq){m:Nat}{f:FuncId}{a:JO}{r:T}(h:Ya P G A sq Z K m f a=some r):aI P G f a r:=by
 unfold Ya at h;split at h
 .exact qjm g e i d h
 .exact qjQ g e i d h
end
def KF(P:Program)(G:V9)(A:FuncId->cq)(sq:FuncId->JO->Option (List JO))(Z:FuncId->Option sU)(B C D:FuncId->Bool)(m:Nat)(K0:bA):Nat->bA
 |0=>K0
 |n+1=>{ cN:=λe=>bif D e then K0.cN e else !(B e),val:=λe a _ k=>bif D e then K0.val e a _ k else(bif B e then(bif C e then(Ya P G A sq Z (KF P G A sq Z B C D m K0 n) m e a).map (λr=>gX (fh r)) else Ya P G A sq Z (KF P G A sq Z B C D m K0 n) m e a) else none).bind k,ref:=λe a h R k=>bif D e then K0.ref e a h R k else j0 P G A (KF P G A sq Z B C D m K0 n) (I6 P G A sq (KF P G A sq Z B C D m K0 n) m e) e a h k,dv:=λe a=>qK _ (K0.dv e a) (match bif B e then(bif C e then(Ya P G A sq Z (KF P G A sq Z B C D m K0 n) m e a).map (λr=>gX (fh r)) else Ya P G A sq Z (KF P G A sq Z B C D m K0 n) m e a) else none with|some r=>.inr ⟨r,λ_ _=>rfl⟩|none=>.inl λ_ _=>rfl),dw:=λe a h=>qK _ (K0.dw e a h) (NC (Us (KF P G A sq Z B C D m K0 n) m e) e a h),ro:=λe=>bif D e then K0.ro e else Oy P e }
def RJ{P:Program}{G:V9}{A:FuncId->cq}{sq:FuncId->JO->Option (List JO)}{Z:FuncId->Option sU}{B C D:FuncId->Bool}(i:P.follows .mixedOrders=true)(s:QF P=true)(o:JI P G sq)(m:Nat){K0:bA}(f:aT P G K0):∀n,aT P G (KF P G A sq Z B C D m K0 n)
 |0=>f
 |n+1=>by
  have u:=RJ (G:=G) (A:=A) (Z:=Z) (B:=B) (C:=C) (D:=D) i s o m f n;have key:∀e a r,D e=false->(KF P G A sq Z B C D m K0 (n+1)).val e a T some=some r->aI P G e a r:=λe a r d hx=>by
   simp only[KF,d,wp] at hx;rw[I5] at hx;cases E:B e with
   |false=>rw[E,wp] at hx;cases hx
   |true =>
    rw[E,wm] at hx;cases z:C e with
    |false=>rw[z,wp] at hx;exact QI i s u o hx
    |true =>
     rw[z,wm] at hx;obtain⟨I,h1,rfl⟩:=wI.1 hx;exact(QI i s u o h1).fh.gX
  refine⟨λe hx=>?_,λe a r hx w U aA H k j=>?_,λe a h r h' hx g w aA hr x k j=>?_,λe he a h r h' hx=>?_⟩
  .cases d:D e with
   |true =>
    simp only[KF,d,wm] at hx;exact f.enters e hx
   |false =>
    rcases hx with⟨a,r,hx⟩|⟨a,h,⟨r,h'⟩,hx⟩
    .exact(key e a r d hx).enters
    .simp only[KF,d,wp] at hx;exact Y6 s hx
  .cases d:D e with
   |true=>simp only[KF,d,wm] at hx;exact f.val e a r hx w U aA H k j
   |false=>exact(key e a r d hx).calls w U aA H k j
  .cases d:D e with
   |true=>simp only[KF,d,wm] at hx;exact f.ref e a h r h' hx g w aA hr x k j
   |false=>simp only[KF,d,wp] at hx;exact TD i u (Ut i u o m e) hx hr x k j
  .cases d:D e with
   |true=>simp only[KF,d,wm] at he hx;exact f.ro e he a h r h' hx
   |false =>
    simp only[KF,d,wp] at he hx;exact qnL he hx
def vw(sz:Nat)(cap:Option Nat)(l:List JO):T:=.view sz l.length (λj=>l.getD j []) cap
def ii(n:Int):T:=.int .i64 n
def uu(n:Int):T:=.int .u8 n
def sO(c:Option Nat):Option Nat->Bool
 |none=>true
 |some m=>match c with|some k=>Nat.beq k m|none=>false
def AV(p:T->T->Bool):JO->JO->Bool
 |[],[]=>true
 |a::l,b::m=>p a b&&AV p l m
 |_,_=>false
def Mv:T->T->Bool
 |_,.undef=>true
 |.bool a,.bool b=>a==b
 |.int k a,.int d b=>decide (k=d)&&decide (a=b)
 |.str a,.str b=>decide (a=b)
 |.ag,.ag=>true
 |.lB,.lB=>true
 |.eu,.eu=>true
 |.lC,.lC=>true
 |.mz,.mz=>true
 |.ag,.view _ 0 _ none=>true
 |.ag,.view _ 0 _ (some 0)=>true
 |_,_=>false
def pw:Nat->T->T->Bool
 |0,x,y=>Mv x y
 |d+1,x,y=>match x,y with
  |.view sz n g c,.view a e f i=>Nat.beq n e&&Nat.beq sz a&&sO c i&&(List.range n).all λj=>AV (pw d) (g j) (f j)
  |.agg l,.agg m=>AV (pw d) l m
  |x,y=>Mv x y
def jZ{p:T->T->Bool}(h:∀a b,p a b=true->mH a b):∀{l m:JO},AV p l m=true->eO l m
 |[],[],_=>.nil
 |[],_::_,d=>by cases d
 |_::_,[],d=>by cases d
 |a::l,b::m,d=>by
  simp only[AV,wg] at d;exact .cons (h a b d.1) (jZ h d.2)
def qfu(x y:T)(h:Mv x y=true):mH x y:=by
 unfold Mv at h;split at h
 .exact .undef _
 .obtain rfl:=eq_of_beq h;exact .refl _
 .simp only[wg,wC] at h;obtain⟨rfl,rfl⟩:=h;exact .refl _
 .obtain rfl:=of_decide_eq_true h;exact .refl _
 .exact .refl _
 .exact .refl _
 .exact .refl _
 .exact .refl _
 .exact .refl _
 .intro w U v a;cases a;exact .eS _ _ _ (.inl rfl)
 .intro w U v a;cases a;exact .eS _ _ _ (.inr rfl)
 .cases h
def jC:∀(d:Nat) (x y:T),pw d x y=true->mH x y
 |0,x,y,h=>qfu x y h
 |d+1,x,y,h=>by
  simp only[pw] at h;split at h
  .rename_i sz n g c k o r s;simp only[wg] at h;obtain⟨⟨⟨h1,i⟩,a⟩,f⟩:=h;obtain rfl:=xE h1;obtain rfl:=xE i;refine .view ?_ λj e=>jZ (jC d) (wA.1 f j (vQ.2 e));unfold sO at a;split at a
   .exact .inr rfl
   .split at a
    .exact .inl (by rw[xE a])
    .cases a
  .exact .agg (jZ (jC d) h)
  .exact qfu _ _ h
def Mw:T->Bool
 |.fresh ..|.iG _|.new _=>false
 |_=>true
def HQ(d:Nat):T->T->Bool
 |.new x,y=>pw d x y&&Mw y
 |x,y=>Mw x&&Mw y&&pw d x y
def HS(d:Nat)(x y:T):Bool:=match x with
 |.agg l=>(match y with|.agg m=>AV (HQ d) l m|_=>false)
 |x=>(match y with|.agg _=>false|y=>HQ d x y)
def ux(d:Nat)(x y:T):Bool:=match x with
 |.aK l=>(match y with|.aK m=>AV (HS d) l m|_=>false)
 |x=>(match y with|.aK _=>false|y=>HS d x y)
section
variable {w:World} {B:Nat} {U:Nat->Prop} {P:Program} {Gl:V9}
def gO.aH{x:T}{v:Value}{X:Wa}(d:Mw x=true)(h:gO w B U x v X):VI w U x v/\X=[]:=by
 cases h with
 |vi _ _ a=>exact⟨a,rfl⟩
 |_=>cases d
def qiA{d:Nat}{x y:T}(h:HQ d x y=true){v:Value}{X:Wa}(hx:gO w B U x v X):gO w B U y v X:=by
 unfold HQ at h;split at h
 .simp only[wg] at h;cases hx with
  |vi _ _ a=>cases a
  |nw _ _ a=>exact .vi _ _ (jC d _ _ h.1 _ _ _ (a.ar λb e=>⟨e.1,rfl⟩))
 .simp only[wg] at h;obtain⟨h1,rfl⟩:=hx.aH h.1.1;exact .vi _ _ (jC d _ _ h.2 _ _ _ h1)
def RK{Q:T->Value->Wa->Prop}{p:T->T->Bool}(hp:∀x y v X,p x y=true->Q x v X->Q y v X):∀{l m:JO} {vs:List Value} {X:Wa},AV p l m=true->mE Q l vs X->mE Q m vs X
 |[],[],vs,X,_,h=>h
 |[],_::_,_,_,h,_=>by cases h
 |_::_,[],_,_,h,_=>by cases h
 |a::l,b::m,vs,X,h,hx=>by
  simp only[AV,wg] at h;cases hx with
  |cons _ _ _ _ _ _ d h1=>exact .cons _ _ _ _ _ _ (hp _ _ _ _ h.1 d) (RK hp h.2 h1)
def qns{d:Nat}{x y:T}(hx:∀l,x≠.agg l)(a:∀l,y≠.agg l):HS d x y=HQ d x y:=by
 cases x<;>cases y<;>first|rfl|exact absurd rfl (hx _)|exact absurd rfl (a _)
def qoP{d:Nat}{x y:T}(hx:∀l,x≠.aK l)(a:∀l,y≠.aK l):ux d x y=HS d x y:=by
 cases x<;>cases y<;>first|rfl|exact absurd rfl (hx _)|exact absurd rfl (a _)
def qnt{x:T}{v:Value}{X:Wa}(hx:∀l,x≠.agg l):lU w B U x v X=gO w B U x v X:=by
 cases x<;>first|rfl|exact absurd rfl (hx _)
def qnu{x:T}{v:Value}{X:Wa}(hx:∀l,x≠.aK l):oa w B U x v X=lU w B U x v X:=by
 cases x<;>first|rfl|exact absurd rfl (hx _)
def isAgg(x:T):(∃l,x = .agg l)∨∀l,x≠.agg l:=by
 cases x<;>first|exact .inl ⟨_,rfl⟩|exact .inr λl h=>by cases h
def qpm(x:T):(∃l,x = .aK l)∨∀l,x≠.aK l:=by
 cases x<;>first|exact .inl ⟨_,rfl⟩|exact .inr λl h=>by cases h
def qiB{d:Nat}{x y:T}(h:HS d x y=true){v:Value}{X:Wa}(hx:lU w B U x v X):lU w B U y v X:=by
 rcases isAgg x with⟨l,rfl⟩|f<;>rcases isAgg y with⟨m,rfl⟩|e
 .obtain⟨j,h1,i,g⟩:=hx;exact⟨j,h1,i,RK (Q:=gO w B U) (λ_ _ _ _ a b=>qiA a b) h g⟩
 .cases y<;>first|cases h|exact absurd rfl (e _)
 .cases x<;>first|cases h|exact absurd rfl (f _)
 .rw[qns f e] at h;rw[qnt f] at hx;rw[qnt e];exact qiA h hx
def qoQ{d:Nat}{x y:T}(h:ux d x y=true){v:Value}{X:Wa}(hx:oa w B U x v X):oa w B U y v X:=by
 rcases qpm x with⟨l,rfl⟩|f<;>rcases qpm y with⟨m,rfl⟩|e
 .obtain⟨i,h1,g⟩:=hx;exact⟨i,h1,RK (Q:=lU w B U) (λ_ _ _ _ a b=>qiB a b) h g⟩
 .cases y<;>first|cases h|exact absurd rfl (e _)
 .cases x<;>first|cases h|exact absurd rfl (f _)
 .rw[qoP f e] at h;rw[qnu f] at hx;rw[qnu e];exact qiB h hx
def aI.ux{f:FuncId}{a:JO}{d:Nat}{r g:T}(t:aI P Gl f a r)(h:Ab.ux d r g=true):aI P Gl f a g :=
 ⟨t.enters,λw U aA o C k=>(t.calls w U aA o C k).mono λe w' ⟨v,j,i⟩=>⟨v,j,by
  obtain⟨A,D,X,h1,z,x,u,s⟩:=i;exact⟨A,D,X,h1,z,x,u,qoQ h s⟩⟩⟩
def zB{f:FuncId}{a:JO}{o:Option T}(g:∀r,o=some r->aI P Gl f a r){d:Nat}{e:T}(h:(match o with|some r=>Ab.ux d r e|none=>false)=true):aI P Gl f a e:=by
 cases o with
 |some r=>exact(g r rfl).ux h
 |none=>cases h
end
abbrev AW:=List (FuncId×JO×T)
def HU(d:Nat):AW->FuncId->JO->Option T
 |[],_,_=>none
 |(f,a,r)::l,g,b=>bif Nat.beq f g&&AV (pw d) b a then some r else HU d l g b
def JR(P:Program)(Gl:V9):AW->Prop
 |[]=>True
 |(f,a,r)::l=>aI P Gl f a r/\JR P Gl l
def RL{P:Program}{Gl:V9}{d:Nat}:∀{l:AW} {f:FuncId} {b:JO} {r:T},JR P Gl l->HU d l f b=some r->aI P Gl f b r
 |[],_,_,_,_,h=>by cases h
 |(f,a,x)::l,g,b,r,j,h=>by
  simp only[HU] at h;rcases qx h with⟨e,i⟩|⟨_,i⟩
  .simp only[wg] at e;obtain rfl:=xE e.1;obtain rfl:=wa i;exact j.1.IN (jZ (jC d) e.2)
  .exact RL j.2 i
def HV(l:AW)(f:FuncId):Bool:=l.any λe=>Nat.beq e.1 f
def YR(d:Nat)(l:AW)(K:bA):bA where
 cN e:=bif HV l e then false else K.cN e
 val e a R k:=bif HV l e then(HU d l e a).bind k else K.val e a R k
 ref e a h R k:=bif HV l e then none else K.ref e a h R k
 dv e a:=qK _ (match HU d l e a with|some r=>.inr ⟨r,λ_ _=>rfl⟩|none=>.inl λ_ _=>rfl) (K.dv e a)
 dw e a h:=qK _ (.inl λ_ _=>rfl) (K.dw e a h)
 ro e:=bif HV l e then false else K.ro e
def kX{P:Program}{Gl:V9}{d:Nat}{l:AW}{K:bA}(o:JR P Gl l)(j:aT P Gl K):aT P Gl (YR d l K):=by
 refine⟨λe hx=>?_,λe a r hx w U aA s k i=>?_,λe a h r h' hx g w aA hr u k i=>?_,λe he a h r h' hx=>?_⟩
 all_goals cases f:HV l e
 .simp only[YR,f,wp] at hx;exact j.enters e hx
 .simp only[YR,f,wm] at hx;rcases hx with⟨a,r,hx⟩|⟨a,h,r,hx⟩
  .rw[I5] at hx;exact(RL o hx).enters
  .cases hx
 .simp only[YR,f,wp] at hx;exact j.val e a r hx w U aA s k i
 .simp only[YR,f,wm] at hx;rw[I5] at hx;exact(RL o hx).calls w U aA s k i
 .simp only[YR,f,wp] at hx;exact j.ref e a h r h' hx g w aA hr u k i
 .simp only[YR,f,wm] at hx;cases hx
 .simp only[YR,f,wp] at he hx;exact j.ro e he a h r h' hx
 .simp only[YR,f,wm] at he;cases he
section
variable {P:Program} {Gl:V9} {A:FuncId->cq}
structure tN(P:Program)(Gl:V9)(f:FuncId)(args:JO)(h h':qa):Prop where
 enters:∃fn,P.funcs[f]?=some fn/\fn.body.isNone=false/\(fn.name=="runtime.NumGoroutine")=false
 calls:∀(g:Gh) (w:World) (aA:Array Value) (u:FrameMode),HR g h w->Km g->ZB Gl w g.U->bQ g h w args aA →
  CallsDIn Fence.wide 0 P f aA u w λe u' w'=>u'=u/\∃v r,e = .returned v/\gV g h w r h' v w'
def qjS(o:QF P=true){f:FuncId}{fn:Func}{c:Code}(s:P.funcs[f]?=some fn)(a:fn.body=some c)(U:qt c=false){args:JO}{h:qa}(z:(Nat.ble fn.ntmps 1024&&Nat.ble args.length fn.ntmps)=true){s':St}{e:Ex}(he:e = .ret∨e = .normal)
 (H:aC P Gl (A f).aa fn.ntmps c (enter args h) e s') {r:T} {h':qa} (k:ZE P Gl (A f).aa fn s' (λv=>some (v,s'.h))=some (r,h')):tN P Gl f args h h':=by
 simp only[wg] at z;have Q:=Qg z.1;have O:=Qg z.2;refine⟨⟨fn,s,by rw[a];rfl,?_⟩,λg w aA u hr B N J=>?_⟩
 .have:=xI.1 o fn (vM s);rw[a] at this;simpa using this
 have I:=SR.enter (Gl:=Gl) (aa:=(A f).aa) (wc _) (hr.dX w.heap.size) N J Q O;refine(callsDIn_of_wp (R:=λe w'=>∃v r,e = .returned v/\gV g h w r h' v w') s a trivial (H none 0 (λ_=>rfl) _ _ w I _ λS w' C D d E=>?_) rfl);obtain⟨x,k,v,h1,M⟩:=ZN D k;simp only[wi,wy] at k;obtain⟨rfl,rfl⟩:=k
 suffices bodyPost P fn (λe w'=>∃v r,e = .returned v/\gV g h w r s'.h v w') .ret S w' by rcases he with rfl|rfl<;>exact this
 refine⟨E U,v,h1,v,x,rfl,{ C with own:=λb=>match C.own b with|some (.inl i)=>some (.inl i)|_=>none,low:=g.low,dt:=g.dt },(D.hr.gX).dX g.low g.dt,M,?_,?_⟩
 .exact d.ar.trans ⟨λb a=>⟨a,rfl⟩,λi b a=>⟨b,a,wc _,λ_=>⟨rfl,rfl,rfl⟩⟩,λ_ _ h=>h⟩
 .refine⟨d.size,λb a=>?_,d.os,d.tape,d.output,λb a o=>?_,?_,d.u,λb a t=>by dsimp only;split<;>simp⟩
  .dsimp only;rw[d.own b a];dsimp only;cases j:g.own b with
   |none=>rfl
   |some q =>
    cases q with
    |inl i=>rfl
    |inr t=>exact absurd j (B b t)
  .refine d.same b a ?_;dsimp only;cases j:g.own b with
   |none=>rfl
   |some q =>
    cases q with
    |inl i=>exact absurd j (o i)
    |inr t=>exact absurd j (B b t)
  .have:=d.base;simp only[Gh.bs,this]
def qei{fn:Func}{aa:Wa}{nt:Nat}{g:Gh}{s:St}{a:Act}{w:World}(f:SR Gl aa nt g s a w){d:FuncId}{x:JO}{cap:Array Value}{h2:qa}(E:a.defers=[{ target:=.fn (.func d) cap,args:=#[] }])
 (o:tN P Gl d x s.h h2) (M:bQ g s.h w x cap) (J:ZB Gl w g.U) {R:Ending->World->Prop}
 (hR:∀g' w',SR Gl aa nt g' ((⟨none,none,some h2⟩:du).dN s) (a.put none undef) w'->mh g w g' w'->z8 g s.h w g' h2 w'->LeavesIn Fence.wide 0 P fn a.tmps R [] .returning w'):LeavesInM Fence.wide 0 P fn a.tmps R a.defers .returning w:=by
 rw[E];obtain⟨z,I,u,H⟩:=o.enters;refine⟨au,.inr ⟨by simp[Fence.wide],.func d,cap,d,cap,rfl,?_,λ_ _=>trivial,?_⟩⟩
 .have O:¬z.name = "runtime.NumGoroutine":=by simpa using H
  have C:¬z.body=none:=by intro D;rw[D] at u;cases u
  simp[invoke,callFunc,I,C,O]
 refine(o.calls { g with own:=λb=>match g.own b with|some (.inl i)=>some (.inl i)|_=>none } w cap .returning f.hr.gX (λb t h=>by dsimp only at h;split at h<;>simp at h) J M).mono ?_;rintro e u' w' ⟨rfl,v,r,rfl,N⟩;obtain⟨g2,B,Q,k,j⟩:=Nv f.hr N;exact hR g2 w' (SR.s6 f (v:=undef) B k j rfl) j k
def cS.CV{g g':Gh}{h h':qa}{w w':World}(f:cS g h w g' h' w')(d:List Deferred):cS { g with dt:=d } h w { g' with dt:=d } h' w' :=
 ⟨⟨f.ar.u,f.ar.ey,f.ar.rm⟩,f.size,f.own,f.os,f.tape,f.output,f.same,by
  show(g'.base,g'.low,d)=(g.base,g.low,d);rw[f.base,f.low],f.u,f.u'⟩
def qfv(P:Program)(Gl:V9)(aa:Wa)(nt:Nat)(c:Code)(s s1:St)(f:FuncId)(i:JO):Prop :=
 ∀(g:Gh) (a:Act) (w:World),SR Gl aa nt g s a w->a.defers=[]->∀Q:Exit->Act->World->Prop,
  (∀e d g1 cap,SR Gl aa nt g1 s1 { e with defers:=[] } d->cS g s.h w g1 s1.h d->bQ g1 s1.h d i cap->e.defers=[{ target:=.fn (.func f) cap,args:=#[] }]->Q .normal e d)->c.wpIn (QC none) 0 P Q a w
def gN(P:Program)(Gl:V9)(aa:Wa)(fn:Func)(c:Code)(s:St)(r:T):Prop :=
 ∀(d:World) (g0 g:Gh) (a:Act) (w:World),g0.base=d.heap.size->(∀b,g0.own b=none)->ZB Gl d g0.U->HR g0 [] d->cS g0 [] d g s.h w->SR Gl aa fn.ntmps g s a w->a.defers=[] →
  c.wpIn (QC none) 0 P (bodyPostM Fence.wide 0 P fn λe w'=>∃v,e = .returned v/\RV d g0.U r v w') a w
def gN.seq{aa:Wa}{fn:Func}{x y:Code}{s s1:St}{r:T}(H:qt x=false)(hx:qR P Gl aa fn.ntmps [] x s .normal s1)(f:gN P Gl aa fn y s1 r):gN P Gl aa fn (.seq x y) s r :=
 λd g0 g a w u j D hr k i o=>wpIn_seq (hx none 0 (λh=>rfl) g0 d g a w hr k i _ λE e g1 C B z=>f d g0 g1 E e u j D hr B C ((z H).trans o))
def gN.defer{aa:Wa}{fn:Func}{x y:Code}{s s1 s2:St}{J:FuncId}{C:JO}{z:qa}{r:T}(hx:qfv P Gl aa fn.ntmps x s s1 J C)(BJ:qt y=false)
 (hy:qR P Gl aa fn.ntmps s1.h y s1 .ret s2) (hk:∀g w g' w' cap,cS g s1.h w g' s2.h w'->bQ g s1.h w C cap->bQ g' s2.h w' C cap) (H:tN P Gl J C s2.h z)
 (bB:ZE P Gl aa fn ((⟨none,none,some z⟩:du).dN s2) (λv=>some (ye z v))=some r):gN P Gl aa fn (.seq x y) s r:=by
 intro j g0 g a w d ho cJ hr hf hs hd;refine wpIn_seq (hx g a w hs hd _ λN o g1 cap f fU fk U=>?_);show y.wpIn _ _ _ _ N o
 let D:Deferred:={ target:=.fn (.func J) cap,args:=#[] }
 have W:SR Gl aa fn.ntmps { g1 with dt:=[D] } s1 N o:=⟨f.hr.dX g1.low [D],⟨f.defers.1,[],⟨[D],U,.inr rfl,λE h=>by simp[y7,D] at h⟩,.nil,λE h=>by cases h⟩,f.size,f.nt,f.tmps,λt H cells hc=>by
  obtain⟨cb,M,e,q⟩:=f.eA t H cells hc;exact⟨cb,M,e,q.ptr,q.own,q.heap,q.len,q.cell⟩,f.loc,f.dU,f.used⟩
 refine hy none 0 (λ_=>rfl) { g1 with dt:=[D] } o { g1 with dt:=[D] } N o W.hr (.refl _ _ _) W _ λV R g2 iL S Y=>?_;show LeavesInM Fence.wide 0 P fn V.tmps _ V.defers .returning R;have k:cS g0 [] j { g2 with dt:=g1.dt } s2.h R:=(hf.trans fU).trans (S.CV g1.dt);refine qei iL ((Y BJ).trans U) H (hk _ _ _ _ _ S fk) (λgl cells hg=>(cJ gl cells hg).ar k.ar.u) λg3 Q O I Ba=>?_;have i:cS g0 [] j { g3 with dt:=g1.dt } z Q:=k.trans ((I.Ns Ba).CV g1.dt);obtain⟨x,hx,v,h1,h2⟩:=ZN O bB;obtain rfl:=wa hx;refine⟨v,h1,v,rfl,?_⟩;have dS:g3.base=j.heap.size:=i.base.trans d;obtain⟨X,q1,q2,Z⟩:=Kk O.hr (B:=j.heap.size) ae h2;refine⟨⟨⟨i.os,i.tape,i.output.1,i.size,λb d=>i.same b d (ho b)⟩,i.output.2⟩,y8 g3 Q j.heap.size (ZK x),X,λb d=>.inl ((i.ar.u b d).1),λb d=>?_,q2,Z,q1⟩;rcases d with d|d
 .exact⟨i.u b d,(O.hr.u b d).1⟩
 .exact⟨.inr d.1,d.2.1⟩
def gN.told(B:QF P=true){f:FuncId}{fn:Func}{c:Code}(d:P.funcs[f]?=some fn)(a:fn.body=some c){args:JO}(g:(Nat.ble fn.ntmps 1024&&Nat.ble args.length fn.ntmps)=true){r:T}(h:gN P Gl (A f).aa fn c (enter args []) r):aI P Gl f args r:=by
 simp only[wg] at g;have H:=Qg g.1;have E:=Qg g.2;refine⟨⟨fn,d,by rw[a];rfl,?_⟩,λw U aA D k j=>?_⟩
 .have:=xI.1 B fn (vM d);rw[a] at this;simpa using this
 let g0:Gh:={ U:=U,φ:=λ_=>none,own:=λ_=>none,base:=w.heap.size,low:=0 }
 have hr:HR g0 [] w:=⟨λi b a=>by simp at a,λb a=>⟨D b a,rfl⟩,λb o e=>(by cases e),wc _,λb o e=>(by cases e),λb i e=>(by cases e),λi b m a=>by simp at a⟩;have I:bQ g0 [] w args aA:=⟨j.1,λi x C=>by
  obtain⟨v,u,s⟩:=j.2 i x C;exact⟨v,u,.aH _ _ s⟩⟩
 have z:=SR.enter (Gl:=Gl) (aa:=(A f).aa) (wc _) (hr.dX w.heap.size) k I H E;rw[←callsIn_wide (n:=0)];exact callsIn_of_wp_marks d a trivial (h w _ _ _ w rfl (λ_=>rfl) k (hr.dX w.heap.size) (.refl _ _ _) z rfl) rfl
end
section
variable {P:Program} {G:V9} {A:FuncId->cq} {K:bA}
end
section
variable (P:Program) (G:V9) (A:FuncId->cq)
def RM(K:bA)(aa:Wa)(nt:Nat)(c:Code)(s:St):Option (FuncId×JO×St):=match c with
 |.region _ ops false=>match ops.toList.reverse with
  |o::rest=>match o.op,o.guard,o.dst with
   |.defer ⟨.value x,args,_⟩,none,none=>bif args.size==0 then yt P K G aa nt ops.toList rest.reverse { s with loc:=λ_=>none,used:=λ_=>false } λs1 _=>match ev G aa s1 x with
    |.fn a d=>some (a,d,s1)
    |_=>none else none
   |_,_,_=>none
  |[]=>none
 |_=>none
def RN(K:bA)(m:Nat)(a:FuncId)(d:JO)(h:qa):Option qa:=match P.funcs[a]? with
 |some fn=>match fn.body with
  |some c=>bif Nat.ble fn.ntmps 1024&&Nat.ble d.length fn.ntmps&&!(qt c) then
   match ib P K G (A a).aa fn.ntmps (A a).live (uy P G A K m a fn) c (enter d h) (λe s=>some (e,s)) with
   |some (.exit _,_)=>none
   |some (_,s)=>ZE P G (A a).aa fn s λ_=>some s.h
   |none=>none else none
  |none=>none
 |none=>none
def HZ(K:bA)(m n:Nat)(f:FuncId)(args:JO):Option T:=match P.funcs[f]? with
 |some fn=>match fn.body with
  |some c=>bif Nat.ble fn.ntmps 1024&&Nat.ble args.length fn.ntmps&&!(qt c) then
   match kA P G K (A f).aa fn.ntmps (A f).live (uy P G A K m f fn) n c (enter args []) with
   |some (s1,.seq x y)=>match RM P G K (A f).aa fn.ntmps x s1 with
    |some (i,j,g)=>match ib P K G (A f).aa fn.ntmps (A f).live (uy P G A K m f fn) y g (λe s=>some (e,s)) with
     |some (.ret,a)=>match RN P G A K m i j a.h with
      |some d=>ZE P G (A f).aa fn ((⟨none,none,some d⟩:du).dN a) λv=>some (ye d v)
      |none=>none
     |_=>none
    |none=>none
   |_=>none
   else none
  |none=>none
 |none=>none
end
section
variable {P:Program} {G:V9} {A:FuncId->cq} {K:bA}
def qgU(hK:aT P G K){aa:Wa}{nt:Nat}{d:Code}{s s1:St}{J:JO}{E:FuncId}(e:RM P G K aa nt d s=some (E,J,s1)):qfv P G aa nt d s s1 E J:=by
 unfold RM at e;cases d with
 |region id ops u =>
  cases u with
  |true=>cases e
  |false =>
   dsimp only at e;cases hr:ops.toList.reverse with
   |nil=>rw[hr] at e;cases e
   |cons o rest =>
    rw[hr] at e;dsimp only at e;have M:ops.toList=rest.reverse++[o]:=by
     have:=vD List.reverse hr;simpa using this
    split at e
    .rename_i x args N X Z hd;cases z:(args.size==0) with
     |false=>rw[z] at e;cases e
     |true =>
      rw[z] at e;simp only[wm] at e;obtain⟨O,fE,e,ax⟩:=Yo _ e;intro g a w W B Q Y;refine wpIn_region_list ?_;have U:=W.bare s.env (λt=>.inl rfl);have i:=ax.ta (l2:=[o]) hK U none 0 Q λf j g1 I fU gj=>?_
      .rw[←M] at i;exact i
      have D:=I.ev x;revert e;cases V:ev G aa O x with
      |fn r aaN =>
       intro e;simp only[wi,wy] at e;obtain⟨rfl,rfl,rfl⟩:=e;rw[V] at D;obtain⟨C,k,S,R⟩:=D.gG;have bK:args = #[]:=by
        have:args.size=0:=by simpa using z
        exact Array.eq_empty_of_size_eq_zero this
       unfold wpListIn;rw[wl (by simp[Region.wanted,Z])];refine⟨λ_ _=>trivial,?_⟩;have RO:(o.semAt (QC none).round f.eval).run P j = .ok (.defer { target:=.fn (.func r) C,args:=#[] }) j:=by
        show(execOp f.eval o).run P j=_;unfold execOp;rw[X];simp[Go.resolve,k,Deferred.ofValue,bK]
       rw[RO];show wpListIn (QC none) 0 P ops Q [] ({ f with defers:=_::f.defers }.put o.dst undef) j;rw[hd];have H:f.defers=[]:=gj.trans B;have e1:({ tmps:=f.tmps,defers:=[] }:Act)=f:=by rw[←H]
       refine Y _ j g1 C ?_ fU ⟨S,R⟩ ?_
       .show SR G aa nt g1 _ ({ tmps:=f.tmps,defers:=[] }:Act) j;rw[e1];exact I
       .show({ target:=.fn (.func r) C,args:=#[] }:Deferred)::f.defers=_;rw[H]
      |_=>intro e;cases e
    .cases e
 |_=>cases e
def qjT(k:P.follows .mixedOrders=true)(D:QF P=true)(o:aT P G K){m:Nat}{d:FuncId}{g:JO}{h u:qa}(a:RN P G A K m d g h=some u):tN P G d g h u:=by
 unfold RN at a;split at a
 .rename_i fn E;split at a
  .rename_i c H;obtain⟨f,a⟩:=qm a;simp only[wg] at f;have x:=Qg f.1.1;have O:qt c=false:=by simpa using f.2
   have B:(Nat.ble fn.ntmps 1024&&Nat.ble g.length fn.ntmps)=true:=by simp only[wg];exact f.1
   have J:gY P G (A d).aa fn.ntmps (A d).live (λ_=>True) (uy P G A K m d fn):=kO k o x m;split at a
   .cases a
   .rename_i e s _ hx;obtain⟨I,s2,j,C⟩:=QG k o x J c (λ_ _=>trivial) hx;simp only[wi,wy] at j;obtain⟨rfl,rfl⟩:=j;obtain⟨r,N,z⟩:=qH (jl (P:=P) (Gl:=G) (aa:=(A d).aa) fn s2) a;obtain rfl:=wa N;exact qjS (A:=A) D E H O B (by cases I with|normal=>exact .inr rfl|ret=>exact .inl rfl|exit i=>rename_i M;exact absurd rfl (M i)) C (z _ λv=>some (v,s2.h))
   .cases a
  .cases a
 .cases a
def bQ.ar{g g':Gh}{h h':qa}{w w':World}{a:JO}{aA:Array Value}(d:bQ g h w a aA)(j:z8 g h w g' h' w'):bQ g' h' w' a aA :=
 ⟨d.1,λi x k=>let ⟨v,f,e⟩:=d.2 i x k;⟨v,f,e.ar j⟩⟩
def qcn(j:P.follows .mixedOrders=true)(k:aT P G K){aa:Wa}{fn:Func}(u:fn.ntmps<=1024){live:Nat->Bool->Wa}{rec:Rec}(o:gY P G aa fn.ntmps live (λ_=>True) rec){r:T} :
 ∀(n:Nat) {c d:Code} {s s1:St},qt c=false->kA P G K aa fn.ntmps live rec n c s=some (s1,d)->(qt d=false->gN P G aa fn d s1 r)->gN P G aa fn c s r
 |0,c,d,s,s1,f,e,g=>by
  simp only[kA,wi,wy] at e;obtain⟨rfl,rfl⟩:=e;exact g f
 |n+1,c,d,s,s1,f,e,g=>by
  cases c with
  |seq a b =>
   simp only[qt,wY] at f;simp only[kA] at e;split at e
   .rename_i B hx;obtain⟨C,z,i,x⟩:=QG j k u o a (λ_ _=>trivial) hx;simp only[wi,wy] at i;obtain⟨rfl,rfl⟩:=i;exact .seq f.1 (jq x) (qcn j k u o n f.2 e g)
   .cases e
  |_=>cases e
def JS(d:P.follows .mixedOrders=true)(o:QF P=true)(a:aT P G K){m n:Nat}{f:FuncId}{args:JO}{r:T}(h:HZ P G A K m n f args=some r):aI P G f args r:=by
 unfold HZ at h;split at h
 .rename_i fn i;split at h
  .rename_i c C;obtain⟨g,h⟩:=qm h;simp only[wg] at g;have j:=Qg g.1.1;have J:qt c=false:=by simpa using g.2
   have u:(Nat.ble fn.ntmps 1024&&Nat.ble args.length fn.ntmps)=true:=by simp only[wg];exact g.1
   have s:gY P G (A f).aa fn.ntmps (A f).live (λ_=>True) (uy P G A K m f fn):=kO d a j m;split at h
   .rename_i s1 x y h1;split at h
    .rename_i R S O I;split at h
     .rename_i N H;split at h
      .rename_i Q E;obtain⟨e,M,k,z⟩:=QG d a j s y (λ_ _=>trivial) H;simp only[wi,wy] at k;obtain⟨rfl,rfl⟩:=k;refine gN.told (A:=A) o i C u (qcn d a j s n J h1 λhr=>?_);simp only[qt,wY] at hr;exact .defer (qgU a I) hr.2 (jq z) (λ_ _ _ _ _ B D=>D.ar B.ar) (qjT d o a E) h
      .cases h
     .cases h
    .cases h
   .cases h
  .cases h
 .cases h
end
end Go.Ab
