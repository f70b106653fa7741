/- A part of the proof: nothing is assumed. -/
import Derived.Test.YtfcpfihblbbelaaGreatDoorP3
set_option linter.all false
namespace Go.Ab
def NilT(H:qa)(lo:Nat)(x y:T):Prop:=x=y∨(x = .nils/\∃k b cap,lo<=k/\H[k]?=some b/\b.n=0/\(∀m,cap=some m->m=0)/\y = .own k b.ver 0 0 cap)
theorem NilT.refl{H:qa}{lo:Nat}(x:T):NilT H lo x x:=.inl rfl
theorem NilT.own{H:qa}{lo k:Nat}{b:Blk}(hk:lo<=k)(hb:H[k]?=some b)(hn:b.n=0):NilT H lo .nils (.own k b.ver 0 0 none):=.inr ⟨rfl,k,b,none,hk,hb,hn,fun _ h=>(by cases h),rfl⟩
def NilL(H:qa)(lo:Nat)(l m:List T):Prop:=l.length=m.length/\∀(i:Nat) a b,l[i]?=some a->m[i]?=some b->NilT H lo a b
theorem NilL.refl{H:qa}{lo:Nat}(l:List T):NilL H lo l l:=⟨rfl,fun i a b h1 h2=>by rw[h1] at h2;obtain rfl:=Option.some.inj h2;exact .refl _⟩
theorem NilL.cons{H:qa}{lo:Nat}{x y:T}{l m:List T}(h:NilT H lo x y)(hl:NilL H lo l m):NilL H lo (x::l) (y::m):=by
 refine⟨by simp[hl.1],fun i a b h1 h2=>?_⟩;cases i with
 |zero=>simp at h1 h2;subst h1;subst h2;exact h
 |succ i=>exact hl.2 i a b (by simpa using h1) (by simpa using h2)
theorem NilL.get{H:qa}{lo:Nat}{l m:List T}(h:NilL H lo l m){i:Nat}{b:T}(hb:m[i]?=some b):∃a,l[i]?=some a/\NilT H lo a b:=by
 have hi:=qC hb;have ha:l[i]?=some (l[i]'(by rw[h.1];exact hi)):=List.getElem?_eq_getElem _;exact⟨_,ha,h.2 i _ _ ha hb⟩
def NilS(H:qa)(lo:Nat)(x y:T):Prop:=NilT H lo x y∨(∃l m,x = .reg l/\y = .reg m/\NilL H lo l m)∨∃l m,x = .agg l/\y = .agg m/\NilL H lo l m
theorem NilS.refl{H:qa}{lo:Nat}(x:T):NilS H lo x x:=.inl (.refl x)
theorem NilS.reg{H:qa}{lo:Nat}{l m:List T}(h:NilL H lo l m):NilS H lo (.reg l) (.reg m):=.inr (.inl ⟨l,m,rfl,rfl,h⟩)
theorem NilS.agg{H:qa}{lo:Nat}{l m:List T}(h:NilL H lo l m):NilS H lo (.agg l) (.agg m):=.inr (.inr ⟨l,m,rfl,rfl,h⟩)
inductive NilBs(H:qa)(lo:Nat):qa->qa->Prop
 |nil:NilBs H lo [] []
 |same (b:Blk) {h h2:qa} (hs:NilBs H lo h h2):NilBs H lo (b::h) (b::h2)
 |chg {b b2:Blk} {h h2:qa} (e:b2.mp=b.mp/\b2.ver=b.ver/\b2.sz=b.sz/\b2.n=b.n) (hf:b2.flat=false) (hc:∀j,j<b.n->NilL H lo (b.get j) (b2.get j)) (hs:NilBs H lo h h2):NilBs H lo (b::h) (b2::h2)
theorem NilBs.refl{H:qa}{lo:Nat}:∀h:qa,NilBs H lo h h
 |[]=>.nil
 |b::h=>.same b (NilBs.refl h)
theorem NilBs.at{H:qa}{lo:Nat}{h h2:qa}(hs:NilBs H lo h h2):h2.length=h.length/\∀(i:Nat) b b2,h[i]?=some b->h2[i]?=some b2->(b2.mp=b.mp/\b2.ver=b.ver/\b2.sz=b.sz/\b2.n=b.n)/\(b2.flat=true->b=b2)/\∀j,j<b.n->NilL H lo (b.get j) (b2.get j):=by
 induction hs with
 |nil=>exact⟨rfl,fun i b b2 h=>by simp at h⟩
 |same b hs ih =>
  refine⟨by simp[ih.1],fun i x y q1 q2=>?_⟩;cases i with
  |zero=>simp at q1 q2;subst q1;subst q2;exact⟨⟨rfl,rfl,rfl,rfl⟩,fun _=>rfl,fun j _=>.refl _⟩
  |succ i=>exact ih.2 i x y (by simpa using q1) (by simpa using q2)
 |chg e hf hc hs ih =>
  refine⟨by simp[ih.1],fun i x y q1 q2=>?_⟩;cases i with
  |zero=>simp at q1 q2;subst q1;subst q2;exact⟨e,(fun h=>by rw[hf] at h;cases h),hc⟩
  |succ i=>exact ih.2 i x y (by simpa using q1) (by simpa using q2)
section
variable {g:Gh} {h:qa} {w:World}
theorem NilBs.keep{H:qa}{lo:Nat}{h h2:qa}(hs:NilBs H lo h h2)(w:World)(U:Nat->Prop)(φ:Nat->Option (Nat×Nat)):KeepR w U φ h w U φ h2 :=
 ⟨.refl _ _,fun i b hb=>by
  have hi:=qC hb;have hb2:h2[i]?=some (h2[i]'(by rw[hs.at.1];exact hi)):=List.getElem?_eq_getElem _;obtain⟨⟨_,q1,q2,q3⟩,_⟩:=hs.at.2 i b _ hb hb2;exact⟨_,hb2,by omega,fun _=>⟨q2,q3,rfl⟩⟩,fun _ _ hr=>hr⟩
end
section
variable {P:Program} {Gl:Nat->Option (List T)} {prom:List Nat} {nt:Nat}
end
def CapT(H:qa)(x y:T):Prop:=x=y∨∃i ver off len c b,x = .own i ver off len (some c)/\y = .own i ver off len none/\H[i]?=some b/\b.n<=off+c
theorem CapT.refl{H:qa}(x:T):CapT H x x:=.inl rfl
section
variable {P:Program} {Gl:Nat->Option (List T)} {prom:List Nat} {nt:Nat}
end
def cnT:Code->Code
 |.cond _ a _=>a
 |c=>c
def cnE:Code->Code
 |.cond _ _ b=>b
 |c=>c
def qcM:Nat->Code->Code
 |0,c=>inB c
 |1,c=>sq1 c
 |2,c=>sq2 c
 |3,c=>cnT c
 |_,c=>cnE c
def nav:List Nat->Code->Code
 |[],c=>c
 |k::p,c=>qcM k (nav p c)
theorem qey(k:Nat)(c:Code):∀b∈qn (qcM k c),b∈qn c:=by
 intro b hb
 match k with
 |0=>exact qbO c b hb
 |1=>exact Jb c b hb
 |2=>exact Jc c b hb
 |3 =>
  cases c with
  |cond o x y=>simp only[qcM,cnT,qn,List.mem_append] at *;exact .inl hb
  |_=>exact hb
 |k+4 =>
  cases c with
  |cond o x y=>simp only[qcM,cnE,qn,List.mem_append] at *;exact .inr hb
  |_=>exact hb
theorem qbR:∀(p:List Nat) (c:Code),∀b∈qn (nav p c),b∈qn c
 |[],_,_,hb=>hb
 |k::p,c,b,hb=>qbR p c b (qey k _ b hb)
def yK(P:Program)(f:Nat)(p:List Nat)(t:Code->Bool):Bool:=match P.funcs[f]? with
 |some fn=>match fn.body with
  |some c=>t (nav p c)
  |none=>false
 |none=>false
theorem y5{P:Program}{f:Nat}{p:List Nat}{t:Code->Bool}(h:yK P f p t=true){fn:Func}{c:Code}(hf:P.funcs[f]?=some fn)(hb:fn.body=some c):t (nav p c)=true:=by
 unfold yK at h;rw[hf] at h;dsimp only at h;rw[hb] at h;exact h
def qhf:Code->Bool
 |.seq _ _=>true
 |_=>false
def qhg(id:Nat):Code->Bool
 |.block i _=>i==id
 |_=>false
def qcN:Code->Bool
 |.loop b=>!(qf b)
 |_=>false
def qgG:Code->Bool
 |.scope _=>true
 |_=>false
section
variable {P:Program} {G:Nat->Option (List T)} {prom:List Nat} {nt:Nat} {A:FuncId->Ann} {f:FuncId}
theorem qfs{h0:qa}{b:Code}(hrg:qf b=false){lin lout:List Nat}(I:Nat->List T->qa->Prop)(Post:Ex->List T->qa->Prop)
 (round:∀n vs h,I n vs h->(∃m vs' h',m<n/\qJ P G prom nt h0 b (qx lin vs h) .normal (qx lin vs' h')/\I m vs' h')∨∃e vs' h',e≠.normal/\qJ P G prom nt h0 b (qx lin vs h) e (qx lout vs' h')/\Post e vs' h')
 {n:Nat} {vs:List T} {h:qa} (hI:I n vs h):∃e vs1 h1,Post e vs1 h1/\qJ P G prom nt h0 (.loop b) (qx lin vs h) e (qx lout vs1 h1):=by
 have key:∀n vs h,I n vs h->∃(N:Nat) (V:Nat->List T) (H:Nat->qa) (e:Ex) (vs1:List T) (h1:qa),V 0=vs/\H 0=h/\Post e vs1 h1/\(∀i,i<N->qJ P G prom nt h0 b (qx lin (V i) (H i)) .normal (qx lin (V (i+1)) (H (i+1))))/\e≠.normal/\qJ P G prom nt h0 b (qx lin (V N) (H N)) e (qx lout vs1 h1):=by
  intro n
  induction n using Nat.strongRecOn with
  |_ n ih =>
   intro vs h hI;rcases round n vs h hI with⟨m,vs',h',hm,hs,hI'⟩|⟨e,vs',h',hne,hl,hp⟩
   ·obtain⟨N,V,H,e,vs1,h1,q1,q2,q3,q4,q5⟩:=ih m hm vs' h' hI';refine⟨N+1,fun i=>match i with|0=>vs|i+1=>V i,fun i=>match i with|0=>h|i+1=>H i,e,vs1,h1,rfl,rfl,q3,fun i hi=>?_,q5⟩;cases i with
    |zero=>show qJ P G prom nt h0 b (qx lin vs h) .normal (qx lin (V 0) (H 0));rw[q1,q2];exact hs
    |succ i=>exact q4 i (by omega)
   ·exact⟨0,fun _=>vs,fun _=>h,e,vs',h',rfl,rfl,hp,fun i hi=>by omega,hne,hl⟩
 obtain⟨N,V,H,e,vs1,h1,q1,q2,q3,q4,hne,q5⟩:=key n vs h hI;refine⟨e,vs1,h1,q3,?_⟩;subst q1 q2;intro ro nn hro gg w0 g0 a0 ww hr0 hf0 hs0 Q hn;refine zI (fun j a w=>∃i g,i<=N/\j=N-i/\SR G prom nt g (qx lin (V i) (H i)) a w/\FrC gg h0 w0 g (H i) w/\a.defers=a0.defers) (fun j a w hJ=>?_) N a0 ww ⟨0,g0,Nat.zero_le _,rfl,hs0,hf0,rfl⟩;obtain⟨i,g,hi,rfl,hs,hf,hdf⟩:=hJ;rcases Nat.lt_or_ge i N with q|q
 ·refine q4 i q ro nn (fun hh=>hro (by simpa [qf] using hh)) gg w0 g a w hr0 hf hs _ fun a' w' g' hs' hf' hd'=>?_;exact⟨N-(i+1),by omega,i+1,g',by omega,rfl,hs',hf',(hd' hrg).trans hdf⟩
 ·obtain rfl:i=N:=by omega
  refine q5 ro nn (fun hh=>hro (by simpa [qf] using hh)) gg w0 g a w hr0 hf hs _ fun a' w' g' hs' hf' hd'=>?_;have fin:=hn a' w' g' hs' hf' (fun h=>(hd' hrg).trans hdf);cases e with
  |normal=>exact absurd rfl hne
  |exit i=>exact fin
  |ret=>exact fin
theorem qez{h0:qa}{c:Code}{id:Nat}{s s1:St}{e e':Ex}(he:e'=match e with|.exit i=>bif i==id then .normal else .exit i|e=>e)(h1:qJ P G prom nt h0 c s e s1):qJ P G prom nt h0 (.block id c) s e' s1:=by
 subst he;intro ro n hro g0 w0 g a w hr hf hs Q hn;refine wpIn_block (h1 ro n (fun h=>hro (by simp[qf,h])) g0 w0 g a w hr hf hs _ fun a1 w1 g1 hs1 hf1 hd1=>?_);have fin:=hn a1 w1 g1 hs1 hf1 fun h=>hd1 (by simpa only[qf] using h);cases e with
 |normal=>exact fin
 |ret=>exact fin
 |exit i =>
  simp only[Ex.out,Exit.inBlock] at fin ⊢;by_cases q:i=id
  ·subst q;rw[show(i==i)=true by simp] at fin;rw[if_pos rfl];exact fin
  ·rw[show(i==id)=false by simp[q]] at fin;rw[if_neg q];exact fin
theorem qft{h0:qa}{c d:Code}{s s1 s':St}{e:Ex}(h1:qJ P G prom nt h0 c s .normal s1)(h2:qJ P G prom nt h0 d s1 e s'):qJ P G prom nt h0 (.seq c d) s e s' :=
 fun ro n hro g0 w0 g a w hr hf hs Q hn=>wpIn_seq (h1 ro n (fun h=>hro (by simp[qf,h])) g0 w0 g a w hr hf hs _ fun a1 w1 g1 hs1 hf1 hd1=>h2 ro n (fun h=>hro (by simp[qf,h])) g0 w0 g1 a1 w1 hr hf1 hs1 Q fun a2 w2 g2 hs2 hf2 hd2=>hn a2 w2 g2 hs2 hf2 fun h=>by simp only[qf,Bool.or_eq_false_iff] at h;exact(hd2 h.2).trans (hd1 h.1))
theorem qfu{h0:qa}{c d:Code}{s s':St}{e:Ex}(he:e≠.normal)(h1:qJ P G prom nt h0 c s e s'):qJ P G prom nt h0 (.seq c d) s e s' :=
 fun ro n hro g0 w0 g a w hr hf hs Q hn=>wpIn_seq (h1 ro n (fun h=>hro (by simp[qf,h])) g0 w0 g a w hr hf hs _ fun a1 w1 g1 hs1 hf1 hd1=>by
  have fin:=hn a1 w1 g1 hs1 hf1 fun h=>by simp only[qf,Bool.or_eq_false_iff] at h;exact hd1 h.1
  cases e with
  |normal=>exact absurd rfl he
  |exit i=>exact fin
  |ret=>exact fin)
theorem qfv{h0:qa}{c:Code}{s:St}{e:Ex}{l:List Nat}{vs vs2:List T}{h h2:qa}(ht:qJ P G prom nt h0 c s e (qx l vs h))(hw:WeakTo G prom nt l h0.length vs h vs2 h2):qJ P G prom nt h0 c s e (qx l vs2 h2) :=
 fun ro n hro g0 w0 g a w hr hf hs Q hn=>ht ro n hro g0 w0 g a w hr hf hs Q fun a1 w1 g1 hs1 hf1 hd1=>by
  obtain⟨g2,q1,q2,_⟩:=hw g1 a1 w1 g0 h0 w0 (Nat.le_refl _) hr hf1 hs1;exact hn a1 w1 g2 q1 q2 hd1
def Pz(P:Program)(G:Nat->Option (List T))(A:FuncId->Ann)(f:FuncId)(h0:qa)(p:List Nat)(l:List Nat)(vs:List T)(h:qa)(e:Ex)(l':List Nat)(vs':List T)(h':qa):Prop :=
 ∀fn c,P.funcs[f]?=some fn->fn.body=some c->qJ P G (A f).prom fn.ntmps h0 (nav p c) (qx l vs h) e (qx l' vs' h')
def Wk(G:Nat->Option (List T))(A:FuncId->Ann)(f:FuncId)(k:Nat)(l:List Nat)(vs:List T)(h:qa)(vs2:List T)(h2:qa):Prop:=∀nt,WeakTo G (A f).prom nt l k vs h vs2 h2
variable {h0:qa} {p:List Nat} {l l1 l2:List Nat} {vs v1 v2:List T} {h h1 h2:qa} {e:Ex}
theorem Pz.seq(hq:yK P f p qhf=true)(a:Pz P G A f h0 (1::p) l vs h .normal l1 v1 h1)(b:Pz P G A f h0 (2::p) l1 v1 h1 e l2 v2 h2):Pz P G A f h0 p l vs h e l2 v2 h2:=by
 intro fn c hf hb;have hc:=y5 hq hf hb;have ha:=a fn c hf hb;have hb':=b fn c hf hb;simp only[nav,qcM] at ha hb';revert hc ha hb';generalize nav p c=d;intro hc ha hb';cases d with
 |seq x y=>exact qft ha hb'
 |_=>cases hc
theorem Pz.seqX(hq:yK P f p qhf=true)(he:e≠.normal)(a:Pz P G A f h0 (1::p) l vs h e l1 v1 h1):Pz P G A f h0 p l vs h e l1 v1 h1:=by
 intro fn c hf hb;have hc:=y5 hq hf hb;have ha:=a fn c hf hb;simp only[nav,qcM] at ha;revert hc ha;generalize nav p c=d;intro hc ha;cases d with
 |seq x y=>exact qfu he ha
 |_=>cases hc
theorem Pz.blk{id:Nat}{e':Ex}(hq:yK P f p (qhg id)=true)(he:e'=match e with|.exit i=>bif i==id then .normal else .exit i|e=>e)(a:Pz P G A f h0 (0::p) l vs h e l1 v1 h1):Pz P G A f h0 p l vs h e' l1 v1 h1:=by
 intro fn c hf hb;have hc:=y5 hq hf hb;have ha:=a fn c hf hb;simp only[nav,qcM] at ha;revert hc ha;generalize nav p c=d;intro hc ha;cases d with
 |block i x =>
  obtain rfl:i=id:=by simpa [qhg] using hc
  exact qez he ha
 |_=>cases hc
theorem Pz.scope(hq:yK P f p qgG=true)(a:Pz P G A f h0 (0::p) l vs h e l1 v1 h1):Pz P G A f h0 p l vs h e l1 v1 h1:=by
 intro fn c hf hb;have hc:=y5 hq hf hb;have ha:=a fn c hf hb;simp only[nav,qcM] at ha;revert hc ha;generalize nav p c=d;intro hc ha;cases d with
 |scope x=>exact qaT ha
 |_=>cases hc
theorem Pz.post(a:Pz P G A f h0 p l vs h e l1 v1 h1)(w:Wk G A f h0.length l1 v1 h1 v2 h2):Pz P G A f h0 p l vs h e l1 v2 h2 :=
 fun fn c hf hb=>qfv (a fn c hf hb) (w _)
theorem Pz.pre(w:Wk G A f h0.length l vs h v1 h1)(a:Pz P G A f h0 p l v1 h1 e l2 v2 h2):Pz P G A f h0 p l vs h e l2 v2 h2 :=
 fun fn c hf hb=>qbP (w _) (a fn c hf hb)
theorem Pz.only(a:Pz P G A f h0 p l vs h e l1 v1 h1)(hv:zS (qx l1 v1 h1) l2=v2):Pz P G A f h0 p l vs h e l2 v2 h1:=by
 intro fn c hf hb ro n hro g0 w0 g a' w hr hfr hs Q hn;subst hv;exact a fn c hf hb ro n hro g0 w0 g a' w hr hfr hs Q fun a1 w1 g1 hs1 hf1 hd1=>hn a1 w1 g1 (hs1.only l2) hf1 hd1
theorem Pz.loop(hq:yK P f p qcN=true)(I:Nat->List T->qa->Prop)(Post:Ex->List T->qa->Prop)
 (round:∀n vs h,I n vs h->(∃m vs' h',m<n/\Pz P G A f h0 (0::p) l vs h .normal l vs' h'/\I m vs' h')∨∃e vs' h',e≠.normal/\Pz P G A f h0 (0::p) l vs h e l1 vs' h'/\Post e vs' h')
 {n:Nat} (hI:I n vs h):∃e vs' h',Post e vs' h'/\Pz P G A f h0 p l vs h e l1 vs' h':=by
 by_cases hh:∃fn c,P.funcs[f]?=some fn/\fn.body=some c
 ·obtain⟨fn,c,hf,hb⟩:=hh;have hc:=y5 hq hf hb;have key:∃b,nav p c = .loop b/\qf b=false:=by
   revert hc;generalize nav p c=d;intro hc;cases d with
   |loop b=>exact⟨b,rfl,by simpa [qcN] using hc⟩
   |_=>cases hc
  obtain⟨b,hb1,hb2⟩:=key;have hb0:nav (0::p) c=b:=by simp only[nav,qcM,hb1,inB]
  obtain⟨e,vs1,h1,q1,q2⟩:=qfs (P:=P) (G:=G) (prom:=(A f).prom) (nt:=fn.ntmps) (h0:=h0) hb2 (lin:=l) (lout:=l1) I Post (fun n vs h hI=>by
   rcases round n vs h hI with⟨m,vs',h',hm,hs,hI'⟩|⟨e,vs',h',hne,hl,hp⟩
   ·exact .inl ⟨m,vs',h',hm,hb0▸hs fn c hf hb,hI'⟩
   ·exact .inr ⟨e,vs',h',hne,hb0▸hl fn c hf hb,hp⟩) hI
  refine⟨e,vs1,h1,q1,fun fn2 c2 hf2 hb2=>?_⟩;rw[hf] at hf2;obtain rfl:=Option.some.inj hf2;rw[hb] at hb2;obtain rfl:=Option.some.inj hb2;rw[hb1];exact q2
 ·unfold yK at hq;cases hf:P.funcs[f]? with
  |none=>rw[hf] at hq;cases hq
  |some fn =>
   rw[hf] at hq;dsimp only at hq;cases hb:fn.body with
   |none=>rw[hb] at hq;cases hq
   |some c=>exact absurd ⟨fn,c,hf,hb⟩ hh
theorem Pz.count(hq:yK P f p qcN=true)(V:Nat->List T)(H:Nat->qa){n:Nat}(he:e≠.normal)
 (round:∀i,i<n->Pz P G A f h0 (0::p) l (V i) (H i) .normal l (V (i+1)) (H (i+1))) (last:Pz P G A f h0 (0::p) l (V n) (H n) e l1 v1 h1):Pz P G A f h0 p l (V 0) (H 0) e l1 v1 h1:=by
 obtain⟨e',vs',h',⟨rfl,rfl,rfl⟩,q⟩:=Pz.loop (P:=P) (G:=G) (A:=A) (f:=f) (h0:=h0) (p:=p) (l:=l) (l1:=l1) hq (fun m vs h=>∃i,i<=n/\m=n-i/\vs=V i/\h=H i) (fun e' vs' h'=>e'=e/\vs'=v1/\h'=h1) (fun m vs h hI=>by
  obtain⟨i,hi,rfl,rfl,rfl⟩:=hI;rcases Nat.lt_or_ge i n with q|q
  ·exact .inl ⟨n-(i+1),_,_,by omega,round i q,i+1,by omega,rfl,rfl,rfl⟩
  ·obtain rfl:i=n:=by omega
   exact .inr ⟨e,v1,h1,he,last,rfl,rfl,rfl⟩) (n:=n) ⟨0,Nat.zero_le _,rfl,rfl,rfl⟩
 exact q
def qf9(P:Program)(f:Nat):Bool:=match P.funcs[f]? with
 |some fn=>Nat.ble fn.ntmps 1024
 |none=>false
theorem Pz.run{K:Orc}(hm:P.follows .mixedOrders=true)(hK:OrcOk P G K){m:Nat}(ha:(QD P f&&qf9 P f)=true){lo:List (Nat×(List T->qa->LT))}(hL:∀p∈lo,LoopOk P G (A f) f p.1 p.2)
 (hk:zC P G A K m f lo (nav p) l vs h l1=some (e,v1,h1)):Pz P G A f h0 p l vs h e l1 v1 h1:=by
 intro fn c hf hb;simp only[Bool.and_eq_true] at ha;have hnt:fn.ntmps<=1024:=by
  have:=ha.2;unfold qf9 at this;rw[hf] at this;exact qT this
 exact kr (Yw hm hK hf hb hnt ha.1 hL (nav p) rfl (fun b hb=>qbR p c b hb) hk)
theorem Pz.told(hn:Qv P=true){args:List T}{fn:Func}(hfn:P.funcs[f]?=some fn)(hc:(Nat.ble fn.ntmps 1024&&Nat.ble args.length fn.ntmps)=true)(hbd:fn.body.isSome=true)(hl:enter args []=qx l args [])
 (hgo:Pz P G A f [] [] l args [] .ret l1 v1 h1) {r:T} (hres:Yh P G (A f).prom fn (qx l1 v1 h1) (fun v=>some (yP h1 v))=some r):ToldOk P G f args r:=by
 obtain⟨c,hb⟩:=Option.isSome_iff_exists.1 hbd;have:=hgo fn c hfn hb;rw[show nav [] c=c from rfl,←hl] at this;exact Je hn hfn hb hc (Jd (s:=enter args []) this) hres
end
section
variable {P:Program} {Gl:Nat->Option (List T)} {A:FuncId->Ann}
end
def qcO:T->T
 |.new x=>x
 |x=>x
def strip:T->T
 |.agg l=>.agg (l.map qcO)
 |x=>qcO x
theorem jF(x:T):ResTo x (qcO x):=by cases x<;>first|exact .newv _|exact .refl _
theorem jG:∀l:List T,ResToL l (l.map qcO)
 |[]=>.nil
 |x::l=>.cons (jF x) (jG l)
theorem ToldOk.strip{P:Program}{Gl:Nat->Option (List T)}{f:FuncId}{args:List T}{r:T}(t:ToldOk P Gl f args r):ToldOk P Gl f args (Ab.strip r):=by
 cases r with
 |agg l=>exact t.aggTo (jG l)
 |_=>exact t.resTo (jF _)
theorem qe0(o:Option T):o.bind some=o:=by cases o<;>rfl
def qbo(o:Oper):Bool:=o.guard.isNone&&match o.op with
 |.move _|.assign _|.slice ..=>true
 |.call { callee:=.builtin .len,.. }=>true
 |_=>false
def kv:Code->Bool
 |.skip=>true
 |.region _ ops _=>ops.toList.all qbo
 |.seq a b=>kv a&&kv b
 |.cond _ a b=>kv a&&kv b
 |.ret=>true
 |_=>false
section
variable {P:Program} {Gl:Nat->Option (List T)} {K:Orc} {R:Type} {prom:List Nat} {nt:Nat} {live:Nat->Bool->List Nat}
theorem kM{len lim:Nat}{cap:Option Nat}{lo hi mx:Option T}{k:Nat->Nat->Option Nat->Option R}{r:R}(h:Z1 len lim cap lo hi mx k=some r):∃a b c,k a b c=some r:=by
 have opt:∀{x:Option T} {d:Int} {k:Int->Option R} {r:R},Yc x d k=some r->∃i,k i=some r:=by
  intro x d k r h;unfold Yc at h;split at h
  all_goals first|exact⟨_,h⟩|cases h
 unfold Z1 at h;obtain⟨l,h⟩:=opt h;obtain⟨u,h⟩:=opt h;split at h
 ·exact⟨_,_,_,(qc h).2⟩
 ·split at h
  ·cases h
  ·exact⟨_,_,_,(qc h).2⟩
 ·cases h
theorem qaW{h:qa}{i ver:Nat}{k:Blk->Option R}{r:R}(hk:qM h i ver k=some r):∃b,k b=some r:=by
 obtain⟨b,_,_,_,h⟩:=yv hk;exact⟨b,h⟩
theorem qdI{t:TypeId}{x:T}{lo hi mx:Option T}{h:qa}{k:qO R}{r:R}(hk:QH P t x lo hi mx h k=some r):∃v,k v h false=some r:=by
 unfold QH at hk;split at hk
 ·split at hk
  ·obtain⟨a,b,c,q⟩:=kM (qc hk).2;exact⟨_,q⟩
  ·cases hk
 ·split at hk
  ·obtain⟨a,b,c,q⟩:=kM (qc hk).2;exact⟨_,q⟩
  ·cases hk
 ·split at hk
  ·obtain⟨a,b,c,q⟩:=kM (qc hk).2;exact⟨_,(qc q).2⟩
  ·cases hk
 ·split at hk
  ·obtain⟨b,q⟩:=qaW hk;obtain⟨a,b,c,q⟩:=kM (qc q).2;exact⟨_,q⟩
  ·cases hk
 ·cases hk
theorem qfw{t:TypeId}{x:T}{h:qa}{k:qO R}{r:R}(hk:Kr P t x h k=some r):∃v,k v h false=some r:=by
 unfold Kr at hk;split at hk
 ·exact⟨_,(qc hk).2⟩
 ·exact⟨_,(qc hk).2⟩
 ·exact⟨_,(qc hk).2⟩
 ·obtain⟨b,q⟩:=qaW (qc hk).2;exact⟨_,q⟩
 ·split at hk
  ·exact⟨_,hk⟩
  ·cases hk
 ·cases hk
theorem qdJ{o:Oper}(ho:qbo o=true){e:Operand->T}{h:qa}{k:qO R}{r:R}(hk:qP P K o.op e h k=some r):∃v,k v h false=some r:=by
 unfold qbo at ho;simp only[Bool.and_eq_true] at ho;obtain⟨_,ho⟩:=ho;split at ho
 ·rename_i heq;rw[heq] at hk;exact⟨_,hk⟩
 ·rename_i heq;rw[heq] at hk;exact⟨_,hk⟩
 ·rename_i heq;rw[heq] at hk;exact qdI hk
 ·rename_i heq;rw[heq] at hk;simp only[qP,zk] at hk;split at hk
  all_goals first|exact qfw hk|cases hk|skip
  all_goals simp_all
 ·cases ho
theorem qfx{A:Type}{v:T}{k:T->Option A}{r:A}(hk:jO v k=some r):∃v,k v=some r:=by
 rw[QU] at hk;exact⟨v,hk⟩
theorem qe1{o:Oper}{s:St}{v:T}{rs:List Nat}{rd wr:Bool}{k:Eff->FP->Option R}{r:R}(hk:done nt o s v none rs rd wr k=some r):∃f fp,f.heap=none/\k f fp=some r:=by
 unfold done at hk;split at hk
 ·exact⟨_,_,rfl,hk⟩
 ·obtain⟨v,q⟩:=qfx (qc hk).2;exact⟨_,_,rfl,q⟩
theorem ZO{o:Oper}(ho:qbo o=true){s:St}{k:Eff->FP->Option R}{r:R}(hk:qQ P K Gl prom nt o s k=some r):∃f fp,f.heap=none/\k f fp=some r:=by
 unfold qQ at hk;rcases qk hk with⟨_,hk⟩|⟨_,hk⟩
 ·obtain⟨v,q⟩:=qdJ ho hk;exact qe1 q
 ·obtain⟨v,q⟩:=qdJ ho hk;obtain⟨f,fp,h1,h2⟩:=qe1 q;exact⟨f,_,h1,h2⟩
theorem qfy{o:Oper}(ho:qbo o=true){s:St}{k:Eff->FP->Option R}{r:R}(hk:zb P K Gl prom nt o s k=some r):∃f fp,f.heap=none/\k f fp=some r:=by
 have ho2:=ho;unfold qbo at ho;simp only[Bool.and_eq_true] at ho;obtain⟨_,ho⟩:=ho;unfold zb at hk;split at ho
 ·rename_i heq;rw[heq] at hk;exact ZO ho2 hk
 ·rename_i heq;rw[heq] at hk;exact ZO ho2 hk
 ·rename_i heq;rw[heq] at hk;exact ZO ho2 hk
 ·rename_i heq;rw[heq] at hk;exact ZO ho2 hk
 ·cases ho
theorem qeA{ops:List Oper}{o:Oper}(ho:qbo o=true){s:St}{k:Eff->FP->Option R}{r:R}(hk:QW P K Gl prom nt ops o s k=some r):∃f fp,f.heap=none/\k f fp=some r:=by
 have hg:o.guard=none:=by
  unfold qbo at ho;simp only[Bool.and_eq_true] at ho;exact Option.isNone_iff_eq_none.1 ho.1
 unfold QW at hk;rw[hg] at hk;dsimp only at hk;rcases qk hk with⟨hz,hk⟩|⟨_,hk⟩
 ·unfold qbo at ho;unfold zv at hk;split at hk
  ·rename_i heq;rw[heq] at ho;simp at ho
  ·cases hk
 ·exact qfy ho hk
theorem qbS{ops:List Oper}:∀{l:List Oper} {s:St} {k:St->List FP->Option R} {r:R},l.all qbo=true->Zk P K Gl prom nt ops l s k=some r->∃s' fps,s'.h=s.h/\k s' fps=some r
 |[],s,k,r,_,hk=>⟨s,[],rfl,hk⟩
 |o::l,s,k,r,ho,hk=>by
  simp only[List.all_cons,Bool.and_eq_true] at ho;simp only[Zk] at hk;obtain⟨f,fp,h1,h2⟩:=qeA ho.1 hk;obtain⟨s',fps,h3,h4⟩:=qbS ho.2 h2;refine⟨s',fp::fps,?_,h4⟩;rw[h3];show f.heap.getD s.h=s.h;rw[h1];rfl
theorem qaX{rec:Rec}:∀{c:Code} {s:St} {k:Ex->St->Option R} {r:R},kv c=true->exK P K Gl prom nt live rec c s k=some r->∃e s',s'.h=s.h/\k e s'=some r
 |.skip,s,k,r,_,hk=>⟨_,s,rfl,hk⟩
 |.ret,s,k,r,_,hk=>⟨_,s,rfl,hk⟩
 |.region id ops draw,s,k,r,ho,hk=>by
  simp only[exK] at hk;obtain⟨s',fps,h1,h2⟩:=qbS ho hk;have h2:=(qc h2).2;refine⟨.normal,s',h1,?_⟩;rcases qk h2 with⟨_,h2⟩|⟨_,h2⟩
  ·exact(qc h2).2
  ·exact h2
 |.seq a b,s,k,r,ho,hk=>by
  simp only[kv,Bool.and_eq_true] at ho;simp only[exK] at hk;obtain⟨e,s',h1,h2⟩:=qaX ho.1 hk;cases e with
  |normal =>
   obtain⟨e,s2,h3,h4⟩:=qaX ho.2 h2;exact⟨e,s2,h3.trans h1,h4⟩
  |exit i=>exact⟨_,s',h1,h2⟩
  |ret=>exact⟨_,s',h1,h2⟩
 |.cond c a b,s,k,r,ho,hk=>by
  simp only[kv,Bool.and_eq_true] at ho;simp only[exK] at hk;split at hk
  ·rcases qk hk with⟨_,hk⟩|⟨_,hk⟩
   ·exact qaX ho.1 hk
   ·exact qaX ho.2 hk
  ·cases hk
def qhz(P:Program)(f:FuncId):Bool:=match P.funcs[f]? with
 |some fn=>match fn.body with|some c=>kv c|none=>false
 |none=>false
theorem qgH{fn:Func}{e:Ex}{s:St}{k:T->qa->Option R}{r:R}(hk:qgv P Gl prom fn e s k=some r):∃v,k v s.h=some r:=by
 have all:∀(l:List ResultVar) {k:List T->Option R} {r:R},YZ P Gl prom s l k=some r->∃vs,k vs=some r:=by
  intro l
  induction l with
  |nil=>intro k r h;exact⟨_,h⟩
  |cons x l ih =>
   intro k r h;simp only[YZ] at h;obtain⟨v,h1,_⟩:=qq (qbv P Gl prom s x) h;obtain⟨vs,h2⟩:=ih h1;exact⟨_,h2⟩
 unfold qgv at hk;split at hk
 ·cases hk
 ·unfold Yh at hk;obtain⟨vs,h⟩:=all _ hk;split at h
  ·exact⟨_,h⟩
  ·exact⟨_,h⟩
theorem qgI{A:FuncId->Ann}{rec:Func->Rec}{f:FuncId}(hf:qhz P f=true){args:List T}{h:qa}{r:T}{h':qa}(hk:kX P Gl A K rec f args h (fun v h=>some (v,h))=some (r,h')):h'=h:=by
 unfold qhz at hf;unfold kX at hk;split at hk
 ·split at hk
  ·rename_i fn hfn _ c hc;rw[hfn] at hf;dsimp only at hf;rw[hc] at hf;dsimp only at hf;unfold qc6 at hk;obtain⟨e,s',h1,h2⟩:=qaX hf (qc hk).2;obtain⟨v,h3⟩:=qgH h2;simp only[Option.some.injEq,Prod.mk.injEq] at h3;rw[←h3.2,h1];rfl
  ·cases hk
 ·cases hk
end
def KJ(P:Program)(Gl:Nat->Option (List T))(sq:FuncId->List T->Option (List (List T))):Prop:=∀gf caps l,sq gf caps=some l->SeqTold P Gl gf caps l.length (fun i=>l.getD i [])
section
variable (P:Program) (K:Orc) (G:Nat->Option (List T)) (prom:List Nat) (nt:Nat) (live:Nat->Bool->List Nat)
def Yy{R:Type}(rec:Rec)(lin ps:List Nat)(vs:List T)(asg bod:Code):List (List T)->qa->(Ex->qa->Option R)->Option R
 |[],h,k=>k .normal h
 |xs::l,h,k=>exK P K G prom nt live rec asg (qx (lin++ps) (vs++xs) h) fun e s=>match e with
  |.normal=>exK P K G prom nt live rec bod s fun e s'=>match e with
   |.normal=>Yy rec lin ps vs asg bod l s'.h k
   |e=>k e s'.h
  |_=>none
def kw(sq:FuncId->List T->Option (List (List T)))(m:Nat):Rec:=fun R b vs h k=>match b with
 |.rangeFunc (.tmp t) psa asg bod =>
  bif psa.toList.all (fun t=>Nat.blt t nt)&&!(qf asg)&&!(qf bod)&&(live (qm (.rangeFunc (.tmp t) psa asg bod)) false).all (fun t=>!(prom.contains t))&&!(prom.contains t)&&Nat.beq (live (qm (.rangeFunc (.tmp t) psa asg bod)) false).length vs.length then
   match (qx (live (qm (.rangeFunc (.tmp t) psa asg bod)) false) vs h).at t with
   |.fn gf caps=>bif caps.all Zg then match sq gf caps with
    |some l=>bif l.all (fun xs=>Nat.beq xs.length psa.toList.length) then
     Yy P K G prom nt live (yq P K G prom nt live m) (live (qm (.rangeFunc (.tmp t) psa asg bod)) false) psa.toList vs asg bod l h fun e h' =>
      k e (zS (qx (live (qm (.rangeFunc (.tmp t) psa asg bod)) false) vs h) (live (qm (.rangeFunc (.tmp t) psa asg bod)) true)) h'
     else none
    |none=>none
    else none
   |_=>none
  else none
 |b=>yq P K G prom nt live m R b vs h k
theorem kz{rec:Rec}(hrec:zD rec)(lin ps:List Nat)(vs:List T)(asg bod:Code):∀(l:List (List T)) (h:qa),Det (A:=Ex×qa) fun R k=>Yy (R:=R) P K G prom nt live rec lin ps vs asg bod l h fun e h=>k (e,h)
 |[],h=>qd (_,_)
 |xs::l,h=>by
  simp only[Yy];refine QR (Zb P K G prom nt live hrec asg _) fun e s=>?_;cases e with
  |normal =>
   refine QR (Zb P K G prom nt live hrec bod _) fun e s'=>?_;cases e with
   |normal=>exact kz hrec lin ps vs asg bod l s'.h
   |exit i=>exact qd (_,_)
   |ret=>exact qd (_,_)
  |exit i=>exact qb
  |ret=>exact qb
theorem qaY(sq:FuncId->List T->Option (List (List T)))(m:Nat):zD (kw P K G prom nt live sq m):=fun b vs h=>by
 unfold kw;split
 ·refine ql _ ?_;split
  ·refine ql _ ?_;split
   ·exact ql _ (QR (kz P K G prom nt live (z0 P K G prom nt live m) _ _ vs _ _ _ h) fun e h'=>qd (_,_,_))
   ·exact qb
  ·exact qb
 ·exact z0 P K G prom nt live m _ vs h
end
section
variable {P:Program} {K:Orc} {Gl:Nat->Option (List T)} {prom:List Nat} {nt:Nat} {live:Nat->Bool->List Nat}
theorem qaZ(hm:P.follows .mixedOrders=true)(hK:OrcOk P Gl K)(hnt:nt<=1024){rec:Rec}(hrec:RecOk P Gl prom nt live (fun _=>True) rec){lin ps:List Nat}{vs:List T}{asg bod:Code}{e1:Ex}{h1:qa} :
 ∀{l:List (List T)} {h:qa},Yy P K Gl prom nt live rec lin ps vs asg bod l h (fun e h=>some (e,h))=some (e1,h1) →
 ∃(st:Nat->qa) (n:Nat),st 0=h/\n<=l.length ∧
  (∀i,i<n->∃s1 s2,CodeGoes P Gl prom nt asg (qx (lin++ps) (vs++l.getD i []) (st i)) .normal s1/\CodeGoes P Gl prom nt bod s1 .normal s2/\s2.h=st (i+1)) ∧
  ((n=l.length/\e1 = .normal/\h1=st l.length)∨(n<l.length/\e1≠.normal/\∃s1 s2,CodeGoes P Gl prom nt asg (qx (lin++ps) (vs++l.getD n []) (st n)) .normal s1/\CodeGoes P Gl prom nt bod s1 e1 s2/\s2.h=h1))
 |[],h,hk=>by
  simp only[Yy,Option.some.injEq,Prod.mk.injEq] at hk;exact⟨fun _=>h,0,rfl,Nat.le_refl _,fun i hi=>(by omega),.inl ⟨rfl,hk.1.symm,hk.2.symm⟩⟩
 |xs::l,h,hk=>by
  simp only[Yy] at hk;obtain⟨e,s1,hk,g1⟩:=Qh hm hK hnt hrec asg (fun _ _=>trivial) hk;cases e with
  |normal =>
   dsimp only at hk;obtain⟨e,s2,hk,g2⟩:=Qh hm hK hnt hrec bod (fun _ _=>trivial) hk
   have out:∀e',e=e'->e'≠.normal->some (e',s2.h)=some (e1,h1)->∃(st:Nat->qa) (n:Nat),st 0=h/\n<=(xs::l).length ∧
    (∀i,i<n->∃s1 s2,CodeGoes P Gl prom nt asg (qx (lin++ps) (vs++(xs::l).getD i []) (st i)) .normal s1/\CodeGoes P Gl prom nt bod s1 .normal s2/\s2.h=st (i+1)) ∧
    ((n=(xs::l).length/\e1 = .normal/\h1=st (xs::l).length)∨(n<(xs::l).length/\e1≠.normal/\∃s1 s2,CodeGoes P Gl prom nt asg (qx (lin++ps) (vs++(xs::l).getD n []) (st n)) .normal s1/\CodeGoes P Gl prom nt bod s1 e1 s2/\s2.h=h1)):=by
    intro e' he hne hk;simp only[Option.some.injEq,Prod.mk.injEq] at hk;obtain⟨rfl,rfl⟩:=hk;subst he;exact⟨fun _=>h,0,rfl,by simp,fun i hi=>(by omega),.inr ⟨by simp,hne,s1,s2,g1,g2,rfl⟩⟩
   cases e with
   |normal =>
    obtain⟨st,n,q1,q2,q3,q4⟩:=qaZ hm hK hnt hrec hk;refine⟨fun i=>match i with|0=>h|i+1=>st i,n+1,rfl,by simpa using q2,fun i hi=>?_,?_⟩
    ·cases i with
     |zero=>exact⟨s1,s2,g1,g2,q1.symm⟩
     |succ i=>exact q3 i (by omega)
    ·rcases q4 with⟨p1,p2,p3⟩|⟨p1,p2,p3⟩
     ·exact .inl ⟨by simp[p1],p2,p3⟩
     ·exact .inr ⟨by simpa using p1,p2,p3⟩
   |exit i=>exact out _ rfl (by simp) hk
   |ret=>exact out _ rfl (by simp) hk
  |exit i=>cases hk
  |ret=>cases hk
theorem kN(hm:P.follows .mixedOrders=true)(hK:OrcOk P Gl K)(hnt:nt<=1024){sq:FuncId->List T->Option (List (List T))}(hsq:KJ P Gl sq)(m:Nat):RecOk P Gl prom nt live (fun _=>True) (kw P K Gl prom nt live sq m):=by
 refine⟨qaY P K Gl prom nt live sq m,fun b vs h e vs' h' _ hk=>?_⟩;unfold kw at hk;split at hk
 ·rename_i t psa asg bod _;obtain⟨hc,hk⟩:=qc hk;simp only[Bool.and_eq_true,Bool.not_eq_true',List.all_eq_true] at hc;obtain⟨⟨⟨⟨⟨a1,a2⟩,a3⟩,a4⟩,a5⟩,a6⟩:=hc;split at hk
  ·rename_i gf caps hat;obtain⟨hci,hk⟩:=qc hk;split at hk
   ·rename_i l hl;obtain⟨hxl,hk⟩:=qc hk;obtain⟨⟨e1,h1⟩,hk,hall⟩:=qq (kz P K Gl prom nt live (z0 P K Gl prom nt live m) _ _ vs _ _ _ h) (k:=fun p=>some (p.1,zS (qx (live (qm (.rangeFunc (.tmp t) psa asg bod)) false) vs h) (live (qm (.rangeFunc (.tmp t) psa asg bod)) true),p.2)) hk;simp only[Option.some.injEq,Prod.mk.injEq] at hk;obtain⟨rfl,rfl,rfl⟩:=hk;obtain⟨st,n,q1,q2,q3,q4⟩:=qaZ hm hK hnt (yh hm hK hnt m) (hall _ some);subst q1;have hgo:=qer (prom:=prom) (nt:=nt) (psa:=psa) (asg:=asg) (bod:=bod) (ps:=psa.toList) hm (Nat.eq_of_beq_eq_true a6) (fun t ht=>by simpa using a4 t ht) (by simpa using a5) rfl (fun t ht=>qU (a1 t ht)) a2 a3 hci (hsq gf caps l hl)
     (fun i hi=>by
      have:=List.all_eq_true.1 hxl (l.getD i []) (by rw[List.getD_eq_getElem?_getD,List.getElem?_eq_getElem hi];exact List.getElem_mem hi);exact(Nat.eq_of_beq_eq_true this).symm) st hat q2 (e1:=e1) (h1:=h1)
     (fun i hi=>by
      obtain⟨s1,s2,g1,g2,g3⟩:=q3 i hi;exact⟨s1,s2,g1,g2,g3▸WeakTo.refl _ _⟩)
     (by
      rcases q4 with⟨p1,p2,p3⟩|⟨p1,p2,s1,s2,g1,g2,g3⟩
      ·exact .inl ⟨p1,p2,p3⟩
      ·exact .inr ⟨p1,p2,s1,s2,g1,g2,g3▸WeakTo.refl _ _⟩)
    rw[show zc (.rangeFunc (.tmp t) psa asg bod) = .rangeFunc (.tmp t) psa asg bod from rfl];intro ro nn hro g0 a w hs Q hQ;exact hgo ro nn hro g0 a w hs Q fun a' w' g' hs' hf' hd'=>hQ a' w' g' (hs'.only _) hf' hd'
   ·cases hk
  ·cases hk
 ·exact(yh hm hK hnt m).2 b vs h e vs' h' trivial hk
end
section
variable (P:Program) (G:Nat->Option (List T)) (A:FuncId->Ann) (sq:FuncId->List T->Option (List (List T)))
def qgJ(K:Orc)(m:Nat)(f:FuncId)(fn:Func):Rec:=kw P K G (A f).prom fn.ntmps (A f).live sq m
def qhh(K:Orc)(m:Nat)(f:FuncId)(args:List T):Option T:=kX P G A K (qgJ P G A sq K m f) f args [] fun v h'=>some (yP h' v)
end
section
variable {P:Program} {G:Nat->Option (List T)} {A:FuncId->Ann} {sq:FuncId->List T->Option (List (List T))}
theorem qdK(K:Orc)(m:Nat)(f:FuncId)(fn:Func):zD (qgJ P G A sq K m f fn):=qaY _ _ _ _ _ _ _ _
theorem qe2(hm:P.follows .mixedOrders=true){K:Orc}(hK:OrcOk P G K)(hsq:KJ P G sq)(m:Nat)(f:FuncId):KG P G A f (qgJ P G A sq K m f):=fun _ _ _ _ hnt=>(kN hm hK hnt hsq m).mono
theorem qeB(hm:P.follows .mixedOrders=true)(hn:Qv P=true){K:Orc}(hK:OrcOk P G K)(hsq:KJ P G sq){m:Nat}{f:FuncId}{args:List T}{r:T}(h:qhh P G A sq K m f args=some r):ToldOk P G f args r :=
 ⟨yy hn h,fun _ _ _ hU hgl hargs=>qaJ hm hK (qdK K m f) (qe2 hm hK hsq m f) h hU hgl hargs⟩
end
end Go.Ab

