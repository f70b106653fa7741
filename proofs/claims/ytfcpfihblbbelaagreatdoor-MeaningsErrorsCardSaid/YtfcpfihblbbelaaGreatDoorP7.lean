/- A part of the proof: nothing is assumed. -/
import Derived.Test.YtfcpfihblbbelaaGreatDoorP5
import Derived.Test.YtfcpfihblbbelaaGreatDoorP3
set_option linter.all false
namespace Go.Ab
def qcT(cells:List T):Blk:=⟨0,cells.length,1,fun _=>cells,cells.all qw,false,none⟩
def qgU(t:Nat)(cells:List T)(s:St):St:={ env:=s.env.set Qt t (.ptr s.h.length 0 0 0),loc:=fun _=>none,used:=fun _=>false,h:=s.h++[qcT cells] }
def jL(prom:List Nat)(t:Nat):List Nat:=prom.filter fun x=>!(x==t)
def yC:List Nat->List Nat->List Nat
 |prom,[]=>prom
 |prom,t::l=>yC (jL prom t) l
def qgg:List Nat->List Nat->St->Option St
 |_,[],s=>some s
 |prom,t::l,s=>match s.at t with
  |.reg cells=>bif prom.contains t then qgg (jL prom t) l (qgU t cells s) else none
  |_=>none
section
variable {P:Program} {Gl:Nat->Option (List T)} {prom prom':List Nat} {nt:Nat} {K:Orc} {A:FuncId->Ann}
theorem JH{t u:Nat}:u∈jL prom t↔u∈prom/\u≠t:=by simp[jL]
theorem qgV{g:Gh}{s:St}{a:Act}{w:World}(hs:SR Gl prom nt g s a w){t:Nat}(ht:t∈prom){cells:List T}(hc:s.at t = .reg cells) :
 ∃g',SR Gl (jL prom t) nt g' (qgU t cells s) a w/\∀g0 h0 w0,KB g0->FrC g0 h0 w0 g s.h w->FrC g0 h0 w0 g' (qgU t cells s).h w:=by
 obtain⟨cb,arr,e,hreg⟩:=hs.regs t ht cells hc;have hr:=hs.hr;have ht1:t<1024:=by
  rcases Nat.lt_or_ge t 1024 with q|q
  ·exact q
  ·rw[Jy (by omega)] at hc;cases hc
 let h:=s.h
 let b':Blk:=qcT cells
 let g':Gh:={ g with φ:=fun k=>if k=h.length then some (cb,0) else g.φ k,own:=fun k=>if k=cb then some (.inl h.length) else g.own k }
 have hU:KeepU w g.U w g.U:=fun k hk=>⟨hk,rfl⟩;have hkeep:zx g h w g' (h++[b']) w:=by
  refine⟨hU,fun k x hx=>?_,fun k n hkn=>hkn⟩;have hk:k<h.length:=by
   rcases Nat.lt_or_ge k h.length with hh|hh
   ·exact hh
   ·simp[List.getElem?_eq_none hh] at hx
  exact⟨x,by rw[List.getElem?_append_left hk];exact hx,Nat.le_refl _,fun _=>⟨rfl,rfl,by simp[g',Nat.ne_of_lt hk]⟩⟩
 have hne:∀k i,g.own k=some (.inl i)->k≠cb:=by
  rintro k i hk rfl;rw[hreg.own] at hk;cases hk
 have hnew:(h++[b'])[h.length]?=some b':=by simp
 have hr':HR g' (h++[b']) w:=by
  refine⟨fun k x hx hmx=>?_,fun k hk=>?_,fun k o ho=>?_,hr.base,fun k o ho=>?_,fun k j ho=>?_,fun k x m hx hmx=>?_⟩
  ·rcases Nat.lt_or_ge k h.length with hk|hk
   ·rw[List.getElem?_append_left hk] at hx;rcases hr.blk0 k x hx hmx with⟨cb2,sh2,arr2,e2,hok⟩|⟨q1,q2⟩
    ·refine .inl ⟨cb2,sh2,arr2,e2,by simp[g',Nat.ne_of_lt hk,hok.φ],by simp[g',hne _ _ hok.own,hok.own],hok.heap,hok.room,hok.len,fun j o c hj hc=>?_,hok.flat⟩;obtain⟨v,h1,h2,h3⟩:=hok.cell j o c hj hc;exact⟨v,h1,h2,h3.keep hkeep⟩
    ·exact .inr ⟨by simp[g',Nat.ne_of_lt hk,q1],q2⟩
   ·have hk':k=h.length:=by
     rcases Nat.lt_or_ge h.length k with h'|h'
     ·rw[List.getElem?_eq_none (by simp;omega)] at hx;simp at hx
     ·omega
    subst hk';rw[hnew] at hx;obtain rfl:=Option.some.inj hx;refine .inl ⟨cb,0,arr,e,by simp[g'],by simp[g'],hreg.heap,by simpa [b',qcT] using hreg.len,fun j _=>rfl,fun j o c hj hc=>?_,fun hf j _ c hc=>List.all_eq_true.1 hf c hc⟩;have hj0:j=0:=by simp[b',qcT] at hj;omega
    subst hj0;obtain⟨v,h1,h2,h3⟩:=hreg.cell o c hc;exact⟨v,by simpa using h1,h2,h3.keep hkeep⟩
  ·obtain⟨h1,h2⟩:=hr.u k hk;have hk2:k≠cb:=by
    rintro rfl;rw[hreg.own] at h2;cases h2
   exact⟨h1,by simp[g',hk2,h2]⟩
  ·by_cases hk:k=cb
   ·subst hk;exact hr.own _ _ hreg.own
   ·simp only[g',hk,if_false] at ho;exact hr.own k o ho
  ·by_cases hk:k=cb
   ·subst hk;exact .inl ⟨arr,e,hreg.heap⟩
   ·simp only[g',hk,if_false] at ho;exact hr.cells k o ho |>.imp id fun ⟨i2,es,c,h1,h2⟩=>⟨i2,es,c,h1,h2⟩
  ·rw[List.length_append,List.length_singleton];by_cases hk:k=cb
   ·subst hk;simp only[g',if_true,Option.some.injEq,Sum.inl.injEq] at ho;omega
   ·simp only[g',hk,if_false] at ho;have:=hr.lt k j ho;show j<h.length+1;have:j<h.length:=this;omega
  ·rcases Nat.lt_or_ge k h.length with hk|hk
   ·rw[List.getElem?_append_left hk] at hx;obtain⟨c,h1,h2,h3⟩:=hr.mp k x m hx hmx;exact⟨c,by simp[g',Nat.ne_of_lt hk,h1],by simp[g',hne _ _ h2,h2],h3⟩
   ·have hk':k=h.length:=by
     rcases Nat.lt_or_ge h.length k with h'|h'
     ·rw[List.getElem?_eq_none (by simp;omega)] at hx;simp at hx
     ·omega
    subst hk';rw[hnew] at hx;obtain rfl:=Option.some.inj hx;cases hmx
 have hat:=fun u=>jZ (s:=s) (s':=qgU t cells s) (d:=t) (v:=.ptr h.length 0 0 0) rfl ht1 u;refine⟨g',⟨hr',?_,hs.size,hs.nt,fun u hu=>?_,fun u hu cs hcs=>?_,fun d t o hl=>(by cases hl),fun gl cs hg=>(hs.glob gl cs hg).keep hU,fun d t o hl=>(by cases hl)⟩,fun g0 h0 w0 hn f=>?_⟩
 ·obtain⟨p0,l,p1,p2,p3⟩:=hs.defers;refine⟨p0,l,p1,p2,fun D hD=>?_⟩;obtain⟨r1,r2,r3,r4⟩:=p3 D hD;have hD2:D≠cb:=by
   rintro rfl;rw[hreg.own] at r2;cases r2
  exact⟨r1,by simp[g',hD2,r2],r3,r4⟩
 ·rw[hat];by_cases q:u=t
  ·subst q;rw[if_pos rfl];exact .ptr _ _ _ _ b' _ hnew (Nat.le_refl _) (by rw[hreg.ptr];rfl) fun _=>⟨cb,0,by simp[g',h],by rw[hreg.ptr];simp⟩
  ·rw[if_neg q];exact(hs.tmps u fun hm=>hu (JH.2 ⟨hm,q⟩)).keep hkeep
 ·rw[hat] at hcs;obtain⟨hu,hne'⟩:=JH.1 hu;rw[if_neg hne'] at hcs;obtain⟨cb2,arr2,e2,hreg2⟩:=hs.regs u hu cs hcs;refine⟨cb2,arr2,e2,hreg2.keep hkeep ?_ rfl⟩;have:cb2≠cb:=by
   rintro rfl;have:=hreg2.own;rw[hreg.own] at this;exact hne' (by simpa using this.symm)
  simp[g',this]
 ·refine⟨f.keep.trans hkeep,f.size,fun b hb=>?_,f.os,f.tape,f.output,f.same,f.bs,f.u,f.u'⟩;have:b≠cb:=by
   rintro rfl;have:=f.own b hb;rw[hreg.own] at this;exact hn b t this.symm
  show(if b=cb then _ else g.own b)=_;rw[if_neg this];exact f.own b hb
theorem qe6:∀(ds:List Nat) {prom:List Nat} {g:Gh} {s s2:St} {a:Act} {w:World},qgg prom ds s=some s2->SR Gl prom nt g s a w →
 ∃g',SR Gl (yC prom ds) nt g' s2 a w/\∀g0 h0 w0,KB g0->FrC g0 h0 w0 g s.h w->FrC g0 h0 w0 g' s2.h w
 |[],prom,g,s,s2,a,w,hk,hs=>by
  obtain rfl:=Option.some.inj hk;exact⟨g,hs,fun _ _ _ _ f=>f⟩
 |t::l,prom,g,s,s2,a,w,hk,hs=>by
  simp only[qgg] at hk;split at hk
  ·rename_i cells hc;obtain⟨hm,hk⟩:=qc hk;obtain⟨g1,q1,q2⟩:=qgV hs (by simpa using hm) hc;obtain⟨g2,q3,q4⟩:=qe6 l hk q1;exact⟨g2,q3,fun g0 h0 w0 hn f=>q4 g0 h0 w0 hn (q2 g0 h0 w0 hn f)⟩
  ·cases hk
def Q8(P:Program)(Gl:Nat->Option (List T))(prom prom':List Nat)(nt:Nat)(h0:qa)(c:Code)(s:St)(e:Ex)(s':St):Prop :=
 ∀(ro:Option Nat) (n:Nat),(qf c=true->ro=none)->∀(g0:Gh) (w0:World) (g:Gh) (a:Act) (w:World),HR g0 h0 w0->KB g0->FrC g0 h0 w0 g s.h w->SR Gl prom nt g s a w->∀Q:Exit->Act->World->Prop,
  (∀a' w' g',SR Gl prom' nt g' s' a' w'->FrC g0 h0 w0 g' s'.h w'->Q e.out a' w')->c.wpIn (Ql ro) n P Q a w
theorem qfF{h0:qa}{c:Code}{s s':St}{e:Ex}(h:CodeGoes P Gl prom nt c s e s'):Q8 P Gl prom prom nt h0 c s e s' :=
 fun ro n hro _ _ g a w _ _ hf hs Q hn=>h ro n hro g a w hs Q fun a' w' g' hs' hf' _=>hn a' w' g' hs' (hf.trans hf')
theorem qfG{h0:qa}{c d:Code}{s s1 s':St}{e:Ex}(h1:CodeGoes P Gl prom nt c s .normal s1)(h2:Q8 P Gl prom prom' nt h0 d s1 e s'):Q8 P Gl prom prom' nt h0 (.seq c d) s e s' :=
 fun ro n hro g0 w0 g a w hr hno hf hs Q hn=>wpIn_seq (h1 ro n (fun h=>hro (by simp[qf,h])) g a w hs _ fun a1 w1 g1 hs1 hf1 _=>h2 ro n (fun h=>hro (by simp[qf,h])) g0 w0 g1 a1 w1 hr hno (hf.trans hf1) hs1 Q fun a2 w2 g2 hs2 hf2=>hn a2 w2 g2 hs2 hf2)
theorem qfH{h0:qa}{c:Code}{s s2 s':St}{e:Ex}{ds:List Nat}(hd:qgg prom ds s=some s2)(h:Q8 P Gl (yC prom ds) prom' nt h0 c s2 e s'):Q8 P Gl prom prom' nt h0 c s e s' :=
 fun ro n hro g0 w0 g a w hr hno hf hs Q hn=>by
  obtain⟨g2,q1,q2⟩:=qe6 ds hd hs;exact h ro n hro g0 w0 g2 a w hr hno (q2 _ _ _ hno hf) q1 Q hn
theorem qeI(hn:Qv P=true){f:FuncId}{fn:Func}{c:Code}(hfn:P.funcs[f]?=some fn)(hb:fn.body=some c){args:List T}(hc:(Nat.ble fn.ntmps 1024&&Nat.ble args.length fn.ntmps)=true){s':St}(hgo:Q8 P Gl prom prom' fn.ntmps [] c (enter args []) .ret s'){r:T}(hres:Yh P Gl prom' fn s' (fun v=>some (yP s'.h v))=some r):ToldOk P Gl f args r:=by
 obtain⟨rv,hrv,hres2⟩:=qq (ko (P:=P) (Gl:=Gl) (prom:=prom') fn s') hres;obtain rfl:=Option.some.inj hrv;simp only[Bool.and_eq_true] at hc;have hnt:=qT hc.1;have hle:=qT hc.2;refine⟨⟨fn,hfn,by rw[hb];rfl,?_⟩,fun w U cargs hU hgl ha=>?_⟩
 ·have:=Array.all_eq_true'.1 hn fn (Array.mem_of_getElem? hfn);rw[hb] at this;simpa using this
 let g0:Gh:={ U:=U,φ:=fun _=>none,own:=fun _=>none,base:=w.heap.size,low:=0 }
 have hr:HR g0 [] w:=⟨fun i b hb=>by simp at hb,fun b hb=>⟨hU b hb,rfl⟩,fun b o ho=>(by cases ho),Nat.le_refl _,fun b o ho=>(by cases ho),fun b i ho=>(by cases ho),fun i b m hb=>by simp at hb⟩;have hav:ArgsVR g0 [] w args cargs:=⟨ha.1,fun i x hi=>by
  obtain⟨v,q1,q2⟩:=ha.2 i x hi;exact⟨v,q1,.imm _ _ q2⟩⟩
 have hs0:=SR.enter (Gl:=Gl) (prom:=prom) (Nat.le_refl _) (hr.setLow w.heap.size) hgl hav hnt hle;rw[←callsIn_wide (n:=0)];refine callsIn_of_wp_marks hfn hb trivial (hgo none 0 (fun _=>rfl) _ w _ _ w (hr.setLow w.heap.size) (fun b t h=>by cases h) (.refl _ _ _) hs0 _ fun a' w' g' hs' hf'=>?_) rfl;obtain⟨hlo,l,hl1,hl2,hl3⟩:=hs'.defers;replace hl1:=hl1.nil hf'.dt;obtain⟨t1,t2,t3,t4,t5⟩:=JZ l w';have hoff:∀b,g'.U b∨g'.own b≠none->b∉l:=by
  rintro b hb hbl;obtain⟨q1,q2,q3,q4⟩:=hl3 b hbl;rcases hb with hb|hb
  ·exact q3 hb
  ·exact hb q2
 have hrm:∀b n,room w' b n->room (turn l w') b n:=by
  rintro b n ⟨arr,e,h1,h2⟩;refine⟨arr,e,?_,h2⟩;rw[t5 b fun hbl=>?_]
  ·exact h1
  ·have:=(hl3 b hbl).2.2.2;rw[h1] at this;cases this
 have hs2:=hs'.world (w':=turn l w') (ds:=[]) (by omega) (fun b hb=>t5 b (hoff b hb)) hrm (Marks.nil (by omega));obtain⟨x,hk,v,h1,h2⟩:=yj hs2 (hres2 T some);obtain rfl:=Option.some.inj hk;show LeavesInM Fence.wide 0 P fn a'.tmps (fun e w'=>∃v,e = .returned v/\RV w U (yP s'.h x) v w') a'.defers .returning w';rw[hl1];refine ZM l w' hl2 (fun D hD=>(hl3 D hD).2.2.2) ⟨v,h1,v,rfl,?_⟩;have hbase:g'.base=w.heap.size:=hf'.base;obtain⟨X,q1,q2,q3⟩:=Yp hs2.hr (B:=w.heap.size) (by omega) h2;refine⟨⟨⟨t2.trans hf'.os,t3.trans hf'.tape,(t4.trans hf'.output).1,by have:=hf'.size;omega,fun b hb=>?_⟩,(t4.trans hf'.output).2⟩,ZG g' (turn l w') w.heap.size (zP x),X,fun b hb=>.inl ((hf'.keep.u b hb).1),fun b hb=>?_,q2,q3,q1⟩
 ·rw[t5 b fun hbl=>by have:=(hl3 b hbl).1;have h4:g'.low=w.heap.size:=hf'.low;omega];exact hf'.same b hb rfl
 ·rcases hb with hb|hb
  ·exact⟨hf'.u b hb,(hs2.hr.u b hb).1⟩
  ·exact⟨.inr hb.1,hb.2.1⟩
end
section
variable (P:Program) (G:Nat->Option (List T)) (A:FuncId->Ann) (sq:FuncId->List T->Option (List (List T)))
def yM(K:Orc)(prom:List Nat)(nt:Nat)(live:Nat->Bool->List Nat)(rec:Rec):Nat->Code->St->Option (St×Code)
 |0,c,s=>some (s,c)
 |n+1,.seq a b,s=>match exK P K G prom nt live rec a s (fun e s=>some (e,s)) with
  |some (.normal,s')=>yM K prom nt live rec n b s'
  |_=>none
 |_,_,_=>none
end
section
variable {P:Program} {Gl:Nat->Option (List T)} {A:FuncId->Ann} {sq:FuncId->List T->Option (List (List T))}
theorem kC(hm:P.follows .mixedOrders=true){K:Orc}(hK:OrcOk P Gl K){prom prom':List Nat}{nt:Nat}(hnt:nt<=1024){live:Nat->Bool->List Nat}{rec:Rec}(hrec:RecOk P Gl prom nt live (fun _=>True) rec){h0:qa}{e:Ex}{sE:St} :
 ∀(n:Nat) {c d:Code} {s s1:St},yM P Gl K prom nt live rec n c s=some (s1,d)->Q8 P Gl prom prom' nt h0 d s1 e sE->Q8 P Gl prom prom' nt h0 c s e sE
 |0,c,d,s,s1,hk,ht=>by
  simp only[yM,Option.some.injEq,Prod.mk.injEq] at hk;obtain⟨rfl,rfl⟩:=hk;exact ht
 |n+1,c,d,s,s1,hk,ht=>by
  cases c with
  |seq a b =>
   simp only[yM] at hk;split at hk
   ·rename_i s' hx;obtain⟨e2,s2,q1,q2⟩:=Qh hm hK hnt hrec a (fun _ _=>trivial) hx;simp only[Option.some.injEq,Prod.mk.injEq] at q1;obtain⟨rfl,rfl⟩:=q1;exact qfG q2 (kC hm hK hnt hrec n hk ht)
   ·cases hk
  |_=>cases hk
end
section
def Orc.toVal(K:Orc)(P:Program)(Gl:Nat->Option (List T))(A:FuncId->Ann)(m:Nat)(f:FuncId):Orc where
 byRef e:=bif e==f then false else K.byRef e
 val e args R k:=bif e==f then(Zf P Gl A K m f args).bind k else K.val e args R k
 ref:=K.ref
 valDet e args:=qv _ (match Zf P Gl A K m f args with|some r=>.inr ⟨r,fun _ _=>rfl⟩|none=>.inl fun _ _=>rfl) (K.valDet e args)
 refDet:=K.refDet
 ro:=K.ro
theorem qgh{P:Program}{Gl:Nat->Option (List T)}{A:FuncId->Ann}(hm:P.follows .mixedOrders=true)(hn:Qv P=true){K:Orc}(hK:OrcOk P Gl K){m:Nat}{f:FuncId}:OrcOk P Gl (K.toVal P Gl A m f):=by
 have key:∀args r,(Zf P Gl A K m f args).bind some=some r->ToldOk P Gl f args r:=fun args r h=>by
  rw[qe0] at h;exact q9 hm hn hK h
 refine⟨fun e hx=>?_,fun e args r hx w U cargs hU hgl ha=>?_,hK.ref,hK.ro⟩
 ·rcases hx with⟨args,r,hx⟩|hx
  ·simp only[Orc.toVal] at hx;rcases qk hx with⟨he,hy⟩|⟨_,hy⟩
   ·have he:e=f:=by simpa using he
    subst he;exact(key args r hy).enters
   ·exact hK.enters e (.inl ⟨args,r,hy⟩)
  ·exact hK.enters e (.inr hx)
 ·simp only[Orc.toVal] at hx;rcases qk hx with⟨he,hy⟩|⟨_,hy⟩
  ·have he:e=f:=by simpa using he
   subst he;exact(key args r hy).calls w U cargs hU hgl ha
  ·exact hK.val e args r hy w U cargs hU hgl ha
def qcU(P:Program)(Gl:Nat->Option (List T))(A:FuncId->Ann)(m:Nat):List FuncId->Orc->Orc
 |[],K=>K
 |f::l,K=>qcU P Gl A m l (K.toVal P Gl A m f)
theorem Ji{P:Program}{Gl:Nat->Option (List T)}{A:FuncId->Ann}(hm:P.follows .mixedOrders=true)(hn:Qv P=true){m:Nat}:∀(l:List FuncId) {K:Orc},OrcOk P Gl K->OrcOk P Gl (qcU P Gl A m l K)
 |[],_,h=>h
 |f::l,K,h=>Ji hm hn l (qgh hm hn h)
end
section
variable {P:Program} {Gl:Nat->Option (List T)} {prom prom':List Nat} {nt:Nat}
theorem qdR{h0:qa}{c:Code}{s s':St}{e:Ex}(l:List Nat)(σ:List Nat)(ho:yk h0.length σ s.h=true)(h:Q8 P Gl prom prom' nt h0 c (qx l ((zS s l).map (ren σ s.h)) (Ja σ s.h)) e s'):Q8 P Gl prom prom' nt h0 c s e s' :=
 fun ro n hro g0 w0 g a w hr hno hf hs Q hn=>by
  obtain⟨g2,q1,q2,_⟩:=WeakTo.canon (Gl:=Gl) (prom:=prom) (nt:=nt) (l:=l) (vs:=zS s l) σ ho g a w g0 h0 w0 (Nat.le_refl _) hr hf (hs.only l);exact h ro n hro g0 w0 g2 a w hr hno q2 q1 Q hn
end
structure Plan where
 n1:Nat
 ds:List Nat
 n2:Nat
 l:List Nat
 σ:St->List Nat
 fs:List FuncId
section
variable (P:Program) (G:Nat->Option (List T)) (A:FuncId->Ann) (sq:FuncId->List T->Option (List (List T)))
def qgi(K:Orc)(m:Nat)(p:Plan)(f:FuncId)(args:List T):Option T:=match P.funcs[f]? with
 |some fn=>match fn.body with
  |some c=>bif Nat.ble fn.ntmps 1024&&Nat.ble args.length fn.ntmps then
   match yM P G K (A f).prom fn.ntmps (A f).live (kw P K G (A f).prom fn.ntmps (A f).live sq m) p.n1 c (enter args []) with
   |some (s1,d1)=>match qgg (A f).prom p.ds s1 with
    |some s2=>match yM P G K (yC (A f).prom p.ds) fn.ntmps (A f).live (kw P K G (yC (A f).prom p.ds) fn.ntmps (A f).live sq m) p.n2 d1 s2 with
     |some (s3,d2)=>bif yk 0 (p.σ s3) s3.h then
      match exK P (qcU P G A m p.fs K) G (yC (A f).prom p.ds) fn.ntmps (A f).live (kw P (qcU P G A m p.fs K) G (yC (A f).prom p.ds) fn.ntmps (A f).live sq m) d2 (qx p.l ((zS s3 p.l).map (ren (p.σ s3) s3.h)) (Ja (p.σ s3) s3.h)) (fun e s=>some (e,s)) with
      |some (.ret,s4)=>Yh P G (yC (A f).prom p.ds) fn s4 fun v=>some (yP s4.h v)
      |_=>none
      else none
     |none=>none
    |none=>none
   |none=>none
   else none
  |none=>none
 |none=>none
end
section
variable {P:Program} {Gl:Nat->Option (List T)} {A:FuncId->Ann} {sq:FuncId->List T->Option (List (List T))}
theorem qeJ(hm:P.follows .mixedOrders=true)(hn:Qv P=true){K:Orc}(hK:OrcOk P Gl K)(hsq:KJ P Gl sq){m:Nat}{p:Plan}{f:FuncId}{args:List T}{r:T}(h:qgi P Gl A sq K m p f args=some r):ToldOk P Gl f args r:=by
 unfold qgi at h;split at h
 ·rename_i fn hfn;split at h
  ·rename_i c hc;obtain⟨hb,h⟩:=qc h;have hnt:=qT (Bool.and_eq_true _ _▸hb).1;split at h
   ·rename_i s1 d1 h1;split at h
    ·rename_i s2 h2;split at h
     ·rename_i s3 d2 h3;obtain⟨ho,h⟩:=qc h;split at h
      ·rename_i s4 h4;obtain⟨e,s5,q1,q2⟩:=Qh hm (Ji hm hn p.fs hK) hnt (kN hm (Ji hm hn p.fs hK) hnt hsq m) d2 (fun _ _=>trivial) h4;simp only[Option.some.injEq,Prod.mk.injEq] at q1;obtain⟨rfl,rfl⟩:=q1;exact qeI hn hfn hc hb (kC hm hK hnt (kN hm hK hnt hsq m) p.n1 h1 (qfH h2 (kC hm hK hnt (kN hm hK hnt hsq m) p.n2 h3 (qdR p.l (p.σ s3) ho (qfF q2))))) h
      ·cases h
     ·cases h
    ·cases h
   ·cases h
  ·cases h
 ·cases h
end
section
def ZH(P:Program)(G:Nat->Option (List T))(A:FuncId->Ann)(sq:FuncId->List T->Option (List (List T)))(Z:FuncId->Option Plan)(K:Orc)(m:Nat)(f:FuncId)(args:List T):Option T :=
 match Z f with
 |none=>qhh P G A sq K m f args
 |some p=>qgi P G A sq K m p f args
theorem Qi{P:Program}{G:Nat->Option (List T)}{A:FuncId->Ann}{sq:FuncId->List T->Option (List (List T))}{Z:FuncId->Option Plan}(hm:P.follows .mixedOrders=true)(hn:Qv P=true){K:Orc}(hK:OrcOk P G K)(hsq:KJ P G sq){m:Nat}{f:FuncId}{args:List T}{r:T}(h:ZH P G A sq Z K m f args=some r):ToldOk P G f args r:=by
 unfold ZH at h;split at h
 ·exact qeB hm hn hK hsq h
 ·exact qeJ hm hn hK hsq h
end
def YE(P:Program)(G:Nat->Option (List T))(A:FuncId->Ann)(sq:FuncId->List T->Option (List (List T)))(Z:FuncId->Option Plan)(B C D:FuncId->Bool)(m:Nat)(K0:Orc):Nat->Orc
 |0=>K0
 |n+1=>{ byRef:=fun e=>bif D e then K0.byRef e else !(B e),val:=fun e args _ k=>bif D e then K0.val e args _ k else(bif B e then(bif C e then(ZH P G A sq Z (YE P G A sq Z B C D m K0 n) m e args).map (fun r=>strip (frz r)) else ZH P G A sq Z (YE P G A sq Z B C D m K0 n) m e args) else none).bind k,ref:=fun e args h R k=>bif D e then K0.ref e args h R k else kX P G A (YE P G A sq Z B C D m K0 n) (qgJ P G A sq (YE P G A sq Z B C D m K0 n) m e) e args h k,valDet:=fun e args=>qv _ (K0.valDet e args) (match bif B e then(bif C e then(ZH P G A sq Z (YE P G A sq Z B C D m K0 n) m e args).map (fun r=>strip (frz r)) else ZH P G A sq Z (YE P G A sq Z B C D m K0 n) m e args) else none with|some r=>.inr ⟨r,fun _ _=>rfl⟩|none=>.inl fun _ _=>rfl),refDet:=fun e args h=>qv _ (K0.refDet e args h) (qaH (qdK (YE P G A sq Z B C D m K0 n) m e) e args h),ro:=fun e=>bif D e then K0.ro e else qhz P e }
theorem qcV{P:Program}{G:Nat->Option (List T)}{A:FuncId->Ann}{sq:FuncId->List T->Option (List (List T))}{Z:FuncId->Option Plan}{B C D:FuncId->Bool}(hm:P.follows .mixedOrders=true)(hn:Qv P=true)(hsq:KJ P G sq)(m:Nat){K0:Orc}(hK0:OrcOk P G K0):∀n,OrcOk P G (YE P G A sq Z B C D m K0 n)
 |0=>hK0
 |n+1=>by
  have h0:=qcV (G:=G) (A:=A) (Z:=Z) (B:=B) (C:=C) (D:=D) hm hn hsq m hK0 n;have key:∀e args r,D e=false->(YE P G A sq Z B C D m K0 (n+1)).val e args T some=some r->ToldOk P G e args r:=fun e args r hd hx=>by
   simp only[YE,hd,cond_false] at hx;rw[qe0] at hx;cases hb:B e with
   |false=>rw[hb,cond_false] at hx;cases hx
   |true =>
    rw[hb,cond_true] at hx;cases hc:C e with
    |false=>rw[hc,cond_false] at hx;exact Qi hm hn h0 hsq hx
    |true =>
     rw[hc,cond_true] at hx;obtain⟨r0,h1,rfl⟩:=Option.map_eq_some_iff.1 hx;exact(Qi hm hn h0 hsq h1).frz.strip
  refine⟨fun e hx=>?_,fun e args r hx w U cargs hU hgl ha=>?_,fun e args h r h' hx g w cargs hr hno hgl ha=>?_,fun e he args h r h' hx=>?_⟩
  ·cases hd:D e with
   |true =>
    simp only[YE,hd,cond_true] at hx;exact hK0.enters e hx
   |false =>
    rcases hx with⟨args,r,hx⟩|⟨args,h,⟨r,h'⟩,hx⟩
    ·exact(key e args r hd hx).enters
    ·simp only[YE,hd,cond_false] at hx;exact yy hn hx
  ·cases hd:D e with
   |true=>simp only[YE,hd,cond_true] at hx;exact hK0.val e args r hx w U cargs hU hgl ha
   |false=>exact(key e args r hd hx).calls w U cargs hU hgl ha
  ·cases hd:D e with
   |true=>simp only[YE,hd,cond_true] at hx;exact hK0.ref e args h r h' hx g w cargs hr hno hgl ha
   |false=>simp only[YE,hd,cond_false] at hx;exact qaI hm h0 (qe2 hm h0 hsq m e) hx hr hno hgl ha
  ·cases hd:D e with
   |true=>simp only[YE,hd,cond_true] at he hx;exact hK0.ro e he args h r h' hx
   |false =>
    simp only[YE,hd,cond_false] at he hx;exact qgI he hx
end Go.Ab

