/- A part of the proof: nothing is assumed. -/
import Derived.Test.YtfcpfihblbbelaaGreatDoorP5
import Derived.DefersIn
import Derived.Test.YtfcpfihblbbelaaGreatDoorP7
set_option linter.all false
namespace Go.Ab
section
variable {P:Program} {Gl:Nat->Option (List T)} {A:FuncId->Ann}
end
section
variable {P:Program} {Gl:Nat->Option (List T)} {A:FuncId->Ann}
structure ToldD(P:Program)(Gl:Nat->Option (List T))(f:FuncId)(args:List T)(h h':qa):Prop where
 enters:∃fn,P.funcs[f]?=some fn/\fn.body.isNone=false/\(fn.name=="runtime.NumGoroutine")=false
 calls:∀(g:Gh) (w:World) (cargs:Array Value) (u:FrameMode),HR g h w->KB g->zE Gl w g.U->ArgsVR g h w args cargs →
  CallsDIn Fence.wide 0 P f cargs u w fun e u' w'=>u'=u/\∃v r,e = .returned v/\Res g h w r h' v w'
theorem qeL(hn:Qv P=true){f:FuncId}{fn:Func}{c:Code}(hf:P.funcs[f]?=some fn)(hb:fn.body=some c)(hnr:qf c=false){args:List T}{h:qa}(hc:(Nat.ble fn.ntmps 1024&&Nat.ble args.length fn.ntmps)=true){s':St}{e:Ex}(he:e = .ret∨e = .normal)
 (hgo:CodeGoes P Gl (A f).prom fn.ntmps c (enter args h) e s') {r:T} {h':qa} (hk:Yh P Gl (A f).prom fn s' (fun v=>some (v,s'.h))=some (r,h')):ToldD P Gl f args h h':=by
 simp only[Bool.and_eq_true] at hc;have hnt:=qT hc.1;have hle:=qT hc.2;refine⟨⟨fn,hf,by rw[hb];rfl,?_⟩,fun g w cargs u hr hno hgl ha=>?_⟩
 ·have:=Array.all_eq_true'.1 hn fn (Array.mem_of_getElem? hf);rw[hb] at this;simpa using this
 have hs0:=SR.enter (Gl:=Gl) (prom:=(A f).prom) (Nat.le_refl _) (hr.setLow w.heap.size) hgl ha hnt hle;refine(callsDIn_of_wp (R:=fun e w'=>∃v r,e = .returned v/\Res g h w r h' v w') hf hb trivial (hgo none 0 (fun _=>rfl) _ _ w hs0 _ fun a' w' g' hs' hf' hd'=>?_) rfl);obtain⟨x,hk,v,h1,h2⟩:=yj hs' hk;simp only[Option.some.injEq,Prod.mk.injEq] at hk;obtain⟨rfl,rfl⟩:=hk
 suffices bodyPost P fn (fun e w'=>∃v r,e = .returned v/\Res g h w r s'.h v w') .ret a' w' by rcases he with rfl|rfl<;>exact this
 refine⟨hd' hnr,v,h1,v,x,rfl,{ g' with own:=fun b=>match g'.own b with|some (.inl i)=>some (.inl i)|_=>none,low:=g.low,dt:=g.dt },(hs'.hr.strip).setLow g.low g.dt,h2,?_,?_⟩
 ·exact hf'.keep.trans ⟨fun b hb=>⟨hb,rfl⟩,fun i b hb=>⟨b,hb,Nat.le_refl _,fun _=>⟨rfl,rfl,rfl⟩⟩,fun _ _ h=>h⟩
 ·refine⟨hf'.size,fun b hb=>?_,hf'.os,hf'.tape,hf'.output,fun b hb hn=>?_,?_,hf'.u,fun b hb t=>by dsimp only;split<;>simp⟩
  ·dsimp only;rw[hf'.own b hb];dsimp only;cases ho:g.own b with
   |none=>rfl
   |some q =>
    cases q with
    |inl i=>rfl
    |inr t=>exact absurd ho (hno b t)
  ·refine hf'.same b hb ?_;dsimp only;cases ho:g.own b with
   |none=>rfl
   |some q =>
    cases q with
    |inl i=>exact absurd ho (hn i)
    |inr t=>exact absurd ho (hno b t)
  ·have:=hf'.base;simp only[Gh.bs,this]
theorem qa6{fn:Func}{prom:List Nat}{nt:Nat}{g:Gh}{s:St}{a:Act}{w:World}(hs:SR Gl prom nt g s a w){fd:FuncId}{caps:List T}{cap:Array Value}{h2:qa}(hd:a.defers=[{ target:=.fn (.func fd) cap,args:=#[] }])
 (ht:ToldD P Gl fd caps s.h h2) (hargs:ArgsVR g s.h w caps cap) (hgl:zE Gl w g.U) {R:Ending->World->Prop}
 (hR:∀g' w',SR Gl prom nt g' ((⟨none,none,some h2⟩:Eff).app s) (a.put none undef) w'->FrO g w g' w'->zx g s.h w g' h2 w'->LeavesIn Fence.wide 0 P fn a.tmps R [] .returning w'):LeavesInM Fence.wide 0 P fn a.tmps R a.defers .returning w:=by
 rw[hd];obtain⟨fn2,e1,e2,e3⟩:=ht.enters;refine⟨by simp,.inr ⟨by simp[Fence.wide],.func fd,cap,fd,cap,rfl,?_,fun _ _=>trivial,?_⟩⟩
 ·have h3':¬fn2.name = "runtime.NumGoroutine":=by simpa using e3
  have h2':¬fn2.body=none:=by intro hh;rw[hh] at e2;cases e2
  simp[invoke,callFunc,e1,h2',h3']
 refine(ht.calls { g with own:=fun b=>match g.own b with|some (.inl i)=>some (.inl i)|_=>none } w cap .returning hs.hr.strip (fun b t h=>by dsimp only at h;split at h<;>simp at h) hgl hargs).mono ?_;rintro e u' w' ⟨rfl,v,r,rfl,hres⟩;obtain⟨g2,q1,q2,q3,q4⟩:=j1 hs.hr hres;exact hR g2 w' (SR.done0 hs (v:=undef) q1 q3 q4 rfl) q4 q3
theorem FrC.dtset{g g':Gh}{h h':qa}{w w':World}(f:FrC g h w g' h' w')(d:List Deferred):FrC { g with dt:=d } h w { g' with dt:=d } h' w' :=
 ⟨⟨f.keep.u,f.keep.blk,f.keep.rm⟩,f.size,f.own,f.os,f.tape,f.output,f.same,by
  show(g'.base,g'.low,d)=(g.base,g.low,d);rw[f.base,f.low],f.u,f.u'⟩
def qb1(P:Program)(Gl:Nat->Option (List T))(prom:List Nat)(nt:Nat)(c:Code)(s s1:St)(fd:FuncId)(caps:List T):Prop :=
 ∀(g:Gh) (a:Act) (w:World),SR Gl prom nt g s a w->a.defers=[]->∀Q:Exit->Act->World->Prop,
  (∀a1 w1 g1 cap,SR Gl prom nt g1 s1 { a1 with defers:=[] } w1->FrC g s.h w g1 s1.h w1->ArgsVR g1 s1.h w1 caps cap->a1.defers=[{ target:=.fn (.func fd) cap,args:=#[] }]->Q .normal a1 w1)->c.wpIn (Ql none) 0 P Q a w
def EndsAt(P:Program)(Gl:Nat->Option (List T))(prom:List Nat)(fn:Func)(c:Code)(s:St)(r:T):Prop :=
 ∀(w0:World) (g0 g:Gh) (a:Act) (w:World),g0.base=w0.heap.size->(∀b,g0.own b=none)->zE Gl w0 g0.U->HR g0 [] w0->FrC g0 [] w0 g s.h w->SR Gl prom fn.ntmps g s a w->a.defers=[] →
  c.wpIn (Ql none) 0 P (bodyPostM Fence.wide 0 P fn fun e w'=>∃v,e = .returned v/\RV w0 g0.U r v w') a w
theorem EndsAt.seq{prom:List Nat}{fn:Func}{x y:Code}{s s1:St}{r:T}(hnr:qf x=false)(hx:qJ P Gl prom fn.ntmps [] x s .normal s1)(hy:EndsAt P Gl prom fn y s1 r):EndsAt P Gl prom fn (.seq x y) s r :=
 fun w0 g0 g a w hb ho hgl hr hf hs hd=>wpIn_seq (hx none 0 (fun h=>rfl) g0 w0 g a w hr hf hs _ fun a1 w1 g1 hs1 hf1 hd1=>hy w0 g0 g1 a1 w1 hb ho hgl hr hf1 hs1 ((hd1 hnr).trans hd))
theorem EndsAt.defer{prom:List Nat}{fn:Func}{x y:Code}{s s1 s2:St}{fd:FuncId}{caps:List T}{h3:qa}{r:T}(hx:qb1 P Gl prom fn.ntmps x s s1 fd caps)(hnr:qf y=false)
 (hy:qJ P Gl prom fn.ntmps s1.h y s1 .ret s2) (hk:∀g w g' w' cap,FrC g s1.h w g' s2.h w'->ArgsVR g s1.h w caps cap->ArgsVR g' s2.h w' caps cap) (ht:ToldD P Gl fd caps s2.h h3)
 (hres:Yh P Gl prom fn ((⟨none,none,some h3⟩:Eff).app s2) (fun v=>some (yP h3 v))=some r):EndsAt P Gl prom fn (.seq x y) s r:=by
 intro w0 g0 g a w hb ho hgl hr hf hs hd;refine wpIn_seq (hx g a w hs hd _ fun a1 w1 g1 cap hs1 hf1 hcap hd1=>?_);show y.wpIn _ _ _ _ a1 w1
 let D:Deferred:={ target:=.fn (.func fd) cap,args:=#[] }
 have hs1':SR Gl prom fn.ntmps { g1 with dt:=[D] } s1 a1 w1:=⟨hs1.hr.setLow g1.low [D],⟨hs1.defers.1,[],⟨[D],hd1,.inr rfl,fun E h=>by simp[ZF,D] at h⟩,.nil,fun E h=>by cases h⟩,hs1.size,hs1.nt,hs1.tmps,fun t ht cells hc=>by
  obtain⟨cb,arr,e,q⟩:=hs1.regs t ht cells hc;exact⟨cb,arr,e,q.ptr,q.own,q.heap,q.len,q.cell⟩,hs1.loc,hs1.glob,hs1.used⟩
 refine hy none 0 (fun _=>rfl) { g1 with dt:=[D] } w1 { g1 with dt:=[D] } a1 w1 hs1'.hr (.refl _ _ _) hs1' _ fun a2 w2 g2 hs2 hf2 hd2=>?_;show LeavesInM Fence.wide 0 P fn a2.tmps _ a2.defers .returning w2;have f02:FrC g0 [] w0 { g2 with dt:=g1.dt } s2.h w2:=(hf.trans hf1).trans (hf2.dtset g1.dt);refine qa6 hs2 ((hd2 hnr).trans hd1) ht (hk _ _ _ _ _ hf2 hcap) (fun gl cells hg=>(hgl gl cells hg).keep f02.keep.u) fun g3 w3 hs3 hfo hkp=>?_;have f03:FrC g0 [] w0 { g3 with dt:=g1.dt } h3 w3:=f02.trans ((hfo.toC hkp).dtset g1.dt);obtain⟨x,hx,v,h1,h2⟩:=yj hs3 hres;obtain rfl:=Option.some.inj hx;refine⟨v,h1,v,rfl,?_⟩;have hbase:g3.base=w0.heap.size:=f03.base.trans hb;obtain⟨X,q1,q2,q3⟩:=Yp hs3.hr (B:=w0.heap.size) (by omega) h2;refine⟨⟨⟨f03.os,f03.tape,f03.output.1,f03.size,fun b hb=>f03.same b hb (ho b)⟩,f03.output.2⟩,ZG g3 w3 w0.heap.size (zP x),X,fun b hb=>.inl ((f03.keep.u b hb).1),fun b hb=>?_,q2,q3,q1⟩;rcases hb with hb|hb
 ·exact⟨f03.u b hb,(hs3.hr.u b hb).1⟩
 ·exact⟨.inr hb.1,hb.2.1⟩
theorem EndsAt.told(hn:Qv P=true){f:FuncId}{fn:Func}{c:Code}(hfn:P.funcs[f]?=some fn)(hb:fn.body=some c){args:List T}(hc:(Nat.ble fn.ntmps 1024&&Nat.ble args.length fn.ntmps)=true){r:T}(h:EndsAt P Gl (A f).prom fn c (enter args []) r):ToldOk P Gl f args r:=by
 simp only[Bool.and_eq_true] at hc;have hnt:=qT hc.1;have hle:=qT hc.2;refine⟨⟨fn,hfn,by rw[hb];rfl,?_⟩,fun w U cargs hU hgl ha=>?_⟩
 ·have:=Array.all_eq_true'.1 hn fn (Array.mem_of_getElem? hfn);rw[hb] at this;simpa using this
 let g0:Gh:={ U:=U,φ:=fun _=>none,own:=fun _=>none,base:=w.heap.size,low:=0 }
 have hr:HR g0 [] w:=⟨fun i b hb=>by simp at hb,fun b hb=>⟨hU b hb,rfl⟩,fun b o ho=>(by cases ho),Nat.le_refl _,fun b o ho=>(by cases ho),fun b i ho=>(by cases ho),fun i b m hb=>by simp at hb⟩;have hav:ArgsVR g0 [] w args cargs:=⟨ha.1,fun i x hi=>by
  obtain⟨v,q1,q2⟩:=ha.2 i x hi;exact⟨v,q1,.imm _ _ q2⟩⟩
 have hs0:=SR.enter (Gl:=Gl) (prom:=(A f).prom) (Nat.le_refl _) (hr.setLow w.heap.size) hgl hav hnt hle;rw[←callsIn_wide (n:=0)];exact callsIn_of_wp_marks hfn hb trivial (h w _ _ _ w rfl (fun _=>rfl) hgl (hr.setLow w.heap.size) (.refl _ _ _) hs0 rfl) rfl
end
section
variable {P:Program} {G:Nat->Option (List T)} {A:FuncId->Ann} {K:Orc}
end
section
variable (P:Program) (G:Nat->Option (List T)) (A:FuncId->Ann)
def qcW(K:Orc)(prom:List Nat)(nt:Nat)(c:Code)(s:St):Option (FuncId×List T×St):=match c with
 |.region _ ops false=>match ops.toList.reverse with
  |o::rest=>match o.op,o.guard,o.dst with
   |.defer ⟨.value x,args,_⟩,none,none=>bif args.size==0 then Zk P K G prom nt ops.toList rest.reverse { s with loc:=fun _=>none,used:=fun _=>false } fun s1 _=>match ev G prom s1 x with
    |.fn fd caps=>some (fd,caps,s1)
    |_=>none else none
   |_,_,_=>none
  |[]=>none
 |_=>none
def qgn(K:Orc)(m:Nat)(fd:FuncId)(caps:List T)(h:qa):Option qa:=match P.funcs[fd]? with
 |some fn=>match fn.body with
  |some c=>bif Nat.ble fn.ntmps 1024&&Nat.ble caps.length fn.ntmps&&!(qf c) then
   match exK P K G (A fd).prom fn.ntmps (A fd).live (jP P G A K m fd fn) c (enter caps h) (fun e s=>some (e,s)) with
   |some (.exit _,_)=>none
   |some (_,s)=>Yh P G (A fd).prom fn s fun _=>some s.h
   |none=>none else none
  |none=>none
 |none=>none
def qdX(K:Orc)(m n:Nat)(f:FuncId)(args:List T):Option T:=match P.funcs[f]? with
 |some fn=>match fn.body with
  |some c=>bif Nat.ble fn.ntmps 1024&&Nat.ble args.length fn.ntmps&&!(qf c) then
   match yM P G K (A f).prom fn.ntmps (A f).live (jP P G A K m f fn) n c (enter args []) with
   |some (s1,.seq x y)=>match qcW P G K (A f).prom fn.ntmps x s1 with
    |some (fd,caps,s2)=>match exK P K G (A f).prom fn.ntmps (A f).live (jP P G A K m f fn) y s2 (fun e s=>some (e,s)) with
     |some (.ret,s3)=>match qgn P G A K m fd caps s3.h with
      |some h3=>Yh P G (A f).prom fn ((⟨none,none,some h3⟩:Eff).app s3) fun v=>some (yP h3 v)
      |none=>none
     |_=>none
    |none=>none
   |_=>none
   else none
  |none=>none
 |none=>none
end
section
variable {P:Program} {G:Nat->Option (List T)} {A:FuncId->Ann} {K:Orc}
theorem qcX(hK:OrcOk P G K){prom:List Nat}{nt:Nat}{d:Code}{s s1:St}{caps:List T}{fd:FuncId}(hk:qcW P G K prom nt d s=some (fd,caps,s1)):qb1 P G prom nt d s s1 fd caps:=by
 unfold qcW at hk;cases d with
 |region id ops draw =>
  cases draw with
  |true=>cases hk
  |false =>
   dsimp only at hk;cases hr:ops.toList.reverse with
   |nil=>rw[hr] at hk;cases hk
   |cons o rest =>
    rw[hr] at hk;dsimp only at hk;have hops:ops.toList=rest.reverse++[o]:=by
     have:=congrArg List.reverse hr;simpa using this
    split at hk
    ·rename_i x args tys ho hg hd;cases hz:(args.size==0) with
     |false=>rw[hz] at hk;cases hk
     |true =>
      rw[hz] at hk;simp only[cond_true] at hk;obtain⟨s2,fps,hk,hrun⟩:=ZX _ hk;intro g a w hs hda Q hn;refine wpIn_region_list ?_;have hs0:=hs.bare s.env (fun t=>.inl rfl);have main:=hrun.goes2 (l2:=[o]) hK hs0 none 0 Q fun a1 w1 g1 hs1 hf1 hd1=>?_
      ·rw[←hops] at main;exact main
      have hev:=hs1.ev x;revert hk;cases hv:ev G prom s2 x with
      |fn fd2 caps2 =>
       intro hk;simp only[Option.some.injEq,Prod.mk.injEq] at hk;obtain⟨rfl,rfl,rfl⟩:=hk;rw[hv] at hev;obtain⟨cs,hval,hcl,hcc⟩:=hev.fn_inv;have hargs:args = #[]:=by
        have:args.size=0:=by simpa using hz
        exact Array.eq_empty_of_size_eq_zero this
       unfold wpListIn;rw[if_pos (by simp[Region.wanted,hg])];refine⟨fun _ _=>trivial,?_⟩;have hsem:(o.semAt (Ql none).round a1.eval).run P w1 = .ok (.defer { target:=.fn (.func fd2) cs,args:=#[] }) w1:=by
        show(execOp a1.eval o).run P w1=_;unfold execOp;rw[ho];simp[Go.resolve,hval,Deferred.ofValue,hargs]
       rw[hsem];show wpListIn (Ql none) 0 P ops Q [] ({ a1 with defers:=_::a1.defers }.put o.dst undef) w1;rw[hd];have ea:a1.defers=[]:=hd1.trans hda;have e1:({ tmps:=a1.tmps,defers:=[] }:Act)=a1:=by rw[←ea]
       refine hn _ w1 g1 cs ?_ hf1 ⟨hcl,hcc⟩ ?_
       ·show SR G prom nt g1 _ ({ tmps:=a1.tmps,defers:=[] }:Act) w1;rw[e1];exact hs1
       ·show({ target:=.fn (.func fd2) cs,args:=#[] }:Deferred)::a1.defers=_;rw[ea]
      |_=>intro hk;cases hk
    ·cases hk
 |_=>cases hk
theorem qeM(hm:P.follows .mixedOrders=true)(hn:Qv P=true)(hK:OrcOk P G K){m:Nat}{fd:FuncId}{caps:List T}{h h3:qa}(hk:qgn P G A K m fd caps h=some h3):ToldD P G fd caps h h3:=by
 unfold qgn at hk;split at hk
 ·rename_i fn hf;split at hk
  ·rename_i c hb;obtain⟨hc,hk⟩:=qc hk;simp only[Bool.and_eq_true] at hc;have hnt:=qT hc.1.1;have hnr:qf c=false:=by simpa using hc.2
   have hcc:(Nat.ble fn.ntmps 1024&&Nat.ble caps.length fn.ntmps)=true:=by simp only[Bool.and_eq_true];exact hc.1
   have hrec:RecOk P G (A fd).prom fn.ntmps (A fd).live (fun _=>True) (jP P G A K m fd fn):=yh hm hK hnt m;split at hk
   ·cases hk
   ·rename_i e s _ hx;obtain⟨e2,s2,q1,q2⟩:=Qh hm hK hnt hrec c (fun _ _=>trivial) hx;simp only[Option.some.injEq,Prod.mk.injEq] at q1;obtain⟨rfl,rfl⟩:=q1;obtain⟨r,hr1,hr2⟩:=qq (ko (P:=P) (Gl:=G) (prom:=(A fd).prom) fn s2) hk;obtain rfl:=Option.some.inj hr1;exact qeL (A:=A) hn hf hb hnr hcc (by cases e2 with|normal=>exact .inr rfl|ret=>exact .inl rfl|exit i=>rename_i hne;exact absurd rfl (hne i)) q2 (hr2 _ fun v=>some (v,s2.h))
   ·cases hk
  ·cases hk
 ·cases hk
theorem ArgsVR.keep{g g':Gh}{h h':qa}{w w':World}{args:List T}{cargs:Array Value}(ha:ArgsVR g h w args cargs)(hk:zx g h w g' h' w'):ArgsVR g' h' w' args cargs :=
 ⟨ha.1,fun i x hi=>let ⟨v,q1,q2⟩:=ha.2 i x hi;⟨v,q1,q2.keep hk⟩⟩
theorem JI(hm:P.follows .mixedOrders=true)(hK:OrcOk P G K){prom:List Nat}{fn:Func}(hnt:fn.ntmps<=1024){live:Nat->Bool->List Nat}{rec:Rec}(hrec:RecOk P G prom fn.ntmps live (fun _=>True) rec){r:T} :
 ∀(n:Nat) {c d:Code} {s s1:St},qf c=false->yM P G K prom fn.ntmps live rec n c s=some (s1,d)->(qf d=false->EndsAt P G prom fn d s1 r)->EndsAt P G prom fn c s r
 |0,c,d,s,s1,hc,hk,ht=>by
  simp only[yM,Option.some.injEq,Prod.mk.injEq] at hk;obtain⟨rfl,rfl⟩:=hk;exact ht hc
 |n+1,c,d,s,s1,hc,hk,ht=>by
  cases c with
  |seq a b =>
   simp only[qf,Bool.or_eq_false_iff] at hc;simp only[yM] at hk;split at hk
   ·rename_i s' hx;obtain⟨e2,s2,q1,q2⟩:=Qh hm hK hnt hrec a (fun _ _=>trivial) hx;simp only[Option.some.injEq,Prod.mk.injEq] at q1;obtain⟨rfl,rfl⟩:=q1;exact .seq hc.1 (kr q2) (JI hm hK hnt hrec n hc.2 hk ht)
   ·cases hk
  |_=>cases hk
theorem KT(hm:P.follows .mixedOrders=true)(hn:Qv P=true)(hK:OrcOk P G K){m n:Nat}{f:FuncId}{args:List T}{r:T}(h:qdX P G A K m n f args=some r):ToldOk P G f args r:=by
 unfold qdX at h;split at h
 ·rename_i fn hfn;split at h
  ·rename_i c hc;obtain⟨hb,h⟩:=qc h;simp only[Bool.and_eq_true] at hb;have hnt:=qT hb.1.1;have hnr:qf c=false:=by simpa using hb.2
   have hcc:(Nat.ble fn.ntmps 1024&&Nat.ble args.length fn.ntmps)=true:=by simp only[Bool.and_eq_true];exact hb.1
   have hrec:RecOk P G (A f).prom fn.ntmps (A f).live (fun _=>True) (jP P G A K m f fn):=yh hm hK hnt m;split at h
   ·rename_i s1 x y h1;split at h
    ·rename_i fd caps s2 h2;split at h
     ·rename_i s3 h3;split at h
      ·rename_i hp h4;obtain⟨e,s4,q1,q2⟩:=Qh hm hK hnt hrec y (fun _ _=>trivial) h3;simp only[Option.some.injEq,Prod.mk.injEq] at q1;obtain⟨rfl,rfl⟩:=q1;refine EndsAt.told (A:=A) hn hfn hc hcc (JI hm hK hnt hrec n hnr h1 fun hr=>?_);simp only[qf,Bool.or_eq_false_iff] at hr;exact .defer (qcX hK h2) hr.2 (kr q2) (fun _ _ _ _ _ hf ha=>ha.keep hf.keep) (qeM hm hn hK h4) h
      ·cases h
     ·cases h
    ·cases h
   ·cases h
  ·cases h
 ·cases h
end
end Go.Ab

