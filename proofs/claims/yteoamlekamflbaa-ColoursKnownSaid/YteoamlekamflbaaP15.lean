/- A part of the proof: nothing is assumed. -/
import Derived.Test.YteoamlekamflbaaP12
set_option linter.all false
namespace Go.Ab
section
variable {P:Program} {Gl:Nat->Option (List T)} {A:FuncId->Ann}
theorem qdi(hn:Zq P=true){f:FuncId}{fn:Func}{c:Code}(hf:P.funcs[f]?=some fn)(hb:fn.body=some c){args:List T}{h:qg}(hc:(Nat.ble fn.ntmps 1024&&Nat.ble args.length fn.ntmps)=true){s':St}
 (hgo:CodeGoes P Gl (A f).prom fn.ntmps c (enter args h) .normal s') {r:T} {h':qg} (hk:jE P Gl (A f).prom fn s' (fun v=>some (v,s'.h))=some (r,h')):ToldRef P Gl f args h r h':=by
 simp only[Bool.and_eq_true] at hc;have hnt:=QH hc.1;have hle:=QH hc.2;refine⟨⟨fn,hf,by rw[hb];rfl,?_⟩,fun g w cargs hr hno hgl ha=>?_⟩
 ·have:=Array.all_eq_true'.1 hn fn (Array.mem_of_getElem? hf);rw[hb] at this;simpa using this
 have hs0:=SR.enter (Gl:=Gl) (prom:=(A f).prom) (Nat.le_refl _) (hr.setLow w.heap.size) hgl ha hnt hle;rw[←callsIn_wide (n:=0)];refine callsIn_of_wp_marks hf hb trivial (hgo none 0 (fun _=>rfl) _ _ w hs0 _ fun a' w' g' hs' hf' _=>?_) rfl;show LeavesInM Fence.wide 0 P fn a'.tmps (fun e w'=>∃v,e = .returned v/\Res g h w r h' v w') a'.defers .returning w';obtain⟨hlo,l,hl1,hl2,hl3⟩:=hs'.defers;obtain⟨t1,t2,t3,t4,t5⟩:=qbf l w';have hlow:g'.low=w.heap.size:=hf'.low;have hoff:∀b,g'.U b∨g'.own b≠none->b∉l:=by
  rintro b hb hbl;obtain⟨q1,q2,q3,q4⟩:=hl3 b hbl;rcases hb with hb|hb
  ·exact q3 hb
  ·exact hb q2
 have hrm:∀b n,room w' b n->room (turn l w') b n:=by
  rintro b n ⟨arr,e,h1,h2⟩;refine⟨arr,e,?_,h2⟩;rw[t5 b fun hbl=>?_]
  ·exact h1
  ·have:=(hl3 b hbl).2.2.2;rw[h1] at this;cases this
 have hs2:=hs'.world (w':=turn l w') (ds:=[]) (by omega) (fun b hb=>t5 b (hoff b hb)) hrm (Marks.nil (by omega));obtain⟨x,hk,v,h1,h2⟩:=jQ hs2 hk;simp only[Option.some.injEq,Prod.mk.injEq] at hk;obtain⟨rfl,rfl⟩:=hk;rw[hl1];refine yG l w' hl2 (fun D hD=>(hl3 D hD).2.2.2) ⟨v,h1,v,rfl,{ g' with own:=fun b=>match g'.own b with|some (.inl i)=>some (.inl i)|_=>none,low:=g.low },(hs2.hr.strip).setLow g.low,h2,?_,?_⟩
 ·exact hf'.keep.trans ⟨fun b hb=>⟨hb,t5 b (hoff b (.inl hb))⟩,fun i b hb=>⟨b,hb,Nat.le_refl _,fun _=>⟨rfl,rfl,rfl⟩⟩,hrm⟩
 ·refine⟨by have:=hf'.size;omega,fun b hb=>?_,t2.trans hf'.os,t3.trans hf'.tape,t4.trans hf'.output,fun b hb hn=>?_,?_,hf'.u,fun b hb t=>by dsimp only;split<;>simp⟩
  ·dsimp only;rw[hf'.own b hb];dsimp only;cases ho:g.own b with
   |none=>rfl
   |some q =>
    cases q with
    |inl i=>rfl
    |inr t=>exact absurd ho (hno b t)
  ·rw[t5 b fun hbl=>by have:=(hl3 b hbl).1;omega];refine hf'.same b hb ?_;dsimp only;cases ho:g.own b with
   |none=>rfl
   |some q =>
    cases q with
    |inl i=>exact absurd ho (hn i)
    |inr t=>exact absurd ho (hno b t)
  ·have:=hf'.base;simp only[Gh.bs,this]
theorem Pz.toldRefN(hn:Zq P=true){f:Nat}{args:List T}{h:qg}{fn:Func}(hfn:P.funcs[f]?=some fn)(hc:(Nat.ble fn.ntmps 1024&&Nat.ble args.length fn.ntmps)=true)(hbd:fn.body.isSome=true){l l1:List Nat}{v1:List T}{h1:qg}(hl:enter args h=qM l args h)
 (hgo:Pz P Gl A f h [] l args h .normal l1 v1 h1) {r:T} {h':qg} (hres:jE P Gl (A f).prom fn (qM l1 v1 h1) (fun v=>some (v,h1))=some (r,h')):ToldRef P Gl f args h r h':=by
 obtain⟨c,hb⟩:=Option.isSome_iff_exists.1 hbd;have:=hgo fn c hfn hb;rw[show nav [] c=c from rfl,←hl] at this;exact qdi (A:=A) hn hfn hb hc (qaq (s:=enter args h) this) hres
end
end Go.Ab

