/- A part of the proof: nothing is assumed. -/
import Derived.Test.YtifccdcnhibceaaGreatDoorP6
import Derived.Test.YtifccdcnhibceaaGreatDoorP4
set_option linter.all false
namespace Go.Ab
abbrev qej:=List T×qk
def qhX{A R:Type}(f:Nat->A->(A->Option R)->Option R):List Nat->A->(A->Option R)->Option R
 |[],acc,k=>k acc
 |i::l,acc,k=>f i acc fun acc=>qhX f l acc k
def qek(P:Program)(K:Orc)(G:Nat->Option (List T))(prom:List Nat)(nt:Nat)(ops:Array Oper)(l1:List Nat){R:Type}:Nat->Array Bool->St->List qej->(List qej->Option R)->Option R
 |0,listed,s,acc,k=>bif (Region.ready .any ops listed).isEmpty then k ((zA s l1,s.h)::acc) else none
 |n+1,listed,s,acc,k=>match Region.ready .any ops listed with
  |[]=>k ((zA s l1,s.h)::acc)
  |r=>qhX (fun i acc k=>match ops[i]? with
   |some o=>Q9 P K G prom nt ops.toList o s fun f _=>qek P K G prom nt ops l1 n (listed.setIfInBounds i true) (f.app s) acc k
   |none=>none) r acc k
def AnyIs(P:Program)(K:Orc)(G:Nat->Option (List T))(prom:List Nat)(nt:Nat)(ops:Array Oper)(l1:List Nat)(L:List qej):Nat->Array Bool->St->Prop
 |0,listed,s=>Region.ready .any ops listed=[]/\(zA s l1,s.h)∈L
 |n+1,listed,s=>(Region.ready .any ops listed=[]->(zA s l1,s.h)∈L)/\∀i∈Region.ready .any ops listed,∃o f fp,ops[i]?=some o/\StepIs P K G prom nt ops.toList o s f fp/\AnyIs P K G prom nt ops l1 L n (listed.setIfInBounds i true) (f.app s)
def yR(P:Program)(f:Nat)(p:List Nat):Array Oper:=match P.funcs[f]? with
 |some fn=>match fn.body with
  |some c=>match nav p c with
   |.region _ ops _=>ops
   |_=>#[]
  |none=>#[]
 |none=>#[]
def qhY(P:Program)(f:Nat):Nat:=match P.funcs[f]? with
 |some fn=>fn.ntmps
 |none=>0
def qkt:Code->Bool
 |.region _ _ draw=>draw
 |_=>false
section
variable {P:Program} {K:Orc} {G:Nat->Option (List T)}
theorem AnyIs.mono{prom:List Nat}{nt:Nat}{ops:Array Oper}{l1:List Nat}{L L2:List qej}(hL:∀x∈L,x∈L2):∀{n:Nat} {listed:Array Bool} {s:St},AnyIs P K G prom nt ops l1 L n listed s->AnyIs P K G prom nt ops l1 L2 n listed s
 |0,_,_,h=>⟨h.1,hL _ h.2⟩
 |n+1,_,_,h=>⟨fun q=>hL _ (h.1 q),fun i hi=>by
  obtain⟨o,f,fp,h1,h2,h3⟩:=h.2 i hi;exact⟨o,f,fp,h1,h2,AnyIs.mono hL h3⟩⟩
theorem qbp{A R:Type}{f:Nat->A->(A->Option R)->Option R}{I:Nat->A->Prop}{Le:A->A->Prop}(hr:∀a,Le a a)(ht:∀a b c,Le a b->Le b c->Le a c)(hm:∀i a b,Le a b->I i a->I i b)
 {r:R} (hf:∀i acc k,f i acc k=some r->∃a,k a=some r/\Le acc a/\I i a):∀(l:List Nat) (acc:A) (k:A->Option R),qhX f l acc k=some r->∃a,k a=some r/\Le acc a/\∀i∈l,I i a
 |[],acc,k,h=>⟨acc,h,hr acc,fun i hi=>by cases hi⟩
 |j::l,acc,k,h=>by
  obtain⟨a,h1,h2,h3⟩:=hf j acc _ h;obtain⟨b,h4,h5,h6⟩:=qbp hr ht hm hf l a k h1;refine⟨b,h4,ht _ _ _ h2 h5,fun i hi=>?_⟩;rcases List.mem_cons.1 hi with rfl|hi
  ·exact hm _ _ _ h5 h3
  ·exact h6 i hi
theorem qf0{prom:List Nat}{nt:Nat}{ops:Array Oper}{l1:List Nat}{R:Type}{r:R}:∀(n:Nat) (listed:Array Bool) (s:St) (acc:List qej) (k:List qej->Option R),qek P K G prom nt ops l1 n listed s acc k=some r →
 ∃L,k L=some r/\(∀x∈acc,x∈L)/\AnyIs P K G prom nt ops l1 L n listed s
 |0,listed,s,acc,k,h=>by
  unfold qek at h;obtain⟨hc,h⟩:=qn h;exact⟨_,h,fun x hx=>List.mem_cons_of_mem _ hx,List.isEmpty_iff.1 hc,List.mem_cons_self⟩
 |n+1,listed,s,acc,k,h=>by
  unfold qek at h;cases hr:Region.ready .any ops listed with
  |nil =>
   rw[hr] at h;exact⟨_,h,fun x hx=>List.mem_cons_of_mem _ hx,fun _=>List.mem_cons_self,fun i hi=>by rw[hr] at hi;cases hi⟩
  |cons x y =>
   rw[hr] at h;obtain⟨L,h1,h2,h3⟩:=qbp (I:=fun i L=>∃o f fp,ops[i]?=some o/\StepIs P K G prom nt ops.toList o s f fp/\AnyIs P K G prom nt ops l1 L n (listed.setIfInBounds i true) (f.app s)) (Le:=fun a b=>∀x∈a,x∈b)
    (fun _ _ h=>h) (fun a b c h1 h2 x hx=>h2 x (h1 x hx)) (fun i a b hab ⟨o,f,fp,q1,q2,q3⟩=>⟨o,f,fp,q1,q2,q3.mono hab⟩) (fun i acc k hk=>by
     cases ho:ops[i]? with
     |none=>rw[ho] at hk;cases hk
     |some o =>
      rw[ho] at hk;obtain⟨⟨f,fp⟩,q1,q2⟩:=qJ (kH P K G prom nt ops.toList o s) (k:=fun p=>qek P K G prom nt ops l1 n (listed.setIfInBounds i true) (p.1.app s) acc k) hk;obtain⟨L,e1,e2,e3⟩:=qf0 n _ _ _ _ q1;exact⟨L,e1,e2,o,f,fp,rfl,fun R' k'=>q2 R' fun p=>k' p.1 p.2,e3⟩) (x::y) acc k h
   exact⟨L,h1,h2,(fun q=>(by rw[hr] at q;cases q)),(fun i hi=>h3 i (by rw[hr] at hi;exact hi))⟩
theorem qel{prom:List Nat}{nt:Nat}(hK:OrcOk P G K){ops:Array Oper}{l1:List Nat}{L:List qej}{ro:Option Nat}{n:Nat}{Q:Exit->Act->World->Prop}{g0:Gh}{h0:qk}{w0:World}{d0:List Deferred}
 (hn:∀o∈L,∀a' w' g',SR G prom nt g' (qO l1 o.1 o.2) a' w'->FrC g0 h0 w0 g' o.2 w'->a'.defers=d0->Q .normal a' w'):∀(fuel:Nat) (listed:Array Bool) {s:St} {g:Gh} {a:Act} {w:World},
 AnyIs P K G prom nt ops l1 L fuel listed s->SR G prom nt g s a w->FrC g0 h0 w0 g s.h w->a.defers=d0->wpAnyIn (QF ro) n P .any ops Q fuel listed a w
 |0,listed,s,g,a,w,h,hs,hf,hd=>⟨h.1,hn (zA s l1,s.h) h.2 a w g (hs.only l1) hf hd⟩
 |fuel+1,listed,s,g,a,w,h,hs,hf,hd=>by
  refine⟨fun h0=>hn (zA s l1,s.h) (h.1 h0) a w g (hs.only l1) hf hd,fun i hi=>?_⟩;obtain⟨o,f,fp,ho,h1,h2⟩:=h.2 i hi;have:=h1.goes hK hs ro n (wpAnyIn (QF ro) n P .any ops Q fuel (listed.setIfInBounds i true)) Q fun a' w' g' hs' hf' hd'=>qel hK hn fuel _ h2 hs' (hf.trans hf') (hd'.trans hd);unfold wpOpIn;rw[ho];dsimp only;split at this
  ·rename_i hw;rw[if_pos hw];exact this
  ·rename_i hw;rw[if_neg hw];exact⟨fun _ _=>trivial,this⟩
variable {A:FuncId->Ann} {f:Nat} {h0:qk} {p l l1:List Nat} {vs:List T} {h:qk}
theorem Pz.any(hm:P.follows .mixedOrders=true)(hK:OrcOk P G K)(hq:ZB P f p qkt=true){L:List qej}
 (hk:qek P K G (A f).prom (qhY P f) (yR P f p) l1 (yR P f p).size (Array.replicate (yR P f p).size false) (qO l vs h) [] some=some L) {v2:List T} {h2:qk} (hw:∀o∈L,Wk G A f h0.length l1 o.1 o.2 v2 h2):Pz P G A f h0 p l vs h .normal l1 v2 h2:=by
 intro fn c hf hb ro m hro g0 w0 g a w hr hfr hs Q hn;have hc:=z8 hq hf hb;have ho:∀id ops dr,nav p c = .region id ops dr->yR P f p=ops:=fun id ops dr e=>by simp only[yR,hf,hb,e]
 have hnt:qhY P f=fn.ntmps:=by simp only[qhY,hf]
 rw[hnt] at hk;revert hc;cases e:nav p c with
 |region id ops dr =>
  intro hc;rw[ho _ _ _ e] at hk;obtain rfl:dr=true:=hc;obtain⟨L',e1,_,e2⟩:=qf0 _ _ _ _ _ hk;obtain rfl:=Option.some.inj e1;refine wpIn_region_any hm (qel hK (L:=L') (g0:=g0) (h0:=h0) (w0:=w0) (d0:=a.defers) (fun o hoL a' w' g' hs' hf' hd'=>?_) _ _ e2 (hs.drawn _) ?_ rfl)
  rotate_left
  ·exact⟨⟨hfr.keep.u,hfr.keep.blk,hfr.keep.rm⟩,hfr.size,hfr.own,hfr.os,hfr.tape,⟨hfr.output.1,Nat.le_refl _⟩,hfr.same,hfr.bs,hfr.u,hfr.u'⟩
  ·obtain⟨g2,q1,q2,_⟩:=hw o hoL _ g' a' w' g0 h0 w0 (Nat.le_refl _) hr hf' hs';exact hn a' w' g2 q1 q2 fun _=>hd'
 |_=>intro hc;cases hc
end
end Go.Ab

