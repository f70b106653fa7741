/- A part of the proof: nothing is assumed. -/
import Derived.Test.YtifccdcnhibceaaGreatDoorP4
import Derived.Test.YtifccdcnhibceaaGreatDoorP2
set_option linter.all false
namespace Go.Ab
section
variable {P:Program} {Gl:Nat->Option (List T)}
def qfo(i d:Nat):T->T
 |.own _ ver off len cap=>.own i (d+ver) off len cap
 |.ptr _ ver j o=>.ptr i (d+ver) j o
 |x=>x
def jb(d:Nat)(b:Blk):Blk:={ b with ver:=d+b.ver }
def at0:T->Bool
 |.own j _ _ _ _=>j==0
 |.ptr j _ _ _=>j==0
 |x=>imm x
theorem qhQ{i d:Nat}{x:T}(hx:imm x=true):qfo i d x=x:=by
 cases x<;>first|rfl|(simp[imm,Zo] at hx)
theorem VR.up1{w:World}{U:Nat->Prop}{φ φ2:Nat->Option (Nat×Nat)}{h:qk}{i d:Nat}{b:Blk}(hb:h[i]?=some (jb d b))(hφ:φ i=φ2 0){x:T}{v:Value}(ha:at0 x=true)(hx:VR w U φ2 [b] x v):VR w U φ h (qfo i d x) v:=by
 have other:Go.Ab.imm x=true->VR w U φ h (qfo i d x) v:=fun hi=>by rw[qhQ hi];exact .imm _ _ (Ye (g:=⟨U,φ2,fun _=>none,0,0⟩) (h:=[b]) hi hx)
 cases x with
 |own j ver off len cap =>
  obtain rfl:j=0:=by simpa [at0] using ha
  obtain⟨b2,h1,h2,h3,h4⟩:=hx.own_inv;obtain rfl:b=b2:=by simpa using h1
  refine .own _ _ _ _ _ (jb d b) _ hb (Nat.add_le_add_left h2 d) h3 fun q=>?_;rcases h4 (Nat.add_left_cancel q) with⟨cb,sh,c,ad,q1,q2⟩|⟨q1,q2⟩
  ·exact .inl ⟨cb,sh,c,ad,hφ.trans q1,q2⟩
  ·exact .inr ⟨hφ.trans q1,q2⟩
 |ptr j ver k o =>
  obtain rfl:j=0:=by simpa [at0] using ha
  obtain⟨b2,h1,h2,h3,h4⟩:=hx.ptr_inv;obtain rfl:b=b2:=by simpa using h1
  refine .ptr _ _ _ _ (jb d b) _ hb (Nat.add_le_add_left h2 d) h3 fun q=>?_;obtain⟨cb,sh,q1,q2⟩:=h4 (Nat.add_left_cancel q);exact⟨cb,sh,hφ.trans q1,q2⟩
 |_=>exact other ha
theorem VR.down1{w:World}{U:Nat->Prop}{φ φ2:Nat->Option (Nat×Nat)}{h:qk}{i d:Nat}{b:Blk}(hb:h[i]?=some (jb d b))(hφ:φ i=φ2 0){x:T}{v:Value}(ha:at0 x=true)(hx:VR w U φ h (qfo i d x) v):VR w U φ2 [b] x v:=by
 have other:Go.Ab.imm x=true->VR w U φ2 [b] x v:=fun hi=>by rw[qhQ hi] at hx;exact .imm _ _ (Ye (g:=⟨U,φ,fun _=>none,0,0⟩) (h:=h) hi hx)
 cases x with
 |own j ver off len cap =>
  obtain rfl:j=0:=by simpa [at0] using ha
  obtain⟨b2,h1,h2,h3,h4⟩:=hx.own_inv;obtain rfl:jb d b=b2:=by rw[hb] at h1;exact Option.some.inj h1
  refine .own _ _ _ _ _ b _ rfl (Nat.le_of_add_le_add_left h2) h3 fun q=>?_;rcases h4 (by rw[←q];rfl) with⟨cb,sh,c,ad,q1,q2⟩|⟨q1,q2⟩
  ·exact .inl ⟨cb,sh,c,ad,hφ.symm.trans q1,q2⟩
  ·exact .inr ⟨hφ.symm.trans q1,q2⟩
 |ptr j ver k o =>
  obtain rfl:j=0:=by simpa [at0] using ha
  obtain⟨b2,h1,h2,h3,h4⟩:=hx.ptr_inv;obtain rfl:jb d b=b2:=by rw[hb] at h1;exact Option.some.inj h1
  refine .ptr _ _ _ _ b _ rfl (Nat.le_of_add_le_add_left h2) h3 fun q=>?_;obtain⟨cb,sh,q1,q2⟩:=h4 (by rw[←q];rfl);exact⟨cb,sh,hφ.symm.trans q1,q2⟩
 |_=>exact other ha
theorem ToldRef.frame{f:FuncId}{args:List T}{b b':Blk}{r:T}(t:ToldRef P Gl f args [b] r [b']){h:qk}{i d:Nat}(hb:h[i]?=some (jb d b))(hf:b.flat=true)(hm:b.mp=none)(hf':b'.flat=true)(hm':b'.mp=none)
 (ha:args.all at0=true) (hr0:at0 r=true):ToldRef P Gl f (args.map (qfo i d)) h (qfo i d r) (h.set i (jb d b')):=by
 refine⟨t.enters,fun g w cargs hr hno hgl hargs=>?_⟩;have hil:i<h.length:=(List.getElem?_eq_some_iff.1 hb).1
 let g1:Gh:={ g with
  φ:=fun _=>g.φ i
  own:=fun c=>match g.own c with|some (.inl j)=>if j=i then some (.inl 0) else none|_=>none }
 have o1:∀c,g.own c=some (.inl i)->g1.own c=some (.inl 0):=fun c hc=>by simp only[g1,hc,if_true]
 have o2:∀c o,g1.own c=some o->o = .inl 0/\g.own c=some (.inl i):=fun c o hc=>by
  simp only[g1] at hc;split at hc
  ·rename_i j hj;by_cases q:j=i
   ·rw[if_pos q] at hc;subst q;exact⟨(Option.some.inj hc).symm,hj⟩
   ·rw[if_neg q] at hc;cases hc
  ·cases hc
 have o3:∀c,g.own c≠some (.inl i)->g1.own c=none:=fun c hc=>by
  cases q:g1.own c with
  |none=>rfl
  |some o=>exact absurd (o2 c o q).2 hc
 have h1:HR g1 [b] w:=by
  refine⟨fun j b2 hj hm2=>?_,fun c hc=>⟨(hr.u c hc).1,o3 c (by rw[(hr.u c hc).2];simp)⟩,fun c o hc=>hr.own c _ (o2 c o hc).2,hr.base,fun c o hc=>?_,fun c j hc=>?_,fun j b2 m hj hm2=>?_⟩
  ·have hj0:j=0:=by
    cases j with
    |zero=>rfl
    |succ j=>simp at hj
   subst hj0;obtain rfl:b=b2:=by simpa using hj
   rcases hr.blk0 i (jb d b) hb hm with⟨cb,sh,arr,e,ok⟩|q
   rotate_left
   ·exact .inr q
   exact .inl ⟨cb,sh,arr,e,ok.φ,o1 cb ok.own,ok.heap,ok.room,ok.len,fun j o c hj hc=>by
    obtain⟨v,q1,q2,q3⟩:=ok.cell j o c hj hc;exact⟨v,q1,q2,.imm _ _ (yb (ok.flat hf j hj c (List.mem_of_getElem? hc)) q3)⟩,ok.flat⟩
  ·obtain⟨rfl,q⟩:=o2 c o hc;rcases hr.cells c _ q with q|⟨k,es,cl,q1,q2⟩
   ·exact .inl q
   ·exact .inr ⟨0,es,cl,rfl,q2⟩
  ·obtain⟨q,_⟩:=o2 c _ hc;obtain rfl:j=0:=by injection q
   simp
  ·have hj0:j=0:=by
    cases j with
    |zero=>rfl
    |succ j=>simp at hj
   subst hj0;obtain rfl:b=b2:=by simpa using hj
   rw[hm] at hm2;cases hm2
 have hno1:K5 g1:=fun c t hc=>by have:=(o2 c _ hc).1;cases this
 have ha1:ArgsVR g1 [b] w args cargs:=by
  refine⟨by have:=hargs.1;simpa using this,fun k x hk=>?_⟩;obtain⟨v,q1,q2⟩:=hargs.2 k (qfo i d x) (by rw[List.getElem?_map,hk];rfl);exact⟨v,q1,VR.down1 (φ2:=g1.φ) hb rfl (List.all_eq_true.1 ha x (List.mem_of_getElem? hk)) q2⟩
 refine(t.calls g1 w cargs h1 hno1 hgl ha1).mono fun e w' ⟨v,he,g2,r1,r2,r3,r4⟩=>⟨v,he,?_⟩
 let g3:Gh:={ g with
  U:=g2.U
  φ:=fun j=>if j=i then g2.φ 0 else g.φ j
  own:=fun c=>if c<w.heap.size then g.own c else match g2.own c with|some (.inl _)=>some (.inl i)|_=>none }
 have p1:∀c,c<w.heap.size->g3.own c=g.own c:=fun c hc=>by simp only[g3,if_pos hc]
 have p2:∀c o,¬c<w.heap.size->g3.own c=some o->o = .inl i/\g2.own c=some (.inl 0):=fun c o hc ho=>by
  simp only[g3,if_neg hc] at ho;split at ho
  ·rename_i j hj;have:=r1.lt c j hj;obtain rfl:j=0:=by simpa using this
   exact⟨(Option.some.inj ho).symm,hj⟩
  ·cases ho
 have p3:∀c,g2.own c=some (.inl 0)->g3.own c=some (.inl i):=fun c hc=>by
  by_cases q:c<w.heap.size
  ·rw[p1 c q];rw[r4.own c q] at hc;exact(o2 c _ hc).2
  ·simp only[g3,if_neg q,hc]
 have p4:∀c,g.own c=some (.inl i)->g2.own c=some (.inl 0):=fun c hc=>by rw[r4.own c (hr.own c _ hc).2];exact o1 c hc
 have same:∀c o,g.own c=some o->o≠.inl i->w'.heap[c]?=w.heap[c]?:=fun c o hc ho=>r4.same c (hr.own c o hc).2 fun j hj=>by
  rw[o3 c (by rw[hc];intro q;exact ho (Option.some.inj q))] at hj;cases hj
 have hset:∀j b2,(h.set i (jb d b'))[j]?=some b2->j=i/\b2=jb d b'∨j≠i/\h[j]?=some b2:=fun j b2 hj=>by
  by_cases q:j=i
  ·subst q;rw[List.getElem?_set_self hil] at hj;exact .inl ⟨rfl,(Option.some.inj hj).symm⟩
  ·rw[List.getElem?_set_ne (fun e=>q e.symm)] at hj;exact .inr ⟨q,hj⟩
 have hk:KeepR w g.U g.φ h w' g3.U g3.φ (h.set i (jb d b')):=by
  refine⟨r3.u,fun j b2 hj=>?_,r3.rm⟩;by_cases q:j=i
  ·subst q;obtain rfl:jb d b=b2:=by rw[hb] at hj;exact Option.some.inj hj
   obtain⟨b3,q1,q2,q3⟩:=r3.blk 0 b rfl;obtain rfl:b'=b3:=by simpa using q1
   refine⟨jb d b',List.getElem?_set_self hil,Nat.add_le_add_left q2 d,fun e=>?_⟩;obtain⟨s1,s2,s3⟩:=q3 (Nat.add_left_cancel e);exact⟨s1,s2,by simp only[g3,if_true];exact s3⟩
  ·exact⟨b2,by rw[List.getElem?_set_ne (fun e=>q e.symm)];exact hj,Nat.le_refl _,fun _=>⟨rfl,rfl,by simp only[g3,if_neg q]⟩⟩
 refine⟨g3,⟨fun j b2 hj hm2=>?_,fun c hc=>?_,fun c o hc=>?_,Nat.le_trans hr.base r4.size,fun c o hc=>?_,fun c j hc=>?_,fun j b2 m hj hm2=>?_⟩,?_,hk,?_⟩
 ·rcases hset j b2 hj with⟨rfl,rfl⟩|⟨q,hj⟩
  ·rcases r1.blk0 0 b' rfl hm' with⟨cb,sh,arr,e,ok⟩|⟨q1,q2⟩
   rotate_left
   ·exact .inr ⟨by simp only[g3,if_true];exact q1,q2⟩
   exact .inl ⟨cb,sh,arr,e,by simp only[g3,if_true];exact ok.φ,p3 cb ok.own,ok.heap,ok.room,ok.len,fun j o c hj hc=>by
    obtain⟨v,q1,q2,q3⟩:=ok.cell j o c hj hc;exact⟨v,q1,q2,.imm _ _ (yb (ok.flat hf' j hj c (List.mem_of_getElem? hc)) q3)⟩,ok.flat⟩
  ·rcases hr.blk0 j b2 hj hm2 with⟨cb,sh,arr,e,ok⟩|⟨q1,q2⟩
   rotate_left
   ·exact .inr ⟨by simp only[g3,if_neg q];exact q1,q2⟩
   have hcb:=(hr.own cb _ ok.own).2;exact .inl ⟨cb,sh,arr,e,by simp only[g3,if_neg q];exact ok.φ,by rw[p1 cb hcb];exact ok.own,by rw[same cb _ ok.own (fun e=>q (by injection e))];exact ok.heap,ok.room,ok.len,fun j o c hj hc=>by
    obtain⟨v,q1,q2,q3⟩:=ok.cell j o c hj hc;exact⟨v,q1,q2,VR.keep hk q3⟩,ok.flat⟩
 ·obtain⟨q1,q2⟩:=r1.u c hc;refine⟨q1,?_⟩;by_cases q:c<w.heap.size
  ·rw[p1 c q];rcases r4.u c hc with q3|q3
   ·exact(hr.u c q3).2
   ·omega
  ·cases q3:g3.own c with
   |none=>rfl
   |some o=>rw[(p2 c o q q3).2] at q2;cases q2
 ·by_cases q:c<w.heap.size
  ·rw[p1 c q] at hc;exact⟨(hr.own c o hc).1,Nat.lt_of_lt_of_le q r4.size⟩
  ·obtain⟨_,q2⟩:=p2 c o q hc;exact⟨Nat.le_trans hr.base (Nat.le_of_not_lt q),(r1.own c _ q2).2⟩
 ·have key:g2.own c=some (.inl 0)->o = .inl i->(∃arr e,w'.heap[c]?=some (.cells arr e (0,0)))∨∃i es cl,o = .inl i/\w'.heap[c]?=some (.map es cl):=fun q1 q2=>by
   rcases r1.cells c _ q1 with q|⟨k,es,cl,q3,q4⟩
   ·exact .inl q
   ·exact .inr ⟨i,es,cl,q2,q4⟩
  by_cases q:c<w.heap.size
  ·rw[p1 c q] at hc;by_cases q2:o = .inl i
   ·exact key (p4 c (by rw[hc,q2])) q2
   ·exact hr.cells_of hc (same c o hc q2)
  ·obtain⟨q1,q2⟩:=p2 c o q hc;exact key q2 q1
 ·rw[List.length_set];by_cases q:c<w.heap.size
  ·rw[p1 c q] at hc;exact hr.lt c j hc
  ·obtain⟨q1,_⟩:=p2 c _ q hc;obtain rfl:j=i:=by injection q1
   exact hil
 ·rcases hset j b2 hj with⟨rfl,rfl⟩|⟨q,hj⟩
  ·rw[show(jb d b').mp=none from hm'] at hm2;cases hm2
  ·obtain⟨cb,q1,q2,q3⟩:=hr.mp j b2 m hj hm2;have hcb:=(hr.own cb _ q2).2;exact⟨cb,by simp only[g3,if_neg q];exact q1,by rw[p1 cb hcb];exact q2,q3.of_heap (same cb _ q2 (fun e=>q (by injection e)))⟩
 ·exact VR.up1 (φ2:=g2.φ) (b:=b') (List.getElem?_set_self hil) (by simp only[g3,if_true]) hr0 r2
 ·exact⟨r4.size,p1,r4.os,r4.tape,r4.output,fun c hc hn=>r4.same c hc fun j hj=>(by
   rw[o3 c (hn i)] at hj;cases hj),rfl,r4.u,fun c hc t ht=>by
   have:=(p2 c _ (Nat.not_lt.2 hc) ht).1;cases this⟩
end
end Go.Ab

