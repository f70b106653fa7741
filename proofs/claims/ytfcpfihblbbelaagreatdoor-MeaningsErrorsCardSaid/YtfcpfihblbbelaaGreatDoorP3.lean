/- A part of the proof: nothing is assumed. -/
import Derived.Test.YtfcpfihblbbelaaGreatDoorP2
import Derived.OrdersIn
import Derived.TacticsIn
import Derived.RangeFuncLeaves
import Derived.RangeFuncRecord
import Derived.OpenShut
import Derived.Deep.DeepHandedRow
import Derived.Lib.LaidTab
import Derived.RangeFuncIn
import Derived.RangeFuncSeq
import Derived.RangeFuncOwn
set_option linter.all false
namespace Go.Ab
inductive Behind(ops:Array Oper):Nat->Nat->Prop where
 |one {j k:Nat} {o:Oper} {e:Edge} (ho:ops[j]?=some o) (he:e∈o.after) (hb:Region.binds .any e=true) (hk:e.on=k):Behind ops j k
 |more {j m k:Nat} {o:Oper} {e:Edge} (ho:ops[j]?=some o) (he:e∈o.after) (hb:Region.binds .any e=true) (hm:e.on=m) (h:Behind ops m k):Behind ops j k
theorem qbJ{ops:Array Oper}{j:Nat}{o:Oper}{acc:Array Nat}(ho:ops[j]?=some o)(hacc:∀m k,(acc.getD m 0).testBit k=true->Behind ops m k) :
 ∀(l:List Edge) (s0:Nat),(∀e∈l,e∈o.after)->(∀k,s0.testBit k=true->Behind ops j k)->∀k,(l.foldl (fun s e=>if Region.binds .any e then s ||| 2 ^ e.on ||| acc.getD e.on 0 else s) s0).testBit k=true->Behind ops j k
 |[],s0,_,h0,k,hk=>h0 k hk
 |e::l,s0,hl,h0,k,hk=>by
  refine qbJ ho hacc l _ (fun e he=>hl e (List.mem_cons_of_mem _ he)) (fun k hk=>?_) k hk;dsimp only at hk;split at hk
  ·rename_i hb;simp only[Nat.testBit_or,Bool.or_eq_true] at hk;rcases hk with (hk|hk)|hk
   ·exact h0 k hk
   ·rw[Nat.testBit_two_pow] at hk;exact .one ho (hl e (by simp)) hb (by simpa using hk)
   ·exact .more ho (hl e (by simp)) hb rfl (hacc _ k hk)
  ·exact h0 k hk
theorem JD{ops:Array Oper}:∀(l:List Oper) (acc:Array Nat),(∀i,l[i]?=ops[acc.size+i]?)->(∀m k,(acc.getD m 0).testBit k=true->Behind ops m k) →
 ∀m k,((l.foldl (fun (acc:Array Nat) o=>acc.push (o.after.foldl (fun s e=>if Region.binds .any e then s ||| 2 ^ e.on ||| acc.getD e.on 0 else s) 0)) acc).getD m 0).testBit k=true->Behind ops m k
 |[],acc,_,h,m,k,hk=>h m k hk
 |o::l,acc,hl,h,m,k,hk=>by
  have ho:ops[acc.size]?=some o:=by have:=hl 0;simpa using this.symm
  refine JD l _ (fun i=>?_) (fun m k hk=>?_) m k hk
  ·have:=hl (i+1);simp only[List.getElem?_cons_succ] at this;rw[this,Array.size_push];congr 1;omega
  ·rw[Array.getD_eq_getD_getElem?,Array.getElem?_push] at hk;split at hk
   ·rename_i hm;subst hm;rw[←Array.foldl_toList] at hk;exact qbJ ho h o.after.toList 0 (fun e he=>by simpa using he) (fun k hk=>by simp at hk) k hk
   ·rw[←Array.getD_eq_getD_getElem?] at hk;exact h m k hk
theorem qbm{ops:Array Oper}{j k:Nat}(h:((Region.before ops).getD j 0).testBit k=true):Behind ops j k:=by
 unfold Region.before at h;rw[←Array.foldl_toList] at h;exact JD ops.toList #[] (fun i=>by simp) (fun m k hk=>by simp at hk) j k h
theorem jx:∀(l:List Oper) (j:Nat),K4 j l=true->∀(i:Nat) (o:Oper),l[i]?=some o->∀e∈o.after,Region.binds .any e=true->e.on<j+i
 |[],_,_,i,o,ho=>by simp at ho
 |o::l,j,h,i,o',ho=>by
  simp only[K4,Bool.and_eq_true] at h;intro e he hb;cases i with
  |zero =>
   simp only[List.getElem?_cons_zero,Option.some.injEq] at ho;subst ho;have:=List.all_eq_true.1 h.1 e (by simpa using he);rw[hb] at this;simp only[Bool.not_true,Bool.false_or] at this;exact qU this
  |succ i =>
   have:=jx l (j+1) h.2 i o' (by simpa using ho) e he hb;omega
theorem jy{before:List Nat}:∀(l:List (Nat×FP)),JV before l=true->List.Pairwise (fun a b=>(before.getD b.1 0).testBit a.1=true∨K3 a.2 b.2=false) l
 |[],_=>.nil
 |(i,a)::l,h=>by
  simp only[JV,Bool.and_eq_true] at h;refine List.pairwise_cons.2 ⟨fun b hb=>?_,jy l h.2⟩;have:=List.all_eq_true.1 h.1 b hb;simpa using this
section
variable {P:Program} {K:Orc} {Gl:Nat->Option (List T)} {prom:List Nat} {nt:Nat} {s s1 s':St}
theorem Same.sr(x:Same s s1){g:Gh}{a:Act}{w:World}(h:SR Gl prom nt g s a w):SR Gl prom nt g s1 a w :=
 ⟨by rw[x.h];exact h.hr,h.defers,h.size,h.nt,fun t ht=>by rw[x.h,x.at'];exact h.tmps t ht,fun t ht cells hc=>by rw[x.h];exact h.regs t ht cells (by rw[←x.at'];exact hc),
  fun d t o hl=>h.loc d t o (by rw[←x.loc];exact hl),h.glob,fun d t o hl=>by rw[x.used];exact h.used d t o (by rw[←x.loc];exact hl)⟩
structure Rest(ops:Array Oper)(listed:Array Bool)(rem:List Nat):Prop where
 size:listed.size=ops.size
 mem:∀i,i∈rem↔listed.getD i true=false
 sorted:List.Pairwise (·<·) rem
 closed:∀j o,ops[j]?=some o->listed.getD j false=true->∀e∈o.after,Region.binds .any e=true->listed.getD e.on false=true
theorem Rest.behind{ops:Array Oper}{listed:Array Bool}{rem:List Nat}(r:Rest ops listed rem){j k:Nat}(h:Behind ops j k):listed.getD j false=true->listed.getD k false=true:=by
 induction h with
 |one ho he hb hk=>exact fun hl=>hk▸r.closed _ _ ho hl _ he hb
 |more ho he hb hm h ih=>exact fun hl=>ih (hm▸r.closed _ _ ho hl _ he hb)
theorem Rest.ready{ops:Array Oper}{listed:Array Bool}{rem:List Nat}(r:Rest ops listed rem){i k:Nat}(hi:i∈Region.ready .any ops listed)(h:Behind ops i k):listed.getD k false=true:=by
 obtain⟨_,o,ho,hall⟩:=mem_ready.1 hi;cases h with
 |one ho' he hb hk =>
  obtain rfl:=Option.some.inj (ho'.symm.trans ho);exact hk▸hall _ he hb
 |more ho' he hb hm h =>
  obtain rfl:=Option.some.inj (ho'.symm.trans ho);exact r.behind h (hm▸hall _ he hb)
theorem yJ{listed:Array Bool}{i:Nat}(h:listed.getD i true=false):i<listed.size/\listed.getD i false=false:=by
 rw[Array.getD_eq_getD_getElem?] at h ⊢;rcases Nat.lt_or_ge i listed.size with h'|h'
 ·rw[Array.getElem?_eq_getElem h'] at h ⊢;exact⟨h',h⟩
 ·rw[Array.getElem?_eq_none h'] at h;cases h
theorem qaF(hK:OrcOk P Gl K)(hnt:nt<=1024){ops:Array Oper}(hedge:K4 0 ops.toList=true){O:Nat->Oper}(hO:∀i,i<ops.size->ops[i]?=some (O i)){F:Nat->FP}
 (hF:∀i j,i<j->j<ops.size->((Region.before ops).getD j 0).testBit i=true∨K3 (F i) (F j)=false) :
 ∀(fuel:Nat) {rem:List Nat} {listed:Array Bool} {s s1:St} {g:Gh} {a:Act} {w:World},rem.length=fuel->Rest ops listed rem->RunIs P K Gl prom nt ops.toList (rem.map O) s s1 (rem.map F)->Same s1 s'->SR Gl prom nt g s a w →
  ∀(ro:Option Nat) (n:Nat) (Q:Exit->Act->World->Prop),(∀a' w' g',SR Gl prom nt g' s' a' w'->FrC g s.h w g' s'.h w'->a'.defers=a.defers->Q .normal a' w')->wpAnyIn (Ql ro) n P .any ops Q fuel listed a w
 |0,rem,listed,s,s1,g,a,w,hl,hr,hrun,hsame,hs,ro,n,Q,hn=>by
  obtain rfl:=List.length_eq_zero_iff.1 hl;cases hrun with
  |nil =>
   refine⟨?_,hn _ _ _ (hsame.sr hs) (by rw[hsame.h];exact FrC.refl _ _ _) rfl⟩;apply List.eq_nil_iff_forall_not_mem.2;intro i hi;have:=(hr.mem i).2 (mem_ready.1 hi).1;simp at this
 |fuel+1,rem,listed,s,s1,g,a,w,hl,hr,hrun,hsame,hs,ro,n,Q,hn=>by
  refine⟨fun h0=>?_,fun i hi=>?_⟩
  ·
   exfalso;cases rem with
   |nil=>cases hl
   |cons i0 rem =>
    have hun:=(hr.mem i0).1 (by simp);have hlt:=(yJ hun).1;rw[hr.size] at hlt;have ho:=hO i0 hlt;have:i0∈Region.ready .any ops listed:=by
     refine mem_ready.2 ⟨hun,O i0,ho,fun e he hb=>?_⟩;have h1:=jx ops.toList 0 hedge i0 (O i0) (by rw[Array.getElem?_toList];exact ho) e he hb;rw[Nat.zero_add] at h1;cases hb2:listed.getD e.on false with
     |true=>rfl
     |false =>
      have hes:e.on<listed.size:=by rw[hr.size];omega
      have:e.on∈i0::rem:=(hr.mem e.on).2 (by rw[Array.getD_eq_getD_getElem?] at hb2 ⊢;rw[Array.getElem?_eq_getElem hes] at hb2 ⊢;exact hb2);rcases List.mem_cons.1 this with h2|h2
      ·omega
      ·have:=(List.pairwise_cons.1 hr.sorted).1 _ h2;omega
    rw[h0] at this;cases this
  ·have hun:=(mem_ready.1 hi).1;have hlt:=(yJ hun).1;rw[hr.size] at hlt;have ho:=hO i hlt;obtain⟨pre,post,rfl⟩:=List.append_of_mem ((hr.mem i).2 hun);have hsort:=List.pairwise_append.1 hr.sorted;have hpre:∀j∈pre,j<i:=fun j hj=>hsort.2.2 j hj i (by simp);have hcl:∀q∈pre.map F,K3 q (F i)=false:=by
    intro q hq;obtain⟨j,hj,rfl⟩:=List.mem_map.1 hq;rcases hF j i (hpre j hj) hlt with h1|h1
    ·have h2:=hr.ready hi (qbm h1);have h3:=(hr.mem j).1 (List.mem_append_left _ hj);rw[(yJ h3).2] at h2;cases h2
    ·exact h1
   rw[List.map_append,List.map_cons,List.map_append,List.map_cons] at hrun;obtain⟨f,s2,g1,g2,g3⟩:=RunIs.pull hnt (by simp) hcl hrun;have hgo:=g1.goes hK hs;have hrest:Rest ops (listed.setIfInBounds i true) (pre++post):=by
    refine⟨by simp[hr.size],fun j=>?_,?_,fun j o hj hl' e he hb=>?_⟩
    ·by_cases hji:j=i
     ·subst hji;have hx:j<listed.size:=by rw[hr.size];exact hlt
      have h4:(listed.setIfInBounds j true).getD j true=true:=by
       rw[Array.getD_eq_getD_getElem?,Array.getElem?_setIfInBounds_self_of_lt hx];rfl
      rw[h4];have h6:=(List.pairwise_cons.1 hsort.2.1).1;constructor
      ·intro hm;rcases List.mem_append.1 hm with h5|h5
       ·have:=hpre j h5;omega
       ·have:=h6 j h5;omega
      ·intro h5;cases h5
     ·rw[getD_set_ne true (Ne.symm hji),←hr.mem j];simp[hji]
    ·refine List.pairwise_append.2 ⟨hsort.1,(List.pairwise_cons.1 hsort.2.1).2,fun x hx y hy=>hsort.2.2 x hx y (by simp[hy])⟩
    ·by_cases hji:i=j
     ·subst hji;obtain⟨_,o2,ho2,hall⟩:=mem_ready.1 hi;obtain rfl:=Option.some.inj (hj.symm.trans ho2);exact getD_set_true (hall e he hb)
     ·rw[getD_set_ne false hji] at hl';exact getD_set_true (hr.closed j o hj hl' e he hb)
   have hih:=fun a' w' g' (hs':SR Gl prom nt g' (f.app s) a' w') (hf':FrC g s.h w g' (f.app s).h w') (hd':a'.defers=a.defers) =>
    qaF hK hnt hedge hO hF fuel (rem:=pre++post) (listed:=listed.setIfInBounds i true) (s1:=s2) (by simp at hl ⊢;omega) hrest (by rw[List.map_append,List.map_append];exact g2) (g3.symm.trans hsame) hs' ro n Q
     fun a2 w2 g2' hs2 hf2 hd2=>hn a2 w2 g2' hs2 (hf'.trans hf2) (hd2.trans hd')
   have:=hgo ro n (wpAnyIn (Ql ro) n P .any ops Q fuel (listed.setIfInBounds i true)) Q hih;unfold wpOpIn;rw[ho];dsimp only;split at this
   ·rename_i hw;rw[if_pos hw];exact this
   ·rename_i hw;rw[if_neg hw];exact⟨fun _ _=>trivial,this⟩
end
theorem z2{P:Program}{b:Frame}{a:Act}{k:List Item}{cs:List Frame}{w:World}{c:Code}:step P (lone (b.atR a (.code (.scope c)::k)) cs w) = .next (lone (b.atR a (.code c::.inScope c::k)) cs w) :=
 step_lone_go (by simp[stepG,stepG.exec,Frame.atR])
theorem qbn{P:Program}{b:Frame}{a:Act}{k:List Item}{cs:List Frame}{w:World}{c:Code}:step P (lone (b.atR a (.inScope c::k)) cs w) = .next (lone (b.atR a k) cs w) :=
 step_lone_go (by simp[stepG,stepG.exec,Frame.atR])
theorem KF{F:Fence}{n:Nat}{P:Program}{Q:Exit->Act->World->Prop}{a:Act}{w:World}{c:Code}(h:c.wpIn F n P (Exit.noGoto Q) a w):(Code.scope c).wpIn F n P Q a w:=by
 intro b k cs hro hb hr;have h0:(lone (b.atR a (.code (.scope c)::k)) cs w).fenced P F:=fenced_calm hb hr rfl;obtain⟨e,a₁,w₁,hq,harr⟩:=h b (.inScope c::k) cs hro hb hr;cases e with
 |normal=>exact⟨.normal,a₁,w₁,hq,.head h0 z2 (StepsIn.trans harr (.one (fenced_calm hb hr rfl) qbn))⟩
 |exit id =>
  have hx:exitTo id (.inScope c::k)=exitTo id k:=by simp[exitTo]
  exact⟨.exit id,a₁,w₁,hq,fun k' hk=>.head h0 z2 (harr.1 k' (by rw[hx];exact hk)),
   fun hr' hk=>let ⟨k₁,h1,h2⟩:=harr.2 hr' (by rw[hx];exact hk);⟨k₁,h1,.head h0 z2 h2⟩⟩
 |goto l=>exact hq.elim
 |ret=>exact⟨_,a₁,w₁,hq,.of_steps (.one h0 z2) harr⟩
 |panic ch=>exact⟨_,a₁,w₁,hq,.of_steps (.one h0 z2) harr⟩
 |outgrown=>exact⟨_,a₁,w₁,hq,.of_steps (.one h0 z2) harr⟩
def Ex.out:Ex->Exit
 |.normal=>.normal
 |.exit i=>.exit i
 |.ret=>.ret
theorem zI{F:Fence}{n0:Nat}{P:Program}{Q:Exit->Act->World->Prop}{c:Code}(I:Nat->Act->World->Prop)(round:∀n a w,I n a w->c.wpIn F n0 P (Exit.then (fun a' w'=>∃m,m<n/\I m a' w') Q) a w) :
 ∀n a w,I n a w->(Code.loop c).wpIn F n0 P Q a w:=by
 intro n a w h0 b k cs hro hb hr;have key:∀n a w,I n a w->∃e a' w',Q e a' w'/\ArrivesIn (Machine.fenced P F) P (lone (b.atR a (.code c::.inLoop c::k)) cs w) b k cs e a' w':=by
  intro n
  induction n using Nat.strongRecOn with
  |_ n ih =>
   intro a w hI;obtain⟨e,a₁,w₁,hq,harr⟩:=round n a w hI b (.inLoop c::k) cs hro hb hr;cases e with
   |normal =>
    obtain⟨m,hlt,hI₁⟩:=hq;obtain⟨e₂,a₂,w₂,hq₂,harr₂⟩:=ih m hlt a₁ w₁ hI₁;exact⟨e₂,a₂,w₂,hq₂,.of_steps (StepsIn.trans harr (.one (fenced_calm hb hr rfl) stepR_inLoop)) harr₂⟩
   |exit id=>exact⟨_,a₁,w₁,hq,.pass (x:=.inLoop c) rfl (fun _ _=>.inl (by simp)) harr⟩
   |goto l=>exact⟨_,a₁,w₁,hq,.pass (x:=.inLoop c) rfl (fun _ _=>.inl (by simp)) harr⟩
   |ret=>exact⟨_,a₁,w₁,hq,.pass (x:=.inLoop c) rfl (fun _ _=>.inl (by simp)) harr⟩
   |panic ch=>exact⟨_,a₁,w₁,hq,.pass (x:=.inLoop c) rfl (fun _ _=>.inl (by simp)) harr⟩
   |outgrown=>exact⟨_,a₁,w₁,hq,.pass (x:=.inLoop c) rfl (fun _ _=>.inl (by simp)) harr⟩
 obtain⟨e,a',w',hq,harr⟩:=key n a w h0;exact⟨e,a',w',hq,.of_steps (.one (fenced_calm hb hr rfl) stepR_loop) harr⟩
section
variable {P:Program} {K:Orc} {Gl:Nat->Option (List T)} {prom:List Nat} {nt:Nat} {R:Type}
def CodeGoes(P:Program)(Gl:Nat->Option (List T))(prom:List Nat)(nt:Nat)(c:Code)(s:St)(e:Ex)(s':St):Prop :=
 ∀(ro:Option Nat) (n:Nat),(qf c=true->ro=none)->∀(g:Gh) (a:Act) (w:World),SR Gl prom nt g s a w->∀Q:Exit->Act->World->Prop,(∀a' w' g',SR Gl prom nt g' s' a' w'->FrC g s.h w g' s'.h w'->(qf c=false->a'.defers=a.defers)->Q e.out a' w')->c.wpIn (Ql ro) n P Q a w
theorem SR.bare{g:Gh}{s:St}{a:Act}{w:World}(h:SR Gl prom nt g s a w)(env:Tr)(he:∀t,({ s with env:=env,loc:=fun _=>none,used:=fun _=>false }:St).at t=s.at t∨({ s with env:=env,loc:=fun _=>none,used:=fun _=>false }:St).at t = .undef) :
 SR Gl prom nt g { s with env:=env,loc:=fun _=>none,used:=fun _=>false } a w:=by
 refine⟨h.hr,h.defers,h.size,h.nt,fun t ht=>?_,fun t ht cells hc=>?_,fun d t o hl=>(by cases hl),h.glob,fun d t o hl=>(by cases hl)⟩
 ·rcases he t with h1|h1
  ·rw[h1];exact h.tmps t ht
  ·rw[h1];exact .imm _ _ (.undef _)
 ·rcases he t with h1|h1
  ·exact h.regs t ht cells (by rw[←h1];exact hc)
  ·rw[h1] at hc;cases hc
theorem qgx(s:St)(h:qa)(l:List Nat)(t:Nat):(qx l (zS s l) h).at t=s.at t∨(qx l (zS s l) h).at t = .undef:=by
 rcases Nat.lt_or_ge t 1024 with ht|ht
 ·rw[qdp ht];have key:∀(l:List Nat) (e:Tr),(Tr.get Qt e t=s.at t∨Tr.get Qt e t = .undef)->(Tr.get Qt (Zl l (zS s l) e) t=s.at t∨Tr.get Qt (Zl l (zS s l) e) t = .undef):=by
   intro l
   induction l with
   |nil=>exact fun e he=>he
   |cons i l ih =>
    intro e he;refine ih _ ?_;cases hb:Nat.blt i 1024 with
    |false=>simp only[cond_false];exact he
    |true =>
     have hi:=qU hb;simp only[cond_true];rw[show Tr.get Qt (Tr.set Qt e i (s.at i)) t=_ from Tr.get_set 10 e i t _ hi ht];by_cases hti:t=i
     ·subst hti;rw[if_pos rfl];exact .inl rfl
     ·rw[if_neg hti];exact he
  exact key l .nil (.inr rfl)
 ·rw[Jy (by omega)];exact .inr rfl
theorem SR.only{g:Gh}{s:St}{a:Act}{w:World}(h:SR Gl prom nt g s a w)(l:List Nat):SR Gl prom nt g (qx l (zS s l) s.h) a w:=by
 have:=qgx s s.h l;exact h.bare (Zl l (zS s l) .nil) this
theorem SR.drawn{g:Gh}{s:St}{a:Act}{w:World}(h:SR Gl prom nt g s a w)(n:Nat):SR Gl prom nt g s a { w with drawn:=n }:=by
 have hk:zx g s.h w g s.h { w with drawn:=n }:=⟨fun b hb=>⟨hb,rfl⟩,fun _ b hb=>⟨b,hb,Nat.le_refl _,fun _=>⟨rfl,rfl,rfl⟩⟩,fun _ _ h=>h⟩;refine⟨⟨fun i b hb hmp=>?_,h.hr.u,h.hr.own,h.hr.base,h.hr.cells,h.hr.lt,fun i b m hb hm=>h.hr.mp_of hb hm rfl (fun _ hc=>hc) fun _ _ _=>rfl⟩,h.defers.to (Nat.le_refl _) (fun _ _=>rfl) (fun _ _ _=>rfl) rfl (fun _ h=>.inl h),h.size,h.nt,fun t ht=>(h.tmps t ht).keep hk,fun t ht cells hc=>?_,h.loc,fun gl cells hg=>(h.glob gl cells hg).keep hk.u,h.used⟩
 ·rcases h.hr.blk0 i b hb hmp with⟨cb,sh,arr,e,hok⟩|q
  rotate_left
  ·exact .inr q
  refine .inl ⟨cb,sh,arr,e,hok.φ,hok.own,hok.heap,hok.room,hok.len,fun j o c hj hc=>?_,hok.flat⟩;obtain⟨v,h1,h2,h3⟩:=hok.cell j o c hj hc;exact⟨v,h1,h2,h3.keep hk⟩
 ·obtain⟨cb,arr,e,hreg⟩:=h.regs t ht cells hc;exact⟨cb,arr,e,hreg.keep hk rfl rfl⟩
theorem JE(hm:P.follows .mixedOrders=true)(hK:OrcOk P Gl K)(hnt:nt<=1024){id:Nat}{ops:Array Oper}{draw:Bool}{s s':St}{fps:List FP}
 (hrun:RunIs P K Gl prom nt ops.toList ops.toList { s with loc:=fun _=>none,used:=fun _=>false } s' fps) (hd:draw=true->qcc ops fps=true):CodeGoes P Gl prom nt (.region id ops draw) s .normal s':=by
 intro ro n _ g a w hs Q hn;have hs0:=hs.bare s.env (fun t=>.inl rfl);cases draw with
 |false=>exact wpIn_region_list (hrun.goes hK hs0 ro n Q fun a' w' g' h1 h2 h3=>hn a' w' g' h1 h2 fun _=>h3)
 |true =>
  have hok:=hd rfl;simp only[qcc,Bool.and_eq_true] at hok;have hlen:fps.length=ops.size:=by
   have:∀{l:List Oper} {s s':St} {fps:List FP},RunIs P K Gl prom nt ops.toList l s s' fps->fps.length=l.length:=by
    intro l s s' fps h
    induction h with
    |nil=>rfl
    |cons _ _ ih=>simp[ih]
   have:=this hrun;simpa using this
  refine wpIn_region_any hm ?_;have hO:∀i,i<ops.size->ops[i]?=some (ops.getD i default):=fun i hi=>by
   rw[Array.getD_eq_getD_getElem?,Array.getElem?_eq_getElem hi];rfl
  have hmapO:(List.range ops.size).map (fun i=>ops.getD i default)=ops.toList:=by
   apply List.ext_getElem (by simp);intro i h1 h2;simp only[List.length_map,List.length_range] at h1;simp[Array.getElem?_eq_getElem h1]
  have hmapF:(List.range ops.size).map (fun i=>fps.getD i ⟨[],[],false,false,(none,false),(none,false)⟩)=fps:=by
   apply List.ext_getElem (by simp[hlen]);intro i h1 h2;simp[List.getElem?_eq_getElem h2]
  have hpair:∀i j,i<j->j<ops.size->((Region.before ops).getD j 0).testBit i=true∨K3 (fps.getD i ⟨[],[],false,false,(none,false),(none,false)⟩) (fps.getD j ⟨[],[],false,false,(none,false),(none,false)⟩)=false:=by
   intro i j hij hj;have hp:=jy _ hok.2;rw[List.pairwise_iff_getElem] at hp;have hz:∀m,m<ops.size->((List.range ops.size).zip fps)[m]?=some (m,fps.getD m ⟨[],[],false,false,(none,false),(none,false)⟩):=by
    intro m hm;rw[List.getElem?_zip_eq_some];refine⟨by simp[hm],?_⟩;rw[List.getD_eq_getElem?_getD,List.getElem?_eq_getElem (by omega)];rfl
   have hlz:((List.range ops.size).zip fps).length=ops.size:=by simp[hlen]
   have h1:=hp i j (by omega) (by omega) hij;have e1:=hz i (by omega);have e2:=hz j hj;rw[List.getElem?_eq_getElem (by omega)] at e1 e2;rw[Option.some.inj e1,Option.some.inj e2] at h1;dsimp only at h1;have e3:(Region.before ops).toList.getD j 0=(Region.before ops).getD j 0:=by
    simp[List.getD_eq_getElem?_getD,Array.getD_eq_getD_getElem?]
   rw[e3] at h1;exact h1
  refine qaF hK hnt (s':=s') hok.1 hO hpair ops.size (rem:=List.range ops.size) (listed:=Array.replicate ops.size false) (s:=_) (s1:=s') (by simp) ⟨by simp,fun i=>?_,?_,fun j o _ hl=>?_⟩ (by rw[hmapO,hmapF];exact hrun) (.refl _) (hs0.drawn _) ro n Q ?_
  ·rw[List.mem_range,Array.getD_eq_getD_getElem?];rcases Nat.lt_or_ge i ops.size with h|h
   ·simp[h]
   ·rw[Array.getElem?_eq_none (by simpa using h)];simp;omega
  ·exact List.pairwise_lt_range
  ·rw[Array.getD_eq_getD_getElem?] at hl;rcases Nat.lt_or_ge j ops.size with h|h
   ·simp[h] at hl
   ·rw[Array.getElem?_eq_none (by simpa using h)] at hl;simp at hl
  ·intro a' w' g' hs' hf' hd';refine hn a' w' g' hs' ?_ (fun _=>hd');exact⟨⟨hf'.keep.u,hf'.keep.blk,hf'.keep.rm⟩,hf'.size,hf'.own,hf'.os,hf'.tape,⟨hf'.output.1,hf'.output.2⟩,hf'.same,hf'.bs,hf'.u,hf'.u'⟩
def RecOk(P:Program)(Gl:Nat->Option (List T))(prom:List Nat)(nt:Nat)(live:Nat->Bool->List Nat)(S:Code->Prop)(rec:Rec):Prop :=
 zD rec/\∀b vs h e vs' h',S b->rec _ b vs h (fun e vs h=>some (e,vs,h))=some (e,vs',h')->CodeGoes P Gl prom nt (zc b) (qx (live (qm b) false) vs h) e (qx (live (qm b) true) vs' h')
theorem RecOk.mono{live:Nat->Bool->List Nat}{S:Code->Prop}{rec:Rec}(h:RecOk P Gl prom nt live (fun _=>True) rec):RecOk P Gl prom nt live S rec :=
 ⟨h.1,fun b vs h0 e vs' h' _ hk=>h.2 b vs h0 e vs' h' trivial hk⟩
theorem Qh(hm:P.follows .mixedOrders=true)(hK:OrcOk P Gl K)(hnt:nt<=1024){live:Nat->Bool->List Nat}{S:Code->Prop}{rec:Rec}(hrec:RecOk P Gl prom nt live S rec) :
 ∀(c:Code) (_:∀b∈qn c,S b) {s:St} {k:Ex->St->Option R} {r:R},exK P K Gl prom nt live rec c s k=some r->∃e s',k e s'=some r/\CodeGoes P Gl prom nt c s e s'
 |.skip,_,s,k,r,hk=>⟨_,_,hk,fun ro n _ g a w hs Q hn=>wpIn_skip (hn _ _ _ hs (FrC.refl _ _ _) fun _=>rfl)⟩
 |.label _,_,s,k,r,hk=>⟨_,_,hk,fun ro n _ g a w hs Q hn=>wpIn_label (hn _ _ _ hs (FrC.refl _ _ _) fun _=>rfl)⟩
 |.region id ops draw,_,s,k,r,hk=>by
  simp only[exK] at hk;obtain⟨s',fps,hk,hrun⟩:=ZX _ hk;replace hk:=(qc hk).2;cases draw with
  |false=>exact⟨_,_,hk,JE hm hK hnt hrun (fun h=>by cases h)⟩
  |true =>
   simp only[cond_true] at hk;obtain⟨ho,hk⟩:=qc hk;exact⟨_,_,hk,JE hm hK hnt hrun (fun _=>ho)⟩
 |.seq x y,hl,s,k,r,hk=>by
  simp only[exK] at hk;obtain⟨e,s1,hk,h1⟩:=Qh hm hK hnt hrec x (fun b hb=>hl b (by simp[qn,hb])) hk;cases e with
  |normal =>
   obtain⟨e2,s2,hk,h2⟩:=Qh hm hK hnt hrec y (fun b hb=>hl b (by simp[qn,hb])) hk;exact⟨e2,s2,hk,fun ro n hro g a w hs Q hn=>wpIn_seq (h1 ro n (fun h=>hro (by simp[qf,h])) g a w hs _ fun a1 w1 g1 hs1 hf1 hd1=>h2 ro n (fun h=>hro (by simp[qf,h])) g1 a1 w1 hs1 Q fun a2 w2 g2 hs2 hf2 hd2=>hn a2 w2 g2 hs2 (hf1.trans hf2) fun h=>by simp only[qf,Bool.or_eq_false_iff] at h;exact(hd2 h.2).trans (hd1 h.1))⟩
  |exit i=>exact⟨_,_,hk,fun ro n hro g a w hs Q hn=>wpIn_seq (h1 ro n (fun h=>hro (by simp[qf,h])) g a w hs _ fun a1 w1 g1 hs1 hf1 hd1=>hn a1 w1 g1 hs1 hf1 fun h=>by simp only[qf,Bool.or_eq_false_iff] at h;exact hd1 h.1)⟩
  |ret=>exact⟨_,_,hk,fun ro n hro g a w hs Q hn=>wpIn_seq (h1 ro n (fun h=>hro (by simp[qf,h])) g a w hs _ fun a1 w1 g1 hs1 hf1 hd1=>hn a1 w1 g1 hs1 hf1 fun h=>by simp only[qf,Bool.or_eq_false_iff] at h;exact hd1 h.1)⟩
 |.cond c x y,hl,s,k,r,hk=>by
  simp only[exK] at hk;cases hc:Ab.ev Gl prom s c with
  |bool t =>
   rw[hc] at hk;have hev:∀(g:Gh) (a:Act) (w:World),SR Gl prom nt g s a w->a.eval c = .bool t:=fun g a w hs=>by
    have:=hs.ev c;rw[hc] at this;exact this.bool
   cases t with
   |true =>
    obtain⟨e,s1,hk,h1⟩:=Qh hm hK hnt hrec x (fun b hb=>hl b (by simp[qn,hb])) hk;exact⟨e,s1,hk,fun ro n hro g a w hs Q hn=>wpIn_cond_true (hev g a w hs) (h1 ro n (fun h=>hro (by simp[qf,h])) g a w hs Q fun a1 w1 g1 hs1 hf1 hd1=>hn a1 w1 g1 hs1 hf1 fun h=>by simp only[qf,Bool.or_eq_false_iff] at h;exact hd1 h.1)⟩
   |false =>
    obtain⟨e,s1,hk,h1⟩:=Qh hm hK hnt hrec y (fun b hb=>hl b (by simp[qn,hb])) hk;exact⟨e,s1,hk,fun ro n hro g a w hs Q hn=>wpIn_cond_false (hev g a w hs) (h1 ro n (fun h=>hro (by simp[qf,h])) g a w hs Q fun a1 w1 g1 hs1 hf1 hd1=>hn a1 w1 g1 hs1 hf1 fun h=>by simp only[qf,Bool.or_eq_false_iff] at h;exact hd1 h.2)⟩
  |_=>rw[hc] at hk;cases hk
 |.block id b,hl,s,k,r,hk=>by
  simp only[exK] at hk;obtain⟨e,s1,hk,h1⟩:=Qh hm hK hnt hrec b (fun b' hb=>hl b' (by simp[qn,hb])) hk;cases e with
  |normal=>exact⟨_,_,hk,fun ro n hro g a w hs Q hn=>wpIn_block (h1 ro n (fun h=>hro (by simp[qf,h])) g a w hs _ fun a1 w1 g1 hs1 hf1 hd1=>hn a1 w1 g1 hs1 hf1 fun h=>hd1 (by simpa only[qf] using h))⟩
  |ret=>exact⟨_,_,hk,fun ro n hro g a w hs Q hn=>wpIn_block (h1 ro n (fun h=>hro (by simp[qf,h])) g a w hs _ fun a1 w1 g1 hs1 hf1 hd1=>hn a1 w1 g1 hs1 hf1 fun h=>hd1 (by simpa only[qf] using h))⟩
  |exit i =>
   dsimp only at hk;rcases qk hk with⟨hi,hk⟩|⟨hi,hk⟩
   ·refine⟨_,_,hk,fun ro n hro g a w hs Q hn=>wpIn_block (h1 ro n (fun h=>hro (by simp[qf,h])) g a w hs _ fun a1 w1 g1 hs1 hf1 hd1=>?_)⟩;have hi:i=id:=by simpa using hi
    simp only[Ex.out,Exit.inBlock,if_pos hi];exact hn a1 w1 g1 hs1 hf1 fun h=>hd1 (by simpa only[qf] using h)
   ·refine⟨_,_,hk,fun ro n hro g a w hs Q hn=>wpIn_block (h1 ro n (fun h=>hro (by simp[qf,h])) g a w hs _ fun a1 w1 g1 hs1 hf1 hd1=>?_)⟩;have hi:i≠id:=by simpa using hi
    simp only[Ex.out,Exit.inBlock,if_neg hi];exact hn a1 w1 g1 hs1 hf1 fun h=>hd1 (by simpa only[qf] using h)
 |.loop b,hl,s,k,r,hk=>by
  simp only[exK] at hk;rcases qk hk with⟨_,hk⟩|⟨hrg,hk⟩
  ·cases hk
  obtain⟨⟨e,vs,h⟩,hk,hr⟩:=qq (hrec.1 b (zS s (live (qm b) false)) s.h) (k:=fun p=>k p.1 (qx (live (qm b) true) p.2.1 p.2.2)) hk;have hgo:=hrec.2 b _ _ e vs h (hl b (by simp[qn])) (hr _ some);rw[show zc b = .loop b by simp[zc,hrg]] at hgo;exact⟨e,_,hk,fun ro n hro g a w hs Q hn=>hgo ro n hro g a w (hs.only _) Q hn⟩
 |.exit id,_,s,k,r,hk=>⟨_,_,hk,fun ro n _ g a w hs Q hn=>wpIn_exit (hn _ _ _ hs (FrC.refl _ _ _) fun _=>rfl)⟩
 |.ret,_,s,k,r,hk=>⟨_,_,hk,fun ro n _ g a w hs Q hn=>wpIn_ret (hn _ _ _ hs (FrC.refl _ _ _) fun _=>rfl)⟩
 |.scope b,hl,s,k,r,hk=>by
  simp only[exK] at hk;obtain⟨e,s1,hk,h1⟩:=Qh hm hK hnt hrec b (fun b' hb=>hl b' (by simpa [qn] using hb)) hk;refine⟨e,s1,hk,fun ro n hro g a w hs Q hn=>KF (h1 ro n (fun h=>hro (by simpa [qf] using h)) g a w hs _ fun a1 w1 g1 hs1 hf1 hd1=>?_)⟩;have:=hn a1 w1 g1 hs1 hf1 fun h=>hd1 (by simpa only[qf] using h);cases e<;>exact this
 |.goto _,_,s,k,r,hk=>by simp only[exK] at hk;cases hk
 |.refuse _,_,s,k,r,hk=>by simp only[exK] at hk;cases hk
 |.rangeFunc f ps x y,hl,s,k,r,hk=>by
  simp only[exK] at hk;obtain⟨⟨e,vs,h⟩,hk,hr⟩:=qq (hrec.1 (.rangeFunc f ps x y) (zS s (live (qm (.rangeFunc f ps x y)) false)) s.h) (k:=fun p=>k p.1 (qx (live (qm (.rangeFunc f ps x y)) true) p.2.1 p.2.2)) hk;have hgo:=hrec.2 _ _ _ e vs h (hl (.rangeFunc f ps x y) (by simp[qn])) (hr _ some);rw[show zc (.rangeFunc f ps x y) = .rangeFunc f ps x y by rfl] at hgo;exact⟨e,_,hk,fun ro n hro g a w hs Q hn=>hgo ro n hro g a w (hs.only _) Q hn⟩
theorem qfn(hm:P.follows .mixedOrders=true)(hK:OrcOk P Gl K)(hnt:nt<=1024){live:Nat->Bool->List Nat}{b:Code}(I:Nat->List T->qa->Prop){e1:Ex}{vs1:List T}{h1:qa}
 (round:∀n vs h,I n vs h->∃(rec:Rec) (S:Code->Prop),RecOk P Gl prom nt live S rec/\(∀b'∈qn b,S b')/\∃e s',exK (R:=Ex×St) P K Gl prom nt live rec b (qx (live (qm b) false) vs h) (fun e s=>some (e,s))=some (e,s') ∧
  ((e = .normal/\∃m,m<n/\I m (zS s' (live (qm b) false)) s'.h)∨(e≠.normal/\e=e1/\zS s' (live (qm b) true)=vs1/\s'.h=h1))) :
 ∀n vs h,I n vs h->CodeGoes P Gl prom nt (.loop b) (qx (live (qm b) false) vs h) e1 (qx (live (qm b) true) vs1 h1):=by
 intro n vs h hI ro nn hro g0 a0 w0 hs0 Q hn;refine zI (fun m a w=>∃vs' h' g,I m vs' h'/\SR Gl prom nt g (qx (live (qm b) false) vs' h') a w/\FrC g0 h w0 g h' w/\(qf b=false->a.defers=a0.defers)) (fun m a w hJ=>?_) n a0 w0 ⟨vs,h,g0,hI,hs0,FrC.refl _ _ _,fun _=>rfl⟩;obtain⟨vs',h',g,hI,hs,hf,hdf⟩:=hJ;obtain⟨rec,S,hrec,hS,e,s',hk,hcase⟩:=round m vs' h' hI;obtain⟨e',s2,hk2,hgo⟩:=Qh hm hK hnt hrec b hS hk;simp only[Option.some.injEq,Prod.mk.injEq] at hk2;obtain⟨rfl,rfl⟩:=hk2;refine hgo ro nn (fun h=>hro (by simpa [qf] using h)) g a w hs _ fun a' w' g' hs' hf' hd'=>?_;rcases hcase with⟨rfl,j,hj,hI'⟩|⟨hne,rfl,rfl,rfl⟩
 ·exact⟨j,hj,_,_,g',hI',hs'.only _,hf.trans hf',fun h=>(hd' h).trans (hdf h)⟩
 ·have:=hn a' w' g' (hs'.only _) (hf.trans hf') (fun h=>by simp only[qf] at h;exact(hd' h).trans (hdf h));cases e' with
  |normal=>exact absurd rfl hne
  |exit i=>exact this
  |ret=>exact this
theorem yh(hm:P.follows .mixedOrders=true)(hK:OrcOk P Gl K)(hnt:nt<=1024){live:Nat->Bool->List Nat}:∀n,RecOk P Gl prom nt live (fun _=>True) (yq P K Gl prom nt live n):=by
 intro n
 induction n using Nat.strongRecOn with
 |_ n ih =>
  refine⟨z0 P K Gl prom nt live n,fun b vs h e1 vs1 h1 _ hl=>?_⟩;have hrg:K5 b=false:=by
   cases n with
   |zero=>cases hl
   |succ j =>
    simp only[yq] at hl;rcases qk hl with⟨_,hl⟩|⟨h,_⟩
    ·cases hl
    ·exact h
  rw[show zc b = .loop b by simp[zc,hrg]];refine qfn hm hK hnt (fun m vs h=>m<=n/\yq P K Gl prom nt live m _ b vs h (fun e vs h=>some (e,vs,h))=some (e1,vs1,h1)) (fun m vs h hI=>?_) n vs h ⟨Nat.le_refl _,hl⟩;obtain⟨hmn,hl⟩:=hI;cases m with
  |zero=>cases hl
  |succ j =>
   refine⟨_,_,ih j (by omega),fun _ _=>trivial,?_⟩;simp only[yq,hrg,cond_false] at hl;obtain⟨⟨e,s'⟩,hk,hall⟩:=qq (Zb P K Gl prom nt live (z0 P K Gl prom nt live j) b (qx (live (qm b) false) vs h)) (k:=fun p=>match p.1 with
    |.normal=>yq P K Gl prom nt live j _ b (zS p.2 (live (qm b) false)) p.2.h fun e vs h=>some (e,vs,h)
    |e=>some (e,zS p.2 (live (qm b) true),p.2.h)) hl
   refine⟨e,s',hall _ some,?_⟩;cases e with
   |normal=>exact .inl ⟨rfl,j,by omega,by omega,hk⟩
   |exit i =>
    simp only[Option.some.injEq,Prod.mk.injEq] at hk;exact .inr ⟨by simp,hk.1,hk.2.1,hk.2.2⟩
   |ret =>
    simp only[Option.some.injEq,Prod.mk.injEq] at hk;exact .inr ⟨by simp,hk.1,hk.2.1,hk.2.2⟩
end
def Yu(tmps:Array Value):ResultVar->Sem Value
 |.tmp t=>pure (tmps.getD t undef)
 |.cell a t=>do loadVar t (←asAddr (tmps.getD a undef))
theorem qaG(fn:Func)(tmps:Array Value):results fn tmps=(do let vs ←fn.results.mapM (Yu tmps);pure (if h:vs.size=1 then vs[0] else .tuple vs)):=by
 unfold results
 first|rfl|(congr 1;done)|(congr 1;congr 1;done)|(congr 1;congr 1;funext r;cases r<;>rfl)
section
variable {P:Program} {K:Orc} {Gl:Nat->Option (List T)} {prom:List Nat} {nt:Nat} {R:Type} {g:Gh} {s:St} {a:Act} {w:World}
theorem qej{ty:TypeId}{v u:Value}(h:(Instr.loadAt ty v).run P w = .ok u w):(do loadVar ty (←asAddr v):Sem Value).run P w = .ok u w:=by
 cases v with
 |pointer p =>
  cases p with
  |some ad=>simpa [Instr.loadAt,Instr.sureAddr,asAddr] using h
  |none=>simp[Instr.loadAt,Instr.sureAddr,stuck] at h
 |_=>simp[Instr.loadAt,Instr.sureAddr,stuck] at h
theorem qdx(hs:SR Gl prom nt g s a w){rv:ResultVar}{k:T->Option R}{r:R}(hk:qc5 P Gl prom s rv k=some r) :
 ∃x,k x=some r/\∃v,(Yu a.tmps rv).run P w = .ok v w/\g.VR s.h w x v:=by
 cases rv with
 |tmp t =>
  refine⟨_,hk,_,rfl,?_⟩;have:=hs.ev (.tmp t);simpa [Act.eval] using this
 |cell c ty =>
  simp only[qc5] at hk;cases hb:base prom s (.tmp c) with
  |some p =>
   obtain⟨t,off⟩:=p;rw[hb] at hk;dsimp only at hk;cases hc:s.at t with
   |reg cells =>
    rw[hc] at hk;obtain⟨hm,cb,arr,e,hreg,hev⟩:=Yr hb hs hc;obtain⟨y,hk,u,hrun,hyr⟩:=jf hk (hreg.cellsAt.drop off);rw[Nat.zero_add] at hrun;have hev':a.tmps.getD c undef = .pointer (some ⟨cb,off,none⟩):=by simpa [Act.eval] using hev
    refine⟨y,hk,u,?_,hyr⟩;simp[Yu,hev',asAddr,hrun]
   |_=>rw[hc] at hk;cases hk
  |none =>
   rw[hb] at hk;dsimp only at hk;have hp:c∉prom:=by
    intro hp;have:prom.contains c=true:=by simpa using hp
    simp only[base,this,cond_true] at hb;cases hb
   obtain⟨y,hk,u,hrun,hyr⟩:=yE (k:=fun v _ _=>k v) hk hs.hr (hs.tmps c hp);exact⟨y,hk,u,qej hrun,hyr⟩
theorem jz(hs:SR Gl prom nt g s a w):∀(l:List ResultVar) {k:List T->Option R} {r:R},YZ P Gl prom s l k=some r →
 ∃xs,k xs=some r/\∃vs:List Value,(l.mapM (Yu a.tmps)).run P w = .ok vs w/\xs.length=vs.length/\∀(i:Nat) (x:T),xs[i]?=some x->∃v,vs[i]?=some v/\g.VR s.h w x v
 |[],k,r,hk=>⟨[],hk,[],rfl,rfl,fun i x hi=>by simp at hi⟩
 |rv::l,k,r,hk=>by
  simp only[YZ] at hk;obtain⟨x,hk,v,h1,h2⟩:=qdx hs hk;obtain⟨xs,hk,vs,h3,h4,h5⟩:=jz hs l hk;refine⟨x::xs,hk,v::vs,?_,by simp[h4],fun i y hi=>?_⟩
  ·simp[List.mapM_cons,h1,h3]
  ·cases i with
   |zero =>
    simp only[List.getElem?_cons_zero,Option.some.injEq] at hi;subst hi;exact⟨v,rfl,h2⟩
   |succ i=>exact h5 i y (by simpa using hi)
theorem yj(hs:SR Gl prom nt g s a w){fn:Func}{k:T->Option R}{r:R}(hk:Yh P Gl prom fn s k=some r) :
 ∃x,k x=some r/\∃v,(results fn a.tmps).run P w = .ok v w/\g.VR s.h w x v:=by
 unfold Yh at hk;obtain⟨xs,hk,vs,h1,h2,h3⟩:=jz hs _ hk;have hrun:(fn.results.mapM (Yu a.tmps)).run P w = .ok vs.toArray w:=by
  rw[Array.mapM_eq_mapM_toList];rw[map_eq_pure_bind];simp only[Sem.run_bind,h1,Result.andThen_ok,Sem.run_pure]
 rw[qaG];have hres:(do let vs ←fn.results.mapM (Yu a.tmps);pure (if h:vs.size=1 then vs[0] else .tuple vs):Sem Value).run P w = .ok (if h:vs.toArray.size=1 then vs.toArray[0] else .tuple vs.toArray) w:=by
  simp only[Sem.run_bind,hrun,Result.andThen_ok,Sem.run_pure]
 have tup:vs.length≠1->k (.tup xs)=some r->∃x,k x=some r/\∃v,(do let vs ←fn.results.mapM (Yu a.tmps);pure (if h:vs.size=1 then vs[0] else .tuple vs):Sem Value).run P w = .ok v w/\g.VR s.h w x v:=by
  intro hl hk;refine⟨_,hk,_,hres,?_⟩;rw[dif_neg (by simpa using hl)];exact VR.mk_tup (by simpa using h2) (fun i c hi=>by
   obtain⟨v,q1,q2⟩:=h3 i c hi;exact⟨v,by simpa using q1,q2⟩)
 match xs,h2,h3,hk,tup with
 |[x],h2,h3,hk,_ =>
  obtain⟨v,q1,q2⟩:=h3 0 x rfl;refine⟨x,hk,v,?_,q2⟩;rw[hres];have hl:vs.length=1:=by simpa using h2.symm
  rw[dif_pos (by simpa using hl)];congr 1;rw[List.getElem?_eq_getElem (by omega)] at q1;simpa using Option.some.inj q1
 |[],h2,h3,hk,tup=>exact tup (by simp at h2;omega) hk
 |x::y::l,h2,h3,hk,tup=>exact tup (by simp at h2;omega) hk
theorem jA(t:Nat)(ht:t<1024):∀(l:List T) (i:Nat) (e:Tr),i+l.length<=1024->Tr.get Qt (Y0 i l e) t=if i<=t/\t<i+l.length then l.getD (t-i) .undef else Tr.get Qt e t
 |[],i,e,_=>by
  rw[if_neg (by simp)];rfl
 |x::l,i,e,hl=>by
  simp only[List.length_cons] at hl;simp only[Y0];rw[jA t ht l (i+1) _ (by omega)];have hset:Tr.get Qt (Tr.set Qt e i x) t=if t=i then x else Tr.get Qt e t:=Tr.get_set 10 e i t x (by omega) ht;rw[hset];simp only[List.length_cons];by_cases h1:t=i
  ·subst h1;rw[if_neg (by omega),if_pos rfl,if_pos (by omega),Nat.sub_self];rfl
  ·rw[if_neg h1];by_cases h2:i<=t/\t<i+(l.length+1)
   ·rw[if_pos (by omega),if_pos h2,show t-i=(t-(i+1))+1 by omega];rfl
   ·rw[if_neg (by omega),if_neg h2]
theorem qfY(args:List T)(h:qa)(hl:args.length<=1024)(t:Nat):(enter args h).at t=args.getD t .undef:=by
 rcases Nat.lt_or_ge t 1024 with ht|ht
 ·rw[qdp ht];have:=jA t ht args 0 .nil (by omega);simp only[Nat.zero_add,Nat.zero_le,true_and,Nat.sub_zero] at this;rw[show(enter args h).env=Y0 0 args .nil from rfl,this];split
  ·rfl
  ·rename_i hx;rw[List.getD_eq_getElem?_getD,List.getElem?_eq_none (by omega)];rfl
 ·rw[Jy (by omega),List.getD_eq_getElem?_getD,List.getElem?_eq_none (by omega)];rfl
theorem SR.enter{args:List T}{h:qa}{cargs:Array Value}(hlow:g.low<=w.heap.size)(hr:HR g h w)(hgl:zE Gl w g.U)(ha:ArgsVR g h w args cargs)(hnt:nt<=1024)(hle:args.length<=nt) :
 SR Gl prom nt g (enter args h) { tmps:=cargs++Array.replicate (nt-cargs.size) undef,defers:=[] } w:=by
 have hsz:cargs.size=args.length:=ha.1.symm;have hat:=qfY args h (by omega);have hv:∀t,g.VR h w ((Ab.enter args h).at t) ((cargs++Array.replicate (nt-cargs.size) undef).getD t undef):=by
  intro t;rw[hat];rcases Nat.lt_or_ge t args.length with ht|ht
  ·obtain⟨v,q1,q2⟩:=ha.2 t args[t] (by simp[ht]);rw[List.getD_eq_getElem?_getD,List.getElem?_eq_getElem ht,Array.getD_eq_getD_getElem?,Array.getElem?_append_left (by omega),q1];exact q2
  ·rw[List.getD_eq_getElem?_getD,List.getElem?_eq_none ht];exact .imm _ _ (.undef _)
 refine⟨hr,Marks.nil hlow,by simp[hsz];omega,hnt,fun t _=>hv t,fun t _ cells hc=>?_,fun d t o hl=>(by cases hl),hgl,fun d t o hl=>(by cases hl)⟩;have:=hv t;rw[hc] at this;exact absurd this VR.not_reg
variable {A:FuncId->Ann}
theorem ko(fn:Func)(s:St):Det fun R k=>Yh (R:=R) P Gl prom fn s k:=by
 unfold Yh;refine qp (g:=fun vs R k=>match vs with|[v]=>k v|vs=>k (T.tup vs)) (qaj P Gl prom s _) fun vs=>?_
 match vs with
 |[v]=>exact qd v
 |[]=>exact qd (T.tup [])
 |x::y::l=>exact qd (T.tup (x::y::l))
theorem qfZ(fn:Func)(e:Ex)(s:St):Det (A:=T×qa) fun R k=>qgv (R:=R) P Gl prom fn e s fun v h=>k (v,h):=by
 cases e with
 |exit i=>exact qb
 |normal=>exact qp (g:=fun v _ k=>k (v,s.h)) (ko fn s) fun v=>qd (v,s.h)
 |ret=>exact qp (g:=fun v _ k=>k (v,s.h)) (ko fn s) fun v=>qd (v,s.h)
theorem qfo{rec:Rec}(hrec:zD rec)(f:FuncId)(fn:Func)(c:Code)(args:List T)(h:qa):Det (A:=T×qa) fun _R k=>qc6 P Gl A K rec f fn c args h fun v h=>k (v,h):=by
 unfold qc6;refine ql _ (QR (Zb P K Gl (A f).prom fn.ntmps (A f).live hrec c (enter args h)) fun e s=>qfZ fn e s)
theorem qaH{rec:Func->Rec}(hrec:∀fn,zD (rec fn))(f:FuncId)(args:List T)(h:qa):Det (A:=T×qa) fun _R k=>kX P Gl A K rec f args h fun v h=>k (v,h):=by
 unfold kX;cases P.funcs[f]? with
 |none=>exact qb
 |some fn =>
  dsimp only;cases fn.body with
  |none=>exact qb
  |some c=>exact qfo (hrec fn) _ _ _ _ _
theorem qfp{rec:Func->Rec}(hrec:∀fn,zD (rec fn)){f:FuncId}{args:List T}{h:qa}{k:T->qa->Option R}{r:R}(hk:kX P Gl A K rec f args h k=some r):∃v h',k v h'=some r/\kX P Gl A K rec f args h (fun v h=>some (v,h))=some (v,h'):=by
 obtain⟨⟨v,h'⟩,h1,h2⟩:=qq (qaH (P:=P) (K:=K) (Gl:=Gl) (A:=A) hrec f args h) (k:=fun p=>k p.1 p.2) hk;exact⟨v,h',h1,h2 _ some⟩
theorem SR.world(hs:SR Gl prom nt g s a w){w':World}{ds:List Deferred}(hsize:w.heap.size<=w'.heap.size)(hsame:∀b,g.U b∨g.own b≠none->w'.heap[b]?=w.heap[b]?)(hrm:∀b n,room w b n->room w' b n)
 (hds:Marks g w' ds):SR Gl prom nt g s { a with defers:=ds } w':=by
 have hk:zx g s.h w g s.h w':=⟨fun b hb=>⟨hb,hsame b (.inl hb)⟩,fun i b hb=>⟨b,hb,Nat.le_refl _,fun _=>⟨rfl,rfl,rfl⟩⟩,hrm⟩;refine⟨⟨fun i b hb hmp=>?_,fun b hb=>⟨Nat.lt_of_lt_of_le (hs.hr.u b hb).1 hsize,(hs.hr.u b hb).2⟩,fun b o ho=>⟨(hs.hr.own b o ho).1,Nat.lt_of_lt_of_le (hs.hr.own b o ho).2 hsize⟩,Nat.le_trans hs.hr.base hsize,fun b o ho=>hs.hr.cells_of ho (hsame b (.inr (by rw[ho];simp))),hs.hr.lt,fun i b m hb hm=>hs.hr.mp_of hb hm rfl (fun _ hc=>hc) fun c _ hc=>hsame c (.inr (by rw[hc];simp))⟩,
  hds,hs.size,hs.nt,fun t ht=>(hs.tmps t ht).keep hk,fun t ht cells hc=>?_,hs.loc,fun gl cells hg=>(hs.glob gl cells hg).keep hk.u,hs.used⟩
 ·rcases hs.hr.blk0 i b hb hmp with⟨cb,sh,arr,e,hok⟩|q
  rotate_left
  ·exact .inr q
  exact .inl ⟨cb,sh,arr,e,hok.φ,hok.own,(hsame cb (.inr (by rw[hok.own];simp))).trans hok.heap,hok.room,hok.len,fun j o c hj ho=>by
   obtain⟨v,q1,q2,q3⟩:=hok.cell j o c hj ho;exact⟨v,q1,q2,q3.keep hk⟩,hok.flat⟩
 ·obtain⟨cb,arr,e,hreg⟩:=hs.regs t ht cells hc;exact⟨cb,arr,e,hreg.keep hk rfl (hsame cb (.inr (by rw[hreg.own];simp)))⟩
theorem HR.setLow{h:qa}(hr:HR g h w)(n:Nat)(d:List Deferred:=[]):HR { g with low:=n,dt:=d } h w :=
 ⟨fun i b hb hmp=>by
  rcases hr.blk0 i b hb hmp with⟨cb,sh,arr,e,hok⟩|q
  ·exact .inl ⟨cb,sh,arr,e,hok.φ,hok.own,hok.heap,hok.room,hok.len,hok.cell,hok.flat⟩
  ·exact .inr q,hr.u,hr.own,hr.base,hr.cells,hr.lt,hr.mp⟩
def turn:List Nat->World->World
 |[],w=>w
 |D::l,w=>turn l (w.putObj D (.deferred none))
theorem JZ:∀(l:List Nat) (w:World),(turn l w).heap.size=w.heap.size/\(turn l w).os=w.os/\(turn l w).tape=w.tape/\OutOk (turn l w) w/\∀b,b∉l->(turn l w).heap[b]?=w.heap[b]?
 |[],w=>⟨rfl,rfl,rfl,.refl _,fun _ _=>rfl⟩
 |D::l,w=>by
  obtain⟨h1,h2,h3,h4,h5⟩:=JZ l (w.putObj D (.deferred none));refine⟨by simp only[turn];rw[h1,World.putObj_size],by simp only[turn];rw[h2];rfl,by simp only[turn];rw[h3];rfl,by simp only[turn];exact h4.trans ⟨rfl,Nat.le_refl _⟩,fun b hb=>?_⟩;simp only[List.mem_cons,not_or] at hb;simp only[turn];rw[h5 b hb.2,World.putObj_heap_other hb.1]
theorem ZM{F:Fence}{n:Nat}{fn:Func}{tmps:Array Value}{R:Ending->World->Prop}:∀(l:List Nat) (w:World),l.Nodup->(∀D∈l,w.heap[D]?=some (.deferred (some []))) →
 (∃v,(results fn tmps).run P (turn l w) = .ok v (turn l w)/\R (.returned v) (turn l w))->LeavesInM F n P fn tmps R (l.map ZF) .returning w
 |[],w,_,_,h=>by simpa [LeavesInM,LeavesIn,turn] using h
 |D::l,w,hn,hD,h=>by
  rw[List.nodup_cons] at hn;refine⟨by simp,.inl ⟨D,_,rfl,run_takeDeferred (hD D (by simp)),ZM l _ hn.2 (fun E hE=>?_) h⟩⟩;rw[World.putObj_heap_other (by rintro rfl;exact hn.1 hE)];exact hD E (by simp[hE])
def KG(P:Program)(Gl:Nat->Option (List T))(A:FuncId->Ann)(f:FuncId)(rec:Func->Rec):Prop :=
 ∀fn c,P.funcs[f]?=some fn->fn.body=some c->fn.ntmps<=1024->RecOk P Gl (A f).prom fn.ntmps (A f).live (fun b=>b∈qn c) (rec fn)
theorem qaI(hm:P.follows .mixedOrders=true)(hK:OrcOk P Gl K){f:FuncId}{rec:Func->Rec}(hrec:KG P Gl A f rec){args:List T}{h h':qa}{r:T}(hk:kX P Gl A K rec f args h (fun v h=>some (v,h))=some (r,h'))
 {cargs:Array Value} (hr:HR g h w) (hno:KB g) (hgl:zE Gl w g.U) (ha:ArgsVR g h w args cargs) :
 Calls P f cargs w fun e w'=>∃v,e = .returned v/\Res g h w r h' v w':=by
 unfold kX at hk;cases hf:P.funcs[f]? with
 |none=>rw[hf] at hk;cases hk
 |some fn =>
  rw[hf] at hk;dsimp only at hk;cases hb:fn.body with
  |none=>rw[hb] at hk;cases hk
  |some c =>
   rw[hb] at hk;dsimp only[qc6] at hk;obtain⟨hc,hk⟩:=qc hk;simp only[Bool.and_eq_true] at hc;have hnt:=qT hc.1;have hle:=qT hc.2;obtain⟨e,s',hk,hgo⟩:=Qh hm hK hnt (hrec fn c hf hb hnt) c (fun _ hb=>hb) hk;have hs0:=SR.enter (Gl:=Gl) (prom:=(A f).prom) (Nat.le_refl _) (hr.setLow w.heap.size) hgl ha hnt hle;rw[←callsIn_wide (n:=0)];refine callsIn_of_wp_marks hf hb trivial (hgo none 0 (fun _=>rfl) _ _ w hs0 _ fun a' w' g' hs' hf' _=>?_) rfl;have fin:Yh P Gl (A f).prom fn s' (fun v=>some (v,s'.h))=some (r,h')->LeavesInM Fence.wide 0 P fn a'.tmps (fun e w'=>∃v,e = .returned v/\Res g h w r h' v w') a'.defers .returning w':=by
    intro hk;obtain⟨hlo,l,hl1,hl2,hl3⟩:=hs'.defers;replace hl1:=hl1.nil hf'.dt;obtain⟨t1,t2,t3,t4,t5⟩:=JZ l w';have hlow:g'.low=w.heap.size:=hf'.low;have hoff:∀b,g'.U b∨g'.own b≠none->b∉l:=by
     rintro b hb hbl;obtain⟨q1,q2,q3,q4⟩:=hl3 b hbl;rcases hb with hb|hb
     ·exact q3 hb
     ·exact hb q2
    have hrm:∀b n,room w' b n->room (turn l w') b n:=by
     rintro b n ⟨arr,e,h1,h2⟩;refine⟨arr,e,?_,h2⟩;rw[t5 b fun hbl=>?_]
     ·exact h1
     ·have:=(hl3 b hbl).2.2.2;rw[h1] at this;cases this
    have hs2:=hs'.world (w':=turn l w') (ds:=[]) (by omega) (fun b hb=>t5 b (hoff b hb)) hrm (Marks.nil (by omega));obtain⟨x,hk,v,h1,h2⟩:=yj hs2 hk;simp only[Option.some.injEq,Prod.mk.injEq] at hk;obtain⟨rfl,rfl⟩:=hk;rw[hl1];refine ZM l w' hl2 (fun D hD=>(hl3 D hD).2.2.2) ⟨v,h1,v,rfl,{ g' with own:=fun b=>match g'.own b with|some (.inl i)=>some (.inl i)|_=>none,low:=g.low,dt:=g.dt },(hs2.hr.strip).setLow g.low g.dt,h2,?_,?_⟩
    ·exact hf'.keep.trans ⟨fun b hb=>⟨hb,t5 b (hoff b (.inl hb))⟩,fun i b hb=>⟨b,hb,Nat.le_refl _,fun _=>⟨rfl,rfl,rfl⟩⟩,hrm⟩
    ·refine⟨by have:=hf'.size;omega,fun b hb=>?_,t2.trans hf'.os,t3.trans hf'.tape,t4.trans hf'.output,fun b hb hn=>?_,?_,hf'.u,fun b hb t=>by dsimp only;split<;>simp⟩
     ·dsimp only;rw[hf'.own b hb];dsimp only;cases ho:g.own b with
      |none=>rfl
      |some q =>
       cases q with
       |inl i=>rfl
       |inr t=>exact absurd ho (hno b t)
     ·rw[t5 b fun hbl=>by have:=(hl3 b hbl).1;omega];refine hf'.same b hb ?_;dsimp only;cases ho:g.own b with
      |none=>rfl
      |some q =>
       cases q with
       |inl i=>exact absurd ho (hn i)
       |inr t=>exact absurd ho (hno b t)
     ·have:=hf'.base;simp only[Gh.bs,this]
   cases e with
   |normal=>exact fin hk
   |ret=>exact fin hk
   |exit i=>cases hk
theorem qaJ(hm:P.follows .mixedOrders=true)(hK:OrcOk P Gl K){f:FuncId}{rec:Func->Rec}(hdet:∀fn,zD (rec fn))(hrec:KG P Gl A f rec){args:List T}{r:T}(hk:kX P Gl A K rec f args [] (fun v h=>some (yP h v))=some r)
 {cargs:Array Value} {U:Nat->Prop} (hU:∀b,U b->b<w.heap.size) (hgl:zE Gl w U) (ha:qcv w U args cargs) :
 Calls P f cargs w fun e w'=>∃v,e = .returned v/\RV w U r v w':=by
 obtain⟨rv,h',hgive,hk2⟩:=qfp hdet hk;obtain rfl:=Option.some.inj hgive
 let g0:Gh:={ U:=U,φ:=fun _=>none,own:=fun _=>none,base:=w.heap.size,low:=0 }
 have hr:HR g0 [] w:=⟨fun i b hb=>by simp at hb,fun b hb=>⟨hU b hb,rfl⟩,fun b o ho=>(by cases ho),Nat.le_refl _,fun b o ho=>(by cases ho),fun b i ho=>(by cases ho),fun i b m hb=>by simp at hb⟩;refine(qaI (g:=g0) hm hK hrec hk2 hr (fun b t=>by simp[g0]) hgl ⟨ha.1,fun i x hi=>?_⟩).mono fun e w' ⟨v,he,hres⟩=>⟨v,he,?_⟩
 ·obtain⟨v,q1,q2⟩:=ha.2 i x hi;exact⟨v,q1,.imm _ _ q2⟩
 ·obtain⟨g',hr',hx,hkp,hf⟩:=hres;have hbase:g'.base=w.heap.size:=hf.base;obtain⟨X,q1,q2,q3⟩:=Yp hr' (B:=w.heap.size) (by omega) hx;refine⟨⟨⟨hf.os,hf.tape,hf.output.1,hf.size,fun b hb=>hf.same b hb (fun i=>by simp[g0])⟩,hf.output.2⟩,ZG g' w' w.heap.size (zP rv),X,fun b hb=>.inl (hkp.u b hb).1,fun b hb=>?_,q2,q3,q1⟩;rcases hb with hb|hb
  ·exact⟨hf.u b hb,(hr'.u b hb).1⟩
  ·exact⟨.inr hb.1,hb.2.1⟩
def Qv(P:Program):Bool:=P.funcs.all fun fn=>fn.body.isNone || !(fn.name=="runtime.NumGoroutine")
theorem yy(hn:Qv P=true){rec:Func->Rec}{f:FuncId}{args:List T}{h:qa}{k:T->qa->Option R}{r:R}(hk:kX P Gl A K rec f args h k=some r):∃fn,P.funcs[f]?=some fn/\fn.body.isNone=false/\(fn.name=="runtime.NumGoroutine")=false:=by
 unfold kX at hk;cases hf:P.funcs[f]? with
 |none=>rw[hf] at hk;cases hk
 |some fn =>
  rw[hf] at hk;dsimp only at hk;cases hb:fn.body with
  |none=>rw[hb] at hk;cases hk
  |some c =>
   refine⟨fn,rfl,by rw[hb];rfl,?_⟩;have:=Array.all_eq_true'.1 hn fn (Array.mem_of_getElem? hf);rw[hb] at this;simpa using this
theorem ZA(P:Program)(Gl:Nat->Option (List T))(A:FuncId->Ann)(K:Orc)(m:Nat)(f:FuncId):∀fn,zD (jP P Gl A K m f fn):=fun _fn=>z0 P K Gl _ _ _ m
theorem kL(hm:P.follows .mixedOrders=true)(hK:OrcOk P Gl K)(m:Nat)(f:FuncId):KG P Gl A f (jP P Gl A K m f):=fun _ _ _ _ hnt=>(yh hm hK hnt m).mono
def qy:Orc:=⟨fun _=>false,fun _ _ _ _=>none,fun _ _ _ _ _=>none,fun _ _=>qb,fun _ _ _=>qb,fun _=>false⟩
theorem qh:OrcOk P Gl qy :=
 ⟨fun f hx=>(by rcases hx with⟨args,r,hx⟩|⟨args,h,r,hx⟩<;>cases hx),fun f args r hx=>(by cases hx),fun f args h r h' hx=>(by cases hx),fun f hf=>by cases hf⟩
inductive Tree where
 |none
 |ret (v:T)
 |ite (c:Bool) (x y:Tree)
def Tree.run{R:Type}:Tree->(T->Option R)->Option R
 |.none,_=>Option.none
 |.ret v,k=>k v
 |.ite c x y,k=>bif c then x.run k else y.run k
theorem Tree.det:∀t:Tree,Det fun R k=>t.run (R:=R) k
 |.none=>qb
 |.ret v=>qd v
 |.ite c x y=>qv c x.det y.det
def Orc.add(K:Orc)(f:FuncId)(spec:List T->Tree):Orc where
 byRef e:=bif e==f then false else K.byRef e
 ref:=K.ref
 val e args R k:=bif e==f then(spec args).run k else K.val e args R k
 valDet e args:=qv _ (spec args).det (K.valDet e args)
 refDet:=K.refDet
 ro:=K.ro
end
def qhs(n:Nat)(g:Nat->List T):Nat->List T:=fun j=>((List.range n).map g).getD j []
theorem qcB{n:Nat}{g:Nat->List T}{j:Nat}(h:j<n):qhs n g j=g j:=by
 simp[qhs,h]
def qek:T->T
 |.fresh flat sz n g len cap=>.fresh flat sz n (qhs n g) len cap
 |x=>x
def qel:T->T
 |.agg l=>.agg (l.map qek)
 |x=>qek x
def qf0:T->T
 |.tup l=>.tup (l.map qel)
 |x=>qel x
section
variable {w:World} {U:Nat->Prop}
theorem j5{B:Nat}{x:T}{v:Value}{X:List Nat}(h:RT0 w B U x v X):RT0 w B U (qek x) v X:=by
 cases h with
 |vi x v hv =>
  cases x with
  |fresh=>cases hv
  |_=>exact .vi _ _ hv
 |nw x v hv=>exact .nw x v hv
 |mapr m cb hm=>exact .mapr m cb hm
 |frn flat sz gg cap e4=>exact .frn flat sz _ cap e4
 |fresh flat sz n gg len cap cb sh cc ad arr e es e2 e3 e4 e5 e7 hh r1 r2 hl hc hf =>
  refine .fresh flat sz n _ len cap cb sh cc ad arr e es e2 e3 e4 e5 e7 hh r1 r2 (fun j hj=>by rw[qcB hj];exact hl j hj) (fun j o c hj ho=>hc j o c hj (by rw[qcB hj] at ho;exact ho))
   (fun h j hj c hx=>hf h j hj c (by rw[qcB hj] at hx;exact hx))
theorem RTL.mapT{Q:T->Value->List Nat->Prop}{f:T->T}(hf:∀x v X,Q x v X->Q (f x) v X){l:List T}{vs:List Value}{X:List Nat}(h:RTL Q l vs X):RTL Q (l.map f) vs X:=by
 induction h with
 |nil=>exact .nil
 |cons x v X l vs Y hx hl ih=>exact .cons _ _ _ _ _ _ (hf _ _ _ hx) ih
theorem qbK{B:Nat}{x:T}{v:Value}{X:List Nat}(h:RT1 w B U x v X):RT1 w B U (qel x) v X:=by
 cases x with
 |agg l =>
  obtain⟨cs,rfl,h1,h2⟩:=h;exact⟨cs,rfl,h1,h2.mapT fun _ _ _ h=>j5 h⟩
 |_=>exact j5 h
theorem qfq{B:Nat}{x:T}{v:Value}{X:List Nat}(h:RT2 w B U x v X):RT2 w B U (qf0 x) v X:=by
 cases x with
 |tup l =>
  obtain⟨cs,rfl,h2⟩:=h;exact⟨cs,rfl,h2.mapT fun _ _ _ h=>qbK h⟩
 |agg l=>exact qbK (x:=.agg l) h
 |_ =>
  have h0:RT0 w B U _ v X:=h;exact j5 h0
end
section
variable {P:Program} {K:Orc} {Gl:Nat->Option (List T)} {A:FuncId->Ann}
theorem RV.canon{w:World}{U:Nat->Prop}{r:T}{v:Value}{w':World}(h:RV w U r v w'):RV w U (qf0 r) v w':=by
 obtain⟨h1,U',X,h2,h3,h4,h5,h6⟩:=h;exact⟨h1,U',X,h2,h3,h4,h5,qfq h6⟩
end
inductive LT where
 |none
 |ret (e:Ex) (vs:List T) (h:qa)
 |ite (c:Bool) (x y:LT)
def LT.run{R:Type}:LT->(Ex->List T->qa->Option R)->Option R
 |.none,_=>Option.none
 |.ret e vs h,k=>k e vs h
 |.ite c x y,k=>bif c then x.run k else y.run k
theorem LT.det:∀t:LT,Det (A:=Ex×List T×qa) fun R k=>t.run (R:=R) fun e vs h=>k (e,vs,h)
 |.none=>qb
 |.ret e vs h=>qd (e,vs,h)
 |.ite c x y=>qv c x.det y.det
def zp(P:Program)(f:FuncId)(r:Nat):Code:=match P.funcs[f]? with
 |some fn=>match fn.body with
  |some c=>((qn c).find? fun b=>qm b==r).getD .skip
  |none=>.skip
 |none=>.skip
def qaK:List Nat->Bool
 |[]=>true
 |a::l=>!(l.contains a)&&qaK l
def QD(P:Program)(f:FuncId):Bool:=match P.funcs[f]? with
 |some fn=>match fn.body with
  |some c=>qaK ((qn c).map qm)
  |none=>true
 |none=>true
def Zc:List (Nat×(List T->qa->LT))->(Func->Rec)->Func->Rec
 |[],base,fn,R,b,vs,h,k=>base fn R b vs h k
 |(r,spec)::l,base,fn,R,b,vs,h,k=>bif qm b==r then(spec vs h).run k else Zc l base fn R b vs h k
section
variable {P:Program} {K:Orc} {Gl:Nat->Option (List T)} {A:FuncId->Ann}
def LoopOk(P:Program)(Gl:Nat->Option (List T))(an:Ann)(f:FuncId)(r:Nat)(spec:List T->qa->LT):Prop :=
 ∀fn,P.funcs[f]?=some fn->fn.ntmps<=1024->∀vs h e vs' h',(spec vs h).run (fun e vs h=>some (e,vs,h))=some (e,vs',h') →
  CodeGoes P Gl an.prom fn.ntmps (zc (zp P f r)) (qx (an.live r false) vs h) e (qx (an.live r true) vs' h')
theorem yz{base:Func->Rec}(hb:∀fn,zD (base fn)):∀(l:List (Nat×(List T->qa->LT))) (fn:Func),zD (Zc l base fn)
 |[],fn=>hb fn
 |(r,spec)::l,fn=>fun b vs h=>by
  simp only[Zc];exact qv _ (spec vs h).det (yz hb l fn b vs h)
theorem qbL:∀{l:List Code} {b:Code},qaK (l.map qm)=true->b∈l->l.find? (fun x=>qm x==qm b)=some b
 |[],b,_,h=>by cases h
 |a::l,b,hn,h=>by
  simp only[List.map_cons,qaK,Bool.and_eq_true,Bool.not_eq_true'] at hn;rcases List.mem_cons.1 h with rfl|h
  ·simp
  ·have hne:qm a≠qm b:=fun e=>by
    have:qm a∈l.map qm:=by rw[e];exact List.mem_map_of_mem h
    have h2:(l.map qm).contains (qm a)=true:=List.contains_iff_mem.2 this;rw[h2] at hn;cases hn.1
   rw[List.find?_cons_of_neg (by simpa using hne)];exact qbL hn.2 h
theorem j6{f:FuncId}{fn:Func}{c b:Code}(ha:QD P f=true)(hf:P.funcs[f]?=some fn)(hb:fn.body=some c)(h:b∈qn c):zp P f (qm b)=b:=by
 unfold QD at ha;rw[hf] at ha;dsimp only at ha;rw[hb] at ha;unfold zp;rw[hf];dsimp only;rw[hb];dsimp only;rw[qbL ha h];rfl
theorem Yv{f:FuncId}(ha:QD P f=true){base:Func->Rec}(hbd:∀fn,zD (base fn))(hb:KG P Gl A f base) :
 ∀{l:List (Nat×(List T->qa->LT))},(∀p∈l,LoopOk P Gl (A f) f p.1 p.2)->KG P Gl A f (Zc l base)
 |[],_=>hb
 |(r,spec)::l,hl=>by
  intro fn c hf hc hnt;have ih:=Yv ha hbd hb (l:=l) (fun p hp=>hl p (by simp[hp])) fn c hf hc hnt;refine⟨yz hbd _ fn,fun b vs h e vs' h' hS hk=>?_⟩;simp only[Zc] at hk;rcases qk hk with⟨hr,hk⟩|⟨_,hk⟩
  ·have hr:qm b=r:=by simpa using hr
   have:=hl (r,spec) (by simp) fn hf hnt vs h e vs' h' hk;dsimp only at this;rw[←hr,j6 ha hf hc hS] at this;exact this
  ·exact ih.2 b vs h e vs' h' hS hk
def z3(P:Program)(G:Nat->Option (List T))(A:FuncId->Ann)(K:Orc)(m:Nat)(f:FuncId)(l:List (Nat×(List T->qa->LT)))(args:List T):Option T :=
 kX P G A K (Zc l (jP P G A K m f)) f args [] fun v h'=>some (yP h' v)
structure ToldOk(P:Program)(Gl:Nat->Option (List T))(f:FuncId)(args:List T)(r:T):Prop where
 enters:∃fn,P.funcs[f]?=some fn/\fn.body.isNone=false/\(fn.name=="runtime.NumGoroutine")=false
 calls:∀(w:World) (U:Nat->Prop) (cargs:Array Value),(∀b,U b->b<w.heap.size)->zE Gl w U->qcv w U args cargs →
  Calls P f cargs w fun e w'=>∃v,e = .returned v/\RV w U r v w'
theorem qY(hm:P.follows .mixedOrders=true)(hn:Qv P=true)(hK:OrcOk P Gl K){m:Nat}{f:FuncId}(ha:QD P f=true){l:List (Nat×(List T->qa->LT))}
 (hl:∀p∈l,LoopOk P Gl (A f) f p.1 p.2) {args:List T} {r:T} (h:z3 P Gl A K m f l args=some r):ToldOk P Gl f args r :=
 ⟨yy hn h,fun _ _ _ hU hgl hargs=>qaJ hm hK (yz (ZA P Gl A K m f) l) (Yv ha (ZA P Gl A K m f) (kL hm hK m f) hl) h hU hgl hargs⟩
theorem q9(hm:P.follows .mixedOrders=true)(hn:Qv P=true)(hK:OrcOk P Gl K){m:Nat}{f:FuncId}{args:List T}{r:T}(h:Zf P Gl A K m f args=some r):ToldOk P Gl f args r :=
 ⟨yy hn h,fun _ _ _ hU hgl hargs=>qaJ hm hK (ZA P Gl A K m f) (kL hm hK m f) h hU hgl hargs⟩
theorem qj{K':Orc}(hK':OrcOk P Gl K'){f:FuncId}{spec:List T->Tree}(hs:∀args r,(spec args).run some=some r->ToldOk P Gl f args r):OrcOk P Gl (K'.add f spec):=by
 refine⟨fun e hx=>?_,fun e args r hx w U cargs hU hgl ha=>?_,hK'.ref,hK'.ro⟩
 ·rcases hx with⟨args,r,hx⟩|hx
  ·simp only[Orc.add] at hx;rcases qk hx with⟨he,hy⟩|⟨_,hy⟩
   ·have he:e=f:=by simpa using he
    subst he;exact(hs args r hy).enters
   ·exact hK'.enters e (.inl ⟨args,r,hy⟩)
  ·exact hK'.enters e (.inr hx)
 ·simp only[Orc.add] at hx;rcases qk hx with⟨he,hy⟩|⟨_,hy⟩
  ·have he:e=f:=by simpa using he
   subst he;exact(hs args r hy).calls w U cargs hU hgl ha
  ·exact hK'.val e args r hy w U cargs hU hgl ha
def qV(P:Program)(G:Nat->Option (List T))(A:FuncId->Ann)(K:Orc)(m:Nat)(f:FuncId)(l:List (Nat×(List T->qa->LT)))(r:Nat)(vs:List T)(h:qa):Option (Ex×List T×qa) :=
 match P.funcs[f]? with
 |some fn=>exK P K G (A f).prom fn.ntmps (A f).live (Zc l (jP P G A K m f) fn) (zp P f r) (qx ((A f).live r false) vs h) fun e s'=>match e with
  |.normal=>some (.normal,zS s' ((A f).live r false),s'.h)
  |e=>some (e,zS s' ((A f).live r true),s'.h)
 |none=>none
def kp(P:Program)(f:FuncId)(r:Nat):Bool:=match P.funcs[f]? with
 |some fn=>match fn.body with
  |some c=>qaK ((qn c).map qm)&&(qn c).any fun b=>qm b==r&&!(K5 b)
  |none=>false
 |none=>false
theorem Qc:∀(c:Code) {b d:Code},b∈qn c->d∈qn b->d∈qn c
 |.seq x y,b,d,hb,hd=>by
  simp only[qn,List.mem_append] at hb ⊢;rcases hb with hb|hb
  ·exact .inl (Qc x hb hd)
  ·exact .inr (Qc y hb hd)
 |.cond _ x y,b,d,hb,hd=>by
  simp only[qn,List.mem_append] at hb ⊢;rcases hb with hb|hb
  ·exact .inl (Qc x hb hd)
  ·exact .inr (Qc y hb hd)
 |.block _ x,b,d,hb,hd=>by
  simp only[qn] at hb ⊢;exact Qc x hb hd
 |.loop x,b,d,hb,hd=>by
  simp only[qn,List.mem_cons] at hb ⊢;rcases hb with rfl|hb
  ·exact .inr hd
  ·exact .inr (Qc x hb hd)
 |.skip,_,_,hb,_=>by simp[qn] at hb
 |.label _,_,_,hb,_=>by simp[qn] at hb
 |.region ..,_,_,hb,_=>by simp[qn] at hb
 |.exit _,_,_,hb,_=>by simp[qn] at hb
 |.ret,_,_,hb,_=>by simp[qn] at hb
 |.scope x,b,d,hb,hd=>by
  simp only[qn] at hb ⊢;exact Qc x hb hd
 |.goto _,_,_,hb,_=>by simp[qn] at hb
 |.refuse _,_,_,hb,_=>by simp[qn] at hb
 |.rangeFunc g ps x y,b,d,hb,hd=>by
  simp only[qn,List.mem_cons,List.mem_append] at hb ⊢;rcases hb with rfl|hb|hb
  ·simpa only[qn,List.mem_cons,List.mem_append] using hd
  ·exact .inr (.inl (Qc x hb hd))
  ·exact .inr (.inr (Qc y hb hd))
theorem qbM{f:FuncId}{r:Nat}(ha:kp P f r=true){fn:Func}(hf:P.funcs[f]?=some fn):QD P f=true/\∃c,fn.body=some c/\zp P f r∈qn c/\qm (zp P f r)=r/\zc (zp P f r) = .loop (zp P f r):=by
 unfold kp at ha;rw[hf] at ha;dsimp only at ha;cases hb:fn.body with
 |none=>rw[hb] at ha;cases ha
 |some c =>
  rw[hb] at ha;simp only[Bool.and_eq_true] at ha;obtain⟨h1,h2⟩:=ha;rw[List.any_eq_true] at h2;obtain⟨b,hbm,hbr⟩:=h2;simp only[Bool.and_eq_true,Bool.not_eq_true',beq_iff_eq] at hbr;obtain⟨hbr,hrg⟩:=hbr;have hap:QD P f=true:=by unfold QD;rw[hf];dsimp only;rw[hb];exact h1
  have e:=j6 hap hf hb hbm;rw[hbr] at e;exact⟨hap,c,rfl,by rw[e];exact hbm,by rw[e];exact hbr,by rw[e];simp[zc,hrg]⟩
end
def Sim(x y:T):Prop:=∀w U v,VI w U x v->VI w U y v
theorem Sim.refl(x:T):Sim x x:=fun _ _ _ h=>h
theorem Sim.undef(x:T):Sim x .undef:=fun _ _ v _=>.undef v
def Sims(l m:List T):Prop:=l.length=m.length/\∀(i:Nat) a b,l[i]?=some a->m[i]?=some b->Sim a b
theorem Sims.refl(l:List T):Sims l l:=⟨rfl,fun i a b h1 h2=>by rw[h1] at h2;obtain rfl:=Option.some.inj h2;exact .refl _⟩
theorem Sims.nil:Sims [] []:=.refl _
theorem Sims.cons{x y:T}{l m:List T}(h:Sim x y)(hl:Sims l m):Sims (x::l) (y::m):=by
 refine⟨by simp[hl.1],fun i a b h1 h2=>?_⟩;cases i with
 |zero=>simp at h1 h2;subst h1;subst h2;exact h
 |succ i=>exact hl.2 i a b (by simpa using h1) (by simpa using h2)
theorem Sims.get{l m:List T}(h:Sims l m){i:Nat}{b:T}(hb:m[i]?=some b):∃a,l[i]?=some a/\Sim a b:=by
 have hi:i<m.length:=by
  rcases Nat.lt_or_ge i m.length with q|q
  ·exact q
  ·simp[q] at hb
 have ha:l[i]?=some (l[i]'(by rw[h.1];exact hi)):=List.getElem?_eq_getElem _;exact⟨_,ha,h.2 i _ _ ha hb⟩
theorem Sim.view{sz n:Nat}{g g':Nat->List T}{c c':Option Nat}(hc:c'=c∨c'=none)(hg:∀j,j<n->Sims (g j) (g' j)):Sim (.view sz n g c) (.view sz n g' c'):=by
 intro w U v h;cases h with
 |vnil _ _ _ hcn =>
  exact .vnil _ _ _ (by rcases hc with h|h<;>rw[h]<;>first|exact hcn|exact .inl rfl)
 |view _ _ _ _ a cc vs hs hcap hn hU hl hcl hv =>
  refine .view sz n g' c' a cc vs hs (fun m hm=>?_) hn hU (fun j hj=>by rw[←(hg j hj).1];exact hl j hj) (fun j o x hj ho=>?_) (fun j o x hj ho=>?_)
  ·rcases hc with rfl|rfl
   ·exact hcap m hm
   ·cases hm
  ·obtain⟨y,hy,_⟩:=(hg j hj).get ho;exact hcl j o y hj hy
  ·obtain⟨y,hy,hs⟩:=(hg j hj).get ho;exact hs _ _ _ (hv j o y hj hy)
theorem Sim.agg{l m:List T}(h:Sims l m):Sim (.agg l) (.agg m):=by
 intro w U v hv;cases hv with
 |agg _ cs vs hl h1 hc hv =>
  refine .agg m cs vs (by rw[←h.1];exact hl) h1 (fun i c hi=>?_) (fun i c hi=>?_)
  ·obtain⟨y,hy,_⟩:=h.get hi;exact hc i y hy
  ·obtain⟨y,hy,hs⟩:=h.get hi;exact hs _ _ _ (hv i y hy)
def SimV(x y:T):Prop:=x=y∨(Sim x y/\(∃sz n g c,x = .view sz n g c)/\∃sz n g c,y = .view sz n g c)
theorem SimV.refl(x:T):SimV x x:=.inl rfl
section
variable {P:Program} {Gl:Nat->Option (List T)} {prom:List Nat} {nt:Nat}
end
theorem ToldOk.sim{P:Program}{Gl:Nat->Option (List T)}{f:FuncId}{args args2:List T}{r:T}(h:ToldOk P Gl f args2 r)(hs:Sims args args2):ToldOk P Gl f args r :=
 ⟨h.enters,fun w U cargs hU hgl ha=>h.calls w U cargs hU hgl ⟨by rw[←hs.1];exact ha.1,fun i x hx=>by
  obtain⟨y,hy,hxy⟩:=hs.get hx;obtain⟨v,q1,q2⟩:=ha.2 i y hy;exact⟨v,q1,hxy _ _ _ q2⟩⟩⟩
theorem SimV.sim{x y:T}(h:SimV x y):Sim x y:=by
 rcases h with rfl|⟨h,_⟩
 ·exact .refl _
 ·exact h
open Go.ChangeShapes Go.WideShapes Go.ChangeAt Go.RowKit
def jB:Option TypeDesc->Bool
 |some .bool|some (.int _)|some .string|some (.struct _)|some (.array _ _)|some (.slice _)|none=>false
 |_=>true
inductive CT(P:Program){H:Type}:TypeId->List T->DataW H->Prop
 |bool (t:TypeId) (b:Bool) (ht:P.underlying t=some .bool):CT P t [.bool b] (.lit (.bool b))
 |int (t:TypeId) (k:IntKind) (n:Int) (ht:P.underlying t=some (.int k)) (hn:(Lit.int k n).wf=true):CT P t [.int k n] (.lit (.int k n))
 |str (t:TypeId) (s:List UInt8) (ht:P.underlying t=some .string) (hs:s.length<=maxLen):CT P t [.str s] (.lit (.string s))
 |nils (t e:TypeId) (ht:P.underlying t=some (.slice e)):CT P t [.nils] .nil
 |view (t e:TypeId) (n c:Nat) (g:Nat->List T) (elems spare:List (DataW H)) (ht:P.underlying t=some (.slice e)) (he:elems.length=n) (hs:spare.length=c-n) (hn:n<=c) (hc:c<=maxLen)
  (hg:∀j d,elems[j]?=some d->CT P e (g j) d):CT P t [.view (P.cellsOf e) n g (some c)] (.slice elems spare)
 |thin (t e:TypeId) (d:DataW H) (ht:P.underlying t=some (.slice e)) (h0:P.cellsOf e=0):CT P t [.undef] d
 |struct (t:TypeId) (fs:Array Field) (parts:List (List T)) (ds:List (DataW H)) (ht:P.underlying t=some (.struct fs)) (h1:parts.length=fs.size) (h2:ds.length=fs.size)
  (hp:∀(i:Nat) f p d,fs[i]?=some f->parts[i]?=some p->ds[i]?=some d->CT P f.type p d):CT P t parts.flatten (.agg ds)
 |array (t e:TypeId) (n:Nat) (parts:List (List T)) (ds:List (DataW H)) (ht:P.underlying t=some (.array n e)) (h1:parts.length=n) (h2:ds.length=n)
  (hp:∀(i:Nat) p d,parts[i]?=some p->ds[i]?=some d->CT P e p d):CT P t parts.flatten (.agg ds)
 |oth (t:TypeId) (d:DataW H) (ht:jB (P.underlying t)=true):CT P t [.undef] d
def CellsVI(w:World)(U:Nat->Prop)(ts:List T)(cs:List Value):Prop :=
 ts.length=cs.length/\∀(i:Nat) (c:T),ts[i]?=some c->∃v,cs[i]?=some v/\VI w U c v/\v.oneCell'=true
theorem CellsVI.nil{w:World}{U:Nat->Prop}:CellsVI w U [] []:=⟨rfl,fun i c h=>by simp at h⟩
theorem CellsVI.one{w:World}{U:Nat->Prop}{c:T}{v:Value}(h:VI w U c v)(h1:v.oneCell'=true):CellsVI w U [c] [v] :=
 ⟨rfl,fun i x hx=>by
  cases i with
  |zero=>simp at hx;subst hx;exact⟨v,rfl,h,h1⟩
  |succ i=>simp at hx⟩
theorem CellsVI.append{w:World}{U:Nat->Prop}{a b:List T}{c d:List Value}(h:CellsVI w U a c)(h':CellsVI w U b d):CellsVI w U (a++b) (c++d):=by
 refine⟨by simp[h.1,h'.1],fun i x hx=>?_⟩;rcases Nat.lt_or_ge i a.length with hi|hi
 ·rw[List.getElem?_append_left hi] at hx;rw[List.getElem?_append_left (by rw[←h.1];exact hi)];exact h.2 i x hx
 ·rw[List.getElem?_append_right hi] at hx;rw[List.getElem?_append_right (by rw[←h.1];exact hi),←h.1];exact h'.2 _ x hx
theorem CellsVI.flatten{w:World}{U:Nat->Prop}:∀{ps:List (List T)} {qs:List (List Value)},ps.length=qs.length->(∀(i:Nat) p q,ps[i]?=some p->qs[i]?=some q->CellsVI w U p q)->CellsVI w U ps.flatten qs.flatten
 |[],[],_,_=>.nil
 |p::ps,q::qs,hl,h=>by
  simp only[List.flatten_cons];exact(h 0 p q rfl rfl).append (CellsVI.flatten (by simpa using hl) fun i p q hp hq=>h (i+1) p q (by simpa using hp) (by simpa using hq))
 |[],_::_,hl,_=>by simp at hl
 |_::_,[],hl,_=>by simp at hl
theorem kq{α:Type}:∀(sz:List Nat) (cs:List α),cs.length=sz.sum->((List.range sz.length).map fun i=>(cs.drop (sz.take i).sum).take (sz.getD i 0)).flatten=cs
 |[],cs,h=>by simp at h;subst h;rfl
 |s::sz,cs,h=>by
  have ih:=kq sz (cs.drop s) (by simp at h ⊢;omega);rw[List.length_cons,List.range_succ_eq_map,List.map_cons,List.flatten_cons,List.map_map];have e:(List.map ((fun i=>(cs.drop (List.take i (s::sz)).sum).take ((s::sz).getD i 0))∘Nat.succ) (List.range sz.length))=(List.range sz.length).map fun i=>((cs.drop s).drop (sz.take i).sum).take (sz.getD i 0):=by
   apply List.map_congr_left;intro i _;simp[List.drop_drop]
  rw[e,ih];simp
section
variable {H:Type} {enc:TypeId×Value->H} {P:Program} {w:World} {base:Nat} {spare:Nat->Bool} {held:Bool}
theorem qcC(hl:laidOutB P=true){t:TypeId}(hv:isVar P t=true):rowFine P t=true:=by
 simp only[laidOutB,Bool.and_eq_true] at hl;have h1:=hl.1.1;simp only[isVar,Bool.and_eq_true,decide_eq_true_eq] at hv;exact List.all_eq_true.1 h1 t (by simpa using hv.1)
theorem qdy(hl:laidOutB P=true){t:TypeId}(hv:isVar P t=true){fs:Array Field}(ht:P.underlying t=some (.struct fs)) :
 (∀(i:Nat) f,fs[i]?=some f->isVar P f.type=true)/\P.cellsOf t=(fs.toList.map fun f=>P.cellsOf f.type).sum/\∀(i:Nat) f,fs[i]?=some f->f.offset=((fs.toList.take i).map fun f=>P.cellsOf f.type).sum:=by
 have h:=qcC hl hv;unfold rowFine at h;rw[hv,ht] at h;simp only[Bool.not_true,Bool.false_or,Bool.and_eq_true,beq_iff_eq] at h;obtain⟨⟨h1,h2⟩,h3⟩:=h;refine⟨fun i f hf=>List.all_eq_true.1 h1 f (by rw[Array.mem_toList_iff];exact Array.mem_of_getElem? hf),h2,fun i f hf=>?_⟩;have hi:i<fs.toList.length:=by
  rcases Nat.lt_or_ge i fs.size with q|q
  ·simpa using q
  ·simp[q] at hf
 have:=List.all_eq_true.1 h3 i (by simpa using hi);have hf':fs.toList[i]?=some f:=by simpa using hf
 rw[hf'] at this;simpa using this
theorem qem(hl:laidOutB P=true){t e:TypeId}{n:Nat}(hv:isVar P t=true)(ht:P.underlying t=some (.array n e)):isVar P e=true/\P.cellsOf t=n*P.cellsOf e:=by
 have h:=qcC hl hv;unfold rowFine at h;rw[hv,ht] at h;simpa using h
theorem qen(hl:laidOutB P=true){t e:TypeId}(hv:isVar P t=true)(ht:P.underlying t=some (.slice e)):isVar P e=true:=by
 have h:=qcC hl hv;unfold rowFine at h;rw[hv,ht] at h;simp at h;exact h.1
theorem cells?_some{a:Addr}{n:Nat}{l:List Value}(h:w.cells? base a n=some l):l.length=n/\∀i,i<n->w.cell? (a.add i)=l[i]?:=by
 unfold World.cells? at h;split at h
 ·exact⟨by simpa using mapM_some_length h,fun i hi=>mapM_some_get h i i (by simp[hi])⟩
 ·cases h
theorem yA{α β:Type}{R:Nat->α->β->Prop}:∀(l:List α),(∀(i:Nat) a,l[i]?=some a->∃b,R i a b)->∃m:List β,m.length=l.length/\∀(i:Nat) a b,l[i]?=some a->m[i]?=some b->R i a b
 |[],_=>⟨[],rfl,fun i a b h=>by simp at h⟩
 |x::l,h=>by
  obtain⟨b,hb⟩:=h 0 x rfl;obtain⟨m,hm,hr⟩:=yA (R:=fun i=>R (i+1)) l fun i a ha=>h (i+1) a (by simpa using ha);refine⟨b::m,by simp[hm],fun i a c ha hc=>?_⟩;cases i with
  |zero=>simp at ha hc;subst ha;subst hc;exact hb
  |succ i=>exact hr i a c (by simpa using ha) (by simpa using hc)
theorem qf1{fuel:Nat}{t:TypeId}{cs:List Value}{x:DataW H×List MemPlace}(ho:jB (P.underlying t)=true)(h:DataW.trod enc P w base spare held fuel t cs=some x):∃v,cs=[v]/\v.oneCell'=true:=by
 cases fuel with
 |zero=>simp[DataW.trod] at h
 |succ n =>
  unfold DataW.trod at h;split at h<;>rename_i e<;>first
   |exact⟨_,rfl,rfl⟩
   |(rw[e] at ho;simp[jB] at ho)
   |cases h
theorem qeo{fuel:Nat}{t:TypeId}{cs:List Value}{x:DataW H×List MemPlace}(h:DataW.trod enc P w base spare held fuel t cs=some x):P.underlying t≠none:=by
 intro e;cases fuel with
 |zero=>simp[DataW.trod] at h
 |succ n =>
  unfold DataW.trod at h;rw[e] at h;simp at h
theorem qeV(hl:laidOutB P=true)(hsp:∀b,spare b=true):∀(fuel:Nat) (t:TypeId) (cs:List Value) (x:DataW H×List MemPlace),isVar P t=true->DataW.trod enc P w base spare held fuel t cs=some x →
 ∃ts,CT P t ts x.1/\CellsVI w (fun b=>b<w.heap.size) ts cs:=by
 intro fuel
 induction fuel with
 |zero=>intro t cs x _ h;simp[DataW.trod] at h
 |succ n ih =>
  intro t cs x hv h;cases hu:P.underlying t with
  |none=>exact absurd hu (qeo h)
  |some de =>
   have hoth:jB (P.underlying t)=true->∃ts,CT P t ts x.1/\CellsVI w (fun b=>b<w.heap.size) ts cs:=fun ho=>by
    obtain⟨v,rfl,h1⟩:=qf1 ho h;exact⟨[.undef],.oth t _ ho,.one (.undef _) h1⟩
   cases de with
   |bool =>
    unfold DataW.trod at h;rw[hu] at h;split at h<;>rename_i e<;>simp at e
    ·obtain rfl:=Option.some.inj h;exact⟨_,.bool t _ hu,.one (.bool _) rfl⟩
    ·cases h
   |int k =>
    unfold DataW.trod at h;rw[hu] at h;split at h<;>rename_i e<;>simp at e
    ·subst e;split at h
     ·rename_i hc;obtain⟨rfl,hwf⟩:=hc;obtain rfl:=Option.some.inj h;exact⟨_,.int t _ _ hu hwf,.one (.int _ _) rfl⟩
     ·cases h
    ·cases h
   |string =>
    unfold DataW.trod at h;rw[hu] at h;split at h<;>rename_i e<;>simp at e
    ·split at h
     ·rename_i s hc;obtain rfl:=Option.some.inj h;exact⟨_,.str t _ hu (by simpa using hc),.one (.str _ s rfl) rfl⟩
     ·cases h
    ·cases h
   |struct fs =>
    obtain⟨xs,m,hm,rfl,hlen,hxl,hget⟩:=DataW.trod_struct hu h;obtain rfl:n=m:=by omega
    obtain⟨q1,q2,q3⟩:=qdy hl hv hu;obtain⟨parts,hpl,hpr⟩:=yA (α:=Field) (β:=List T) (R:=fun i f p=>∃y,xs[i]?=some y/\CT P f.type p y.1/\CellsVI w (fun b=>b<w.heap.size) p ((cs.drop f.offset).take (P.cellsOf f.type))) fs.toList (fun i f hf=>by
     have hf:fs[i]?=some f:=by simpa using hf
     have hi:i<fs.size:=by
      rcases Nat.lt_or_ge i fs.size with q|q
      ·exact q
      ·simp[q] at hf
     have hx:xs[i]?=some xs[i]:=List.getElem?_eq_getElem (by omega);obtain⟨ts,r1,r2⟩:=ih f.type _ xs[i] (q1 i f hf) ((hget i f hf).trans hx);exact⟨ts,xs[i],hx,r1,r2⟩)
    refine⟨parts.flatten,.struct t fs parts _ hu (by simpa using hpl) (by simpa using hxl) (fun i f p d hf hp hd=>?_),?_⟩
    ·obtain⟨y,r1,r2,_⟩:=hpr i f p (by simpa using hf) hp;rw[List.getElem?_map,r1] at hd;obtain rfl:=Option.some.inj hd;exact r2
    ·have hcut:=kq (fs.toList.map fun f=>P.cellsOf f.type) cs (by rw[hlen,q2]);rw[←hcut];refine CellsVI.flatten (by simp[hpl]) fun i p q hp hq=>?_;have hi:i<fs.size:=by
      rcases Nat.lt_or_ge i parts.length with r|r
      ·simpa [hpl] using r
      ·simp[r] at hp
     obtain⟨y,r1,_,r3⟩:=hpr i fs[i] p (by simp[hi]) hp;simp only[List.length_map,List.getElem?_map,Array.length_toList] at hq;rw[List.getElem?_range hi] at hq;simp only[Option.map_some,Option.some.injEq] at hq;rw[←hq];have hoff:=q3 i fs[i] (by simp[hi]);have hgd:(fs.toList.map fun f=>P.cellsOf f.type).getD i 0=P.cellsOf fs[i].type:=by simp[hi]
     rw[hgd,←List.map_take,←hoff];exact r3
   |array k e =>
    obtain⟨xs,m,hm,rfl,hlen,hxl,hget⟩:=DataW.trod_array hu h;obtain rfl:n=m:=by omega
    obtain⟨q1,q2⟩:=qem hl hv hu;obtain⟨parts,hpl,hpr⟩:=yA (α:=DataW H×List MemPlace) (β:=List T) (R:=fun i y p=>CT P e p y.1/\CellsVI w (fun b=>b<w.heap.size) p ((cs.drop (i*P.cellsOf e)).take (P.cellsOf e))) xs (fun i y hy=>by
     have hi:i<k:=by
      rcases Nat.lt_or_ge i xs.length with q|q
      ·omega
      ·simp[q] at hy
     exact ih e _ y q1 ((hget i hi).trans hy))
    refine⟨parts.flatten,.array t e k parts _ hu (by omega) (by simpa using hxl) (fun i p d hp hd=>?_),?_⟩
    ·rw[List.getElem?_map,Option.map_eq_some_iff] at hd;obtain⟨y,hy,rfl⟩:=hd;exact(hpr i y p hy hp).1
    ·have hcut:=kq (List.replicate k (P.cellsOf e)) cs (by rw[hlen,q2];simp);rw[←hcut];refine CellsVI.flatten (by simp[hpl,hxl]) fun i p q hp hq=>?_;have hi:i<k:=by
      rcases Nat.lt_or_ge i parts.length with r|r
      ·omega
      ·simp[r] at hp
     have hy:xs[i]?=some xs[i]:=List.getElem?_eq_getElem (by omega);have r3:=(hpr i _ p hy hp).2;simp only[List.length_replicate,List.getElem?_map] at hq;rw[List.getElem?_range hi] at hq;simp only[Option.map_some,Option.some.injEq] at hq;rw[←hq];have hgd:(List.replicate k (P.cellsOf e)).getD i 0=P.cellsOf e:=by simp[hi]
     have hsum:(List.take i (List.replicate k (P.cellsOf e))).sum=i*P.cellsOf e:=by
      rw[List.take_replicate];simp[Nat.min_eq_left (Nat.le_of_lt hi)]
     rw[hgd,hsum];exact r3
   |slice e =>
    rcases Nat.eq_zero_or_pos (P.cellsOf e) with hz|hz
    ·have hone:∃v,cs=[v]/\v.oneCell'=true:=by
      rcases DataW.trod_slice hu h with⟨rfl,_⟩|⟨a,len,cap,elems,rest,m,hm,rfl,_⟩
      ·exact⟨_,rfl,rfl⟩
      ·exact⟨_,rfl,rfl⟩
     obtain⟨v,rfl,h1⟩:=hone;exact⟨[.undef],.thin t e _ hu hz,.one (.undef _) h1⟩
    rcases DataW.trod_slice hu h with⟨rfl,rfl⟩|⟨a,len,cap,elems,rest,m,hm,rfl,rfl,hb,hle,hcap,hel,hget,hrest,_⟩
    ·exact⟨[.nils],.nils t e hu,.one .nils rfl⟩
    ·obtain rfl:n=m:=by omega
     have hve:=qen hl hv hu;have hcell:∀(j:Nat) y,elems[j]?=some y->∃l,w.cells? base (a.add (j*P.cellsOf e)) (P.cellsOf e)=some l/\DataW.trod enc P w base spare held n e l=some y:=by
      intro j y hy;have hj:j<len:=by
       rcases Nat.lt_or_ge j elems.length with q|q
       ·omega
       ·simp[q] at hy
      have:=hget j hj;rw[hy] at this;exact Option.bind_eq_some_iff.1 this
     obtain⟨parts,hpl,hpr⟩:=yA (α:=DataW H×List MemPlace) (β:=List T) (R:=fun j y p=>CT P e p y.1/\∃l,w.cells? base (a.add (j*P.cellsOf e)) (P.cellsOf e)=some l/\CellsVI w (fun b=>b<w.heap.size) p l) elems (fun j y hy=>by
      obtain⟨l,h1,h2⟩:=hcell j y hy;obtain⟨ts,r1,r2⟩:=ih e l y hve h2;exact⟨ts,r1,l,h1,r2⟩)
     have hpart:∀j,j<len->∃y l,parts[j]?=some (parts.getD j [])/\elems[j]?=some y/\CT P e (parts.getD j []) y.1/\w.cells? base (a.add (j*P.cellsOf e)) (P.cellsOf e)=some l/\CellsVI w (fun b=>b<w.heap.size) (parts.getD j []) l:=by
      intro j hj;have hy:elems[j]?=some elems[j]:=List.getElem?_eq_getElem (by omega);have hp:parts[j]?=some (parts.getD j []):=by simp[show j<parts.length by omega]
      obtain⟨r1,l,r2,r3⟩:=hpr j _ _ hy hp;exact⟨_,l,hp,hy,r1,r2,r3⟩
     have hspot:0<len->a.spot=none/\a.block<w.heap.size:=fun h0=>by
      obtain⟨y,l,_,_,_,r2,_⟩:=hpart 0 h0;obtain⟨_,q2⟩:=cells?_some r2;have:=q2 0 hz;have hl0:∃v,w.cell? ((a.add (0*P.cellsOf e)).add 0)=some v:=by
       rw[this];exact⟨_,List.getElem?_eq_getElem (by rw[(cells?_some r2).1];exact hz)⟩
      obtain⟨v,hv0⟩:=hl0;unfold World.cell? at hv0;have hblk:((a.add (0*P.cellsOf e)).add 0).block=a.block:=by simp[Addr.add]
      rw[hblk] at hv0;have hs0:((a.add (0*P.cellsOf e)).add 0).spot=a.spot:=by
       simp[Addr.add]
      split at hv0
      ·rename_i hh;refine⟨?_,?_⟩
       ·cases hsp:a.spot with
        |none=>rfl
        |some q=>rw[hs0,hsp] at hv0;simp at hv0
       ·rcases Nat.lt_or_ge a.block w.heap.size with r|r
        ·exact r
        ·simp[r] at hh
      ·cases hv0
     have hspot':0<cap->a.spot=none:=fun h0=>by
      rcases Nat.eq_zero_or_pos len with h1|h1
      ·obtain⟨hr1,hr2⟩:=hrest (hsp _);have hr:=hr2 0 (by omega);have hr0:rest[0]?=some rest[0]:=List.getElem?_eq_getElem (by omega);rw[hr0] at hr;obtain⟨l,r2,_⟩:=Option.bind_eq_some_iff.1 hr;obtain⟨_,q2⟩:=cells?_some r2;have:=q2 0 hz;obtain⟨v,hv0⟩:∃v,w.cell? ((a.add ((len+0)*P.cellsOf e)).add 0)=some v:=by
        rw[this];exact⟨_,List.getElem?_eq_getElem (by rw[(cells?_some r2).1];exact hz)⟩
       unfold World.cell? at hv0;have hs0:((a.add ((len+0)*P.cellsOf e)).add 0).spot=none->a.spot=none:=fun h=>by simpa [Addr.add,h1] using h
       split at hv0
       ·apply hs0;split at hv0
        ·cases hv0
        ·rename_i q;simpa using q
       ·cases hv0
      ·exact(hspot h1).1
     refine⟨[.view (P.cellsOf e) len (fun j=>parts.getD j []) (some cap)],.view t e len cap _ _ _ hu (by simpa using hel) (by simpa using (hrest (hsp _)).1) hle hcap (fun j d hd=>?_),.one ?_ rfl⟩
     ·rw[List.getElem?_map,Option.map_eq_some_iff] at hd;obtain⟨y,hy,rfl⟩:=hd;have hj:j<len:=by
       rcases Nat.lt_or_ge j elems.length with q|q
       ·omega
       ·simp[q] at hy
      obtain⟨y',l,_,r2,r3,_⟩:=hpart j hj;rw[hy] at r2;obtain rfl:=Option.some.inj r2;exact r3
     ·refine .view (P.cellsOf e) len _ (some cap) a cap (fun j o=>(w.cell? ⟨a.block,a.off+j*P.cellsOf e+o,none⟩).getD Go.undef) hspot' (fun m hm=>Option.some.inj hm) hle (fun h0 _=>(hspot h0).2) (fun j hj=>?_) (fun j o c hj ho=>?_) (fun j o c hj ho=>?_)
      all_goals obtain⟨y,l,r1,r2,r3,r4,r5⟩:=hpart j hj
      all_goals obtain⟨q1,q2⟩:=cells?_some r4
      ·rw[r5.1,q1]
      all_goals
       have ho':o<P.cellsOf e:=by
        rcases Nat.lt_or_ge o (parts.getD j []).length with q|q
        ·have:=r5.1;omega
        ·rw[List.getElem?_eq_none q] at ho;cases ho
       obtain⟨v,s1,s2,s3⟩:=r5.2 o c ho;have hadd:(a.add (j*P.cellsOf e)).add o=⟨a.block,a.off+j*P.cellsOf e+o,none⟩:=by
        have:=(hspot (by omega)).1;cases a with|mk b o s=>dsimp only at this;subst this;rw[Qs,Qs]
       have hcv:w.cell? ⟨a.block,a.off+j*P.cellsOf e+o,none⟩ = some v:=by rw[←hadd,q2 o ho',s1]
      ·rw[hcv];exact⟨hcv,s3⟩
      ·rw[hcv];exact s2
   |_=>exact hoth (by rw[hu];rfl)
def JQ(P:Program)(t:TypeId)(ts:List T):T:=if zY P t then .agg ts else ts.headD .undef
def ATs(P:Program):List TypeId->List T->List (DataW H)->Prop
 |[],[],[]=>True
 |t::l,x::xs,d::ds=>(∃ts,CT P t ts d/\x=JQ P t ts)/\ATs P l xs ds
 |_,_,_=>False
theorem CT.single{t:TypeId}{ts:List T}{d:DataW H}(h:CT P t ts d)(ha:zY P t=false):∃x,ts=[x]:=by
 cases h with
 |bool=>exact⟨_,rfl⟩
 |int=>exact⟨_,rfl⟩
 |str=>exact⟨_,rfl⟩
 |nils=>exact⟨_,rfl⟩
 |view=>exact⟨_,rfl⟩
 |thin=>exact⟨_,rfl⟩
 |struct _ fs _ _ ht=>simp[zY,ht] at ha
 |array _ e n _ _ ht=>simp[zY,ht] at ha
 |oth=>exact⟨_,rfl⟩
theorem qcD{t:TypeId}{v:Value}{r:Reach}{b0:Nat}(h:Value.okWide P w r b0 t v)(ha:zY P t=false):v.cells = #[v]:=by
 have hnot:∀u:Value,(∀cs,u≠.agg cs)->(∀cs,u≠.tuple cs)->u.cells = #[u]:=fun u h1 h2=>by
  cases u<;>first|rfl|exact absurd rfl (h1 _)|exact absurd rfl (h2 _)
 unfold zY at ha;unfold Value.okWide at h;refine hnot v (fun cs e=>?_) (fun cs e=>?_)
 all_goals
  subst e;split at h
  ·rename_i hx;rw[hx] at ha;simp at ha
  ·rename_i hx;rw[hx] at ha;simp at ha
  ·unfold Cell.okWide at h;split at h
   all_goals first
    |contradiction
    |(rename_i e1;cases e1)
    |(unfold Cell.ok at h;split at h<;>first|contradiction|(rename_i e1;cases e1))
theorem qep{t:TypeId}{v:Value}{r:Reach}{b0:Nat}(h:Value.okWide P w r b0 t v)(ha:zY P t=true):∃cs,v = .agg cs:=by
 unfold zY at ha;unfold Value.okWide at h;cases hu:P.underlying t with
 |none=>rw[hu] at ha;simp at ha
 |some de =>
  rw[hu] at ha h;cases de<;>simp at ha
  all_goals
   obtain⟨cs,e,_⟩:=h;exact⟨cs,e⟩
theorem qht{U:Nat->Prop}{t:TypeId}{v:Value}{ts:List T}{d:DataW H}{r:Reach}{b0:Nat}(hct:CT P t ts d)(hc:CellsVI w U ts v.cells.toList)(hok:Value.okWide P w r b0 t v):VI w U (JQ P t ts) v:=by
 unfold JQ;cases ha:zY P t with
 |true =>
  obtain⟨cs,rfl⟩:=qep hok ha;have hcs:(Value.agg cs).cells.toList=cs.toList:=rfl;rw[hcs] at hc;have hlen:ts.length=cs.size:=by simpa using hc.1
  simp only[if_true];refine VI.mk_agg hlen (fun i u hu=>?_) (fun i c hi=>?_)
  ·have hi:i<ts.length:=by
    rcases Nat.lt_or_ge i cs.size with q|q
    ·omega
    ·simp[q] at hu
   obtain⟨v,h1,_,h3⟩:=hc.2 i ts[i] (by simp[hi]);have h1:cs[i]?=some v:=by simpa using h1
   rw[hu] at h1;obtain rfl:=Option.some.inj h1;exact h3
  ·obtain⟨v,h1,h2,_⟩:=hc.2 i c hi;exact⟨v,by simpa using h1,h2⟩
 |false =>
  obtain⟨x,rfl⟩:=hct.single ha;have e:=qcD hok ha;rw[e] at hc;obtain⟨v',h1,h2,_⟩:=hc.2 0 x rfl;simp at h1;subst h1;simpa using h2
theorem qeW(hl:laidOutB P=true)(hsp:∀b,spare b=true):∀(params:List TypeId) (args:List Value) (ds:List (DataW H)) (ps:List MemPlace),(∀t∈params,isVar P t=true) →
 (∀(j:Nat) t v,params[j]?=some t->args[j]?=some v->Value.okWide P w .any base t v)->DataW.TrodAll enc P w 0 spare held params args ds ps →
 ∃xs,ATs P params xs ds/\xs.length=args.length/\∀(i:Nat) x,xs[i]?=some x->∃v,args[i]?=some v/\VI w (fun b=>b<w.heap.size) x v
 |[],args,ds,ps,_,_,h=>by
  obtain⟨rfl,rfl,rfl⟩:=trodAll_nil h;exact⟨[],trivial,rfl,fun i x hx=>by simp at hx⟩
 |t::params,args,ds,ps,hv,hok,h=>by
  obtain⟨v,vs,d,ds',a,b,rfl,rfl,rfl,h1,h2⟩:=trodAll_cons h;obtain⟨fuel,h1⟩:=h1;obtain⟨ts,q1,q2⟩:=qeV hl hsp fuel t _ _ (hv t (by simp)) h1;obtain⟨xs,r1,r2,r3⟩:=qeW hl hsp params vs ds' b (fun t ht=>hv t (by simp[ht])) (fun j t v ht hv=>hok (j+1) t v (by simpa using ht) (by simpa using hv)) h2;refine⟨JQ P t ts::xs,⟨⟨ts,q1,rfl⟩,r1⟩,by simp[r2],fun i x hx=>?_⟩;cases i with
  |zero =>
   simp only[List.getElem?_cons_zero,Option.some.injEq] at hx;subst hx;exact⟨v,rfl,qht q1 q2 (hok 0 t v rfl rfl)⟩
  |succ i=>exact r3 i x (by simpa using hx)
def toT(P:Program):Nat->TypeId->DataW H->Option (List T)
 |0,_,_=>none
 |n+1,t,d=>match P.underlying t,d with
  |some .bool,.lit (.bool b)=>some [.bool b]
  |some (.int _),.lit (.int k m)=>some [.int k m]
  |some .string,.lit (.string s)=>some [.str s]
  |some (.array _ e),.agg ds=>(ds.mapM (toT P n e)).map List.flatten
  |_,_=>none
theorem qf2:∀(n:Nat) {t:TypeId} {ts ts':List T} {d:DataW H},toT P n t d=some ts'->CT P t ts d->ts=ts'
 |0,t,ts,ts',d,h,_=>by cases h
 |n+1,t,ts,ts',d,h,hc=>by
  unfold toT at h;cases hc with
  |bool _ b ht=>simp[ht] at h;exact h
  |int _ k m ht=>simp[ht] at h;exact h
  |str _ s ht=>simp[ht] at h;exact h
  |nils _ e ht=>simp[ht] at h
  |view _ e m c g l sp ht=>simp[ht] at h
  |thin _ e _ ht=>simp[ht] at h
  |struct _ fs parts ds ht=>simp[ht] at h
  |array _ e m parts ds ht h1 h2 hp =>
   simp only[ht,Option.map_eq_some_iff] at h;obtain⟨l,hm,rfl⟩:=h;have hll:=mapM_some_length hm;congr 1;apply List.ext_getElem?;intro i;rcases Nat.lt_or_ge i m with hi|hi
   ·have e1:parts[i]?=some parts[i]:=List.getElem?_eq_getElem (by omega);have e2:ds[i]?=some ds[i]:=List.getElem?_eq_getElem (by omega);have e3:=mapM_some_get hm i _ e2;have e4:l[i]?=some l[i]:=List.getElem?_eq_getElem (by omega);rw[e4] at e3;rw[e1,e4,qf2 n e3 (hp i _ _ e1 e2)]
   ·rw[List.getElem?_eq_none (by omega),List.getElem?_eq_none (by omega)]
  |oth _ _ ht =>
   exfalso;cases hu:P.underlying t with
   |none=>rw[hu] at h;cases h
   |some de =>
    rw[hu] at h ht;cases de<;>simp[jB] at ht h
theorem qcE{laid:List (String×DataW Unit)}{ps:List MemPlace}(h:DataW.LaidVars P w laid ps){name:String}{d:DataW Unit}(hm:(name,d)∈laid) :
 ∃g t cs fuel p,P.globalNamed name=some g/\(P.globals[g]?).map (·.type)=some t/\w.var? P name=some cs/\DataW.trod (fun _=>()) P w 0 (fun _=>true) false fuel t cs.toList=some (d,p):=by
 induction laid generalizing ps with
 |nil=>cases hm
 |cons x l ih =>
  obtain⟨n,d'⟩:=x;obtain⟨g,t,cs,fuel,p,q,h1,h2,h3,h4,h5,_⟩:=h;rcases List.mem_cons.1 hm with e|e
  ·obtain⟨rfl,rfl⟩:=Prod.mk.inj e;exact⟨g,t,cs,fuel,p,h1,h2,h3,h4⟩
  ·exact ih h5 e
def gOf:List (Nat×List T)->Nat->Option (List T)
 |[],_=>none
 |(g,c)::l,x=>bif x==g then some c else gOf l x
def GL(P:Program)(laid:List (String×DataW Unit)):List (Nat×List T)->Prop
 |[]=>True
 |(g,c)::l=>(∃name d t,P.globalNamed name=some g/\(P.globals[g]?).map (·.type)=some t/\isVar P t=true/\(name,d)∈laid/\toT P 8 t d=some c)/\GL P laid l
theorem qbN(hl:laidOutB P=true){laid:List (String×DataW Unit)}(hm:laidMet P laid w):∀{l:List (Nat×List T)},GL P laid l->zE (gOf l) w (fun b=>b<w.heap.size)
 |[],_=>fun g c h=>by cases h
 |(g,c)::l,⟨⟨name,d,t,h1,h2,h3,h4,h5⟩,hr⟩=>fun gl cells h=>by
  simp only[gOf] at h;rcases qk h with⟨he,hcc⟩|⟨_,hcc⟩
  ·clear hr h;have he:gl=g:=by simpa using he
   subst he;obtain rfl:=Option.some.inj hcc;obtain⟨ps,hlv,_,_⟩:=hm;obtain⟨g',t',cs,fuel,p,q1,q2,q3,q4⟩:=qcE hlv h4;obtain rfl:=Option.some.inj (q1.symm.trans h1);obtain rfl:=Option.some.inj (h2.symm.trans q2);obtain⟨ts,r1,r2⟩:=qeV hl (fun _=>rfl) fuel t cs.toList _ h3 q4;obtain rfl:=qf2 8 h5 r1;have hcell:∀(i:Nat) v,cs[i]?=some v->w.cell? ⟨g',i,none⟩ = some v:=fun i v hi=>World.var?_cell q1 q3 i |>.trans hi;refine .vp _ ⟨g',0,none⟩ (fun o=>cs.getD o Go.undef) rfl (fun h0=>?_) (fun o c ho=>?_) (fun o c ho=>?_)
   ·obtain⟨v,s1,_,_⟩:=r2.2 0 ts[0] (by simp[h0]);have:=hcell 0 v (by simpa using s1);unfold World.cell? at this;split at this
    ·rename_i hh;rcases Nat.lt_or_ge g' w.heap.size with r|r
     ·exact r
     ·simp[r] at hh
    ·cases this
   all_goals
    obtain⟨v,s1,s2,s3⟩:=r2.2 o c ho;have s1:cs[o]?=some v:=by simpa using s1
    have hg:cs.getD o Go.undef=v:=by simp[Array.getD_eq_getD_getElem?,s1]
    rw[hg]
   ·exact⟨by simpa using hcell o v s1,s3⟩
   ·exact s2
  ·exact qbN hl hm hr gl cells hcc
theorem Ko(hl:laidOutB P=true){W W':World}(hb:RowKit.Below W.heap.size W W') :
 ∀{params:List TypeId} {args:List Value} {ds:List (DataW H)} {ps:List MemPlace},(∀t∈params,P.readableRec t=true/\t<P.types.size)->(∀x∈ps,x.block<W.heap.size) →
  DataW.TrodAll enc P W 0 (fun _=>true) true params args ds ps->DataW.TrodAll enc P W' 0 (fun b=>decide (b<W.heap.size)) true params args ds ps
 |[],_,_,_,_,_,h=>by
  obtain⟨rfl,rfl,rfl⟩:=trodAll_nil h;exact trodAll_mk0
 |t::params,_,_,_,hp,hlt,h=>by
  obtain⟨v,vs,d,ds',a,b,rfl,rfl,rfl,h1,h2⟩:=trodAll_cons h;refine trodAll_cons_mk (Below.trod hl (hp t (by simp)).1 (hp t (by simp)).2 h1 hb fun x hx=>hlt x (by simp[hx])) (Ko hl hb (fun t ht=>hp t (by simp[ht])) (fun x hx=>hlt x (by simp[hx])) h2)
theorem qdz{G:Nat->Option (List T)}(_hm:P.follows .mixedOrders=true)(_hn:Qv P=true)(hl:laidOutB P=true){f:FuncId}{fn:Func}{spec:ChangeSpec}(hvars:spec.vars=[])
 (hfn:∀ds:List (DataW H),ds.length=fn.params.size->spec.fn H ds = { results:=[.lit (.bool true)],args:=ds }) {tb:TypeId} (hres:fn.resultTypes = #[tb]) (htb:P.underlying tb=some .bool)
 (hps:∀t∈fn.params.toList,isVar P t=true/\P.readableRec t=true) {W:World} {args:Array Value} {ds gs:List (DataW H)} {before:List MemPlace}
 (hval:∀(j:Nat) t v,fn.params[j]?=some t->args[j]?=some v->Value.okWide P W .any base t v)
 (hW:DataW.Whole enc P fn.params.toList spec.vars false W args.toList ds gs before) (hG:zE G W (fun b=>b<W.heap.size))
 (hlaw:∀xs,ATs P fn.params.toList xs ds->∃ys,Sims xs ys/\ToldOk P G f ys (.bool true)) :
 Calls P f args W fun e W'=>∃v,e = .returned v/\spec.post enc P fn false true false false W args v W':=by
 have hW':=hW;obtain⟨p,q,hA,hV,rfl,hfz,hnd⟩:=hW;have hV0:gs=[]/\q=[]:=by
  rw[hvars] at hV;exact trodVars_none hV
 obtain⟨rfl,rfl⟩:=hV0;obtain⟨xs,h1,h2,h3⟩:=qeW hl (fun _=>rfl) fn.params.toList args.toList ds p (fun t ht=>(hps t ht).1) (fun j t v ht hv=>hval j t v (by simpa using ht) (by simpa using hv)) hA;obtain⟨ys,hsim,hval2⟩:=hlaw xs h1;refine(hval2.calls W _ args (fun b hb=>hb) hG ⟨by rw[←hsim.1];simpa using h2,fun i x hx=>?_⟩).mono fun e W' ⟨v,he,hrv⟩=>⟨v,he,?_⟩
 ·obtain⟨y,hy,hs⟩:=hsim.get hx;obtain⟨v,q1,q2⟩:=h3 i y hy;exact⟨v,by simpa using q1,hs _ _ _ q2⟩
 ·obtain⟨⟨hbelow,_⟩,U',X,_,_,_,_,hrt⟩:=hrv;obtain rfl:v = .bool true:=by
   simp only[RT2,RT1] at hrt;cases hrt with
   |vi _ _ hv=>cases hv;rfl
  have hlen:ds.length=fn.params.size:=by
   have:∀(params:List TypeId) (xs:List T) (ds:List (DataW H)),ATs P params xs ds->ds.length=params.length:=by
    intro params
    induction params with
    |nil=>intro xs ds h;cases xs<;>cases ds<;>simp_all [ATs]
    |cons t l ih =>
     intro xs ds h;cases xs with
     |nil=>cases ds<;>simp[ATs] at h
     |cons x xs =>
      cases ds with
      |nil=>simp[ATs] at h
      |cons d ds=>simp only[List.length_cons];rw[ih xs ds h.2]
   simpa using this _ _ _ h1
  have hspec:=hfn (ds++[]) (by simpa using hlen);have hlt:=hW'.lt;refine⟨ds,[],p++[],[],p,[],hW',?_,?_,?_,hbelow.frame _,fun h=>by cases h⟩
  ·rw[hspec,hres];exact trodAll_cons_mk (shut_bool htb true) trodAll_mk0
  ·rw[hspec];simp only[List.append_nil];exact Ko hl hbelow (fun t ht=>⟨(hps t ht).2,by have:=(hps t ht).1;simp only[isVar,Bool.and_eq_true,decide_eq_true_eq] at this;exact this.1⟩) (fun x hx=>hlt x (by simpa using hx)) hA
  ·rw[hvars,hspec];rfl
end
section
variable {P:Program} {H:Type} {t:TypeId} {ts:List T} {d:DataW H}
def CTs(P:Program):List TypeId->List (List T)->List (DataW H)->Prop
 |[],[],[]=>True
 |t::l,p::ps,d::ds=>CT P t p d/\CTs P l ps ds
 |_,_,_=>False
theorem qf3:∀(l:List TypeId) (parts:List (List T)) (ds:List (DataW H)),parts.length=l.length->ds.length=l.length →
 (∀(i:Nat) t p d,l[i]?=some t->parts[i]?=some p->ds[i]?=some d->CT P t p d)->CTs P l parts ds
 |[],[],[],_,_,_=>trivial
 |t::l,p::ps,d::ds,h1,h2,h=>⟨h 0 t p d rfl rfl rfl,qf3 l ps ds (by simpa using h1) (by simpa using h2) fun i t p d a b c=>h (i+1) t p d (by simpa using a) (by simpa using b) (by simpa using c)⟩
 |[],_::_,_,h1,_,_=>by simp at h1
 |[],[],_::_,_,h2,_=>by simp at h2
 |_::_,[],_,h1,_,_=>by simp at h1
 |_::_,_::_,[],_,h2,_=>by simp at h2
theorem CTs.cons{t:TypeId}{l:List TypeId}{parts:List (List T)}{ds:List (DataW H)}(h:CTs P (t::l) parts ds) :
 ∃p ps d ds',parts=p::ps/\ds=d::ds'/\CT P t p d/\CTs P l ps ds':=by
 match parts,ds,h with
 |p::ps,d::ds',h=>exact⟨p,ps,d,ds',rfl,rfl,h.1,h.2⟩
theorem CTs.nil{parts:List (List T)}{ds:List (DataW H)}(h:CTs P [] parts ds):parts=[]/\ds=[]:=by
 match parts,ds,h with
 |[],[],_=>exact⟨rfl,rfl⟩
theorem CT.bool_inv(ht:P.underlying t=some .bool)(h:CT P t ts d):∃b,ts=[.bool b]/\d = .lit (.bool b):=by
 cases h with
 |bool _ b _=>exact⟨b,rfl,rfl⟩
 |oth _ _ ho=>rw[ht] at ho;cases ho
 |int _ _ _ h2=>rw[ht] at h2;cases h2
 |str _ _ h2=>rw[ht] at h2;cases h2
 |nils _ _ h2=>rw[ht] at h2;cases h2
 |view _ _ _ _ _ _ _ h2=>rw[ht] at h2;cases h2
 |thin _ _ _ h2=>rw[ht] at h2;cases h2
 |struct _ _ _ _ h2=>rw[ht] at h2;cases h2
 |array _ _ _ _ _ h2=>rw[ht] at h2;cases h2
theorem CT.int_inv{k:IntKind}(ht:P.underlying t=some (.int k))(h:CT P t ts d):∃n,ts=[.int k n]/\d = .lit (.int k n)/\(Lit.int k n).wf=true:=by
 cases h with
 |int _ k' n h2 hn =>
  rw[ht] at h2;obtain rfl:k=k':=by cases h2;rfl
  exact⟨n,rfl,rfl,hn⟩
 |oth _ _ ho=>rw[ht] at ho;cases ho
 |bool _ _ h2=>rw[ht] at h2;cases h2
 |str _ _ h2=>rw[ht] at h2;cases h2
 |nils _ _ h2=>rw[ht] at h2;cases h2
 |view _ _ _ _ _ _ _ h2=>rw[ht] at h2;cases h2
 |thin _ _ _ h2=>rw[ht] at h2;cases h2
 |struct _ _ _ _ h2=>rw[ht] at h2;cases h2
 |array _ _ _ _ _ h2=>rw[ht] at h2;cases h2
theorem CT.slice_inv{e:TypeId}(ht:P.underlying t=some (.slice e))(hz:P.cellsOf e≠0)(h:CT P t ts d):(ts=[.nils]/\d = .nil) ∨
 ∃n c g elems spare,ts=[.view (P.cellsOf e) n g (some c)]/\d = .slice elems spare/\elems.length=n/\spare.length=c-n/\n<=c/\c<=maxLen/\∀j d,elems[j]?=some d->CT P e (g j) d:=by
 cases h with
 |nils _ _ h2=>exact .inl ⟨rfl,rfl⟩
 |view _ e' n c g elems spare h2 he hs hn hc hg =>
  rw[ht] at h2;obtain rfl:e=e':=by cases h2;rfl
  exact .inr ⟨n,c,g,elems,spare,rfl,rfl,he,hs,hn,hc,hg⟩
 |thin _ e' _ h2 h0 =>
  rw[ht] at h2;obtain rfl:e=e':=by cases h2;rfl
  exact absurd h0 hz
 |oth _ _ ho=>rw[ht] at ho;cases ho
 |bool _ _ h2=>rw[ht] at h2;cases h2
 |int _ _ _ h2=>rw[ht] at h2;cases h2
 |str _ _ h2=>rw[ht] at h2;cases h2
 |struct _ _ _ _ h2=>rw[ht] at h2;cases h2
 |array _ _ _ _ _ h2=>rw[ht] at h2;cases h2
theorem CT.struct_inv{fs:Array Field}(ht:P.underlying t=some (.struct fs))(h:CT P t ts d):∃parts ds,ts=parts.flatten/\d = .agg ds/\CTs P (fs.toList.map (·.type)) parts ds:=by
 cases h with
 |struct _ fs' parts ds h2 h1 h3 hp =>
  rw[ht] at h2;obtain rfl:fs=fs':=by cases h2;rfl
  refine⟨parts,ds,rfl,rfl,qf3 _ _ _ (by simpa using h1) (by simpa using h3) fun i t p d a b c=>?_⟩;rw[List.getElem?_map,Option.map_eq_some_iff] at a;obtain⟨f,hf,rfl⟩:=a;exact hp i f p d (by simpa using hf) b c
 |oth _ _ ho=>rw[ht] at ho;cases ho
 |bool _ _ h2=>rw[ht] at h2;cases h2
 |int _ _ _ h2=>rw[ht] at h2;cases h2
 |str _ _ h2=>rw[ht] at h2;cases h2
 |nils _ _ h2=>rw[ht] at h2;cases h2
 |view _ _ _ _ _ _ _ h2=>rw[ht] at h2;cases h2
 |thin _ _ _ h2=>rw[ht] at h2;cases h2
 |array _ _ _ _ _ h2=>rw[ht] at h2;cases h2
theorem ATs.cons{l:List TypeId}{xs:List T}{ds:List (DataW H)}(h:ATs P (t::l) xs ds) :
 ∃x xs' d ds' ts,xs=x::xs'/\ds=d::ds'/\CT P t ts d/\x=JQ P t ts/\ATs P l xs' ds':=by
 match xs,ds,h with
 |x::xs',d::ds',h=>exact⟨x,xs',d,ds',h.1.choose,rfl,rfl,h.1.choose_spec.1,h.1.choose_spec.2,h.2⟩
theorem ATs.nil{xs:List T}{ds:List (DataW H)}(h:ATs P [] xs ds):xs=[]/\ds=[]:=by
 match xs,ds,h with
 |[],[],_=>exact⟨rfl,rfl⟩
theorem qhb{n:Int}(h:(Lit.int .u8 n).wf=true):0<=n/\n<=255:=by
 simp[Lit.wf,IntKind.min,IntKind.max,IntKind.signed,IntKind.bits] at h;omega
theorem qhu{n:Int}(h:(Lit.int .i64 n).wf=true):-9223372036854775808<=n/\n<=9223372036854775807:=by
 simp[Lit.wf,IntKind.min,IntKind.max,IntKind.signed,IntKind.bits] at h;omega
end
theorem Q1{x:Int}(h1:-9223372036854775808<=x)(h2:x<=9223372036854775807):IntKind.i64.wrap x=x:=by
 simp only[IntKind.wrap,IntKind.signed,IntKind.bits];simp;omega
theorem wr8{x:Int}(h1:0<=x)(h2:x<=255):IntKind.u8.wrap x=x:=by
 simp only[IntKind.wrap,IntKind.signed,IntKind.bits];simp;omega
theorem qiG{x:Int}(h1:0<=x)(h2:x<=4294967295):IntKind.u32.wrap x=x:=by
 simp only[IntKind.wrap,IntKind.signed,IntKind.bits];simp;omega
theorem qiH{x:Int}(h1:0<=x)(h2:x<=65535):IntKind.u16.wrap x=x:=by
 simp only[IntKind.wrap,IntKind.signed,IntKind.bits];simp;omega
theorem KH{a b:Nat}(h:a<=b):Nat.ble a b=true:=by rw[Nat.ble_eq];exact h
theorem qgy{a b:Nat}(h:b<a):Nat.ble a b=false:=by rw[←Bool.not_eq_true,Nat.ble_eq];omega
theorem yZ{a b:Nat}(h:a<b):Nat.blt a b=true:=KH h
theorem qcF{a b:Nat}(h:b<=a):Nat.blt a b=false:=qgy (by omega)
theorem dT{p:Prop}[Decidable p](h:p):decide p=true:=decide_eq_true h
theorem dF{p:Prop}[Decidable p](h:¬p):decide p=false:=decide_eq_false h
theorem qt{R:Type}{c:Bool}{x y r:R}(hc:c=true)(h1:x=r):(bif c then x else y)=r:=by rw[hc];exact h1
def low0(k:Nat):T->Bool
 |.own i _ _ _ _=>Nat.blt i k
 |.ptr i _ _ _=>Nat.blt i k
 |.mp i _=>Nat.blt i k
 |x=>Zg x
def low(k:Nat):T->Bool
 |.agg l=>l.all (low0 k)
 |.reg l=>l.all (low0 k)
 |.fn _ caps=>caps.all (low0 k)
 |x=>low0 k x
def qcG(k:Nat)(b:Blk):Bool:=b.flat || (Nat.ble b.n 8&&(List.range b.n).all fun j=>(b.get j).all (low0 k))
def KI(k:Nat)(vs:List T)(h:qa):Bool:=vs.all (low k)&&(h.take k).all (qcG k)
section
variable {w:World} {g:Gh} {h:qa} {k:Nat}
theorem VR.low0{x:T}{v:Value}(hx:g.VR h w x v)(hl:Ab.low0 k x=true):g.VR (h.take k) w x v:=by
 cases x with
 |own i ver off len cap =>
  obtain⟨b,hb,hver,h1,hok⟩:=hx.own_inv;have hi:i<k:=qU hl;exact .own _ _ _ _ _ b _ (by rw[List.getElem?_take_of_lt hi];exact hb) hver h1 hok
 |ptr i ver j o =>
  obtain⟨b,hb,hver,h1,hok⟩:=hx.ptr_inv;have hi:i<k:=qU hl;exact .ptr _ _ _ _ b _ (by rw[List.getElem?_take_of_lt hi];exact hb) hver h1 hok
 |mp i ver =>
  obtain⟨b,hb,hver,h1,hok⟩:=hx.mp_inv;have hi:i<k:=qU hl;exact .mp _ _ b _ (by rw[List.getElem?_take_of_lt hi];exact hb) hver h1 hok
 |agg l=>simp[Ab.low0,Zg] at hl
 |reg l=>exact absurd hx VR.not_reg
 |tup l=>simp[Ab.low0,Zg] at hl
 |iface t x=>simp[Ab.low0,Zg] at hl
 |fresh=>exact absurd hx VR.not_fresh
 |fn f caps =>
  simp only[Ab.low0,Zg,List.isEmpty_iff] at hl;subst hl;obtain⟨cs,rfl,hlen,hc⟩:=hx.fn_inv;exact VR.mk_fn hlen (fun i c hi=>by simp at hi)
 |_=>exact .imm _ _ (ka (by first|rfl|simpa [Ab.low0,Zg,imm] using hl) hx)
theorem VR.low{x:T}{v:Value}(hx:g.VR h w x v)(hl:Ab.low k x=true):g.VR (h.take k) w x v:=by
 cases x with
 |agg l =>
  obtain⟨cs,rfl,hlen,h1,hc⟩:=hx.agg_inv;refine VR.mk_agg hlen h1 (fun i c hi=>?_);obtain⟨u,hu,hr⟩:=hc i c hi;exact⟨u,hu,hr.low0 (List.all_eq_true.1 hl c (List.mem_of_getElem? hi))⟩
 |reg l=>exact absurd hx VR.not_reg
 |fn f caps =>
  obtain⟨cs,rfl,hlen,hc⟩:=hx.fn_inv;refine VR.mk_fn hlen (fun i c hi=>?_);obtain⟨u,hu,hr⟩:=hc i c hi;exact⟨u,hu,hr.low0 (List.all_eq_true.1 hl c (List.mem_of_getElem? hi))⟩
 |_=>exact VR.low0 hx hl
def Gh.cut(g:Gh)(k:Nat):Gh:={ g with own:=fun b=>match g.own b with|some (.inl i)=>if i<k then some (.inl i) else none|o=>o }
theorem jC{b:Nat}(h:g.own b=none):(g.cut k).own b=none:=by simp only[Gh.cut,h]
theorem qeX{b t:Nat}(h:g.own b=some (.inr t)):(g.cut k).own b=some (.inr t):=by simp only[Gh.cut,h]
theorem qcH{b i:Nat}(h:g.own b=some (.inl i))(hi:i<k):(g.cut k).own b=some (.inl i):=by simp only[Gh.cut,h,if_pos hi]
theorem qaL{b:Nat}{o:Nat ⊕ Nat}(h:(g.cut k).own b=some o):g.own b=some o/\∀i,o = .inl i->i<k:=by
 simp only[Gh.cut] at h;cases hb:g.own b with
 |none=>rw[hb] at h;cases h
 |some q =>
  rw[hb] at h;cases q with
  |inr t=>exact⟨h,fun i e=>by rw[e] at h;cases h⟩
  |inl j =>
   dsimp only at h;split at h
   ·rename_i hj
    exact⟨h,fun i e=>by rw[e] at h;have:j=i:=by simpa using h
                        omega⟩
   ·cases h
theorem HR.take(hr:HR g h w)(hf:(h.take k).all (qcG k)=true):HR (g.cut k) (h.take k) w:=by
 refine⟨fun i b hb hmp=>?_,fun b hb=>⟨(hr.u b hb).1,jC (hr.u b hb).2⟩,fun b o ho=>hr.own b o (qaL ho).1,hr.base,fun b o ho=>hr.cells b o (qaL ho).1,fun b i ho=>by
  have h1:=qaL ho;have h2:=hr.lt b i h1.1;have h3:=h1.2 i rfl;rw[List.length_take];omega,fun i b m hb hm=>by
  have hi:i<k:=by
   rcases Nat.lt_or_ge i k with q|q
   ·exact q
   ·rw[List.getElem?_eq_none (by simp;omega)] at hb;cases hb
  have hb0:h[i]?=some b:=by rw[List.getElem?_take_of_lt hi] at hb;exact hb
  exact hr.mp_of hb0 hm rfl (fun c hc=>qcH hc hi) fun _ _ _=>rfl⟩
 have hi:i<k:=by
  rcases Nat.lt_or_ge i k with q|q
  ·exact q
  ·rw[List.getElem?_eq_none (by simp;omega)] at hb;cases hb
 have hb0:h[i]?=some b:=by rw[List.getElem?_take_of_lt hi] at hb;exact hb
 rcases hr.blk0 i b hb0 hmp with⟨cb,sh,arr,e,hok⟩|q
 rotate_left
 ·exact .inr q
 refine .inl ?_;have hfl:qcG k b=true:=List.all_eq_true.1 hf b (List.mem_of_getElem? hb);refine⟨cb,sh,arr,e,hok.φ,qcH hok.own hi,hok.heap,hok.room,hok.len,fun j o c hj ho=>?_,hok.flat⟩;obtain⟨v,h1,h2,h3⟩:=hok.cell j o c hj ho;refine⟨v,h1,h2,VR.low0 (g:=g) h3 ?_⟩;unfold qcG at hfl;rcases Bool.or_eq_true _ _▸hfl with hfl|hfl
 ·have hp:=hok.flat hfl j hj c (List.mem_of_getElem? ho);cases c<;>simp_all [qw,Ab.low0,Zg]
 ·simp only[Bool.and_eq_true] at hfl;exact List.all_eq_true.1 (List.all_eq_true.1 hfl.2 j (List.mem_range.2 hj)) c (List.mem_of_getElem? ho)
end
section
variable {P:Program} {Gl:Nat->Option (List T)} {prom:List Nat} {nt:Nat}
theorem SR.take{g:Gh}{l:List Nat}{vs:List T}{h:qa}{a:Act}{w:World}{k:Nat}(hs:SR Gl prom nt g (qx l vs h) a w)(ht:KI k vs h=true):SR Gl prom nt (g.cut k) (qx l vs (h.take k)) a w:=by
 simp only[KI,Bool.and_eq_true] at ht;obtain⟨hv,hf⟩:=ht;have hat:∀t,(qx l vs (h.take k)).at t=(qx l vs h).at t:=fun t=>rfl;have hlow:∀t,Ab.low k ((qx l vs h).at t)=true:=by
  intro t;unfold St.at
  cases hb:Nat.blt t 1024 with
  |false=>rfl
  |true =>
   simp only[cond_true];have key:∀(l:List Nat) (vs:List T) (e:Tr),vs.all (Ab.low k)=true->(∀t,t<1024->Ab.low k (Tr.get Qt e t)=true)->∀t,t<1024->Ab.low k (Tr.get Qt (Zl l vs e) t)=true:=by
    intro l
    induction l with
    |nil=>intro vs e _ he;simpa only[Zl] using he
    |cons i l ih =>
     intro vs e hv he;cases vs with
     |nil=>simpa only[Zl] using he
     |cons x vs =>
      simp only[List.all_cons,Bool.and_eq_true] at hv;simp only[Zl];refine ih vs _ hv.2 (fun t ht=>?_);cases hi:Nat.blt i 1024 with
      |false=>exact he t ht
      |true =>
       simp only[cond_true];have h1:Tr.get Qt (Tr.set Qt e i x) t=if t=i then x else Tr.get Qt e t:=Tr.get_set 10 e i t x (by have:=qU hi;omega) ht;rw[h1];by_cases q:t=i
       ·rw[if_pos q];exact hv.1
       ·rw[if_neg q];exact he t ht
   exact key l vs .nil hv (fun t _=>by rfl) t (qU hb)
 refine⟨hs.hr.take hf,by
  obtain⟨m0,l0,m1,m2,m3⟩:=hs.defers;exact⟨m0,l0,m1,m2,fun D hD=>⟨(m3 D hD).1,jC (m3 D hD).2.1,(m3 D hD).2.2⟩⟩,hs.size,hs.nt,fun t ht=>?_,fun t ht cells hc=>?_,fun d t o h=>(by cases h),hs.glob,fun d t o h=>(by cases h)⟩
 ·rw[hat];exact VR.low (hs.tmps t ht) (hlow t)
 ·rw[hat] at hc;obtain⟨cb,arr,e,hok⟩:=hs.regs t ht cells hc;refine⟨cb,arr,e,hok.ptr,qeX hok.own,hok.heap,hok.len,fun o c ho=>?_⟩;obtain⟨u,h1,h2,h3⟩:=hok.cell o c ho;have hl:=hlow t;rw[hc] at hl;exact⟨u,h1,h2,h3.low0 (List.all_eq_true.1 hl c (List.mem_of_getElem? ho))⟩
theorem FrC.take{g0 g:Gh}{h0 h:qa}{w0 w:World}{k:Nat}(hr0:HR g0 h0 w0)(hf:FrC g0 h0 w0 g h w)(hk:h0.length<=k):FrC g0 h0 w0 (g.cut k) (h.take k) w:=by
 refine⟨⟨hf.keep.u,fun i b hb=>?_,hf.keep.rm⟩,hf.size,fun b hb=>by
  have hq:=hf.own b hb;cases ho:g.own b with
  |none=>rw[jC ho,←hq,ho]
  |some o =>
   cases o with
   |inr t=>rw[qeX ho,←hq,ho]
   |inl i=>rw[qcH ho (Nat.lt_of_lt_of_le (hr0.lt b i (by rw[←hq];exact ho)) hk),←hq,ho],hf.os,hf.tape,hf.output,hf.same,hf.bs,hf.u,hf.u'⟩
 obtain⟨b',hb',h1,h2⟩:=hf.keep.blk i b hb;have hi:i<k:=by
  rcases Nat.lt_or_ge i h0.length with q|q
  ·omega
  ·rw[List.getElem?_eq_none q] at hb;cases hb
 exact⟨b',by rw[List.getElem?_take_of_lt hi];exact hb',h1,h2⟩
def Lent(g g2:Gh):Prop:=∀b,g.own b=none->g2.own b=none/\(g2.U b->g.U b)
theorem Lent.refl(g:Gh):Lent g g:=fun _ h=>⟨h,fun h=>h⟩
theorem Lent.trans{g g1 g2:Gh}(a:Lent g g1)(b:Lent g1 g2):Lent g g2:=fun x h=>⟨(b x (a x h).1).1,fun hu=>(a x h).2 ((b x (a x h).1).2 hu)⟩
theorem Lent.cut(g:Gh)(k:Nat):Lent g (g.cut k):=fun _ h=>⟨jC h,fun h=>h⟩
def WeakTo(Gl:Nat->Option (List T))(prom:List Nat)(nt:Nat)(l:List Nat)(k:Nat)(vs:List T)(h:qa)(vs2:List T)(h2:qa):Prop :=
 ∀(g:Gh) (a:Act) (w:World) (g0:Gh) (h0:qa) (w0:World),h0.length<=k->HR g0 h0 w0->FrC g0 h0 w0 g h w->SR Gl prom nt g (qx l vs h) a w->∃g2,SR Gl prom nt g2 (qx l vs2 h2) a w/\FrC g0 h0 w0 g2 h2 w/\Lent g g2
theorem WeakTo.refl{l:List Nat}{k:Nat}(vs:List T)(h:qa):WeakTo Gl prom nt l k vs h vs h:=fun g _ _ _ _ _ _ _ hf hs=>⟨g,hs,hf,.refl g⟩
theorem WeakTo.trans{l:List Nat}{k:Nat}{vs vs1 vs2:List T}{h h1 h2:qa}(a:WeakTo Gl prom nt l k vs h vs1 h1)(b:WeakTo Gl prom nt l k vs1 h1 vs2 h2):WeakTo Gl prom nt l k vs h vs2 h2:=by
 intro g ac w g0 h0 w0 hk hr hf hs;obtain⟨g1,q1,q2,q3⟩:=a g ac w g0 h0 w0 hk hr hf hs;obtain⟨g2,p1,p2,p3⟩:=b g1 ac w g0 h0 w0 hk hr q2 q1;exact⟨g2,p1,p2,q3.trans p3⟩
theorem WeakTo.take{l:List Nat}{k:Nat}{vs:List T}{h:qa}(ht:KI k vs h=true):WeakTo Gl prom nt l k vs h vs (h.take k) :=
 fun g _ _ _ _ _ hk hr0 hf hs=>⟨_,hs.take ht,hf.take hr0 hk,.cut g k⟩
def SameBlks(h h2:qa):Prop:=h2.length=h.length/\∀(i:Nat) b b2,h[i]?=some b->h2[i]?=some b2->b2.mp=b.mp/\b2.ver=b.ver/\b2.sz=b.sz/\b2.n=b.n/\(b2.flat=true->b.flat=true∨∀j,j<b.n->(b.get j).all qw=true)/\∀j,j<b.n->b2.get j=b.get j
theorem SameBlks.at{h h2:qa}(hs:SameBlks h h2){i:Nat}{b:Blk}(hb:h[i]?=some b):∃b2,h2[i]?=some b2/\b2.mp=b.mp/\b2.ver=b.ver/\b2.sz=b.sz/\b2.n=b.n/\(b2.flat=true->b.flat=true∨∀j,j<b.n->(b.get j).all qw=true)/\∀j,j<b.n->b2.get j=b.get j:=by
 have hi:=qC hb;have h2i:h2[i]?=some (h2[i]'(by rw[hs.1];exact hi)):=List.getElem?_eq_getElem _;exact⟨_,h2i,hs.2 i b _ hb h2i⟩
theorem SameBlks.back{h h2:qa}(hs:SameBlks h h2){i:Nat}{b2:Blk}(hb:h2[i]?=some b2):∃b,h[i]?=some b/\b2.mp=b.mp/\b2.ver=b.ver/\b2.sz=b.sz/\b2.n=b.n/\(b2.flat=true->b.flat=true∨∀j,j<b.n->(b.get j).all qw=true)/\∀j,j<b.n->b2.get j=b.get j:=by
 have hi:=qC hb;have hi':h[i]?=some (h[i]'(by rw[←hs.1];exact hi)):=List.getElem?_eq_getElem _;exact⟨_,hi',hs.2 i _ b2 hi' hb⟩
theorem SameBlks.keep{h h2:qa}(hs:SameBlks h h2)(w:World)(U:Nat->Prop)(φ:Nat->Option (Nat×Nat)):KeepR w U φ h w U φ h2 :=
 ⟨.refl _ _,fun i b hb=>by
  obtain⟨b2,q1,_,q2,q3,q4,_⟩:=hs.at hb;exact⟨b2,q1,by omega,fun _=>⟨q3,by omega,rfl⟩⟩,fun _ _ hr=>hr⟩
theorem HR.same{g:Gh}{h h2:qa}{w:World}(hr:HR g h w)(hs:SameBlks h h2):HR g h2 w:=by
 refine⟨fun i b2 hb hmp2=>?_,hr.u,hr.own,hr.base,hr.cells,fun b i ho=>by rw[hs.1];exact hr.lt b i ho,fun i b2 m hb hm=>by
  obtain⟨b,hb0,q0,_⟩:=hs.back hb;exact hr.mp_of hb0 (q0▸hm) rfl (fun _ hc=>hc) fun _ _ _=>rfl⟩
 obtain⟨b,hb0,q0,q1,q2,q3,q4,q5⟩:=hs.back hb;have hmp:b.mp=none:=q0▸hmp2;rcases hr.blk0 i b hb0 hmp with⟨cb,sh,arr,e,hok⟩|⟨w1,w2⟩
 rotate_left
 ·exact .inr ⟨w1,by omega⟩
 refine .inl ⟨cb,sh,arr,e,hok.φ,hok.own,hok.heap,by rw[q2,q3];exact hok.room,fun j hj=>?_,fun j o c hj ho=>?_,fun hf j hj c hc=>?_⟩
 ·rw[q5 j (by omega),q2];exact hok.len j (by omega)
 ·rw[q5 j (by omega)] at ho;obtain⟨v,h1,h3,h4⟩:=hok.cell j o c (by omega) ho;rw[q2];exact⟨v,h1,h3,h4.keep (hs.keep _ _ _)⟩
 ·rw[q5 j (by omega)] at hc;rcases q4 hf with q|q
  ·exact hok.flat q j (by omega) c hc
  ·exact List.all_eq_true.1 (q j (by omega)) c hc
theorem WeakTo.same{l:List Nat}{k:Nat}{vs:List T}{h h2:qa}(hs:SameBlks h h2):WeakTo Gl prom nt l k vs h vs h2:=by
 intro g a w g0 h0 w0 _ _ hf hsr;have hk:=hs.keep w g.U g.φ;refine⟨g,⟨hsr.hr.same hs,hsr.defers,hsr.size,hsr.nt,fun t ht=>(hsr.tmps t ht).keep hk,fun t ht cells hc=>?_,fun d t o h=>(by cases h),hsr.glob,fun d t o h=>(by cases h)⟩,hf.trans ⟨hk,Nat.le_refl _,fun _ _=>rfl,rfl,rfl,.refl _,fun _ _ _=>rfl,rfl,fun _ h=>.inl h,fun _ h=>h⟩,.refl g⟩;obtain⟨cb,arr,e,hok⟩:=hsr.regs t ht cells hc;refine⟨cb,arr,e,hok.ptr,hok.own,hok.heap,hok.len,fun o c ho=>?_⟩;obtain⟨u,h1,h2',h3⟩:=hok.cell o c ho;exact⟨u,h1,h2',h3.keep hk⟩
theorem CodeGoes.weak{c:Code}{l:List Nat}{vs vs2:List T}{h h2:qa}{e:Ex}{s':St}(hg:CodeGoes P Gl prom nt c (qx l vs2 h2) e s')(hw:WeakTo Gl prom nt l h.length vs h vs2 h2):CodeGoes P Gl prom nt c (qx l vs h) e s':=by
 intro ro n hro g a w hs Q hn;obtain⟨g2,q1,q2,_⟩:=hw g a w g h w (Nat.le_refl _) hs.hr (.refl _ _ _) hs;exact hg ro n hro g2 a w q1 Q fun a' w' g' h1 h2 h3=>hn a' w' g' h1 (q2.trans h2) h3
variable {K:Orc} {A:FuncId->Ann}
theorem qeq(hm:P.follows .mixedOrders=true){f:FuncId}{r:Nat}(ha:kp P f r=true)
 {an:Ann} {h:qa} (I:Nat->List T->qa->Prop) {e1:Ex} {vs1:List T} {h1:qa} {fn:Func} (hf:P.funcs[f]?=some fn) (hnt:fn.ntmps<=1024)
 (round:∀n vs h0,I n vs h0->∃(A:FuncId->Ann) (K:Orc) (m:Nat) (l:List (Nat×(List T->qa->LT))),OrcOk P Gl K/\(A f).prom=an.prom/\(A f).live r=an.live r/\(∀p∈l,LoopOk P Gl (A f) f p.1 p.2) ∧
  ∃e vs' h',qV P Gl A K m f l r vs h0=some (e,vs',h')/\((e = .normal/\∃j vs2 h2,j<n/\WeakTo Gl an.prom fn.ntmps (an.live r false) h.length vs' h' vs2 h2/\I j vs2 h2) ∨
   (e≠.normal/\e=e1/\WeakTo Gl an.prom fn.ntmps (an.live r true) h.length vs' h' vs1 h1)))
 {n:Nat} {vs:List T} (hI:I n vs h) :
 CodeGoes P Gl an.prom fn.ntmps (zc (zp P f r)) (qx (an.live r false) vs h) e1 (qx (an.live r true) vs1 h1):=by
 obtain⟨hap,c,hb,hmem,hfr,hasl⟩:=qbM ha hf;rw[hasl];intro ro nn hro g0 a0 w0 hs0 Q hn;refine zI (fun j a w=>∃vs' h' g,I j vs' h'/\SR Gl an.prom fn.ntmps g (qx (an.live r false) vs' h') a w/\FrC g0 h w0 g h' w/\(qf (zp P f r)=false->a.defers=a0.defers)) (fun j a w hJ=>?_) n a0 w0 ⟨vs,h,g0,hI,hs0,FrC.refl _ _ _,fun _=>rfl⟩;obtain⟨vs',h',g,hI,hs,hf0,hdf⟩:=hJ;obtain⟨A,K,m,l,hK,hp,hlive,hl,e,vs2,h2,hit,hcase⟩:=round j vs' h' hI;unfold qV at hit;rw[hf] at hit;dsimp only at hit;have hrec:=Yv (A:=A) hap (ZA P Gl A K m f) (kL hm hK m f) hl fn c hf hb hnt;obtain⟨e',s',hk2,hgo⟩:=Qh hm hK hnt hrec (zp P f r) (fun b hb'=>Qc c hmem hb') hit;rw[hp,hlive] at hgo;rw[hlive] at hk2;refine hgo ro nn (fun hh=>hro (by simpa [qf] using hh)) g a w hs _ fun a' w' g' hs' hf' hd'=>?_;have hr0:HR g0 h w0:=hs0.hr;cases e' with
 |normal =>
  simp only[Option.some.injEq,Prod.mk.injEq] at hk2;obtain⟨rfl,rfl,rfl⟩:=hk2;rcases hcase with⟨_,i,vs3,h3,hi,hw,hI'⟩|⟨hne,_⟩
  ·obtain⟨g3,q1,q2,_⟩:=hw g' a' w' g0 h w0 (Nat.le_refl _) hr0 (hf0.trans hf') (hs'.only _);exact⟨i,hi,_,_,g3,hI',q1,q2,fun h=>(hd' h).trans (hdf h)⟩
  ·exact absurd rfl hne
 |exit i =>
  simp only[Option.some.injEq,Prod.mk.injEq] at hk2;obtain⟨rfl,rfl,rfl⟩:=hk2;rcases hcase with⟨hne,_⟩|⟨_,rfl,hw⟩
  ·cases hne
  ·obtain⟨g3,q1,q2,_⟩:=hw g' a' w' g0 h w0 (Nat.le_refl _) hr0 (hf0.trans hf') (hs'.only _);exact hn a' w' g3 q1 q2 (fun h=>by simp only[qf] at h;exact(hd' h).trans (hdf h))
 |ret =>
  simp only[Option.some.injEq,Prod.mk.injEq] at hk2;obtain⟨rfl,rfl,rfl⟩:=hk2;rcases hcase with⟨hne,_⟩|⟨_,rfl,hw⟩
  ·cases hne
  ·obtain⟨g3,q1,q2,_⟩:=hw g' a' w' g0 h w0 (Nat.le_refl _) hr0 (hf0.trans hf') (hs'.only _);exact hn a' w' g3 q1 q2 (fun h=>by simp only[qf] at h;exact(hd' h).trans (hdf h))
end
def qf4(x:T)(v:Value):Prop:=∀w U,VI w U x v
def j7(l:List T)(vs:Array Value):Prop:=l.length=vs.size/\∀(i:Nat) x,l[i]?=some x->∃v,vs[i]?=some v/\qf4 x v
structure ItSteps(X:Nat->Prop)(W:World)(X':Nat->Prop)(W':World):Prop where
 size:W.heap.size<=W'.heap.size
 same:∀b,b<W.heap.size->¬X b->W'.heap[b]?=W.heap[b]?
 sub:∀b,X b->X' b
 new:∀b,X' b->X b∨W.heap.size<=b
 lt:∀b,X' b->b<W'.heap.size
 os:W'.os=W.os
 tape:W'.tape=W.tape
 output:OutOk W' W
 rm:∀b n,room W b n->room W' b n
structure RoundSteps(R X:Nat->Prop)(W W':World):Prop where
 size:W.heap.size<=W'.heap.size
 same:∀b,X b∨R b->W'.heap[b]?=W.heap[b]?
 df:∀(b:Nat) (ds:Option (List Deferred)),W.heap[b]?=some (Obj.deferred ds)->W'.heap[b]?=W.heap[b]?
 os:W'.os=W.os
 tape:W'.tape=W.tape
 output:OutOk W' W
 rm:∀b n,room W b n->room W' b n
def qcI(J:Nat->(Nat->Prop)->World->Prop):Prop:=∀i X W X' W',J i X W->ItSteps X W X' W'->J i X' W'
def qiI(P:Program)(gf:FuncId)(lb:Array Value)(N:Nat)(xs:Nat->List T)(R:Nat->Prop)(W0:World):Prop :=
 ∀(l:Nat) (J Jx:Nat->(Nat->Prop)->World->Prop),qcI J->qcI Jx →
  (∀i X W args,i<N->J i X W->j7 (xs i) args->YieldAt (Ql none) 0 P l args W fun e W'=>RoundSteps R X W W' ∧
   ((e = .returned (.bool true)/\J (i+1) X W')∨(e = .returned (.bool false)/\Jx i X W'))) →
  ∀W,W0.heap.size<=W.heap.size->(∀b,R b->W.heap[b]?=W0.heap[b]?)->J 0 (fun _=>False) W →
  CallsIn (Ql none) 0 P gf (#[.func (.yield l) #[] #[]]++lb) W fun e W'=>(∃v,e = .returned v)/\((∃X,J N X W')∨(∃i X,i<N/\Jx i X W'))
structure SeqTold(P:Program)(Gl:Nat->Option (List T))(gf:FuncId)(caps:List T)(N:Nat)(xs:Nat->List T):Prop where
 enters:∃fn,P.funcs[gf]?=some fn/\fn.body.isNone=false/\(fn.name=="runtime.NumGoroutine")=false
 it:∀(w:World) (U:Nat->Prop) (lb:Array Value),(∀b,U b->b<w.heap.size)->zE Gl w U->qcv w U caps lb->qiI P gf lb N xs U w
section
variable {P:Program} {Gl:Nat->Option (List T)} {prom:List Nat} {nt:Nat} {K:Orc} {A:FuncId->Ann}
theorem FrC.lays{g:Gh}{h:qa}{w w':World}(hr:HR g h w)(hs:w.heap.size<=w'.heap.size)(hsame:∀b,b<w.heap.size->w'.heap[b]?=w.heap[b]?)(h1:w'.os=w.os)(h2:w'.tape=w.tape)(h3:OutOk w' w):FrC g h w g h w':=by
 refine⟨⟨fun b hb=>⟨hb,hsame b (hr.u b hb).1⟩,fun i b hb=>⟨b,hb,Nat.le_refl _,fun _=>⟨rfl,rfl,rfl⟩⟩,fun b n hb=>?_⟩,hs,fun _ _=>rfl,h1,h2,h3,fun b hb _=>hsame b hb,rfl,fun _ h=>.inl h,fun _ h=>h⟩;obtain⟨arr,e,q1,q2⟩:=hb;exact⟨arr,e,(hsame b (Qy q1)).trans q1,q2⟩
theorem SR.slot{g:Gh}{l:List Nat}{vs:List T}{h:qa}{a:Act}{w:World}(hs:SR Gl prom nt g (qx l vs h) a w)(hl:l.length=vs.length){t:Nat}(ht:t<nt){x:T}{v:Value}(hx:g.VR h w x v) :
 SR Gl prom nt g (qx (l++[t]) (vs++[x]) h) { a with tmps:=a.tmps.setIfInBounds t v } w:=by
 have h1:=hs.done (d:=t) ht (x:=x) (h':=h) (v:=v) (w':=w) (g':=g) hs.hr hx (.refl _ _ _ _) (FrO.refl _ _ fun b o ho=>(hs.hr.own b o ho).2) (hp:=none) rfl rfl;have e1:(qx l vs h).lay t x none=qx (l++[t]) (vs++[x]) h:=by
  have key:∀(l:List Nat) (vs:List T) (e:Tr),l.length=vs.length->Zl (l++[t]) (vs++[x]) e=(Zl l vs e).set Qt t x:=by
   intro l
   induction l with
   |nil =>
    intro vs e hl;cases vs with
    |nil =>
     have:Nat.blt t 1024=true:=by have:=hs.nt;simp only[Nat.blt_eq];omega
     simp[Zl,this]
    |cons _ _=>simp at hl
   |cons i l ih =>
    intro vs e hl;cases vs with
    |nil=>simp at hl
    |cons y vs=>simp only[List.cons_append,Zl];exact ih vs _ (by simpa using hl)
  simp only[qx,Eff.app,qb3,ZZ,Zr,Option.getD_none,St.mk.injEq,and_true];refine⟨(key l vs .nil hl).symm,?_⟩;funext e;cases e==t<;>rfl
 rw[e1] at h1;exact h1
theorem SR.slots{g:Gh}{h:qa}{w:World}:∀(ps:List Nat) (xs:List T) (args:List Value) {l:List Nat} {vs:List T} {a:Act},SR Gl prom nt g (qx l vs h) a w->l.length=vs.length->ps.length=xs.length->xs.length=args.length →
 (∀t∈ps,t<nt)->(∀(i:Nat) x,xs[i]?=some x->∃v,args[i]?=some v/\g.VR h w x v) →
 SR Gl prom nt g (qx (l++ps) (vs++xs) h) { a with tmps:=(ps.zip args).foldl (fun t (p,v)=>t.setIfInBounds p v) a.tmps } w
 |[],[],[],l,vs,a,hs,_,_,_,_,_=>by simpa using hs
 |t::ps,x::xs,v::args,l,vs,a,hs,hl,h1,h2,hp,hx=>by
  obtain⟨v',q1,q2⟩:=hx 0 x rfl;obtain rfl:v=v':=by simpa using q1
  have:=SR.slots ps xs args (hs.slot hl (hp t (by simp)) q2) (by simp[hl]) (by simpa using h1) (by simpa using h2) (fun t ht=>hp t (by simp[ht])) (fun i x hi=>by
   obtain⟨u,p1,p2⟩:=hx (i+1) x (by simpa using hi);exact⟨u,by simpa using p1,p2⟩)
  simpa using this
 |[],_::_,_,_,_,_,_,_,h,_,_,_=>by simp at h
 |_::_,[],_,_,_,_,_,_,h,_,_,_=>by simp at h
 |[],[],_::_,_,_,_,_,_,_,h,_,_=>by simp at h
 |_::_,_::_,[],_,_,_,_,_,_,h,_,_=>by simp at h
end
section
variable {P:Program} {Gl:Nat->Option (List T)} {prom:List Nat} {nt:Nat}
structure Core(P:Program)(Gl:Nat->Option (List T))(prom:List Nat)(nt:Nat)(live:List Nat)(vs:List T)(a':Act)(g0:Gh)(h0:qa)(w:World)(hh:qa)(lp:Loop)(X:Nat->Prop)(W:World)(g:Gh):Prop where
 sr:SR Gl prom nt g (qx live vs hh) a' W
 fr:FrC g0 h0 w g hh W
 own:g.own (w.heap.size+1)=none
 u:¬g.U (w.heap.size+1)
 lp:W.heap[w.heap.size+1]?=some (.loop lp)
 x:∀b,X b->b<W.heap.size/\g.own b=none/\¬g.U b/\w.heap.size+2<=b
theorem Marks.it{g:Gh}{W W':World}{ds:List Deferred}{l0:List Nat}{B:Nat}{X X':Nat->Prop}(h:Marks g W ds){t0:List Deferred}(hd:ds=l0.map ZF++t0)(ht:∀D,ZF D∉t0)(hl:∀D∈l0,D<B)(hx:∀b,X b->B<=b)(hst:ItSteps X W X' W'):Marks g W' ds:=by
 obtain⟨h0,l,h1,h2,h3⟩:=h;refine⟨Nat.le_trans h0 hst.size,l,h1,h2,fun D hD=>?_⟩;obtain⟨q1,q2,q3,q4⟩:=h3 D hD;have hD:=h1.mem hd ht hD;refine⟨q1,q2,q3,(hst.same D (Qy q4) fun hX=>?_).trans q4⟩;have:=hl D hD;have:=hx D hX;omega
theorem Core.step{live:List Nat}{vs:List T}{a':Act}{g0 g:Gh}{h0 hh:qa}{w W W':World}{lp:Loop}{X X':Nat->Prop}{l0:List Nat}{t0:List Deferred}(hd:a'.defers=l0.map ZF++t0)(ht:∀D,ZF D∉t0)(hl:∀D∈l0,D<w.heap.size+2)
 (h:Core P Gl prom nt live vs a' g0 h0 w hh lp X W g) (hst:ItSteps X W X' W'):Core P Gl prom nt live vs a' g0 h0 w hh lp X' W' g:=by
 have hlt:∀b,g.U b∨g.own b≠none->W'.heap[b]?=W.heap[b]?:=by
  intro b hb;have hbl:b<W.heap.size:=by
   rcases hb with hb|hb
   ·exact(h.sr.hr.u b hb).1
   ·cases ho:g.own b with
    |none=>exact absurd ho hb
    |some o=>exact(h.sr.hr.own b o ho).2
  refine hst.same b hbl fun hX=>?_;obtain⟨_,q2,q3,_⟩:=h.x b hX;rcases hb with hb|hb
  ·exact q3 hb
  ·exact hb q2
 have hsr:=h.sr.world (w':=W') (ds:=a'.defers) hst.size hlt hst.rm (h.sr.defers.it hd ht hl (fun b hb=>(h.x b hb).2.2.2) hst);have hL:=Qy h.lp;refine⟨hsr,?_,h.own,h.u,(hst.same _ hL fun hX=>by have:=(h.x _ hX).2.2.2;omega).trans h.lp,fun b hb=>?_⟩
 ·refine⟨h.fr.keep.trans ⟨fun b hb=>⟨hb,hlt b (.inl hb)⟩,fun i b hb=>⟨b,hb,Nat.le_refl _,fun _=>⟨rfl,rfl,rfl⟩⟩,hst.rm⟩,Nat.le_trans h.fr.size hst.size,h.fr.own,hst.os.trans h.fr.os,hst.tape.trans h.fr.tape,hst.output.trans h.fr.output,
   fun b hb hn=>?_,h.fr.bs,h.fr.u,h.fr.u'⟩
  rw[hst.same b (by have:=h.fr.size;omega) fun hX=>by have:=(h.x b hX).2.2.2;omega];exact h.fr.same b hb hn
 ·rcases hst.new b hb with hX|hX
  ·obtain⟨q1,q2,q3,q4⟩:=h.x b hX;exact⟨hst.lt b hb,q2,q3,q4⟩
  ·refine⟨hst.lt b hb,?_,fun hU=>?_,by omega⟩
   ·cases ho:g.own b with
    |none=>rfl
    |some o=>have:=(h.sr.hr.own b o ho).2;omega
   ·have:=(h.sr.hr.u b hU).1;omega
theorem Core.turn{live:List Nat}{vs:List T}{a':Act}{g0 g:Gh}{h0 hh:qa}{w W:World}{lp lp':Loop}{X:Nat->Prop}{l0:List Nat}{t0:List Deferred}(hd:a'.defers=l0.map ZF++t0)(ht:∀D,ZF D∉t0)(hl:∀D∈l0,D≠w.heap.size+1)
 (h:Core P Gl prom nt live vs a' g0 h0 w hh lp X W g):Core P Gl prom nt live vs a' g0 h0 w hh lp' X (W.putObj (w.heap.size+1) (.loop lp')) g:=by
 have hL:=Qy h.lp;have hrm:∀b n,room W b n->room (W.putObj (w.heap.size+1) (.loop lp')) b n:=by
  rintro b n ⟨arr,e,q1,q2⟩;refine⟨arr,e,?_,q2⟩;rw[World.putObj_heap_other (by rintro rfl;rw[h.lp] at q1;cases q1)];exact q1
 have hlt:∀b,g.U b∨g.own b≠none->(W.putObj (w.heap.size+1) (.loop lp')).heap[b]?=W.heap[b]?:=by
  intro b hb;refine World.putObj_heap_other ?_;rintro rfl;rcases hb with hb|hb
  ·exact h.u hb
  ·exact hb h.own
 have hmk:Marks g (W.putObj (w.heap.size+1) (.loop lp')) a'.defers:=by
  obtain⟨h0,l,h1,h2,h3⟩:=h.sr.defers;refine⟨by simpa using h0,l,h1,h2,fun D hD=>?_⟩;obtain⟨q1,q2,q3,q4⟩:=h3 D hD;have hD:=h1.mem hd ht hD;exact⟨q1,q2,q3,(World.putObj_heap_other (hl D hD)).trans q4⟩
 refine⟨h.sr.world (by simp) hlt hrm hmk,?_,h.own,h.u,World.putObj_heap_same hL,fun b hb=>?_⟩
 ·refine⟨h.fr.keep.trans ⟨fun b hb=>⟨hb,hlt b (.inl hb)⟩,fun i b hb=>⟨b,hb,Nat.le_refl _,fun _=>⟨rfl,rfl,rfl⟩⟩,hrm⟩,by have:=h.fr.size;simp;omega,h.fr.own,h.fr.os,h.fr.tape,h.fr.output,
   fun b hb hn=>?_,h.fr.bs,h.fr.u,h.fr.u'⟩
  rw[World.putObj_heap_other (by omega)];exact h.fr.same b hb hn
 ·obtain⟨q1,q2,q3,q4⟩:=h.x b hb;exact⟨by simpa using q1,q2,q3,q4⟩
def Ex.code:Ex->Option Code
 |.normal=>none
 |.exit i=>some (.exit i)
 |.ret=>some .ret
def Ex.st:Ex->LoopState
 |.normal=>.ready
 |_=>.done
theorem j8{V:World}{L:Nat}{lq lr:Loop}(hV:V.heap[L]?=some (.loop lr)):∀b n,room V b n->room (V.putObj L (.loop lq)) b n:=by
 rintro b n ⟨arr,e,q1,q2⟩;refine⟨arr,e,?_,q2⟩;rw[World.putObj_heap_other (by rintro rfl;rw[hV] at q1;cases q1)];exact q1
theorem qaM{V:World}{L:Nat}{lq:Loop}{gg:Gh}(hgo:gg.own L=none)(hgu:¬gg.U L):∀b,gg.U b∨gg.own b≠none->(V.putObj L (.loop lq)).heap[b]?=V.heap[b]?:=by
 intro b hb;refine World.putObj_heap_other ?_;rintro rfl;rcases hb with hb|hb
 ·exact hgu hb
 ·exact hb hgo
structure FrL(L:Nat)(g:Gh)(h:qa)(w:World)(g':Gh)(h':qa)(w':World):Prop where
 keep:zx g h w g' h' w'
 size:w.heap.size<=w'.heap.size
 own:∀b,b<w.heap.size->g'.own b=g.own b
 os:w'.os=w.os
 tape:w'.tape=w.tape
 output:OutOk w' w
 same:∀b,b<w.heap.size->b≠L->g.own b=none->w'.heap[b]?=w.heap[b]?
 bs:g'.bs=g.bs
 u:∀b,g'.U b->g.U b∨w.heap.size<=b
 u':∀b,g.U b->g'.U b
theorem FrC.toL{g g':Gh}{h h':qa}{w w':World}(L:Nat)(f:FrC g h w g' h' w'):FrL L g h w g' h' w':=⟨f.keep,f.size,f.own,f.os,f.tape,f.output,fun b hb _ hn=>f.same b hb hn,f.bs,f.u,f.u'⟩
theorem FrL.trans{L:Nat}{g g1 g2:Gh}{h h1 h2:qa}{w w1 w2:World}(a:FrL L g h w g1 h1 w1)(b:FrL L g1 h1 w1 g2 h2 w2):FrL L g h w g2 h2 w2:=by
 refine⟨a.keep.trans b.keep,Nat.le_trans a.size b.size,fun k hk=>(b.own k (by have:=a.size;omega)).trans (a.own k hk),b.os.trans a.os,b.tape.trans a.tape,b.output.trans a.output,fun k hk hL hn=>?_,b.bs.trans a.bs,fun k hk=>?_,fun k hk=>b.u' k (a.u' k hk)⟩
 ·rw[b.same k (by have:=a.size;omega) hL (by rw[a.own k hk];exact hn),a.same k hk hL hn]
 ·rcases b.u k hk with h1|h1
  ·exact a.u k h1
  ·exact .inr (Nat.le_trans a.size h1)
theorem FrL.turn{L:Nat}{g:Gh}{h:qa}{V:World}{lq lr:Loop}(hV:V.heap[L]?=some (.loop lr))(hgo:g.own L=none)(hgu:¬g.U L):FrL L g h V g h (V.putObj L (.loop lq)) :=
 ⟨⟨fun b hb=>⟨hb,qaM hgo hgu b (.inl hb)⟩,fun i b hb=>⟨b,hb,Nat.le_refl _,fun _=>⟨rfl,rfl,rfl⟩⟩,j8 hV⟩,by simp,fun _ _=>rfl,rfl,rfl,⟨rfl,Nat.le_refl _⟩,fun b _ hb _=>World.putObj_heap_other hb,rfl,fun _ h=>.inl h,fun _ h=>h⟩
theorem Core.round(hm:P.follows .mixedOrders=true){live ps:List Nat}{vs xs:List T}{a':Act}{g0 g:Gh}{h0 hh h2:qa}{w W:World}{X:Nat->Prop}{l0:List Nat}{lp:Loop}{asg bod:Code}{s1 s2:St}{e:Ex}
 {t0:List Deferred} (hd:a'.defers=l0.map ZF++t0) (ht:∀D,ZF D∉t0) (hl:∀D∈l0,D<w.heap.size+1) (hlv:live.length=vs.length) (hpr:∀t∈live,t∉prom)
 (hlp:lp.state = .ready) (hpe:lp.pending=none) (htm:lp.tmps=a'.tmps) (hps:lp.params.toList=ps) (has:lp.assign=asg) (hbo:lp.body=bod) (hpn:∀t∈ps,t<nt)
 (ha:qf asg=false) (hb:qf bod=false)
 (g1:CodeGoes P Gl prom nt asg (qx (live++ps) (vs++xs) hh) .normal s1) (g2:CodeGoes P Gl prom nt bod s1 e s2)
 (hweak:WeakTo Gl prom nt live h0.length vs s2.h vs h2) (hr0:HR g0 h0 w)
 (h:Core P Gl prom nt live vs a' g0 h0 w hh lp X W g) {args:Array Value} (hx:j7 xs args) (hxl:ps.length=xs.length) :
 YieldAt (Ql none) 0 P (w.heap.size+1) args W fun e' W'=>RoundSteps g0.U X W W'/\e' = .returned (.bool (match e with|.normal=>true|_=>false)) ∧
  ∃g',Core P Gl prom nt live vs a' g0 h0 w h2 { lp with state:=e.st,pending:=e.code } X W' g':=by
 refine⟨_,_,_,_,run_yield h.lp ?_,roundIn_of_wpIn trivial ?_⟩
 ·have:=congrArg List.length hps;simp only[Array.length_toList] at this;rw[this,←hx.1];exact hxl.symm
 have hs0:SR Gl prom nt g (qx live vs hh) { a' with defers:=[] } W:=h.sr.world (Nat.le_refl _) (fun _ _=>rfl) (fun _ _ h=>h) (Marks.nil h.sr.defers.1);have hs1:=SR.slots ps xs args.toList hs0 hlv hxl (by simpa using hx.1) hpn (fun i x hi=>by
  obtain⟨v,q1,q2⟩:=hx.2 i x hi;exact⟨v,by simpa using q1,.imm _ _ (q2 _ _)⟩)
 have etm:(Array.foldl (fun (tmps:Array Value) (x:Tmp×Value)=>match x with|(t,a)=>tmps.setIfInBounds t a) lp.tmps (lp.params.zip args))=(ps.zip args.toList).foldl (fun t (p,v)=>t.setIfInBounds p v) a'.tmps:=by
  rw[←hps,htm,←Array.foldl_toList,Array.toList_zip]
 subst has;subst hbo;rw[etm];refine g1 (some (w.heap.size+1)) 0 (fun hh=>by rw[ha] at hh;cases hh) g _ W hs1 _ fun a1 W1 gg1 q1 f1 _=>?_;have hL:=Qy h.lp;have hL1:W1.heap[w.heap.size+1]?=some (.loop lp):=(f1.same _ hL h.own).trans h.lp;have o1:gg1.own (w.heap.size+1)=none:=(f1.own _ hL).trans h.own;have u1:¬gg1.U (w.heap.size+1):=fun hU=>by
  rcases f1.u _ hU with q|q
  ·exact h.u q
  ·omega
 refine⟨_,run_beginRound hL1 hlp,?_⟩;have q1':=q1.world (w':=W1.putObj (w.heap.size+1) (.loop { lp with state:=.busy })) (ds:=a1.defers) (by simp) (qaM o1 u1) (j8 hL1) (by
  obtain⟨p0,l,p1,p2,p3⟩:=q1.defers;refine⟨by simpa using p0,l,p1,p2,fun D hD=>?_⟩;obtain⟨r1,r2,r3,r4⟩:=p3 D hD;refine⟨r1,r2,r3,(World.putObj_heap_other ?_).trans r4⟩;rintro rfl;rw[hL1] at r4;cases r4)
 refine g2 (some (w.heap.size+1)) 0 (fun hh=>by rw[hb] at hh;cases hh) gg1 _ _ q1' _ fun a2 W2 gg2 q2 f2 _=>?_;have hL1s:=Qy hL1;have hL2:W2.heap[w.heap.size+1]?=some (.loop { lp with state:=.busy }):=(f2.same _ (by simpa using hL1s) o1).trans (World.putObj_heap_same hL1s);have hL2s:=Qy hL2;have o2:gg2.own (w.heap.size+1)=none:=(f2.own _ (by simpa using hL1s)).trans o1;have u2:¬gg2.U (w.heap.size+1):=fun hU=>by
  rcases f2.u _ hU with q|q
  ·exact u1 q
  ·simp at q;omega
 have fin:∀(W4:World),W4=W2.putObj (w.heap.size+1) (.loop { lp with state:=e.st,pending:=e.code })->RoundSteps g0.U X W W4/\∃g',Core P Gl prom nt live vs a' g0 h0 w h2 { lp with state:=e.st,pending:=e.code } X W4 g':=by
  rintro W4 rfl;have t1:FrL (w.heap.size+1) g hh W gg1 s1.h W1:=f1.toL _;have t2:FrL (w.heap.size+1) gg1 s1.h W1 gg1 s1.h (W1.putObj (w.heap.size+1) (.loop { lp with state:=.busy })):=FrL.turn hL1 o1 u1;have t3:FrL (w.heap.size+1) gg1 s1.h (W1.putObj (w.heap.size+1) (.loop { lp with state:=.busy })) gg2 s2.h W2:=f2.toL _;have t4:FrL (w.heap.size+1) gg2 s2.h W2 gg2 s2.h (W2.putObj (w.heap.size+1) (.loop { lp with state:=e.st,pending:=e.code })):=FrL.turn hL2 o2 u2;have f:=((t1.trans t2).trans t3).trans t4;have hfr:FrC g0 h0 w gg2 s2.h (W2.putObj (w.heap.size+1) (.loop { lp with state:=e.st,pending:=e.code })):=by
   refine⟨h.fr.keep.trans f.keep,Nat.le_trans h.fr.size f.size,fun b hb=>(f.own b (by have:=h.fr.size;omega)).trans (h.fr.own b hb),f.os.trans h.fr.os,f.tape.trans h.fr.tape,f.output.trans h.fr.output,fun b hb hn=>?_,f.bs.trans h.fr.bs,fun b hb=>?_,fun b hb=>f.u' b (h.fr.u' b hb)⟩
   ·rw[f.same b (by have:=h.fr.size;omega) (by omega) ((h.fr.own b hb).trans hn)];exact h.fr.same b hb hn
   ·rcases f.u b hb with q|q
    ·exact h.fr.u b q
    ·exact .inr (Nat.le_trans h.fr.size q)
  have q2':=q2.world (w':=W2.putObj (w.heap.size+1) (.loop { lp with state:=e.st,pending:=e.code })) (ds:=[]) (by simp) (qaM o2 u2) (j8 hL2) (Marks.nil (by simpa using q2.defers.1));have hsr:SR Gl prom nt gg2 (qx live vs s2.h) a' (W2.putObj (w.heap.size+1) (.loop { lp with state:=e.st,pending:=e.code })):=by
   refine⟨q2'.hr,?_,h.sr.size,h.sr.nt,fun t ht=>(h.sr.tmps t ht).keep f.keep,fun t ht cells hc=>?_,fun d t o hl=>(by cases hl),fun gl cells hg=>(h.sr.glob gl cells hg).keep f.keep.u,fun d t o hl=>(by cases hl)⟩
   ·obtain⟨p0,l,p1,p2,p3⟩:=h.sr.defers;refine⟨by rw[show gg2.low=g.low from congrArg (fun x=>x.2.1) f.bs];exact Nat.le_trans p0 f.size,l,p1.to f.bs,p2,fun D hD=>?_⟩;obtain⟨r1,r2,r3,r4⟩:=p3 D hD;have hDl:=Qy r4;refine⟨by rw[show gg2.low=g.low from congrArg (fun x=>x.2.1) f.bs];exact r1,(f.own D hDl).trans r2,fun hU=>?_,(f.same D hDl ?_ r2).trans r4⟩
    ·rcases f.u D hU with q|q
     ·exact r3 q
     ·omega
    ·rintro rfl;rw[h.lp] at r4;cases r4
   ·exfalso;have:∀(l:List Nat) (vs:List T) (e:Tr),t∉l->t<1024->Tr.get Qt (Zl l vs e) t=Tr.get Qt e t:=by
     intro l
     induction l with
     |nil=>intro vs e _ _;simp only[Zl]
     |cons i l ih =>
      intro vs e hm ht;cases vs with
      |nil=>simp only[Zl]
      |cons y vs =>
       simp only[List.mem_cons,not_or] at hm;simp only[Zl];rw[ih vs _ hm.2 ht];cases hi:Nat.blt i 1024 with
       |false=>rfl
       |true =>
        simp only[cond_true];have h1:Tr.get Qt (Tr.set Qt e i y) t=if t=i then y else Tr.get Qt e t:=Tr.get_set 10 e i t y (by have:=qU hi;omega) ht;rw[h1,if_neg hm.1]
    rcases Nat.lt_or_ge t 1024 with q|q
    ·rw[qdp q] at hc;simp only[qx] at hc;rw[this live vs .nil (fun hm=>hpr t hm ht) q] at hc;cases hc
    ·rw[Jy (by omega)] at hc;cases hc
  obtain⟨g3,w1,w2,w3⟩:=hweak gg2 a' _ g0 h0 w (Nat.le_refl _) hr0 hfr hsr;refine⟨⟨f.size,fun b hb=>?_,fun b ds hb=>?_,f.os,f.tape,f.output,f.keep.rm⟩,g3,w1,w2,(w3 _ o2).1,fun hU=>u2 ((w3 _ o2).2 hU),World.putObj_heap_same hL2s,fun b hb=>?_⟩
  ·rcases hb with hb|hb
   ·obtain⟨r1,r2,r3,r4⟩:=h.x b hb;exact f.same b r1 (by omega) r2
   ·exact(f.keep.u b (h.fr.u' b hb)).2
  ·refine f.same b (Qy hb) (by rintro rfl;rw[h.lp] at hb;cases hb) ?_;cases ho:g.own b with
   |none=>rfl
   |some o =>
    rcases h.sr.hr.cells b o ho with⟨arr,e,q⟩|⟨i,es,c,_,q⟩
    ·rw[hb] at q;cases q
    ·rw[hb] at q;cases q
  ·obtain⟨r1,r2,r3,r4⟩:=h.x b hb;have ob:gg2.own b=none:=(f.own b r1).trans r2;refine⟨Nat.lt_of_lt_of_le r1 f.size,(w3 b ob).1,fun hU=>?_,r4⟩;rcases f.u b ((w3 b ob).2 hU) with q|q
   ·exact r3 q
   ·omega
 cases e with
 |normal =>
  obtain⟨k1,k2⟩:=fin _ rfl;exact⟨_,_,run_endRound none hL2,k1,rfl,k2⟩
 |exit i =>
  obtain⟨k1,k2⟩:=fin _ rfl;exact⟨_,_,run_endRound (some (.exit i)) hL2,k1,rfl,k2⟩
 |ret =>
  obtain⟨k1,k2⟩:=fin _ rfl;exact⟨_,_,run_endRound (some .ret) hL2,k1,rfl,k2⟩
end
section
variable {P:Program} {Gl:Nat->Option (List T)} {prom:List Nat} {nt:Nat}
theorem qdA{n:Nat}{f:FuncId}{args:Array Value}{w:World}{R:Ending->World->Prop}(h:CallsIn (Ql none) 0 P f args w R):CallsIn (Ql none) n P f args w R:=callsIn_wide.2 (callsIn_wide.1 h)
theorem qcJ{f:FuncId}(h:∃fn,P.funcs[f]?=some fn/\fn.body.isNone=false/\(fn.name=="runtime.NumGoroutine")=false)(args:Array Value)(w:World):(callFunc f args).run P w = .ok (.enter f args) w:=by
 obtain⟨fn,h1,h2,h3⟩:=h
 have h3':¬fn.name = "runtime.NumGoroutine":=by simpa using h3
 have h2':¬fn.body=none:=by intro hh;rw[hh] at h2;cases h2
 simp[callFunc,h1,h2',h3']
theorem qer(hm:P.follows .mixedOrders=true){live ps:List Nat}{t:Nat}{vs:List T}{asg bod:Code}{psa:Array Nat}(hlv:live.length=vs.length)(hpr:∀t∈live,t∉prom)(htp:t∉prom)(hps:psa.toList=ps)(hpn:∀t∈ps,t<nt)
 (ha:qf asg=false) (hb:qf bod=false) {gf:FuncId} {caps:List T} (hci:caps.all Zg=true) {N:Nat} {xs:Nat->List T} (hseq:SeqTold P Gl gf caps N xs) (hxl:∀i,i<N->ps.length=(xs i).length)
 (st:Nat->qa) (hg:(qx live vs (st 0)).at t = .fn gf caps) {n:Nat} (hn:n<=N) {e1:Ex} {h1:qa}
 (round:∀i,i<n->∃s1 s2,CodeGoes P Gl prom nt asg (qx (live++ps) (vs++xs i) (st i)) .normal s1/\CodeGoes P Gl prom nt bod s1 .normal s2/\WeakTo Gl prom nt live (st 0).length vs s2.h vs (st (i+1)))
 (last:(n=N/\e1 = .normal/\h1=st N)∨(n<N/\e1≠.normal/\∃s1 s2,CodeGoes P Gl prom nt asg (qx (live++ps) (vs++xs n) (st n)) .normal s1/\CodeGoes P Gl prom nt bod s1 e1 s2/\WeakTo Gl prom nt live (st 0).length vs s2.h vs h1)) :
 CodeGoes P Gl prom nt (.rangeFunc (.tmp t) psa asg bod) (qx live vs (st 0)) e1 (qx live vs h1):=by
 intro ro nn hro g0 a w hs Q hQ;obtain rfl:=hro rfl;have hv:=hs.tmps t htp;rw[hg] at hv;obtain⟨lb,hev,hcl,hcc⟩:=hv.fn_inv;have hev':a.eval (.tmp t) = .func (.func gf) #[] lb:=hev;refine wpIn_rangeFunc fun fnm _=>?_;obtain⟨rec0,hrec⟩:∃rec0:Loop,rec0 = { state:=.ready,pending:=none,fn:=fnm,tmps:=a.tmps,params:=psa,assign:=asg,body:=bod,defers:=w.heap.size }:=⟨_,rfl⟩;obtain⟨W1,hW1⟩:∃W1,(w.alloc (.deferred (some []))).alloc (.loop rec0)=W1:=⟨_,rfl⟩;refine⟨w.heap.size+1,[ZF w.heap.size],W1,{ target:=.fn (.func gf) lb,args:=#[.func (.yield (w.heap.size+1)) #[] #[]] },W1,gf,
  #[.func (.yield (w.heap.size+1)) #[] #[]]++lb,W1,?_,?_,fun _ _=>trivial,?_,(fun hd=>by simp[Ql] at hd),?_⟩
 ·rw[←hW1,hrec];exact run_enterLoop_outer _ _ _ _ _
 ·simp only[Go.resolve,hev'];simp[go_sem]
 ·simp[invoke,go_sem,qcJ hseq.enters]
 have hsz:W1.heap.size=w.heap.size+2:=by rw[←hW1];simp
 have hold:∀b,b<w.heap.size->W1.heap[b]?=w.heap[b]?:=fun b hb=>by
  rw[←hW1];exact(RowKit.Below.heap_alloc _ _ _ (by simp;omega)).trans (RowKit.Below.heap_alloc _ _ _ hb)
 have hL:W1.heap[w.heap.size+1]?=some (.loop rec0):=by
  rw[←hW1];have:=World.alloc_heap_new (w.alloc (.deferred (some []))) (.loop rec0);rwa[World.size_alloc] at this
 have hD:W1.heap[w.heap.size]?=some (.deferred (some [])):=by
  rw[←hW1];exact(RowKit.Below.heap_alloc _ _ _ (by simp)).trans (World.alloc_heap_new w _)
 have hr0:HR g0 (st 0) w:=hs.hr;have hfr0:FrC g0 (st 0) w g0 (st 0) W1:=FrC.lays hr0 (by omega) hold (by rw[←hW1];rfl) (by rw[←hW1];rfl) (by rw[←hW1];exact⟨rfl,Nat.le_refl _⟩);obtain⟨hlow,l0,hl0,hnd,hmk⟩:=hs.defers;obtain⟨t0,hl0,ht0,hnm⟩:=hl0;have hnone:∀b,w.heap.size<=b->g0.own b=none:=fun b hb=>by
  cases ho:g0.own b with
  |none=>rfl
  |some o=>have:=(hr0.own b o ho).2;omega
 have hnU:∀b,w.heap.size<=b->¬g0.U b:=fun b hb hU=>by have:=(hr0.u b hU).1;omega
 have hdf:([ZF w.heap.size]++a.defers)=(w.heap.size::l0).map ZF++t0:=by rw[hl0];rfl
 have hm1:Marks g0 W1 ([ZF w.heap.size]++a.defers):=by
  refine⟨by omega,w.heap.size::l0,⟨t0,hdf,ht0,hnm⟩,List.nodup_cons.2 ⟨fun h=>by have:=Qy (hmk _ h).2.2.2;omega,hnd⟩,fun D hD'=>?_⟩;rcases List.mem_cons.1 hD' with rfl|hD'
  ·exact⟨hlow,hnone _ (Nat.le_refl _),hnU _ (Nat.le_refl _),hD⟩
  ·obtain⟨q1,q2,q3,q4⟩:=hmk D hD';exact⟨q1,q2,q3,(hold D (Qy q4)).trans q4⟩
 have hsr1:=hs.world (w':=W1) (ds:=[ZF w.heap.size]++a.defers) (by omega) (fun b hb=>hold b (by
  rcases hb with hb|hb
  ·exact(hr0.u b hb).1
  ·cases ho:g0.own b with
   |none=>exact absurd ho hb
   |some o=>exact(hr0.own b o ho).2)) hfr0.keep.rm hm1
 have hlD:∀D∈(w.heap.size::l0),D<w.heap.size+1:=fun D hD'=>by
  rcases List.mem_cons.1 hD' with rfl|hD'
  ·omega
  ·have:=Qy (hmk D hD').2.2.2;omega
 let J:Nat->(Nat->Prop)->World->Prop:=fun i X W=>i<=n/\∃g,Core P Gl prom nt live vs { a with defers:=[ZF w.heap.size]++a.defers } g0 (st 0) w (st i) rec0 X W g
 let Jx:Nat->(Nat->Prop)->World->Prop:=fun i X W=>e1≠.normal/\∃g,Core P Gl prom nt live vs { a with defers:=[ZF w.heap.size]++a.defers } g0 (st 0) w h1 { rec0 with state:=e1.st,pending:=e1.code } X W g
 have hJ:qcI J:=fun i X W X' W' ⟨h1,g,hc⟩ hst=>⟨h1,g,hc.step hdf hnm (fun D hD'=>by have:=hlD D hD';omega) hst⟩;have hJx:qcI Jx:=fun i X W X' W' ⟨h1,g,hc⟩ hst=>⟨h1,g,hc.step hdf hnm (fun D hD'=>by have:=hlD D hD';omega) hst⟩;have hit:=hseq.it w g0.U lb (fun b hb=>(hr0.u b hb).1) hs.glob ⟨hcl,fun i x hi=>by
  obtain⟨v,q1,q2⟩:=hcc i x hi;exact⟨v,q1,kI (List.all_eq_true.1 hci x (List.mem_of_getElem? hi)) q2⟩⟩ (w.heap.size+1) J Jx hJ hJx (fun i X W args hi hj hx=>?_) W1 (by omega) (fun b hb=>hold b (hr0.u b hb).1)
  ⟨Nat.zero_le _,g0,hsr1,hfr0,hnone _ (by omega),hnU _ (by omega),hL,fun b hb=>hb.elim⟩
 ·refine qdA (hit.mono ?_);rintro e W ⟨⟨v,rfl⟩,⟨X,hin,g,hc⟩|⟨i,X,hi,hne,g,hc⟩⟩
  ·obtain rfl:n=N:=by omega
   rcases last with⟨_,rfl,rfl⟩|⟨hlt,_⟩
   ·have hc':=hc.turn (lp':={ rec0 with state:=.exhausted }) hdf hnm (fun D hD'=>by have:=hlD D hD';omega);refine⟨none,_,?_,hQ _ _ g hc'.sr hc'.fr fun h=>by cases h⟩;have:=run_endLoop (P:=P) hc.lp (by rw[hrec];simp);rw[this,hrec]
   ·omega
  ·have hc':=hc.turn (lp':={ rec0 with state:=.exhausted,pending:=e1.code }) hdf hnm (fun D hD'=>by have:=hlD D hD';omega);have hend:=run_endLoop (P:=P) hc.lp (by cases e1<;>simp[Ex.st]);cases e1 with
   |normal=>exact absurd rfl hne
   |exit id=>exact⟨_,_,hend,wpIn_exit (hQ _ _ g hc'.sr hc'.fr fun h=>by cases h)⟩
   |ret=>exact⟨_,_,hend,wpIn_ret (hQ _ _ g hc'.sr hc'.fr fun h=>by cases h)⟩
 ·obtain⟨hin,g,hc⟩:=hj;rcases Nat.lt_or_ge i n with hlt|hge
  ·obtain⟨s1,s2,k1,k2,k3⟩:=round i hlt;obtain⟨fn',tm',as',bo',y1,y2⟩:=hc.round hm hdf hnm hlD hlv hpr (by rw[hrec]) (by rw[hrec]) (by rw[hrec]) (by rw[hrec];exact hps) (by rw[hrec]) (by rw[hrec]) hpn ha hb k1 k2 k3 hr0 hx (hxl i hi);refine⟨fn',tm',as',bo',y1,y2.mono fun e W' ⟨r1,r2,g',r3⟩=>⟨r1,.inl ⟨r2,by omega,g',?_⟩⟩⟩;rw[hrec] at r3 ⊢;exact r3
  ·obtain rfl:i=n:=by omega
   rcases last with⟨h2,_⟩|⟨_,hne,s1,s2,k1,k2,k3⟩
   ·omega
   ·obtain⟨fn',tm',as',bo',y1,y2⟩:=hc.round hm hdf hnm hlD hlv hpr (by rw[hrec]) (by rw[hrec]) (by rw[hrec]) (by rw[hrec];exact hps) (by rw[hrec]) (by rw[hrec]) hpn ha hb k1 k2 k3 hr0 hx (hxl i hi);refine⟨fn',tm',as',bo',y1,y2.mono fun e W' ⟨r1,r2,g',r3⟩=>⟨r1,.inr ⟨?_,hne,g',r3⟩⟩⟩;rw[r2];cases e1 with
    |normal=>exact absurd rfl hne
    |exit id=>rfl
    |ret=>rfl
end
section
variable {P:Program} {Gl:Nat->Option (List T)}
end
def qes:T->Bool
 |.agg l=>l.all qw
 |x=>qw x
section
variable {P:Program} {Gl:Nat->Option (List T)} {K:Orc} {prom:List Nat} {nt:Nat}
theorem VR.yld{w:World}{U:Nat->Prop}{φ:Nat->Option (Nat×Nat)}{h:qa}{l:Nat}{v:Value}(hx:Ab.VR w U φ h (.yld l) v):v = .func (.yield l) #[] #[]:=by cases hx with|imm _ _ hv=>cases hv;rfl
theorem jD{g:Gh}{h:qa}{w:World}{x:T}{v:Value}(hp:qw x=true)(hx:g.VR h w x v):qf4 x v:=fun w' U=>by
 cases x with
 |undef=>exact .undef v
 |bool b=>rw[hx.bool];exact .bool b
 |int k n=>rw[hx.int];exact .int k n
 |str s=>obtain⟨b,rfl,hb⟩:=hx.str;exact .str s b hb
 |_=>cases hp
theorem qcK{g:Gh}{h:qa}{w:World}{x:T}{v:Value}(hp:qes x=true)(hx:g.VR h w x v):qf4 x v:=by
 cases x with
 |agg l =>
  obtain⟨cs,rfl,hl,h1,hc⟩:=hx.agg_inv;intro w' U;refine VI.mk_agg hl h1 (fun i c hi=>?_);obtain⟨u,hu,hr⟩:=hc i c hi;exact⟨u,hu,jD (List.all_eq_true.1 hp c (List.mem_of_getElem? hi)) hr w' U⟩
 |_=>exact jD hp hx
structure It(Gl:Nat->Option (List T))(prom:List Nat)(nt:Nat)(R:Nat->Prop)(J:(Nat->Prop)->World->Prop)(X:Nat->Prop)(g:Gh)(s:St)(a:Act)(W:World):Prop where
 sr:SR Gl prom nt g s a W
 own:∀b,g.own b≠none->X b
 u:∀b,g.U b->X b∨R b
 lt:∀b,X b->b<W.heap.size
 j:J X W
 nd:a.defers=[]
def qaN(J:(Nat->Prop)->World->Prop):Prop:=∀X W X' W',J X W->ItSteps X W X' W'->J X' W'
theorem It.frc{R:Nat->Prop}{J:(Nat->Prop)->World->Prop}{X:Nat->Prop}{g g':Gh}{s s':St}{a a':Act}{W W':World}(hJ:qaN J)(h:It Gl prom nt R J X g s a W)(hs:SR Gl prom nt g' s' a' W')(hf:FrC g s.h W g' s'.h W')(hd:a'.defers=a.defers) :
 It Gl prom nt R J (fun b=>X b∨(W.heap.size<=b/\b<W'.heap.size)) g' s' a' W':=by
 refine⟨hs,fun b hb=>?_,fun b hb=>?_,fun b hb=>?_,hJ X W _ W' h.j ⟨hf.size,fun b hb hX=>hf.same b hb ?_,fun b hb=>.inl hb,fun b hb=>?_,fun b hb=>?_,hf.os,hf.tape,hf.output,hf.keep.rm⟩,hd.trans h.nd⟩
 ·rcases Nat.lt_or_ge b W.heap.size with q|q
  ·rw[hf.own b q] at hb;exact .inl (h.own b hb)
  ·cases ho:g'.own b with
   |none=>exact absurd ho hb
   |some o=>exact .inr ⟨q,(hs.hr.own b o ho).2⟩
 ·rcases hf.u b hb with q|q
  ·rcases h.u b q with q|q
   ·exact .inl (.inl q)
   ·exact .inr q
  ·exact .inl (.inr ⟨q,(hs.hr.u b hb).1⟩)
 ·rcases hb with q|q
  ·exact Nat.lt_of_lt_of_le (h.lt b q) hf.size
  ·exact q.2
 ·cases ho:g.own b with
  |none=>rfl
  |some o=>exact absurd (h.own b (by rw[ho];simp)) hX
 ·rcases hb with q|q
  ·exact .inl q
  ·exact .inr q.1
 ·rcases hb with q|q
  ·exact Nat.lt_of_lt_of_le (h.lt b q) hf.size
  ·exact q.2
theorem It.code{R:Nat->Prop}{J:(Nat->Prop)->World->Prop}{X:Nat->Prop}{g:Gh}{s s':St}{a:Act}{W:World}{c:Code}{e:Ex}{n:Nat}{Q:Exit->Act->World->Prop}(hJ:qaN J)(h:It Gl prom nt R J X g s a W)(hg:CodeGoes P Gl prom nt c s e s')(hrg:qf c=false)
 (hQ:∀X' g' a' W',It Gl prom nt R J X' g' s' a' W'->Q e.out a' W'):c.wpIn (Ql none) n P Q a W :=
 hg none n (fun _=>rfl) g a W h.sr Q fun a' W' g' hs' hf' hd'=>hQ _ g' a' W' (h.frc hJ hs' hf' (hd' hrg))
theorem RunIs.goes2(hK:OrcOk P Gl K){ops:Array Oper}{l l2:List Oper}{s s':St}{fps:List FP}(h:RunIs P K Gl prom nt ops.toList l s s' fps):∀{g:Gh} {a:Act} {w:World},SR Gl prom nt g s a w →
 ∀(ro:Option Nat) (n:Nat) (Q:Exit->Act->World->Prop),(∀a' w' g',SR Gl prom nt g' s' a' w'->FrC g s.h w g' s'.h w'->a'.defers=a.defers->wpListIn (Ql ro) n P ops Q l2 a' w')->wpListIn (Ql ro) n P ops Q (l++l2) a w:=by
 induction h with
 |nil s=>exact fun hs ro n Q hn=>hn _ _ _ hs (FrC.refl _ _ _) rfl
 |cons h1 h2 ih =>
  intro g a w hs ro n Q hn;rw[List.cons_append];unfold wpListIn;have:=h1.goes hK hs ro n (wpListIn (Ql ro) n P ops Q _) Q (fun a' w' g' hs' hf' hd'=>ih hs' ro n Q fun a2 w2 g2 hs2 hf2 hd2=>hn a2 w2 g2 hs2 (hf'.trans hf2) (hd2.trans hd'));split at this
  ·rename_i hw;rw[if_pos hw];exact this
  ·rename_i hw;rw[if_neg hw];exact⟨fun _ _=>trivial,this⟩
theorem It.round{R:Nat->Prop}{J J':(Nat->Prop)->World->Prop}{X:Nat->Prop}{g:Gh}{s:St}{a:Act}{W W':World}{d:Nat}{b:Bool}(h:It Gl prom nt R J X g s a W)(hd:d<nt)(hu:s.used d=false)(hr:RoundSteps R X W W')(hj:J' X W') :
 It Gl prom nt R J' X g (s.lay d (.bool b) none) (a.put (some d) (.bool b)) W':=by
 have hsame:∀k,g.U k∨g.own k≠none->W'.heap[k]?=W.heap[k]?:=fun k hk=>hr.same k (by
  rcases hk with hk|hk
  ·exact h.u k hk
  ·exact .inl (h.own k hk))
 have hm:Marks g W' a.defers:=by
  obtain⟨m0,l,m1,m2,m3⟩:=h.sr.defers;refine⟨Nat.le_trans m0 hr.size,l,m1,m2,fun D hD=>?_⟩;obtain⟨q1,q2,q3,q4⟩:=m3 D hD;exact⟨q1,q2,q3,(hr.df D _ q4).trans q4⟩
 have hs:=h.sr.world (w':=W') (ds:=a.defers) hr.size hsame hr.rm hm;have:=hs.done (d:=d) hd (x:=.bool b) (h':=s.h) (v:=.bool b) (w':=W') (g':=g) hs.hr (.imm _ _ (.bool b)) (.refl _ _ _ _) (FrO.refl _ _ fun b o ho=>(hs.hr.own b o ho).2) (hp:=none) rfl hu;exact⟨this,h.own,h.u,fun k hk=>Nat.lt_of_lt_of_le (h.lt k hk) hr.size,hj,(QB _ _ _).trans h.nd⟩
theorem qdB{o:Oper}{a:Act}{ty l:Nat}{oargs:Array Operand}{ts:Array TypeId}{W:World}{args:Array Value}{x:Next}(ho:o.op = .call { callee:=.value (.tmp ty),args:=oargs,argTypes:=ts })(hty:a.eval (.tmp ty) = .func (.yield l) #[] #[])
 (hargs:oargs.map a.eval=args) (hy:(Instr.yield l args).run P W = .ok x W):(execOp a.eval o).run P W = .ok x W:=by
 unfold execOp;rw[ho];simp only[Sem.run_bind,Go.resolve,hty,Deferred.ofValue];simp[invoke,hargs,hy]
def jE(prom:List Nat)(ops:List Oper)(y:Oper)(s:St):Bool:=match y.guard with
 |none=>true
 |some (j,want)=>match zZ ops j with
  |some gd=>!(prom.contains gd)&&(match s.at gd with|.bool b=>(bif b then want else !want)|_=>false)
  |none=>false
theorem JR{ops:Array Oper}{y:Oper}{s:St}{g:Gh}{a:Act}{W:World}(h:jE prom ops.toList y s=true)(hs:SR Gl prom nt g s a W):Region.wanted y (yielded ops a.tmps)=true:=by
 unfold jE at h;cases hg:y.guard with
 |none=>simp[Region.wanted,hg]
 |some p =>
  obtain⟨j,want⟩:=p;rw[hg] at h;dsimp only at h;cases hgs:zZ ops.toList j with
  |none=>rw[hgs] at h;cases h
  |some gd =>
   rw[hgs] at h;simp only[Bool.and_eq_true,Bool.not_eq_true'] at h;obtain⟨hp,h⟩:=h;cases hat:s.at gd with
   |bool b =>
    rw[hat] at h;dsimp only at h;have hv:=hs.tmps gd (by simpa using hp);rw[hat] at hv;have hv:=hv.bool;have hy:yielded ops a.tmps j=some b:=by
     have hd:(ops[j]?).bind (·.dst)=some gd:=by
      unfold zZ at hgs;rw[Array.getElem?_toList] at hgs;cases ho:ops[j]? with
      |none=>rw[ho] at hgs;cases hgs
      |some o'=>rw[ho] at hgs;exact hgs
     unfold yielded;rw[hd];simp only[Option.bind_some];have hlt:gd<a.tmps.size:=by
      rcases Nat.lt_or_ge gd a.tmps.size with hq|hq
      ·exact hq
      ·rw[Array.getD_eq_getD_getElem?,Array.getElem?_eq_none hq] at hv;cases hv
     rw[Array.getD_eq_getD_getElem?,Array.getElem?_eq_getElem hlt] at hv;rw[Array.getElem?_eq_getElem hlt];simp only[Option.getD_some] at hv;rw[hv]
    have hw:Region.wanted y (yielded ops a.tmps)=(b==want):=by simp[Region.wanted,hg,hy]
    rw[hw,←qau b want];exact h
   |_=>rw[hat] at h;cases h
theorem It.region(hK:OrcOk P Gl K){R:Nat->Prop}{J J1 J2:(Nat->Prop)->World->Prop}{X:Nat->Prop}{g:Gh}{s s1:St}{sb:Bool->St}{a:Act}{W:World}{ops:Array Oper}{pre post:List Oper}{y:Oper}{id d ty l n:Nat}{oargs:Array Operand}{ts:Array TypeId}
 {fps:List FP} {fpb:Bool->List FP} {xs:List T} {Q:Exit->Act->World->Prop} (hJ:qaN J) (hJ1:qaN J1) (hJ2:qaN J2) (h:It Gl prom nt R J X g s a W)
 (hops:ops.toList=pre++y::post) (hy:y.op = .call { callee:=.value (.tmp ty),args:=oargs,argTypes:=ts }) (hd:y.dst=some d) (hgu:jE prom ops.toList y s1=true)
 (hpre:RunIs P K Gl prom nt ops.toList pre { s with loc:=fun _=>none,used:=fun _=>false } s1 fps) (hyl:s1.at ty = .yld l) (htp:ty∉prom) (hdn:d<nt) (hus:s1.used d=false)
 (hargs:oargs.toList.map (ev Gl prom s1)=xs) (hpl:xs.all qes=true)
 (hpost:∀b,RunIs P K Gl prom nt ops.toList post (s1.lay d (.bool b) none) (sb b) (fpb b))
 (hyield:∀X W args,J X W->j7 xs args->YieldAt (Ql none) 0 P l args W fun e W'=>RoundSteps R X W W'/\((e = .returned (.bool true)/\J1 X W')∨(e = .returned (.bool false)/\J2 X W')))
 (hQ1:∀X' g' a' W',It Gl prom nt R J1 X' g' (sb true) a' W'->Q .normal a' W') (hQ2:∀X' g' a' W',It Gl prom nt R J2 X' g' (sb false) a' W'->Q .normal a' W') :
 (Code.region id ops false).wpIn (Ql none) n P Q a W:=by
 refine wpIn_region_list ?_;rw[hops];have hs0:=h.sr.bare s.env (fun t=>.inl rfl);refine hpre.goes2 hK hs0 none n Q fun a1 W1 g1 hs1 hf1 hd1=>?_;have h1:=h.frc (s':=s1) (g':=g1) hJ hs1 hf1 hd1;unfold wpListIn;rw[if_pos (JR hgu hs1)];refine⟨fun _ _=>trivial,?_⟩;have hty:a1.eval (.tmp ty) = .func (.yield l) #[] #[]:=by
  have:=hs1.tmps ty htp;rw[hyl] at this;exact this.yld
 have hpx:j7 xs (oargs.map a1.eval):=by
  refine⟨by rw[←hargs];simp,fun i x hi=>?_⟩;rw[←hargs] at hi;rw[List.getElem?_map,Option.map_eq_some_iff] at hi;obtain⟨o0,q1,rfl⟩:=hi;rw[Array.getElem?_toList] at q1;refine⟨a1.eval o0,by simp[q1],qcK ?_ (hs1.ev o0)⟩;exact List.all_eq_true.1 hpl _ (by rw[←hargs];exact List.mem_map_of_mem (List.mem_of_getElem? (by rw[Array.getElem?_toList];exact q1)))
 obtain⟨fn,tm,as,bo,y1,y2⟩:=hyield _ W1 _ h1.j hpx;rw[ZU (qdB hy hty rfl y1) (by simp),Oper.uponIn_round];refine⟨(fun hh=>by simp[Ql] at hh),?_⟩;have y3:RoundIn (Ql none) (n-1) P l fn tm as bo W1 _:=⟨y2.1,fun c cs _=>y2.2 c cs (fun _ hh=>by simp[Ql] at hh)⟩;refine y3.mono ?_;rintro e W2 ⟨r1,⟨rfl,r2⟩|⟨rfl,r2⟩⟩
 ·have h2:=h1.round hdn hus r1 r2 (b:=true);rw[hd];have:=(hpost true).goes2 (l2:=[]) hK h2.sr none n Q fun a3 W3 g3 hs3 hf3 hd3=>hQ1 _ g3 a3 W3 (h2.frc hJ1 hs3 hf3 hd3);simpa using this
 ·have h2:=h1.round hdn hus r1 r2 (b:=false);rw[hd];have:=(hpost false).goes2 (l2:=[]) hK h2.sr none n Q fun a3 W3 g3 hs3 hf3 hd3=>hQ2 _ g3 a3 W3 (h2.frc hJ2 hs3 hf3 hd3);simpa using this
end
section
variable (P:Program) (K:Orc) (G:Nat->Option (List T)) (prom:List Nat) (nt:Nat)
def qhc(m:Nat)(c:Code)(l:List Nat)(vs:List T)(h:qa)(l':List Nat):Option (Ex×List T×qa) :=
 exK P K G prom nt (fun _ _=>[]) (yq P K G prom nt (fun _ _=>[]) m) c (qx l vs h) fun e s=>some (e,zS s l',s.h)
def qf5(ops:Array Oper)(k:Nat)(l:List Nat)(vs:List T)(h:qa)(l':List Nat):Option (Nat×List T×(List T×qa)×(List T×qa)) :=
 match ops.toList[k]? with
 |some y=>match y.op,y.dst with
  |.call { callee:=.value (.tmp ty),args:=oargs,.. },some d=>bif !(prom.contains ty)&&Nat.blt d nt then
   Zk P K G prom nt ops.toList (ops.toList.take k) (qx l vs h) fun s1 _=>match s1.at ty with
    |.yld n=>bif !(s1.used d)&&jE prom ops.toList y s1 then
     Zk P K G prom nt ops.toList (ops.toList.drop (k+1)) (s1.lay d (.bool true) none) fun sT _=>Zk P K G prom nt ops.toList (ops.toList.drop (k+1)) (s1.lay d (.bool false) none) fun sF _ =>
      some (n,oargs.toList.map (ev G prom s1),(zS sT l',sT.h),(zS sF l',sF.h))
     else none
    |_=>none
   else none
  |_,_=>none
 |none=>none
end
section
variable {P:Program} {Gl:Nat->Option (List T)} {K:Orc} {prom:List Nat} {nt:Nat}
theorem It.only{R:Nat->Prop}{J:(Nat->Prop)->World->Prop}{X:Nat->Prop}{g:Gh}{s:St}{a:Act}{W:World}(h:It Gl prom nt R J X g s a W)(l:List Nat):It Gl prom nt R J X g (qx l (zS s l) s.h) a W :=
 ⟨h.sr.only l,h.own,h.u,h.lt,h.j,h.nd⟩
theorem It.exk(hm:P.follows .mixedOrders=true)(hK:OrcOk P Gl K)(hnt:nt<=1024){m n:Nat}{c:Code}{l l':List Nat}{vs vs':List T}{h h':qa}{e:Ex}{R:Nat->Prop}{J:(Nat->Prop)->World->Prop}{X:Nat->Prop}{g:Gh}{a:Act}{W:World}{Q:Exit->Act->World->Prop}
 (hk:qhc P K Gl prom nt m c l vs h l'=some (e,vs',h')) (hrg:qf c=false) (hJ:qaN J) (hi:It Gl prom nt R J X g (qx l vs h) a W)
 (hQ:∀X' g' a' W',It Gl prom nt R J X' g' (qx l' vs' h') a' W'->Q e.out a' W'):c.wpIn (Ql none) n P Q a W:=by
 unfold qhc at hk;obtain⟨e1,s1,hk,hgo⟩:=Qh hm hK hnt ((yh hm hK hnt m).mono (S:=fun _=>True)) c (fun _ _=>trivial) hk;simp only[Option.some.injEq,Prod.mk.injEq] at hk;obtain⟨rfl,rfl,rfl⟩:=hk;exact hi.code hJ hgo hrg fun X' g' a' W' hi'=>hQ X' g' a' W' (hi'.only l')
theorem It.yield(hK:OrcOk P Gl K){k n id l0:Nat}{ops:Array Oper}{l l':List Nat}{vs vsT vsF xs:List T}{h hT hF:qa}{R:Nat->Prop}{J J1 J2:(Nat->Prop)->World->Prop}{X:Nat->Prop}{g:Gh}{a:Act}{W:World}{Q:Exit->Act->World->Prop}
 (hk:qf5 P K Gl prom nt ops k l vs h l'=some (l0,xs,(vsT,hT),(vsF,hF))) (hpl:xs.all qes=true) (hJ:qaN J) (hJ1:qaN J1) (hJ2:qaN J2) (hi:It Gl prom nt R J X g (qx l vs h) a W)
 (hyield:∀X W args,J X W->j7 xs args->YieldAt (Ql none) 0 P l0 args W fun e W'=>RoundSteps R X W W'/\((e = .returned (.bool true)/\J1 X W')∨(e = .returned (.bool false)/\J2 X W')))
 (hQ1:∀X' g' a' W',It Gl prom nt R J1 X' g' (qx l' vsT hT) a' W'->Q .normal a' W') (hQ2:∀X' g' a' W',It Gl prom nt R J2 X' g' (qx l' vsF hF) a' W'->Q .normal a' W') :
 (Code.region id ops false).wpIn (Ql none) n P Q a W:=by
 unfold qf5 at hk;split at hk
 ·rename_i y hy;split at hk
  ·rename_i ty oargs ts d hop hd;obtain⟨hc,hk⟩:=qc hk;simp only[Bool.and_eq_true,Bool.not_eq_true'] at hc;obtain⟨s1,fps,hk,hpre⟩:=ZX _ hk;split at hk
   ·rename_i n' hyl;obtain⟨hus,hk⟩:=qc hk;simp only[Bool.and_eq_true] at hus;obtain⟨hus,hgu⟩:=hus;obtain⟨sT,fT,hk,hpT⟩:=ZX _ hk;obtain⟨sF,fF,hk,hpF⟩:=ZX _ hk;simp only[Option.some.injEq,Prod.mk.injEq] at hk;obtain⟨rfl,rfl,⟨rfl,rfl⟩,rfl,rfl⟩:=hk;have hops:ops.toList=ops.toList.take k++y::ops.toList.drop (k+1):=by
     have hlt:k<ops.toList.length:=by
      rcases Nat.lt_or_ge k ops.toList.length with q|q
      ·exact q
      ·rw[List.getElem?_eq_none q] at hy;cases hy
     have hyk:ops.toList[k]=y:=by rw[List.getElem?_eq_getElem hlt] at hy;exact Option.some.inj hy
     rw[←hyk,List.getElem_cons_drop,List.take_append_drop]
    refine It.region hK hJ hJ1 hJ2 hi hops hop hd hgu (s1:=s1) (fps:=fps) (sb:=fun b=>bif b then sT else sF) (fpb:=fun b=>bif b then fT else fF) ?_ hyl (by simpa using hc.1) (qU hc.2) (by simpa using hus) rfl hpl ?_ hyield (fun X' g' a' W' q=>hQ1 X' g' a' W' (q.only l')) (fun X' g' a' W' q=>hQ2 X' g' a' W' (q.only l'))
    ·exact hpre
    ·intro b;cases b
     ·exact hpF
     ·exact hpT
   ·cases hk
  ·cases hk
 ·cases hk
def qhv(Gl:Nat->Option (List T))(prom:List Nat)(nt:Nat)(R:Nat->Prop)(J Jx:Nat->(Nat->Prop)->World->Prop)(N:Nat)(e:Exit)(a:Act)(W:World):Prop :=
 (e = .normal∨e = .ret)/\∃X g s,It Gl prom nt R (J N) X g s a W∨∃i,i<N/\It Gl prom nt R (Jx i) X g s a W
theorem qf6{gf:FuncId}{fn:Func}{c:Code}(hf:P.funcs[gf]?=some fn)(hb:fn.body=some c)(hnm:(fn.name=="runtime.NumGoroutine")=false)(hres:fn.results = #[])(hnt:fn.ntmps<=1024){caps:List T}(hle:caps.length+1<=fn.ntmps){N:Nat}{xs:Nat->List T}
 (h:∀(l:Nat) (R:Nat->Prop) (J Jx:Nat->(Nat->Prop)->World->Prop),(∀i,qaN (J i))->(∀i,qaN (Jx i)) →
  (∀i X W args,i<N->J i X W->j7 (xs i) args->YieldAt (Ql none) 0 P l args W fun e W'=>RoundSteps R X W W'/\((e = .returned (.bool true)/\J (i+1) X W')∨(e = .returned (.bool false)/\Jx i X W'))) →
  ∀X g a W,It Gl prom fn.ntmps R (J 0) X g (enter (.yld l::caps) []) a W->c.wpIn (Ql none) 0 P (qhv Gl prom fn.ntmps R J Jx N) a W):SeqTold P Gl gf caps N xs:=by
 refine⟨⟨fn,hf,by rw[hb];rfl,hnm⟩,fun w U lb hU hgl ha l J Jx hJ hJx hy W hsz hsame hj0=>?_⟩;refine callsIn_of_wp hf hb trivial (wpIn_mono (h l U J Jx (fun i X W X' W'=>hJ i X W X' W') (fun i X W X' W'=>hJx i X W X' W') hy (fun _=>False) { U:=U,φ:=fun _=>none,own:=fun _=>none,base:=W.heap.size,low:=W.heap.size } _ W ?_) ?_) rfl
 ·have hku:KeepU w U W U:=fun b hb=>⟨hb,hsame b hb⟩;refine⟨SR.enter (Nat.le_refl _) ⟨fun i b hb=>(by cases hb),fun b hb=>⟨Nat.lt_of_lt_of_le (hU b hb) hsz,rfl⟩,fun b o ho=>(by cases ho),Nat.le_refl _,fun b o ho=>(by cases ho),fun b i ho=>(by cases ho),fun i b m hb=>by simp at hb⟩ (fun gl cells hg=>(hgl gl cells hg).keep hku) ⟨by simp[ha.1];omega,fun i x hi=>?_⟩ hnt (by simpa using hle),fun b hb=>absurd rfl hb,fun b hb=>.inr hb,fun b hb=>hb.elim,hj0,rfl⟩;cases i with
  |zero =>
   simp at hi;subst hi;exact⟨.func (.yield l) #[] #[],by rw[Array.getElem?_append_left (by simp)];rfl,.imm _ _ (.yld l)⟩
  |succ i =>
   simp at hi;obtain⟨v,q1,q2⟩:=ha.2 i x hi;refine⟨v,?_,.imm _ _ (q2.keep hku)⟩;rw[Array.getElem?_append_right (by simp)];simpa using q1
 ·rintro e a' W' ⟨he,X,g,s,hit⟩;have key:bodyPost P fn (fun e W'=>(∃v,e = .returned v)/\((∃X,J N X W')∨(∃i X,i<N/\Jx i X W'))) .ret a' W':=by
   have hr:(results fn a'.tmps).run P W' = .ok (.tuple #[]) W':=by
    rw[qaG,hres];simp
   rcases hit with hit|⟨i,hi,hit⟩
   ·exact⟨hit.nd,_,hr,⟨_,rfl⟩,.inl ⟨X,hit.j⟩⟩
   ·exact⟨hit.nd,_,hr,⟨_,rfl⟩,.inr ⟨i,X,hi,hit.j⟩⟩
  rcases he with rfl|rfl
  ·exact key
  ·exact key
end
theorem SameBlks.refl(h:qa):SameBlks h h:=⟨rfl,fun i b b2 h1 h2=>by rw[h1] at h2;obtain rfl:=Option.some.inj h2;exact⟨rfl,rfl,rfl,rfl,.inl,fun _ _=>rfl⟩⟩
theorem SameBlks.nil:SameBlks [] []:=.refl []
theorem SameBlks.cons{b b2:Blk}{h h2:qa}(hb:b2.ver=b.ver/\b2.sz=b.sz/\b2.n=b.n/\(b2.flat=true->b.flat=true)/\∀j,j<b.n->b2.get j=b.get j)(hs:SameBlks h h2)(hm:b2.mp=b.mp:=by rfl):SameBlks (b::h) (b2::h2):=by
 refine⟨by simp[hs.1],fun i x y h1 h3=>?_⟩;cases i with
 |zero=>simp at h1 h3;subst h1;subst h3;exact⟨hm,hb.1,hb.2.1,hb.2.2.1,fun q=>.inl (hb.2.2.2.1 q),hb.2.2.2.2⟩
 |succ i=>exact hs.2 i x y (by simpa using h1) (by simpa using h3)
theorem LT.ite_some{c:Bool}{e e':Ex}{vs vs':List T}{h h':qa}(hk:(LT.ite c (.ret e vs h) .none).run (fun e vs h=>some (e,vs,h))=some (e',vs',h')):c=true/\e=e'/\vs=vs'/\h=h':=by
 simp only[LT.run] at hk;obtain⟨hc,hk⟩:=qc hk;simp only[Option.some.injEq,Prod.mk.injEq] at hk;exact⟨hc,hk.1,hk.2.1,hk.2.2⟩
section
variable {P:Program} {Gl:Nat->Option (List T)}
theorem WeakTo.takeM{prom:List Nat}{nt:Nat}{l:List Nat}{k m:Nat}{vs:List T}{h:qa}(hkm:k<=m)(ht:KI m vs h=true):WeakTo Gl prom nt l k vs h vs (h.take m) :=
 fun g _ _ _ _ _ hk hr0 hf hs=>⟨_,hs.take ht,hf.take hr0 (Nat.le_trans hk hkm),.cut g m⟩
def Rnd(P:Program)(Gl:Nat->Option (List T))(an:Ann)(f r:Nat)(vs:List T)(h:qa)(e:Ex)(vs':List T)(h':qa):Prop :=
 ∃(A:FuncId->Ann) (K:Orc) (m:Nat) (l:List (Nat×(List T->qa->LT))),OrcOk P Gl K/\(A f).prom=an.prom/\(A f).live r=an.live r/\(∀p∈l,LoopOk P Gl (A f) f p.1 p.2)/\qV P Gl A K m f l r vs h=some (e,vs',h')
theorem Rnd.of{an:Ann}{f r m:Nat}{vs vs':List T}{h h':qa}{e:Ex}(A:FuncId->Ann){K:Orc}(hK:OrcOk P Gl K)(hp:(A f).prom=an.prom)(hl:(A f).live r=an.live r)(hr:qV P Gl A K m f [] r vs h=some (e,vs',h')):Rnd P Gl an f r vs h e vs' h' :=
 ⟨A,K,m,[],hK,hp,hl,fun p hp=>(by cases hp),hr⟩
theorem qf7(hm:P.follows .mixedOrders=true){f r:Nat}(ha:kp P f r=true){an:Ann}{fn:Func}(hf:P.funcs[f]?=some fn)(hnt:fn.ntmps<=1024)(vs:Nat->List T)(hh:Nat->qa){n:Nat}{e1:Ex}{vs1:List T}{h1:qa}
 (round:∀i,i<n->∃vs' h',Rnd P Gl an f r (vs i) (hh i) .normal vs' h'/\WeakTo Gl an.prom fn.ntmps (an.live r false) (hh 0).length vs' h' (vs (i+1)) (hh (i+1)))
 (last:e1≠.normal/\∃vs' h',Rnd P Gl an f r (vs n) (hh n) e1 vs' h'/\WeakTo Gl an.prom fn.ntmps (an.live r true) (hh 0).length vs' h' vs1 h1) :
 CodeGoes P Gl an.prom fn.ntmps (zc (zp P f r)) (qx (an.live r false) (vs 0) (hh 0)) e1 (qx (an.live r true) vs1 h1):=by
 refine qeq hm ha (fun m v h=>∃i,i<=n/\m=n-i/\v=vs i/\h=hh i) hf hnt (fun m v h hI=>?_) (n:=n) ⟨0,by omega,by omega,rfl,rfl⟩;obtain⟨i,hi,rfl,rfl,rfl⟩:=hI;rcases Nat.lt_or_ge i n with hlt|hge
 ·obtain⟨vs',h',⟨A,K,m,l,q1,q2,q3,q4,q5⟩,hw⟩:=round i hlt;exact⟨A,K,m,l,q1,q2,q3,q4,.normal,vs',h',q5,.inl ⟨rfl,n-(i+1),_,_,by omega,hw,i+1,by omega,rfl,rfl,rfl⟩⟩
 ·obtain rfl:i=n:=by omega
  obtain⟨hne,vs',h',⟨A,K,m,l,q1,q2,q3,q4,q5⟩,hw⟩:=last;exact⟨A,K,m,l,q1,q2,q3,q4,e1,vs',h',q5,.inr ⟨hne,rfl,hw⟩⟩
noncomputable def zq(vs:List T)(h:qa)(vs0:List T)(h0:qa):Bool:=@decide (∀(Gl:Nat->Option (List T)) (prom:List Nat) (nt:Nat) (l:List Nat),WeakTo Gl prom nt l h.length vs h vs0 h0) (Classical.propDecidable _)
theorem j9{vs vs0:List T}{h h0:qa}:zq vs h vs0 h0=true↔∀(Gl:Nat->Option (List T)) (prom:List Nat) (nt:Nat) (l:List Nat),WeakTo Gl prom nt l h.length vs h vs0 h0:=by simp[zq]
theorem Qd{vs vs0:List T}{h h0:qa}(q:vs=vs0/\SameBlks h h0):zq vs h vs0 h0=true:=j9.2 fun Gl prom nt l=>by
 rw[q.1];exact WeakTo.same q.2
noncomputable def qZ(vs0:List T)(h0:qa)(e:Ex)(vs1:List T)(h1:qa):List T->qa->LT:=fun vs h=>.ite (zq vs h vs0 h0) (.ret e vs1 h1) .none
theorem LoopOk.lit{an:Ann}{f r:Nat}{vs0 vs1:List T}{h0 h1:qa}{e:Ex}
 (hg:∀fn,P.funcs[f]?=some fn->fn.ntmps<=1024->CodeGoes P Gl an.prom fn.ntmps (zc (zp P f r)) (qx (an.live r false) vs0 h0) e (qx (an.live r true) vs1 h1)):LoopOk P Gl an f r (qZ vs0 h0 e vs1 h1):=by
 intro fn hf hnt vs h e' vs' h' hk;unfold qZ at hk;obtain⟨hc,rfl,rfl,rfl⟩:=LT.ite_some hk;exact CodeGoes.weak (hg fn hf hnt) (j9.1 hc _ _ _ _)
theorem Qk{an:Ann}{f r:Nat}{s:List T->qa->LT}(h:LoopOk P Gl an f r s):∀p∈[(r,s)],LoopOk P Gl an f p.1 p.2:=fun p hp=>by
 simp only[List.mem_singleton] at hp;subst hp;exact h
theorem qcL{an:Ann}{f r:Nat}{s:List T->qa->LT}{l:List (Nat×(List T->qa->LT))}(h:LoopOk P Gl an f r s)(hl:∀p∈l,LoopOk P Gl an f p.1 p.2):∀p∈(r,s)::l,LoopOk P Gl an f p.1 p.2:=fun p hp=>by
 rcases List.mem_cons.1 hp with rfl|hp
 ·exact h
 ·exact hl p hp
end
section
variable {P:Program} {Gl:Nat->Option (List T)} {A:FuncId->Ann}
structure ToldRef(P:Program)(Gl:Nat->Option (List T))(f:FuncId)(args:List T)(h:qa)(r:T)(h':qa):Prop where
 enters:∃fn,P.funcs[f]?=some fn/\fn.body.isNone=false/\(fn.name=="runtime.NumGoroutine")=false
 calls:∀(g:Gh) (w:World) (cargs:Array Value),HR g h w->KB g->zE Gl w g.U->ArgsVR g h w args cargs →
  Calls P f cargs w fun e w'=>∃v,e = .returned v/\Res g h w r h' v w'
theorem ToldRef.same{f:FuncId}{args:List T}{h h0:qa}{r:T}{h':qa}(t:ToldRef P Gl f args h0 r h')(hs:SameBlks h h0):ToldRef P Gl f args h r h':=by
 refine⟨t.enters,fun g w cargs hr hno hgl ha=>?_⟩;have hk:=hs.keep w g.U g.φ;refine(t.calls g w cargs (hr.same hs) hno hgl ⟨ha.1,fun i x hi=>?_⟩).mono fun e w' ⟨v,he,g',q1,q2,q3,q4⟩=>⟨v,he,g',q1,q2,hk.trans q3,q4⟩;obtain⟨v,q1,q2⟩:=ha.2 i x hi;exact⟨v,q1,VR.keep hk q2⟩
inductive HTree where
 |none
 |ret (v:T) (h:qa)
 |ite (c:Bool) (x y:HTree)
def HTree.run{R:Type}:HTree->(T->qa->Option R)->Option R
 |.none,_=>Option.none
 |.ret v h,k=>k v h
 |.ite c x y,k=>bif c then x.run k else y.run k
theorem HTree.det:∀t:HTree,Det (A:=T×qa) fun R k=>t.run (R:=R) fun v h=>k (v,h)
 |.none=>qb
 |.ret v h=>qd (v,h)
 |.ite c x y=>qv c x.det y.det
def Orc.addRef(K:Orc)(f:FuncId)(spec:List T->qa->HTree):Orc where
 byRef e:=bif e==f then true else K.byRef e
 val:=K.val
 ref e args h R k:=bif e==f then(spec args h).run k else K.ref e args h R k
 valDet:=K.valDet
 refDet e args h:=qv _ (spec args h).det (K.refDet e args h)
 ro e:=bif e==f then false else K.ro e
theorem qdC{K':Orc}(hK':OrcOk P Gl K'){f:FuncId}{spec:List T->qa->HTree}(hs:∀args h r h',(spec args h).run (fun v h=>some (v,h))=some (r,h')->ToldRef P Gl f args h r h'):OrcOk P Gl (K'.addRef f spec):=by
 refine⟨fun e hx=>?_,hK'.val,fun e args h r h' hx g w cargs hr hno hgl ha=>?_,fun e ho args h r h' hx=>?_⟩
 ·rcases hx with hx|⟨args,h,⟨r,h'⟩,hx⟩
  ·exact hK'.enters e (.inl hx)
  ·simp only[Orc.addRef] at hx;rcases qk hx with⟨he,hy⟩|⟨_,hy⟩
   ·have he:e=f:=by simpa using he
    subst he;exact(hs args h r h' hy).enters
   ·exact hK'.enters e (.inr ⟨args,h,_,hy⟩)
 ·simp only[Orc.addRef] at hx;rcases qk hx with⟨he,hy⟩|⟨_,hy⟩
  ·have he:e=f:=by simpa using he
   subst he;exact(hs args h r h' hy).calls g w cargs hr hno hgl ha
  ·exact hK'.ref e args h r h' hy g w cargs hr hno hgl ha
 ·simp only[Orc.addRef] at ho hx;rcases qk hx with⟨he,hy⟩|⟨he,hy⟩
  ·rw[he] at ho;cases ho
  ·rw[he] at ho;exact hK'.ro e ho args h r h' hy
def Orc.inl(K:Orc)(P:Program)(Gl:Nat->Option (List T))(A:FuncId->Ann)(K0:Orc)(m:Nat)(f:FuncId):Orc where
 byRef e:=bif e==f then true else K.byRef e
 val:=K.val
 ref e args h R k:=bif e==f then kX P Gl A K0 (jP P Gl A K0 m f) f args h k else K.ref e args h R k
 valDet:=K.valDet
 refDet e args h:=qv _ (qaH (ZA P Gl A K0 m f) f args h) (K.refDet e args h)
 ro e:=bif e==f then false else K.ro e
end
theorem Q2{R:Type}{c:Bool}{x y r:R}(hc:¬c=true)(h1:y=r):(bif c then x else y)=r:=by cases c;exact h1;exact absurd rfl hc
theorem qiJ{a b:Nat}:((a==b)=true)=(a=b):=by simp
theorem qiK{a b:Nat}:(Nat.blt a b=true)=(a<b):=by simp[Nat.blt_eq]
theorem qiL{a b:Nat}:(Nat.ble a b=true)=(a<=b):=by simp[Nat.ble_eq]
theorem qW(n:Nat):Int.ofNat n=(n:Int):=rfl
theorem qhw(n:Nat):(n:Int).toNat=n:=rfl
theorem qgz(n:Nat):((n:Int)+1).toNat=n+1:=rfl
section
variable {P:Program} {Gl:Nat->Option (List T)}
def Step(P:Program)(Gl:Nat->Option (List T))(an:Ann)(f r k:Nat)(vs:List T)(h:qa)(vs':List T)(h':qa):Prop :=
 ∃v1 h1,Rnd P Gl an f r vs h .normal v1 h1/\∀nt,WeakTo Gl an.prom nt (an.live r false) k v1 h1 vs' h'
def Last(P:Program)(Gl:Nat->Option (List T))(an:Ann)(f r k:Nat)(vs:List T)(h:qa)(e:Ex)(vs':List T)(h':qa):Prop :=
 e≠.normal/\∃v1 h1,Rnd P Gl an f r vs h e v1 h1/\∀nt,WeakTo Gl an.prom nt (an.live r true) k v1 h1 vs' h'
theorem qeY{prom:List Nat}{nt:Nat}{l:List Nat}{k:Nat}{vs:List T}{h1 h':qa}(mm:Nat)(hk:k<=mm)(ht:KI mm vs h1=true)(hs:SameBlks (h1.take mm) h'):WeakTo Gl prom nt l k vs h1 vs h' :=
 .trans (.takeM hk ht) (.same hs)
theorem Step.mk{an:Ann}{A:FuncId->Ann}{K:Orc}{f r m k:Nat}{l:List (Nat×(List T->qa->LT))}{vs vs':List T}{h h1 h':qa}(hK:OrcOk P Gl K)(hp:(A f).prom=an.prom)(hl:(A f).live r=an.live r)(hL:∀p∈l,LoopOk P Gl (A f) f p.1 p.2)
 (mm:Nat) (hk:k<=mm) (hr:qV P Gl A K m f l r vs h=some (.normal,vs',h1)) (ht:KI mm vs' h1=true) (hs:SameBlks (h1.take mm) h'):Step P Gl an f r k vs h vs' h' :=
 ⟨vs',h1,⟨A,K,m,l,hK,hp,hl,hL,hr⟩,fun _=>qeY mm hk ht hs⟩
theorem Step.mk0{an:Ann}{A:FuncId->Ann}{K:Orc}{f r m k:Nat}{l:List (Nat×(List T->qa->LT))}{vs vs':List T}{h h1 h':qa}(hK:OrcOk P Gl K)(hp:(A f).prom=an.prom)(hl:(A f).live r=an.live r)(hL:∀p∈l,LoopOk P Gl (A f) f p.1 p.2)
 (hr:qV P Gl A K m f l r vs h=some (.normal,vs',h1)) (hs:SameBlks h1 h'):Step P Gl an f r k vs h vs' h' :=
 ⟨vs',h1,⟨A,K,m,l,hK,hp,hl,hL,hr⟩,fun _=>.same hs⟩
theorem Last.mk0{an:Ann}{A:FuncId->Ann}{K:Orc}{f r m k:Nat}{l:List (Nat×(List T->qa->LT))}{vs vs':List T}{h h1 h':qa}{e:Ex}(hK:OrcOk P Gl K)(hp:(A f).prom=an.prom)(hl:(A f).live r=an.live r)(hL:∀p∈l,LoopOk P Gl (A f) f p.1 p.2)
 (he:e≠.normal) (hr:qV P Gl A K m f l r vs h=some (e,vs',h1)) (hs:SameBlks h1 h'):Last P Gl an f r k vs h e vs' h' :=
 ⟨he,vs',h1,⟨A,K,m,l,hK,hp,hl,hL,hr⟩,fun _=>.same hs⟩
theorem Last.mk{an:Ann}{A:FuncId->Ann}{K:Orc}{f r m k:Nat}{l:List (Nat×(List T->qa->LT))}{vs vs':List T}{h h1 h':qa}{e:Ex}(hK:OrcOk P Gl K)(hp:(A f).prom=an.prom)(hl:(A f).live r=an.live r)(hL:∀p∈l,LoopOk P Gl (A f) f p.1 p.2)
 (he:e≠.normal) (mm:Nat) (hk:k<=mm) (hr:qV P Gl A K m f l r vs h=some (e,vs',h1)) (ht:KI mm vs' h1=true) (hs:SameBlks (h1.take mm) h'):Last P Gl an f r k vs h e vs' h' :=
 ⟨he,vs',h1,⟨A,K,m,l,hK,hp,hl,hL,hr⟩,fun _=>qeY mm hk ht hs⟩
theorem qE(hm:P.follows .mixedOrders=true){f r:Nat}(ha:kp P f r=true){an:Ann}(vs:Nat->List T)(hh:Nat->qa){n:Nat}{e1:Ex}{vs1:List T}{h1:qa}
 (round:∀i,i<n->Step P Gl an f r (hh 0).length (vs i) (hh i) (vs (i+1)) (hh (i+1))) (last:Last P Gl an f r (hh 0).length (vs n) (hh n) e1 vs1 h1):LoopOk P Gl an f r (qZ (vs 0) (hh 0) e1 vs1 h1) :=
 .lit fun fn hf hnt=>qf7 hm ha hf hnt vs hh (n:=n) (fun i hi=>by
  obtain⟨v1,h1,q1,q2⟩:=round i hi;exact⟨v1,h1,q1,q2 _⟩) (by
  obtain⟨he,v1,h1,q1,q2⟩:=last;exact⟨he,v1,h1,q1,q2 _⟩)
theorem qr{an:Ann}{f:Nat}:∀p∈([]:List (Nat×(List T->qa->LT))),LoopOk P Gl an f p.1 p.2:=fun p hp=>by cases hp
end
def zf:List Nat->Nat->Option Nat
 |[],_=>none
 |a::l,i=>bif a==i then some 0 else(zf l i).map (·+1)
theorem zT:∀{l:List Nat} {i j:Nat},zf l i=some j->l[j]?=some i
 |[],i,j,h=>by cases h
 |a::l,i,j,h=>by
  simp only[zf] at h;cases q:a==i with
  |true =>
   rw[q] at h;obtain rfl:0=j:=by simpa using h
   have:a=i:=by simpa using q
   rw[this];rfl
  |false =>
   rw[q] at h;simp only[cond_false,Option.map_eq_some_iff] at h;obtain⟨k,hk,rfl⟩:=h;rw[List.getElem?_cons_succ];exact zT hk
theorem qaO:∀{l:List Nat} {i:Nat},zf l i=none->i∉l
 |[],i,_=>by simp
 |a::l,i,h=>by
  simp only[zf] at h;cases q:a==i with
  |true=>rw[q] at h;cases h
  |false =>
   rw[q] at h;simp only[cond_false,Option.map_eq_none_iff] at h;have:a≠i:=by simpa using q
   simp only[List.mem_cons,not_or];exact⟨fun e=>this e.symm,qaO h⟩
theorem yB:∀{l:List Nat} {i j:Nat},Q9 l=true->l[j]?=some i->zf l i=some j
 |[],i,j,_,h=>by simp at h
 |a::l,i,j,hn,h=>by
  simp only[Q9,Bool.and_eq_true,Bool.not_eq_true'] at hn;cases j with
  |zero=>simp at h;subst h;simp[zf]
  |succ j =>
   have hj:l[j]?=some i:=by simpa using h
   have hne:a≠i:=fun e=>by
    have:=List.mem_of_getElem? hj;rw[←e] at this;have h2:l.contains a=true:=List.contains_iff_mem.2 this;rw[h2] at hn;cases hn.1
   simp only[zf,beq_eq_false_iff_ne.2 hne,cond_false,yB hn.2 hj];rfl
def QO(σ:List Nat)(h:qa)(x:T):T :=
 match x with
 |.own i ver off len cap=>match zf σ i with|some j=>.own j ver off len cap|none=>resolve 4 σ h x
 |.ptr i ver j o=>match zf σ i with|some i'=>.ptr i' ver j o|none=>resolve 4 σ h x
 |.mp i ver=>match zf σ i with|some j=>.mp j ver|none=>resolve 4 σ h (.mp i ver)
 |x=>bif imm x then x else resolve 4 σ h x
def ren(σ:List Nat)(h:qa)(x:T):T :=
 match x with
 |.agg l=>.agg (l.map (QO σ h))
 |.fn f caps=>.fn f (caps.map (QO σ h))
 |.reg l=>.reg (l.map (QO σ h))
 |x=>QO σ h x
def zi(σ:List Nat)(h:qa)(b:Blk):Blk:=bif b.flat then b else { b with get:=fun j=>(b.get j).map (QO σ h) }
def Ja(σ:List Nat)(h:qa):qa:=σ.filterMap fun i=>(h[i]?).map (zi σ h)
def yk(k:Nat)(σ:List Nat)(h:qa):Bool:=(List.range k).all (fun i=>match σ[i]? with|some j=>j==i|none=>false)&&Q9 σ&&σ.all fun i=>Nat.blt i h.length
theorem Kp{α β:Type}{f:α->Option β}:∀{l:List α},(∀a∈l,∃b,f a=some b)->(l.filterMap f).length=l.length/\∀i:Nat,(l.filterMap f)[i]?=(l[i]?).bind f
 |[],_=>⟨rfl,fun i=>by simp⟩
 |a::l,h=>by
  obtain⟨b,hb⟩:=h a (by simp);obtain⟨q1,q2⟩:=Kp (l:=l) fun a ha=>h a (by simp[ha]);rw[List.filterMap_cons_some hb];refine⟨by simp[q1],fun i=>?_⟩;cases i with
  |zero=>simp[hb]
  |succ i=>simpa using q2 i
def qaP:T->Bool
 |.reg _=>true
 |_=>false
theorem Zv(d:Nat)(ex:List Nat)(h:qa)(x:T):qaP (resolve (d+1) ex h x)=false:=by
 cases x with
 |own i ver off len cap =>
  simp only[resolve];cases ex.contains i with
  |true=>rfl
  |false =>
   cases h[i]? with
   |none=>rfl
   |some b=>cases hc:(b.mp.isNone&&(b.ver==ver&&Nat.ble (off+len) b.n))<;>simp only[cond_false,hc,cond_true]<;>rfl
 |ptr i ver j o =>
  simp only[resolve];cases ex.contains i with
  |true=>rfl
  |false =>
   cases h[i]? with
   |none=>rfl
   |some b=>cases hc:(b.mp.isNone&&(b.ver==ver&&Nat.blt j b.n))<;>simp only[cond_false,hc,cond_true]<;>rfl
 |agg l=>rfl
 |tup l=>rfl
 |fn f caps=>rfl
 |iface t v=>rfl
 |reg l=>rfl
 |_=>simp[resolve,qaP,Zg]
theorem qet{σ:List Nat}{h:qa}{x:T}(hx:qaP x=false):qaP (QO σ h x)=false:=by
 have oth:qaP (bif imm x then x else resolve 4 σ h x)=false:=by
  cases imm x with
  |true=>exact hx
  |false=>exact Zv 3 σ h x
 cases x with
 |own i ver off len cap=>simp only[QO];cases zf σ i with
  |none=>exact Zv 3 σ h _
  |some j=>rfl
 |ptr i ver j o=>simp only[QO];cases zf σ i with
  |none=>exact Zv 3 σ h _
  |some j=>rfl
 |mp i ver=>simp only[QO];cases zf σ i with
  |none=>exact Zv 3 σ h _
  |some j=>rfl
 |_=>exact oth
theorem qgA{σ:List Nat}{h:qa}{x:T}{cells:List T}(hx:ren σ h x = .reg cells):∃m,x = .reg m/\cells=m.map (QO σ h):=by
 have oth:qaP x=false->ren σ h x=QO σ h x->False:=fun h1 h2=>by
  have:=qet (σ:=σ) (h:=h) h1;rw[←h2,hx] at this;cases this
 cases x with
 |reg m=>simp only[ren,T.reg.injEq] at hx;exact⟨m,rfl,hx.symm⟩
 |agg l=>cases hx
 |fn f caps=>cases hx
 |_=>exact absurd (oth rfl rfl) id
section
variable {P:Program} {Gl:Nat->Option (List T)} {prom:List Nat} {nt:Nat}
theorem JF(f:T->T)(hf:f .undef = .undef)(l:List Nat)(vs:List T)(h h2:qa)(t:Nat):(qx l (vs.map f) h2).at t=f ((qx l vs h).at t):=by
 unfold St.at
 cases hb:Nat.blt t 1024 with
 |false=>simp[hf]
 |true =>
  simp only[cond_true];have key:∀(l:List Nat) (vs:List T) (e e2:Tr),(∀t,t<1024->Tr.get Qt e2 t=f (Tr.get Qt e t))->∀t,t<1024->Tr.get Qt (Zl l (vs.map f) e2) t=f (Tr.get Qt (Zl l vs e) t):=by
   intro l
   induction l with
   |nil=>intro vs e e2 he;simpa only[Zl] using he
   |cons i l ih =>
    intro vs e e2 he;cases vs with
    |nil=>simpa only[Zl,List.map_nil] using he
    |cons x vs =>
     simp only[List.map_cons,Zl];refine ih vs _ _ (fun t ht=>?_);cases hi:Nat.blt i 1024 with
     |false=>exact he t ht
     |true =>
      simp only[cond_true];have h1:Tr.get Qt (Tr.set Qt e i x) t=if t=i then x else Tr.get Qt e t:=Tr.get_set 10 e i t x (by have:=qU hi;omega) ht;have h2:Tr.get Qt (Tr.set Qt e2 i (f x)) t=if t=i then f x else Tr.get Qt e2 t:=Tr.get_set 10 e2 i t (f x) (by have:=qU hi;omega) ht;rw[h1,h2];by_cases q:t=i
      ·rw[if_pos q,if_pos q]
      ·rw[if_neg q,if_neg q];exact he t ht
  exact key l vs .nil .nil (fun t _=>by show T.undef=f .undef;rw[hf]) t (qU hb)
theorem WeakTo.canon{l:List Nat}{k:Nat}{vs:List T}{h:qa}(σ:List Nat)(ho:yk k σ h=true):WeakTo Gl prom nt l k vs h (vs.map (ren σ h)) (Ja σ h):=by
 simp only[yk,Bool.and_eq_true] at ho;obtain⟨⟨hpre,hnd⟩,hlt⟩:=ho;have hpre:∀i,i<k->σ[i]?=some i:=by
  intro i hi;have:=List.all_eq_true.1 hpre i (List.mem_range.2 hi);cases hs:σ[i]? with
  |none=>rw[hs] at this;cases this
  |some j=>rw[hs] at this;rw[show j=i by simpa using this]
 have hlt:∀i,i∈σ->i<h.length:=fun i hi=>qU (List.all_eq_true.1 hlt i hi);intro g a w g0 h0 w0 hk hr0 hf hs;have hr:=hs.hr;simp only[qx] at hr;obtain⟨hHl,hHg⟩:=Kp (l:=σ) (f:=fun i=>(h[i]?).map (zi σ h)) fun i hi=>⟨_,by rw[List.getElem?_eq_getElem (hlt i hi)];rfl⟩;have hHget:∀(j i:Nat) (b:Blk),σ[j]?=some i->h[i]?=some b->(Ja σ h)[j]?=some (zi σ h b):=fun j i b h1 h2=>by
  show(σ.filterMap _)[j]?=_;rw[hHg,h1];simp[h2]
 have hHback:∀(j:Nat) (b2:Blk),(Ja σ h)[j]?=some b2->∃(i:Nat) (b:Blk),σ[j]?=some i/\h[i]?=some b/\b2=zi σ h b:=by
  intro j b2 hb;have hb:(σ.filterMap fun i=>(h[i]?).map (zi σ h))[j]?=some b2:=hb;rw[hHg] at hb;obtain⟨i,h1,h2⟩:=Option.bind_eq_some_iff.1 hb;obtain⟨b,h3,h4⟩:=Option.map_eq_some_iff.1 h2;exact⟨i,b,h1,h3,h4.symm⟩
 have hnew:∀cb i,g.own cb=some (.inl i)->k<=i->w0.heap.size<=cb:=by
  intro cb i ho hi;rcases Nat.lt_or_ge cb w0.heap.size with q|q
  ·rw[hf.own cb q] at ho;have:=hr0.lt cb i ho;omega
  ·exact q
 have hdrop:∀i,zf σ i=none->k<=i:=fun i hi=>by
  rcases Nat.lt_or_ge i k with q|q
  ·exact absurd (List.mem_of_getElem? (hpre i q)) (qaO hi)
  ·exact q
 let fr:Nat->Prop:=fun cb=>∃i,i∉σ/\g.own cb=some (.inl i)/\∃(b:Blk) (sh:Nat),h[i]?=some b/\g.φ i=some (cb,sh)
 let g2:Gh:={ g with
  U:=fun b=>g.U b∨fr b
  φ:=fun j=>(σ[j]?).bind g.φ
  own:=fun b=>match g.own b with|some (.inl i)=>(zf σ i).map .inl|o=>o }
 have hown2:∀b i,g.own b=some (.inl i)->g2.own b=(zf σ i).map .inl:=fun b i hb=>by simp only[g2,hb]
 have hownN:∀b,g.own b=none->g2.own b=none:=fun b hb=>by simp only[g2,hb]
 have hownR:∀b t,g.own b=some (.inr t)->g2.own b=some (.inr t):=fun b t hb=>by simp only[g2,hb]
 have hU:∀b,g.U b->g2.U b:=fun b hb=>.inl hb;have hreads:Reads g h w σ g2.U:=⟨hU,fun i b cb sh hb hi hφ=>by
  exact .inr ⟨i,hi,hr.placed hb hφ,b,sh,hb,hφ⟩⟩
 have hkU:KeepU w g.U w g2.U:=fun b hb=>⟨hU b hb,rfl⟩;have hv0:∀x v,g.VR h w x v->g2.VR (Ja σ h) w (QO σ h x) v:=by
  intro x v hx;have other:QO σ h x=(bif imm x then x else resolve 4 σ h x)->g2.VR (Ja σ h) w (QO σ h x) v:=fun e=>by
   rw[e];cases hi:imm x with
   |true=>exact .imm _ _ ((ka hi hx).keep hkU)
   |false=>exact .imm _ _ (zo hr hreads 4 x v hx)
  cases x with
  |own i ver off len cap =>
   cases hp:zf σ i with
   |none =>
    have e:QO σ h (.own i ver off len cap)=resolve 4 σ h (.own i ver off len cap):=by simp only[QO,hp]
    rw[e];exact .imm _ _ (zo hr hreads 4 _ v hx)
   |some j =>
    have e:QO σ h (.own i ver off len cap) = .own j ver off len cap:=by simp only[QO,hp]
    rw[e];obtain⟨b,hb,hver,h1,hok⟩:=hx.own_inv;have hj:=zT hp;have hb2:(zi σ h b).ver=b.ver/\(zi σ h b).sz=b.sz/\(zi σ h b).n=b.n:=by unfold zi;cases b.flat<;>exact⟨rfl,rfl,rfl⟩
    refine .own _ _ _ _ _ (zi σ h b) _ (hHget j i b hj hb) (by rw[hb2.1];exact hver) h1 fun ev=>?_;rcases hok (by rw[←hb2.1];exact ev) with⟨cb,sh,c,ad,e1,e2,es,e2',e3,e4,e5,e6,e7⟩|⟨q1,q2,q3⟩
    rotate_left
    ·exact .inr ⟨by show(σ[j]?).bind g.φ=_;rw[hj];exact q1,by rw[hb2.2.2];exact q2,q3⟩
    exact .inl ⟨cb,sh,c,ad,by show(σ[j]?).bind g.φ=_;rw[hj];exact e1,e2,es,by rw[hb2.2.1];exact e2',e3,by rw[hb2.2.2];exact e4,by rw[hb2.2.2];exact e5,by rw[hb2.2.1];exact e6,by rw[hb2.2.2];exact e7⟩
  |ptr i ver jj o =>
   cases hp:zf σ i with
   |none =>
    have e:QO σ h (.ptr i ver jj o)=resolve 4 σ h (.ptr i ver jj o):=by simp only[QO,hp]
    rw[e];exact .imm _ _ (zo hr hreads 4 _ v hx)
   |some j =>
    have e:QO σ h (.ptr i ver jj o) = .ptr j ver jj o:=by simp only[QO,hp]
    rw[e];obtain⟨b,hb,hver,h1,hok⟩:=hx.ptr_inv;have hj:=zT hp;have hb2:(zi σ h b).ver=b.ver/\(zi σ h b).sz=b.sz/\(zi σ h b).n=b.n:=by unfold zi;cases b.flat<;>exact⟨rfl,rfl,rfl⟩
    refine .ptr _ _ _ _ (zi σ h b) _ (hHget j i b hj hb) (by rw[hb2.1];exact hver) h1 fun ev=>?_;obtain⟨cb,sh,e1,e2⟩:=hok (by rw[←hb2.1];exact ev);exact⟨cb,sh,by show(σ[j]?).bind g.φ=_;rw[hj];exact e1,by rw[hb2.2.1];exact e2⟩
  |mp i ver =>
   cases hp:zf σ i with
   |none =>
    have e:QO σ h (.mp i ver)=resolve 4 σ h (.mp i ver):=by simp only[QO,hp]
    rw[e];exact .imm _ _ (zo hr hreads 4 _ v hx)
   |some j =>
    have e:QO σ h (.mp i ver) = .mp j ver:=by simp only[QO,hp]
    rw[e];obtain⟨b,hb,hver,h1,hok⟩:=hx.mp_inv;have hj:=zT hp;have hb2:(zi σ h b).ver=b.ver:=by unfold zi;cases b.flat<;>rfl
    refine .mp _ _ (zi σ h b) _ (hHget j i b hj hb) (by rw[hb2];exact hver) h1 fun ev=>?_;obtain⟨cb,e1,e2⟩:=hok (by rw[←hb2];exact ev);exact⟨cb,by show(σ[j]?).bind g.φ=_;rw[hj];exact e1,e2⟩
  |_=>exact other rfl
 have hv:∀x v,g.VR h w x v->g2.VR (Ja σ h) w (ren σ h x) v:=by
  intro x v hx;cases x with
  |agg m =>
   obtain⟨cs,rfl,hl,h1,hc⟩:=hx.agg_inv;refine VR.mk_agg (by simpa using hl) h1 (fun i c hi=>?_);obtain⟨c0,h0,rfl⟩:=zB hi;obtain⟨u,hu,hr'⟩:=hc i c0 h0;exact⟨u,hu,hv0 _ _ hr'⟩
  |fn f m =>
   obtain⟨cs,rfl,hl,hc⟩:=hx.fn_inv;refine VR.mk_fn (by simpa using hl) (fun i c hi=>?_);obtain⟨c0,h0,rfl⟩:=zB hi;obtain⟨u,hu,hr'⟩:=hc i c0 h0;exact⟨u,hu,hv0 _ _ hr'⟩
  |reg m=>exact absurd hx VR.not_reg
  |_=>exact hv0 _ _ hx
 have hr2:HR g2 (Ja σ h) w:=by
  have hrm:∀b:Blk,(zi σ h b).mp=b.mp:=fun b=>by unfold zi;cases b.flat<;>rfl
  refine⟨fun j b2 hb2 hmp2=>?_,fun b hb=>?_,fun b o ho=>?_,hr.base,fun b o ho=>?_,fun b j ho=>?_,fun j b2 m hb2 hm=>?_⟩
  ·obtain⟨i,b,hj,hb,rfl⟩:=hHback j b2 hb2;have hmp:b.mp=none:=(hrm b).symm.trans hmp2;have hbb:(zi σ h b).sz=b.sz/\(zi σ h b).n=b.n/\(zi σ h b).flat=b.flat:=by unfold zi;cases hq:b.flat<;>simp[hq]
   rcases hr.blk0 i b hb hmp with⟨cb,sh,arr,e,hok⟩|⟨q1,q2⟩
   rotate_left
   ·exact .inr ⟨by show(σ[j]?).bind g.φ=_;rw[hj];exact q1,by rw[hbb.2.1];exact q2⟩
   refine .inl ⟨cb,sh,arr,e,by show(σ[j]?).bind g.φ=_;rw[hj];exact hok.φ,by rw[hown2 cb i hok.own,yB hnd hj];rfl,hok.heap,by rw[hbb.1,hbb.2.1];exact hok.room,fun q hq=>?_,fun q o c hq hc=>?_,fun hfl q hq c hc=>?_⟩
   ·rw[hbb.2.1] at hq;rw[hbb.1,←hok.len q hq];unfold zi;cases b.flat<;>simp
   ·rw[hbb.2.1] at hq;rw[hbb.1];cases hfl:b.flat with
    |true =>
     have:(zi σ h b).get q=b.get q:=by unfold zi;rw[hfl];rfl
     rw[this] at hc;obtain⟨v,h1,h2,h3⟩:=hok.cell q o c hq hc;exact⟨v,h1,h2,.imm _ _ (kK (hok.flat hfl q hq c (List.mem_of_getElem? hc)) h3)⟩
    |false =>
     have:(zi σ h b).get q=(b.get q).map (QO σ h):=by unfold zi;rw[hfl];rfl
     rw[this] at hc;obtain⟨c0,h0',rfl⟩:=zB hc;obtain⟨v,h1,h2,h3⟩:=hok.cell q o c0 hq h0';exact⟨v,h1,h2,hv0 _ _ h3⟩
   ·rw[hbb.2.2] at hfl;rw[hbb.2.1] at hq;have:(zi σ h b).get q=b.get q:=by unfold zi;rw[hfl];rfl
    rw[this] at hc;exact hok.flat hfl q hq c hc
  ·rcases hb with hb|⟨i,hi,ho,_⟩
   ·exact⟨(hr.u b hb).1,hownN b (hr.u b hb).2⟩
   ·refine⟨(hr.own b _ ho).2,?_⟩;rw[hown2 b i ho];cases hp:zf σ i with
    |none=>rfl
    |some j=>exact absurd (List.mem_of_getElem? (zT hp)) hi
  ·cases hob:g.own b with
   |none=>rw[hownN b hob] at ho;cases ho
   |some o'=>exact hr.own b o' hob
  ·cases hob:g.own b with
   |none=>rw[hownN b hob] at ho;cases ho
   |some o' =>
    rcases hr.cells b o' hob with q|⟨i,es,c,rfl,q⟩
    ·exact .inl q
    ·rw[hown2 b i hob] at ho;obtain⟨j',_,e⟩:=Option.map_eq_some_iff.1 ho;exact .inr ⟨j',es,c,e.symm,q⟩
  ·cases hob:g.own b with
   |none=>rw[hownN b hob] at ho;cases ho
   |some o' =>
    cases o' with
    |inr t=>rw[hownR b t hob] at ho;cases ho
    |inl i =>
     rw[hown2 b i hob] at ho;obtain⟨j',hj',e⟩:=Option.map_eq_some_iff.1 ho;obtain rfl:j'=j:=by simpa using e
     have hlj:(Ja σ h).length=σ.length:=hHl;rw[hlj];exact qC (zT hj')
  ·obtain⟨i,b,hj,hb,rfl⟩:=hHback j b2 hb2;obtain⟨cb,o1,o2,o3⟩:=hr.mp i b m hb ((hrm b).symm.trans hm);exact⟨cb,by show(σ[j]?).bind g.φ=_;rw[hj];exact o1,by rw[hown2 cb i o2,yB hnd hj];rfl,o3⟩
 refine⟨g2,⟨hr2,?_,hs.size,hs.nt,fun t ht=>?_,fun t ht cells hc=>?_,fun d t o hh=>(by cases hh),fun gl cells hg=>(hs.glob gl cells hg).keep hkU,fun d t o hh=>(by cases hh)⟩,?_,fun b hb=>⟨hownN b hb,fun hu=>?_⟩⟩
 ·obtain⟨m0,l0,m1,m2,m3⟩:=hs.defers;refine⟨m0,l0,m1,m2,fun D hD=>?_⟩;obtain⟨q1,q2,q3,q4⟩:=m3 D hD;refine⟨q1,hownN D q2,fun hu=>?_,q4⟩;rcases hu with hu|⟨i,_,ho,_⟩
  ·exact q3 hu
  ·rw[q2] at ho;cases ho
 ·rw[JF (ren σ h) rfl l vs h];exact hv _ _ (hs.tmps t ht)
 ·rw[JF (ren σ h) rfl l vs h] at hc;have hreg:=qgA hc;obtain⟨m,hx,rfl⟩:=hreg;obtain⟨cb,arr,e,hok⟩:=hs.regs t ht m hx;refine⟨cb,arr,e,hok.ptr,hownR cb t hok.own,hok.heap,by rw[List.length_map];exact hok.len,fun o c hc2=>?_⟩;obtain⟨c0,h0',rfl⟩:=zB hc2;obtain⟨u,h1,h2,h3⟩:=hok.cell o c0 h0';exact⟨u,h1,h2,hv0 _ _ h3⟩
 ·refine⟨⟨fun b hb=>⟨hU b (hf.keep.u b hb).1,(hf.keep.u b hb).2⟩,fun i b hb=>?_,hf.keep.rm⟩,hf.size,fun b hb=>?_,hf.os,hf.tape,hf.output,hf.same,hf.bs,fun b hb=>?_,fun b hb=>hU b (hf.u' b hb)⟩
  ·obtain⟨b',hb',q1,q2⟩:=hf.keep.blk i b hb;have hi:i<k:=Nat.lt_of_lt_of_le (qC hb) hk;have hbb:(zi σ h b').ver=b'.ver/\(zi σ h b').sz=b'.sz/\(zi σ h b').n=b'.n:=by unfold zi;cases b'.flat<;>exact⟨rfl,rfl,rfl⟩
   refine⟨zi σ h b',hHget i i b' (hpre i hi) hb',by rw[hbb.1];exact q1,fun ev=>?_⟩;rw[hbb.1] at ev;obtain⟨r1,r2,r3⟩:=q2 ev;exact⟨by rw[hbb.2.1];exact r1,by rw[hbb.2.2];exact r2,by show(σ[i]?).bind g.φ=_;rw[hpre i hi];exact r3⟩
  ·have:=hf.own b hb;cases hob:g.own b with
   |none=>rw[hownN b hob,←this,hob]
   |some o =>
    cases o with
    |inr t=>rw[hownR b t hob,←this,hob]
    |inl i =>
     have hlt0:i<k:=Nat.lt_of_lt_of_le (hr0.lt b i (by rw[←this];exact hob)) hk;rw[hown2 b i hob,yB hnd (hpre i hlt0),←this,hob];rfl
  ·rcases hb with hb|⟨i,hi,ho,_⟩
   ·exact hf.u b hb
   ·refine .inr (hnew b i ho (hdrop i ?_));cases hp:zf σ i with
    |none=>rfl
    |some j=>exact absurd (List.mem_of_getElem? (zT hp)) hi
 ·rcases hu with hu|⟨i,_,ho,_⟩
  ·exact hu
  ·rw[hb] at ho;cases ho
def SimI(x y:T):Prop:=x=y∨(imm x=true/\Sim x y/\qaP y=false)
theorem SimI.refl(x:T):SimI x x:=.inl rfl
theorem VR.simI{w:World}{U:Nat->Prop}{φ:Nat->Option (Nat×Nat)}{h:qa}{x y:T}{v:Value}(hs:SimI x y)(hx:VR w U φ h x v):VR w U φ h y v:=by
 rcases hs with rfl|⟨hi,hs,_⟩
 ·exact hx
 ·exact .imm _ _ (hs _ _ _ (ka (g:={ U:=U,φ:=φ,own:=fun _=>none,base:=0,low:=0 }) hi hx))
def SimL(l m:List T):Prop:=l.length=m.length/\∀(i:Nat) a b,l[i]?=some a->m[i]?=some b->SimI a b
theorem SimL.refl(l:List T):SimL l l:=⟨rfl,fun i a b h1 h2=>by rw[h1] at h2;obtain rfl:=Option.some.inj h2;exact .refl _⟩
theorem SimL.nil:SimL [] []:=.refl _
theorem SimL.cons{x y:T}{l m:List T}(h:SimI x y)(hl:SimL l m):SimL (x::l) (y::m):=by
 refine⟨by simp[hl.1],fun i a b h1 h2=>?_⟩;cases i with
 |zero=>simp at h1 h2;subst h1;subst h2;exact h
 |succ i=>exact hl.2 i a b (by simpa using h1) (by simpa using h2)
theorem SimL.get{l m:List T}(h:SimL l m){i:Nat}{b:T}(hb:m[i]?=some b):∃a,l[i]?=some a/\SimI a b:=by
 have hi:=qC hb;have ha:l[i]?=some (l[i]'(by rw[h.1];exact hi)):=List.getElem?_eq_getElem _;exact⟨_,ha,h.2 i _ _ ha hb⟩
def SimS(x y:T):Prop:=SimI x y∨(∃l m,x = .reg l/\y = .reg m/\SimL l m)∨∃l m,x = .agg l/\y = .agg m/\SimL l m
theorem SimS.refl(x:T):SimS x x:=.inl (.refl x)
theorem VR.simS{w:World}{U:Nat->Prop}{φ:Nat->Option (Nat×Nat)}{h:qa}{x y:T}{v:Value}(hs:SimS x y)(hx:VR w U φ h x v):VR w U φ h y v:=by
 rcases hs with hs|⟨l,m,rfl,rfl,hs⟩|⟨l,m,rfl,rfl,hs⟩
 ·exact hx.simI hs
 ·exact absurd hx VR.not_reg
 ·obtain⟨cs,rfl,hl,h1,hc⟩:=hx.agg_inv;refine VR.mk_agg (by rw[←hs.1];exact hl) h1 (fun i c hi=>?_);obtain⟨a,ha,hab⟩:=hs.get hi;obtain⟨u,hu,hur⟩:=hc i a ha;exact⟨u,hu,hur.simI hab⟩
theorem qdD{R:T->T->Prop}:∀(l:List Nat) (vs vs2:List T) (e e2:Tr),vs.length=vs2.length->(∀(i:Nat) x y,vs[i]?=some x->vs2[i]?=some y->R x y)->(∀t,t<1024->R (Tr.get Qt e t) (Tr.get Qt e2 t)) →
 ∀t,t<1024->R (Tr.get Qt (Zl l vs e) t) (Tr.get Qt (Zl l vs2 e2) t)
 |[],_,_,e,e2,_,_,he=>by simpa only[Zl] using he
 |i::l,[],[],e,e2,_,_,he=>by simpa only[Zl] using he
 |i::l,x::vs,y::vs2,e,e2,hl,hv,he=>by
  simp only[Zl];refine qdD l vs vs2 _ _ (by simpa using hl) (fun j x y a b=>hv (j+1) x y (by simpa using a) (by simpa using b)) (fun t ht=>?_);cases hi:Nat.blt i 1024 with
  |false=>exact he t ht
  |true =>
   simp only[cond_true];have h1:Tr.get Qt (Tr.set Qt e i x) t=if t=i then x else Tr.get Qt e t:=Tr.get_set 10 e i t x (by have:=qU hi;omega) ht;have h2:Tr.get Qt (Tr.set Qt e2 i y) t=if t=i then y else Tr.get Qt e2 t:=Tr.get_set 10 e2 i t y (by have:=qU hi;omega) ht;rw[h1,h2];by_cases q:t=i
   ·rw[if_pos q,if_pos q];exact hv 0 x y rfl rfl
   ·rw[if_neg q,if_neg q];exact he t ht
 |i::l,[],_::_,_,_,hl,_,_=>by simp at hl
 |i::l,x::vs,[],_,_,hl,_,_=>by simp at hl
theorem qfr{l:List Nat}{vs vs2:List T}(h h2:qa)(hl:vs.length=vs2.length)(hv:∀(i:Nat) x y,vs[i]?=some x->vs2[i]?=some y->SimS x y)(t:Nat):SimS ((qx l vs h).at t) ((qx l vs2 h2).at t):=by
 unfold St.at
 cases ht:Nat.blt t 1024 with
 |false=>exact .refl _
 |true =>
  simp only[cond_true];exact qdD l vs vs2 .nil .nil hl hv (fun _ _=>.refl _) t (qU ht)
def SimBlks(h h2:qa):Prop:=h2.length=h.length/\∀(i:Nat) b b2,h[i]?=some b->h2[i]?=some b2->b2.mp=b.mp/\b2.ver=b.ver/\b2.sz=b.sz/\b2.n=b.n/\(b2.flat=true->b.flat=true∨∀j,j<b.n->(b.get j).all qw=true)/\(∀j,j<b.n->SimL (b.get j) (b2.get j))/\(b2.flat=true->∀j,j<b.n->b2.get j=b.get j)
theorem SimBlks.nil:SimBlks [] []:=⟨rfl,fun i b b2 h=>by simp at h⟩
theorem SimBlks.cons{b b2:Blk}{h h2:qa}(h1:b2.ver=b.ver/\b2.sz=b.sz/\b2.n=b.n)(hf:b2.flat=true->b.flat=true/\∀j,j<b.n->b2.get j=b.get j)(hb:∀j,j<b.n->SimL (b.get j) (b2.get j))(hs:SimBlks h h2)(hm:b2.mp=b.mp:=by rfl):SimBlks (b::h) (b2::h2):=by
 refine⟨by simp[hs.1],fun i x y q1 q2=>?_⟩;cases i with
 |zero=>simp at q1 q2;subst q1;subst q2;exact⟨hm,h1.1,h1.2.1,h1.2.2,fun q=>.inl (hf q).1,hb,fun q=>(hf q).2⟩
 |succ i=>exact hs.2 i x y (by simpa using q1) (by simpa using q2)
theorem SimBlks.at{h h2:qa}(hs:SimBlks h h2){i:Nat}{b:Blk}(hb:h[i]?=some b):∃b2,h2[i]?=some b2:=by
 have hi:=qC hb;exact⟨_,List.getElem?_eq_getElem (by rw[hs.1];exact hi)⟩
theorem SimBlks.back{h h2:qa}(hs:SimBlks h h2){i:Nat}{b2:Blk}(hb:h2[i]?=some b2):∃b,h[i]?=some b:=by
 have hi:=qC hb;exact⟨_,List.getElem?_eq_getElem (by rw[←hs.1];exact hi)⟩
theorem SimBlks.keep{h h2:qa}(hs:SimBlks h h2)(w:World)(U:Nat->Prop)(φ:Nat->Option (Nat×Nat)):KeepR w U φ h w U φ h2 :=
 ⟨.refl _ _,fun i b hb=>by
  obtain⟨b2,hb2⟩:=hs.at hb;obtain⟨_,q1,q2,q3,_⟩:=hs.2 i b b2 hb hb2;exact⟨b2,hb2,by omega,fun _=>⟨q2,q3,rfl⟩⟩,fun _ _ hr=>hr⟩
theorem HR.simB{g:Gh}{h h2:qa}{w:World}(hr:HR g h w)(hs:SimBlks h h2):HR g h2 w:=by
 refine⟨fun i b2 hb hmp2=>?_,hr.u,hr.own,hr.base,hr.cells,fun b i ho=>by rw[hs.1];exact hr.lt b i ho,fun i b2 m hb hm=>by
  obtain⟨b,hb0⟩:=hs.back hb;exact hr.mp_of hb0 ((hs.2 i b b2 hb0 hb).1▸hm) rfl (fun _ hc=>hc) fun _ _ _=>rfl⟩
 obtain⟨b,hb0⟩:=hs.back hb;obtain⟨q0,q1,q2,q3,q4,q5,q6⟩:=hs.2 i b b2 hb0 hb;rcases hr.blk0 i b hb0 (q0▸hmp2) with⟨cb,sh,arr,e,hok⟩|⟨w1,w2⟩
 rotate_left
 ·exact .inr ⟨w1,by omega⟩
 refine .inl ⟨cb,sh,arr,e,hok.φ,hok.own,hok.heap,by rw[q2,q3];exact hok.room,fun j hj=>?_,fun j o c hj ho=>?_,fun hf j hj c hc=>?_⟩
 ·rw[←(q5 j (by omega)).1,q2];exact hok.len j (by omega)
 ·obtain⟨c0,h0,hsim⟩:=(q5 j (by omega)).get ho;obtain⟨v,h1,h3,h4⟩:=hok.cell j o c0 (by omega) h0;rw[q2];exact⟨v,h1,h3,VR.simI hsim (h4.keep (hs.keep _ _ _))⟩
 ·rw[q6 hf j (by omega)] at hc;rcases q4 hf with q|q
  ·exact hok.flat q j (by omega) c hc
  ·exact List.all_eq_true.1 (q j (by omega)) c hc
theorem WeakTo.simAll{l:List Nat}{k:Nat}{vs vs2:List T}{h h2:qa}(hl:vs.length=vs2.length)(hv:∀(i:Nat) x y,vs[i]?=some x->vs2[i]?=some y->SimS x y)(hb:SimBlks h h2):WeakTo Gl prom nt l k vs h vs2 h2:=by
 intro g a w g0 h0 w0 _ _ hf hsr;have hk:=hb.keep w g.U g.φ;have hS:=qfr (l:=l) h h2 hl hv;refine⟨g,⟨hsr.hr.simB hb,hsr.defers,hsr.size,hsr.nt,fun t ht=>VR.simS (hS t) ((hsr.tmps t ht).keep hk),fun t ht cells hc=>?_,fun d t o h=>(by cases h),hsr.glob,fun d t o h=>(by cases h)⟩,hf.trans ⟨hk,Nat.le_refl _,fun _ _=>rfl,rfl,rfl,.refl _,fun _ _ _=>rfl,rfl,fun _ h=>.inl h,fun _ h=>h⟩,.refl g⟩;have hreg:∃m,(qx l vs h).at t = .reg m/\SimL m cells:=by
  rcases hS t with (e|⟨_,_,e⟩)|⟨m,m2,e1,e2,hs⟩|⟨m,m2,e1,e2,hs⟩
  ·rw[hc] at e;exact⟨cells,e,.refl _⟩
  ·rw[hc] at e;cases e
  ·rw[hc] at e2;obtain rfl:=T.reg.inj e2;exact⟨m,e1,hs⟩
  ·rw[hc] at e2;cases e2
 obtain⟨m,hm,hsm⟩:=hreg;obtain⟨cb,arr,e,hok⟩:=hsr.regs t ht m hm;refine⟨cb,arr,e,hok.ptr,hok.own,hok.heap,by rw[←hsm.1];exact hok.len,fun o c ho=>?_⟩;obtain⟨c0,h0',hs0⟩:=hsm.get ho;obtain⟨u,h1,h2',h3⟩:=hok.cell o c0 h0';exact⟨u,h1,h2',VR.simI hs0 (h3.keep hk)⟩
end
theorem Sim.nilv(sz:Nat)(g:Nat->List T){cap:Option Nat}(hc:cap=none∨cap=some 0):Sim .nils (.view sz 0 g cap):=by
 intro w U v h;cases h;exact .vnil sz g cap hc
def qaQ:T->T
 |.fresh true sz _ g len cap=>.new (.view sz len g cap)
 |.fresh false sz _ g len cap=>.view sz len g cap
 |x=>x
def qdE:T->T
 |.agg l=>.agg (l.map qaQ)
 |x=>qaQ x
def frz:T->T
 |.tup l=>.tup (l.map qdE)
 |x=>qdE x
section
variable {w:World} {B:Nat} {U:Nat->Prop}
theorem RT0.mono{U2:Nat->Prop}(hU:∀b,U b->U2 b){x:T}{v:Value}{X:List Nat}(h:RT0 w B U x v X):RT0 w B U2 x v X:=by
 cases h with
 |vi x v hv=>exact .vi _ _ (hv.keep fun b hb=>⟨hU b hb,rfl⟩)
 |nw x v hv=>exact .nw _ _ (hv.keep fun b hb=>⟨⟨hU b hb.1,hb.2⟩,rfl⟩)
 |mapr m cb hm=>exact .mapr m cb hm
 |frn flat sz gg cap e4=>exact .frn flat sz gg cap e4
 |fresh flat sz n gg len cap cb sh cc ad arr e es e2 e3 e4 e5 e7 hh r1 r2 hl hc hf =>
  exact .fresh flat sz n gg len cap cb sh cc ad arr e es e2 e3 e4 e5 e7 hh r1 r2 hl (fun j o c hj ho=>by
   obtain⟨u,q1,q2,q3⟩:=hc j o c hj ho;exact⟨u,q1,q2,q3.keep fun b hb=>⟨hU b hb,rfl⟩⟩) hf
def qaR(w:World)(B:Nat)(U:Nat->Prop)(Q:(Nat->Prop)->List Nat->Prop)(X:List Nat):Prop :=
 ∃X2 Y,X.Perm (X2++Y)/\∀U2:Nat->Prop,(∀b,U b->U2 b)->(∀b,b∈Y->U2 b/\B<=b)->Q U2 X2
theorem qdF{flat:Bool}{sz n:Nat}{gg:Nat->List T}{len:Nat}{cap:Option Nat}{cb sh cc:Nat}{ad:Addr}{arr:Array Value}{e:TypeId}{U2:Nat->Prop}
 (es:ad.spot=none) (e2:0<cc->ad=⟨cb,sh,none⟩) (e3:len<=cc) (e4:∀m,cap=some m->cc=m/\m<=n) (e5:len<=n) (hh:w.heap[cb]?=some (.cells arr e (0,0)))
 (hl:∀j,j<n->(gg j).length=sz) (hc:∀j o c,j<n->(gg j)[o]?=some c->∃u,arr[sh+j*sz+o]?=some u/\u.oneCell'=true/\VI w U2 c u) (hcb:U2 cb):VI w U2 (.view sz len gg cap) (.slice (some ad) len cc):=by
 let vs:Nat->Nat->Value:=fun j o=>(arr[sh+j*sz+o]?).getD Go.undef
 have hvs:∀j o c,j<len->(gg j)[o]?=some c->cellAt w ad.block (ad.off+j*sz+o) (vs j o)/\VI w U2 c (vs j o):=by
  intro j o c hj ho;obtain⟨u,q1,q2,q3⟩:=hc j o c (by omega) ho;have hv:vs j o=u:=by simp[vs,q1]
  rw[hv,e2 (by omega)];exact⟨⟨by simp[World.cell?,hh,q1],q2⟩,q3⟩
 exact .view sz len gg cap ad cc vs (fun _=>es) (fun m hm=>(e4 m hm).1) e3 (fun hp _=>by rw[e2 (by omega)];exact hcb) (fun j hj=>hl j (by omega)) (fun j o c hj ho=>(hvs j o c hj ho).1) (fun j o c hj ho=>(hvs j o c hj ho).2)
theorem RT0.frz{x:T}{v:Value}{X:List Nat}(h:RT0 w B U x v X):qaR w B U (fun U2 X2=>RT0 w B U2 (qaQ x) v X2) X:=by
 have same:qaQ x=x->qaR w B U (fun U2 X2=>RT0 w B U2 (qaQ x) v X2) X:=fun e=>⟨X,[],by simp,fun U2 hU _=>by rw[e];exact h.mono hU⟩;cases h with
 |vi x v hv=>exact same (by cases hv<;>rfl)
 |nw x v hv=>exact same rfl
 |mapr m cb hm=>exact same rfl
 |frn flat sz gg cap e4 =>
  have e5:cap=none∨cap=some 0:=by
   cases cap with
   |none=>exact .inl rfl
   |some c=>exact .inr (by rw[e4 c rfl])
  refine⟨[],[],by simp,fun U2 hU hY=>?_⟩;cases flat with
  |true=>exact .nw _ _ (.vnil _ _ _ e5)
  |false=>exact .vi _ _ (.vnil _ _ _ e5)
 |fresh flat sz n gg len cap cb sh cc ad arr e es e2 e3 e4 e5 e7 hh r1 r2 hl hc hf =>
  refine⟨[],[cb],by simp,fun U2 hU hY=>?_⟩;obtain⟨y1,y2⟩:=hY cb (by simp);cases flat with
  |true =>
   exact .nw _ _ (qdF (flat:=true) (n:=n) es e2 e3 e4 e5 hh hl (fun j o c hj ho=>by
    obtain⟨u,q1,q2,q3⟩:=hc j o c hj ho;exact⟨u,q1,q2,jX (hf rfl j hj c (List.mem_of_getElem? ho)) q3⟩) ⟨y1,y2⟩)
  |false =>
   exact .vi _ _ (qdF (flat:=false) (n:=n) es e2 e3 e4 e5 hh hl (fun j o c hj ho=>by
    obtain⟨u,q1,q2,q3⟩:=hc j o c hj ho;exact⟨u,q1,q2,q3.keep fun b hb=>⟨hU b hb,rfl⟩⟩) y1)
theorem RTL.frz{Q:(Nat->Prop)->T->Value->List Nat->Prop}{f:T->T}{l:List T}{vs:List Value}{X:List Nat}(h:RTL (Q U) l vs X)
 (hf:∀x v X,Q U x v X->qaR w B U (fun U2 X2=>Q U2 (f x) v X2) X):qaR w B U (fun U2 X2=>RTL (Q U2) (l.map f) vs X2) X:=by
 induction h with
 |nil=>exact⟨[],[],by simp,fun _ _ _=>.nil⟩
 |cons x v X l vs Y hx hl ih =>
  obtain⟨X1,Y1,p1,q1⟩:=hf x v X hx;obtain⟨X2,Y2,p2,q2⟩:=ih;refine⟨X1++X2,Y1++Y2,?_,fun U2 hU hY=>.cons _ _ _ _ _ _ (q1 U2 hU fun b hb=>hY b (by simp[hb])) (q2 U2 hU fun b hb=>hY b (by simp[hb]))⟩;refine(p1.append p2).trans ?_;simp only[List.append_assoc];refine List.Perm.append_left X1 ?_;rw[←List.append_assoc,←List.append_assoc];exact List.Perm.append_right Y2 List.perm_append_comm
theorem qeu{x:T}(h:∀l,x≠.agg l):∀l,qaQ x≠.agg l:=by
 intro l;cases x with
 |agg m=>exact absurd rfl (h m)
 |fresh flat=>cases flat<;>simp[qaQ]
 |_=>simp[qaQ]
theorem RT0.to1'{x:T}{v:Value}{X:List Nat}(h:RT0 w B U x v X)(hx:∀l,x≠.agg l):RT1 w B U x v X:=by
 cases x with
 |agg l=>exact absurd rfl (hx l)
 |_=>exact h
theorem RT1.frz{x:T}{v:Value}{X:List Nat}(h:RT1 w B U x v X):qaR w B U (fun U2 X2=>RT1 w B U2 (qdE x) v X2) X:=by
 cases x with
 |agg l =>
  obtain⟨cs,rfl,h1,h2⟩:=h;obtain⟨X2,Y,p,q⟩:=RTL.frz (w:=w) (B:=B) (Q:=fun U=>RT0 w B U) (f:=qaQ) h2 fun x v X h=>h.frz;exact⟨X2,Y,p,fun U2 hU hY=>⟨cs,rfl,h1,q U2 hU hY⟩⟩
 |_ =>
  obtain⟨X2,Y,p,q⟩:=RT0.frz (show RT0 w B U _ v X from h);exact⟨X2,Y,p,fun U2 hU hY=>(q U2 hU hY).to1' (qeu (fun l=>by simp))⟩
theorem RT1.to2'{x:T}{v:Value}{X:List Nat}(h:RT1 w B U x v X)(hx:∀l,x≠.tup l):RT2 w B U x v X:=by
 cases x with
 |tup l=>exact absurd rfl (hx l)
 |_=>exact h
theorem qev{x:T}(h:∀l,x≠.tup l):∀l,qdE x≠.tup l:=by
 intro l;cases x with
 |tup m=>exact absurd rfl (h m)
 |fresh flat=>cases flat<;>simp[qdE,qaQ]
 |_=>simp[qdE,qaQ]
theorem RT2.to1{x:T}{v:Value}{X:List Nat}(h:RT2 w B U x v X)(hx:∀l,x≠.tup l):RT1 w B U x v X:=by
 cases x with
 |tup l=>exact absurd rfl (hx l)
 |_=>exact h
theorem qgB{x:T}(hx:∀l,x≠.tup l):Ab.frz x=qdE x:=by
 cases x with
 |tup l=>exact absurd rfl (hx l)
 |_=>rfl
theorem RT2.frz{x:T}{v:Value}{X:List Nat}(h:RT2 w B U x v X):qaR w B U (fun U2 X2=>RT2 w B U2 (Ab.frz x) v X2) X:=by
 have gen:(∀l,x≠.tup l)->qaR w B U (fun U2 X2=>RT2 w B U2 (Ab.frz x) v X2) X:=fun hx=>by
  obtain⟨X2,Y,p,q⟩:=(h.to1 hx).frz;refine⟨X2,Y,p,fun U2 hU hY=>?_⟩;rw[qgB hx];exact(q U2 hU hY).to2' (qev hx)
 cases x with
 |tup l =>
  obtain⟨cs,rfl,h2⟩:=h;obtain⟨X2,Y,p,q⟩:=RTL.frz (w:=w) (B:=B) (Q:=fun U=>RT1 w B U) (f:=qdE) h2 fun x v X h=>h.frz;exact⟨X2,Y,p,fun U2 hU hY=>⟨cs,rfl,q U2 hU hY⟩⟩
 |_=>exact gen (fun l=>by simp)
theorem RV.frz{r:T}{v:Value}{w':World}(h:RV w U r v w'):RV w U (Ab.frz r) v w':=by
 obtain⟨h0,U',X,h1,h2,h3,h4,h5⟩:=h;obtain⟨X2,Y,p,q⟩:=h5.frz;have hnd:(X2++Y).Nodup:=p.nodup_iff.1 h3;have hmem:∀b,b∈X2++Y->b∈X:=fun b hb=>p.mem_iff.2 hb;refine⟨h0,fun b=>U' b∨b∈Y,X2,fun b hb=>.inl (h1 b hb),fun b hb=>?_,(List.nodup_append.1 hnd).1,fun b hb=>?_,q _ (fun b hb=>.inl hb) fun b hb=>⟨.inr hb,(h4 b (hmem b (by simp[hb]))).1⟩⟩
 ·rcases hb with hb|hb
  ·exact h2 b hb
  ·have:=h4 b (hmem b (by simp[hb]));exact⟨.inr this.1,this.2.1⟩
 ·have:=h4 b (hmem b (by simp[hb]));refine⟨this.1,this.2.1,fun hu=>?_⟩;rcases hu with hu|hu
  ·exact this.2.2 hu
  ·exact(List.nodup_append.1 hnd).2.2 b hb b hu rfl
end
section
variable {P:Program} {Gl:Nat->Option (List T)}
theorem ToldOk.frz{f:FuncId}{args:List T}{r:T}(t:ToldOk P Gl f args r):ToldOk P Gl f args (Ab.frz r) :=
 ⟨t.enters,fun w U cargs hU hgl ha=>(t.calls w U cargs hU hgl ha).mono fun e w' ⟨v,q1,q2⟩=>⟨v,q1,q2.frz⟩⟩
end
section
variable {P:Program} {Gl:Nat->Option (List T)}
theorem Step.mkC{an:Ann}{A:FuncId->Ann}{K:Orc}{f r m k:Nat}{l:List (Nat×(List T->qa->LT))}{vs v1 v2 vs':List T}{h h1 h2 h':qa}(hK:OrcOk P Gl K)(hp:(A f).prom=an.prom)(hl:(A f).live r=an.live r)(hL:∀p∈l,LoopOk P Gl (A f) f p.1 p.2)
 (σ:List Nat) (hr:qV P Gl A K m f l r vs h=some (.normal,v1,h1)) (ho:yk k σ h1=true) (hv:v1.map (ren σ h1)=v2) (hh:Ja σ h1=h2) (hw:∀nt,WeakTo Gl an.prom nt (an.live r false) k v2 h2 vs' h'):Step P Gl an f r k vs h vs' h' :=
 ⟨v1,h1,⟨A,K,m,l,hK,hp,hl,hL,hr⟩,fun nt=>.trans (.canon σ ho) (by rw[hv,hh];exact hw nt)⟩
theorem Last.mkC{an:Ann}{A:FuncId->Ann}{K:Orc}{f r m k:Nat}{l:List (Nat×(List T->qa->LT))}{vs v1 v2 vs':List T}{h h1 h2 h':qa}{e:Ex}(hK:OrcOk P Gl K)(hp:(A f).prom=an.prom)(hl:(A f).live r=an.live r)(hL:∀p∈l,LoopOk P Gl (A f) f p.1 p.2)
 (he:e≠.normal) (σ:List Nat) (hr:qV P Gl A K m f l r vs h=some (e,v1,h1)) (ho:yk k σ h1=true) (hv:v1.map (ren σ h1)=v2) (hh:Ja σ h1=h2) (hw:∀nt,WeakTo Gl an.prom nt (an.live r true) k v2 h2 vs' h'):Last P Gl an f r k vs h e vs' h' :=
 ⟨he,v1,h1,⟨A,K,m,l,hK,hp,hl,hL,hr⟩,fun nt=>.trans (.canon σ ho) (by rw[hv,hh];exact hw nt)⟩
end
inductive ResTo:T->T->Prop
 |refl (x:T):ResTo x x
 |nilv (sz:Nat) (g:Nat->List T) (cap:Option Nat) (hc:cap=none∨cap=some 0):ResTo .nils (.view sz 0 g cap)
 |niln (sz:Nat) (g:Nat->List T) (cap:Option Nat) (hc:cap=none∨cap=some 0):ResTo .nils (.new (.view sz 0 g cap))
 |nfr (flat:Bool) (sz:Nat) (g:Nat->List T) (cap:Option Nat) (hc:cap=none∨cap=some 0):ResTo .nils (.fresh flat sz 0 g 0 cap)
 |newv (x:T):ResTo (.new x) x
 |new {x y:T} (h:Sim x y):ResTo (.new x) (.new y)
 |fresh {flat:Bool} {sz n:Nat} {g:Nat->List T} {len:Nat} {cap:Option Nat} {n':Nat} {g':Nat->List T} (h1:len<=n') (h2:n'<=n) (h3:∀m,cap=some m->m<=n') (h4:∀j,j<n'->g' j=g j):ResTo (.fresh flat sz n g len cap) (.fresh flat sz n' g' len cap)
 |view {sz n:Nat} {g:Nat->List T} {cap:Option Nat} {sz' n':Nat} {g':Nat->List T} {cap':Option Nat} (h:Sim (.view sz n g cap) (.view sz' n' g' cap')):ResTo (.view sz n g cap) (.view sz' n' g' cap')
section
variable {w:World} {B:Nat} {U:Nat->Prop} {P:Program} {Gl:Nat->Option (List T)}
theorem ResTo.rt0{x y:T}(h:ResTo x y){v:Value}{X:List Nat}(hx:RT0 w B U x v X):RT0 w B U y v X:=by
 cases h with
 |refl=>exact hx
 |nilv sz g cap hc=>cases hx with|vi _ _ hv=>cases hv;exact .vi _ _ (.vnil sz g cap hc)
 |niln sz g cap hc=>cases hx with|vi _ _ hv=>cases hv;exact .nw _ _ (.vnil sz g cap hc)
 |newv=>cases hx with
  |vi _ _ hv=>cases hv
  |nw _ _ hv=>exact .vi _ _ (hv.keep fun b hb=>⟨hb.1,rfl⟩)
 |nfr flat sz g cap hc=>cases hx with|vi _ _ hv=>cases hv;exact .frn _ _ _ _ fun m hm=>by rcases hc with q|q<;>rw[q] at hm<;>cases hm;rfl
 |new h=>cases hx with
  |vi _ _ hv=>cases hv
  |nw _ _ hv=>exact .nw _ _ (h _ _ _ hv)
 |view h=>cases hx with|vi _ _ hv=>exact .vi _ _ (h _ _ _ hv)
 |fresh h1 h2 h3 h4=>cases hx with
  |vi _ _ hv=>cases hv
  |frn flat sz gg cap e4 =>
   obtain rfl:=Nat.le_zero.1 h2;exact .frn _ _ _ _ e4
  |fresh _ _ _ _ _ _ cb sh cc ad arr e es e2 e3 e4 e5 e7 hh r1 r2 hl hc hf =>
   refine .fresh _ _ _ _ _ _ cb sh cc ad arr e es e2 e3 (fun m hm=>⟨(e4 m hm).1,h3 m hm⟩) h1 (fun hc=>Nat.le_trans h2 (e7 hc)) hh (Nat.le_trans (Nat.add_le_add_left (Nat.mul_le_mul_right _ h2) _) r1) r2 (fun j hj=>by rw[h4 j hj];exact hl j (by omega)) (fun j o c hj ho=>hc j o c (by omega) (by rw[←h4 j hj];exact ho)) fun hfl j hj c hcm=>hf hfl j (by omega) c (by rw[←h4 j hj];exact hcm)
theorem ResTo.rt1{x y:T}(h:ResTo x y){v:Value}{X:List Nat}(hx:RT1 w B U x v X):RT1 w B U y v X:=by
 cases h with
 |refl=>exact hx
 |nilv sz g cap hc=>exact(ResTo.nilv sz g cap hc).rt0 (w:=w) (B:=B) (U:=U) hx
 |niln sz g cap hc=>exact(ResTo.niln sz g cap hc).rt0 (w:=w) (B:=B) (U:=U) hx
 |newv=>exact((ResTo.newv y).rt0 (w:=w) (B:=B) (U:=U) hx).to1
 |nfr flat sz g cap hc=>exact(ResTo.nfr flat sz g cap hc).rt0 (w:=w) (B:=B) (U:=U) hx
 |new h=>exact(ResTo.new h).rt0 (w:=w) (B:=B) (U:=U) hx
 |view h=>exact(ResTo.view h).rt0 (w:=w) (B:=B) (U:=U) hx
 |fresh h1 h2 h3 h4=>exact(ResTo.fresh h1 h2 h3 h4).rt0 (w:=w) (B:=B) (U:=U) hx
theorem ResTo.rt2{x y:T}(h:ResTo x y){v:Value}{X:List Nat}(hx:RT2 w B U x v X):RT2 w B U y v X:=by
 cases h with
 |refl=>exact hx
 |nilv sz g cap hc=>exact(ResTo.nilv sz g cap hc).rt0 (w:=w) (B:=B) (U:=U) hx
 |niln sz g cap hc=>exact(ResTo.niln sz g cap hc).rt0 (w:=w) (B:=B) (U:=U) hx
 |newv=>exact((ResTo.newv y).rt0 (w:=w) (B:=B) (U:=U) hx).to1.to2
 |nfr flat sz g cap hc=>exact(ResTo.nfr flat sz g cap hc).rt0 (w:=w) (B:=B) (U:=U) hx
 |new h=>exact(ResTo.new h).rt0 (w:=w) (B:=B) (U:=U) hx
 |view h=>exact(ResTo.view h).rt0 (w:=w) (B:=B) (U:=U) hx
 |fresh h1 h2 h3 h4=>exact(ResTo.fresh h1 h2 h3 h4).rt0 (w:=w) (B:=B) (U:=U) hx
inductive ResToL:List T->List T->Prop
 |nil:ResToL [] []
 |cons {x y:T} {l m:List T} (h:ResTo x y) (hl:ResToL l m):ResToL (x::l) (y::m)
theorem ResToL.rtl{l m:List T}(h:ResToL l m):∀{vs:List Value} {X:List Nat},RTL (RT1 w B U) l vs X->RTL (RT1 w B U) m vs X:=by
 induction h with
 |nil=>intro vs X hx;exact hx
 |cons h hl ih =>
  intro vs X hx;cases hx with
  |cons _ _ _ _ _ _ h0 h1=>exact .cons _ _ _ _ _ _ (h.rt1 h0) (ih h1)
theorem ResToL.rtl0{l m:List T}(h:ResToL l m):∀{vs:List Value} {X:List Nat},RTL (RT0 w B U) l vs X->RTL (RT0 w B U) m vs X:=by
 induction h with
 |nil=>intro vs X hx;exact hx
 |cons h hl ih =>
  intro vs X hx;cases hx with
  |cons _ _ _ _ _ _ h0 h1=>exact .cons _ _ _ _ _ _ (h.rt0 h0) (ih h1)
theorem ToldOk.aggTo{f:FuncId}{args:List T}{l m:List T}(t:ToldOk P Gl f args (.agg l))(h:ResToL l m):ToldOk P Gl f args (.agg m) :=
 ⟨t.enters,fun w U cargs hU hgl ha=>(t.calls w U cargs hU hgl ha).mono fun e w' ⟨v,q1,q2⟩=>⟨v,q1,by
  obtain⟨h0,U',X,h1,h2,h3,h4,cs,rfl,h6,h5⟩:=q2;exact⟨h0,U',X,h1,h2,h3,h4,cs,rfl,h6,h.rtl0 h5⟩⟩⟩
theorem ToldOk.resTo{f:FuncId}{args:List T}{r r2:T}(t:ToldOk P Gl f args r)(h:ResTo r r2):ToldOk P Gl f args r2 :=
 ⟨t.enters,fun w U cargs hU hgl ha=>(t.calls w U cargs hU hgl ha).mono fun e w' ⟨v,q1,q2⟩=>⟨v,q1,by
  obtain⟨h0,U',X,h1,h2,h3,h4,h5⟩:=q2;exact⟨h0,U',X,h1,h2,h3,h4,h.rt2 h5⟩⟩⟩
theorem ToldOk.tupTo{f:FuncId}{args:List T}{l m:List T}(t:ToldOk P Gl f args (.tup l))(h:ResToL l m):ToldOk P Gl f args (.tup m) :=
 ⟨t.enters,fun w U cargs hU hgl ha=>(t.calls w U cargs hU hgl ha).mono fun e w' ⟨v,q1,q2⟩=>⟨v,q1,by
  obtain⟨h0,U',X,h1,h2,h3,h4,cs,rfl,h5⟩:=q2;exact⟨h0,U',X,h1,h2,h3,h4,cs,rfl,h.rtl h5⟩⟩⟩
end
section
variable {P:Program} {Gl:Nat->Option (List T)}
end
variable {P:Program} {Gl:Nat->Option (List T)}
theorem JG:(∀{x:Int},-9223372036854775808<=x->x<=9223372036854775807->IntKind.i64.wrap x=x)/\(∀{x:Int},0<=x->x<=255->IntKind.u8.wrap x=x)/\(∀{x:Int},0<=x->x<=65535->IntKind.u16.wrap x=x)/\(∀{x:Int},0<=x->x<=4294967295->IntKind.u32.wrap x=x) ∧
 (∀n:Nat,Int.ofNat n=(n:Int))/\(∀n:Nat,(n:Int).toNat=n)/\(∀n:Nat,((n:Int)+1).toNat=n+1)/\(∀a b:Bool,((a&&b)=true)=(a=true/\b=true))/\(∀a b:Bool,((a || b)=true)=(a=true∨b=true))/\(∀b:Bool,((!b)=true)=(b=false)) ∧
 (∀(p:Prop) [Decidable p],(decide p=true)=p)/\(∀(p:Prop) [Decidable p],(decide p=false) = ¬p)/\(∀a b:Nat,(Nat.ble a b=true)=(a<=b))/\(∀a b:Nat,(Nat.blt a b=true)=(a<b))/\(∀a b:Nat,((a==b)=true)=(a=b)) ∧
 (∀n:Nat,0+n=n)/\(∀n:Nat,n+0=n)/\(∀n:Int,0+n=n)/\(∀n:Int,n+0=n)/\(∀p:Prop,(True/\p)=p)/\(∀p:Prop,(p/\True)=p)/\∀p:Prop,(p/\p)=p :=
 ⟨Q1,wr8,qiH,qiG,qW,qhw,qgz,fun _ _=>Bool.and_eq_true _ _,fun _ _=>Bool.or_eq_true _ _,fun _=>Bool.not_eq_true' _,fun _=>decide_eq_true_eq,fun _=>by simp,fun _ _=>qiL,fun _ _=>qiK,fun _ _=>qiJ,Nat.zero_add,Nat.add_zero,Int.zero_add,Int.add_zero,true_and,and_true,and_self⟩
theorem BT{R:Type}{c:Bool}{x y r:R}(h1:x=r)(hc:c=true:=by first|assumption|omega|(simp (disch:=omega) only[JG,List.length_cons,List.length_nil,Nat.reduceAdd];done)|(simp (disch:=omega) only[JG,List.length_cons,List.length_nil,Nat.reduceAdd];omega)):(bif c then x else y)=r:=qt hc h1
theorem BF{R:Type}{c:Bool}{x y r:R}(h1:y=r)(hc:¬c=true:=by first|with_reducible assumption|(simp (disch:=omega) only[JG,List.length_cons,List.length_nil,Nat.reduceAdd];done)|(simp (disch:=omega) only[JG,List.length_cons,List.length_nil,Nat.reduceAdd];omega)|(simp;done)|fail):(bif c then x else y)=r:=Q2 hc h1
theorem BG{R:Type}{c:Bool}{x y r:R}(h1:y=r)(hc:¬c=true:=by first|assumption|(simp (disch:=omega) only[JG,List.length_cons,List.length_nil,Nat.reduceAdd];done)|(simp (disch:=omega) only[JG,List.length_cons,List.length_nil,Nat.reduceAdd];omega)):(bif c then x else y)=r:=Q2 hc h1
section
variable {P:Program} {Gl:Nat->Option (List T)}
noncomputable def qF(q:Prop):Bool:=@decide q (Classical.propDecidable _)
theorem y0{q:Prop}:qF q=true↔q:=by simp[qF]
noncomputable def Qe(p:List T->T->Prop)(F:List T->Option T)(args:List T):Tree:=match F args with
 |some r=>.ite (qF (p args r)) (.ret r) .none
 |none=>.none
theorem qg{f:FuncId}{p:List T->T->Prop}{F:List T->Option T}(hp:p=ToldOk P Gl f):∀args r,(Qe p F args).run some=some r->ToldOk P Gl f args r:=by
 intro args r hr;unfold Qe at hr;split at hr
 ·simp only[Tree.run] at hr;obtain⟨hc,hr⟩:=qc hr;obtain rfl:=Option.some.inj hr;have:=y0.1 hc;rw[hp] at this;exact this
 ·cases hr
theorem qo{f:FuncId}{p:List T->T->Prop}(hp:p=ToldOk P Gl f){a:List T}{r:T}(t:ToldOk P Gl f a r):qF (p a r)=true:=y0.2 (by rw[hp];exact t)
theorem qA(P:Program)(Gl:Nat->Option (List T))(f:FuncId):∃p:List T->T->Prop,p=ToldOk P Gl f:=⟨_,rfl⟩
end
section
variable {P:Program} {Gl:Nat->Option (List T)}
noncomputable def z4(q:List T->qa->Ex->List T->qa->Prop):LT->List T->qa->LT
 |.none,_,_=>.none
 |.ret e vs' h',vs,h=>.ite (qF (q vs h e vs' h')) (.ret e vs' h') .none
 |.ite c x y,vs,h=>.ite c (z4 q x vs h) (z4 q y vs h)
theorem ZN(P:Program)(Gl:Nat->Option (List T))(an:Ann)(f r:Nat):∃q:List T->qa->Ex->List T->qa->Prop,q=fun vs h e vs' h'=>LoopOk P Gl an f r (qZ vs h e vs' h'):=⟨_,rfl⟩
theorem QE{an:Ann}{f r:Nat}{q:List T->qa->Ex->List T->qa->Prop}(hq:q=fun vs h e vs' h'=>LoopOk P Gl an f r (qZ vs h e vs' h')):∀t:LT,LoopOk P Gl an f r (z4 q t)
 |.none,fn,hf,hnt,vs,h,e,vs',h',hk=>by cases hk
 |.ret e1 v1 h1,fn,hf,hnt,vs,h,e,vs',h',hk=>by
  simp only[z4,LT.run] at hk;obtain⟨hc,hk⟩:=qc hk;simp only[Option.some.injEq,Prod.mk.injEq] at hk;obtain⟨rfl,rfl,rfl⟩:=hk;have:=y0.1 hc;rw[hq] at this;refine this fn hf hnt vs h e1 v1 h1 ?_;unfold qZ;simp only[LT.run];rw[Qd ⟨rfl,.refl _⟩];rfl
 |.ite c x y,fn,hf,hnt,vs,h,e,vs',h',hk=>by
  simp only[z4,LT.run] at hk;cases c
  ·exact QE hq y fn hf hnt vs h e vs' h' hk
  ·exact QE hq x fn hf hnt vs h e vs' h' hk
theorem LoopOk.less{an:Ann}{f r:Nat}{vs vs0 vs1:List T}{h h0 h1:qa}{e:Ex}(l:LoopOk P Gl an f r (qZ vs0 h0 e vs1 h1))(hw:zq vs h vs0 h0=true):LoopOk P Gl an f r (qZ vs h e vs1 h1):=by
 refine .lit fun fn hf hnt=>CodeGoes.weak (l fn hf hnt vs0 h0 e vs1 h1 ?_) (j9.1 hw _ _ _ _);unfold qZ;simp only[LT.run];rw[Qd ⟨rfl,.refl _⟩];rfl
def Qp(g:Nat->Bool):Nat->Bool
 |0=>true
 |n+1=>Qp g n&&g n
theorem Q3(g:Nat->Bool):∀n,Qp g n=true↔∀i,i<n->g i=true
 |0=>⟨fun _ i h=>by omega,fun _=>rfl⟩
 |n+1=>by
  have ih:=Q3 g n;unfold Qp;rw[Bool.and_eq_true,ih];constructor
  ·intro ⟨h1,h2⟩ i hi;by_cases e:i=n
   ·rw[e];exact h2
   ·exact h1 i (by omega)
  ·exact fun h=>⟨fun i hi=>h i (by omega),h n (by omega)⟩
theorem zr(p:Nat->Bool)(n:Nat):Qp p n=true∨∃I,I<n/\p I=false/\∀i,i<I->p i=true:=by
 induction n with
 |zero=>exact .inl rfl
 |succ n ih =>
  rcases ih with h|⟨I,h1,h2,h3⟩
  ·cases q:p n
   ·exact .inr ⟨n,by omega,q,(Q3 p n).1 h⟩
   ·exact .inl (by unfold Qp;rw[h,q];rfl)
  ·exact .inr ⟨I,by omega,h2,h3⟩
theorem zU(p:Nat->Bool)(n:Nat):Qp p n=false↔∃i,i<n/\p i=false:=by
 constructor
 ·intro h;rcases zr p n with q|⟨I,h1,h2,_⟩
  ·rw[q] at h;cases h
  ·exact⟨I,h1,h2⟩
 ·rintro⟨i,hi,hp⟩;cases q:Qp p n
  ·rfl
  ·rw[(Q3 p n).1 q i hi] at hp;cases hp
theorem ZY(hm:P.follows .mixedOrders=true){f r:Nat}(ha:kp P f r=true){an:Ann}(vs:Nat->List T)(hh:Nat->qa)(good:Nat->Bool){n:Nat}{e1 e2:Ex}{v1 v2:List T}{h1 h2:qa}
 (step:∀i,i<n->(∀j,j<i->good j=true)->good i=true->Step P Gl an f r (hh 0).length (vs i) (hh i) (vs (i+1)) (hh (i+1)))
 (bad:∀i,i<n->(∀j,j<i->good j=true)->good i=false->Last P Gl an f r (hh 0).length (vs i) (hh i) e2 v2 h2)
 (last:(∀i,i<n->good i=true)->Last P Gl an f r (hh 0).length (vs n) (hh n) e1 v1 h1) :
 (Qp good n=true->LoopOk P Gl an f r (qZ (vs 0) (hh 0) e1 v1 h1))/\(Qp good n=false->LoopOk P Gl an f r (qZ (vs 0) (hh 0) e2 v2 h2)):=by
 constructor
 ·intro h;have h:=(Q3 good n).1 h;exact qE hm ha vs hh (n:=n) (fun i hi=>step i hi (fun j hj=>h j (by omega)) (h i hi)) (last h)
 ·intro h;rcases zr good n with q|⟨I,hI,hb,hlt⟩
  ·rw[q] at h;cases h
  ·exact qE hm ha vs hh (n:=I) (fun i hi=>step i (by omega) (fun j hj=>hlt j (by omega)) (hlt i hi)) (bad I hI hlt hb)
theorem qaS(hm:P.follows .mixedOrders=true){f r:Nat}(ha:kp P f r=true){an:Ann}(vs:Nat->List T)(hh:Nat->qa)(good:Nat->Bool){n:Nat}{e1:Ex}{v1:List T}{h1:qa}(Post:Ex->List T->qa->Prop)
 (step:∀i,i<n->(∀j,j<i->good j=true)->good i=true->Step P Gl an f r (hh 0).length (vs i) (hh i) (vs (i+1)) (hh (i+1)))
 (bad:∀i,i<n->(∀j,j<i->good j=true)->good i=false->∃e2 v2 h2,Post e2 v2 h2/\Last P Gl an f r (hh 0).length (vs i) (hh i) e2 v2 h2)
 (last:(∀i,i<n->good i=true)->Last P Gl an f r (hh 0).length (vs n) (hh n) e1 v1 h1) :
 (Qp good n=true->LoopOk P Gl an f r (qZ (vs 0) (hh 0) e1 v1 h1))/\(Qp good n=false->∃e2 v2 h2,Post e2 v2 h2/\LoopOk P Gl an f r (qZ (vs 0) (hh 0) e2 v2 h2)):=by
 constructor
 ·intro h;have h:=(Q3 good n).1 h;exact qE hm ha vs hh (n:=n) (fun i hi=>step i hi (fun j hj=>h j (by omega)) (h i hi)) (last h)
 ·intro h;rcases zr good n with q|⟨I,hI,hb,hlt⟩
  ·rw[q] at h;cases h
  ·obtain⟨e2,v2,h2,q1,q2⟩:=bad I hI hlt hb;exact⟨e2,v2,h2,q1,qE hm ha vs hh (n:=I) (fun i hi=>step i (by omega) (fun j hj=>hlt j (by omega)) (hlt i hi)) q2⟩
end
section
variable {P:Program} {Gl:Nat->Option (List T)}
theorem qgC{f:FuncId}{p:List T->T->Prop}(hp:p=ToldOk P Gl f){a:List T}{r:T}(t:ToldOk P Gl f a r):p a r:=by rw[hp];exact t
theorem qhx{f:FuncId}{p:List T->qa->T->qa->Prop}(hp:p=ToldRef P Gl f){a:List T}{h:qa}{r:T}{h':qa}(t:ToldRef P Gl f a h r h'):p a h r h':=by rw[hp];exact t
theorem qgD{an:Ann}{f r:Nat}{q:List T->qa->Ex->List T->qa->Prop}(hq:q=fun vs h e vs' h'=>LoopOk P Gl an f r (qZ vs h e vs' h')){vs vs1:List T}{h h1:qa}{e:Ex}(l:LoopOk P Gl an f r (qZ vs h e vs1 h1)):q vs h e vs1 h1:=by rw[hq];exact l
end
theorem BS{R:Type}{c:Bool}{x y r:R}(h1:x=r) (hc:c=true:=by
 first
 |(with_reducible refine y0.2 ?_);first|exact qgC (by assumption) (by assumption)|exact qgD (by assumption) (by assumption)|exact qhx (by assumption) (by assumption)
 |(with_reducible refine Qd ?_);exact⟨rfl,.refl _⟩
 |with_reducible assumption
 |omega
 |(simp (disch:=omega) only[JG,List.length_cons,List.length_nil,Nat.reduceAdd];done)
 |(simp (disch:=omega) only[JG,List.length_cons,List.length_nil,Nat.reduceAdd];omega)):(bif c then x else y)=r:=qt hc h1
theorem up1{i:Nat}(h:i<=1000000):IntKind.i64.wrap (Int.ofNat i+1)=Int.ofNat (i+1):=by rw[Q1 (by show(-9223372036854775808:Int)<=(i:Int)+1;omega) (by show(i:Int)+1<=9223372036854775807;omega)];rfl
def sq1:Code->Code
 |.seq a _=>a
 |c=>c
def sq2:Code->Code
 |.seq _ b=>b
 |c=>c
def zC(P:Program)(G:Nat->Option (List T))(A:FuncId->Ann)(K:Orc)(m:Nat)(f:FuncId)(lo:List (Nat×(List T->qa->LT)))(pick:Code->Code)(l:List Nat)(vs:List T)(h:qa)(l':List Nat):Option (Ex×List T×qa) :=
 match P.funcs[f]? with
 |some fn=>match fn.body with
  |some c=>exK P K G (A f).prom fn.ntmps (A f).live (Zc lo (jP P G A K m f) fn) (pick c) (qx l vs h) fun e s=>some (e,zS s l',s.h)
  |none=>none
 |none=>none
section
variable {P:Program} {Gl:Nat->Option (List T)} {K:Orc} {A:FuncId->Ann}
theorem Jb(c:Code):∀b∈qn (sq1 c),b∈qn c:=by
 intro b hb;cases c with
 |seq x y=>simp only[sq1,qn,List.mem_append] at *;exact .inl hb
 |_=>exact hb
theorem Jc(c:Code):∀b∈qn (sq2 c),b∈qn c:=by
 intro b hb;cases c with
 |seq x y=>simp only[sq2,qn,List.mem_append] at *;exact .inr hb
 |_=>exact hb
end
section
variable {P:Program} {Gl:Nat->Option (List T)} {prom:List Nat} {nt:Nat}
theorem Yw{K:Orc}{A:FuncId->Ann}(hm:P.follows .mixedOrders=true)(hK:OrcOk P Gl K){m:Nat}{f:FuncId}{fn:Func}{c:Code}(hf:P.funcs[f]?=some fn)(hb:fn.body=some c)(hnt:fn.ntmps<=1024)(ha:QD P f=true){lo:List (Nat×(List T->qa->LT))}(hL:∀p∈lo,LoopOk P Gl (A f) f p.1 p.2)
 (pick:Code->Code) {c0:Code} (hc:pick c=c0) (hsub:∀b∈qn (pick c),b∈qn c) {l l':List Nat} {vs vs':List T} {h h':qa} {e:Ex}
 (hk:zC P Gl A K m f lo pick l vs h l'=some (e,vs',h')):CodeGoes P Gl (A f).prom fn.ntmps c0 (qx l vs h) e (qx l' vs' h'):=by
 subst hc;unfold zC at hk;rw[hf] at hk;dsimp only at hk;rw[hb] at hk;dsimp only at hk;have hrec:=Yv (A:=A) ha (ZA P Gl A K m f) (kL hm hK m f) hL fn c hf hb hnt;obtain⟨e1,s1,hk,hgo⟩:=Qh hm hK hnt hrec (pick c) hsub hk;simp only[Option.some.injEq,Prod.mk.injEq] at hk;obtain⟨rfl,rfl,rfl⟩:=hk;exact fun ro n hro g a w hs Q hn=>hgo ro n hro g a w hs Q fun a' w' g' hs' hf' hd'=>hn a' w' g' (hs'.only l') hf' hd'
end
def inB:Code->Code
 |.block _ c=>c
 |.loop c=>c
 |.scope c=>c
 |c=>c
theorem qbO(c:Code):∀b∈qn (inB c),b∈qn c:=by
 intro b hb;cases c with
 |loop x=>simp only[inB,qn,List.mem_cons] at *;exact .inr hb
 |_=>exact hb
section
variable {P:Program} {Gl:Nat->Option (List T)} {prom:List Nat} {nt:Nat} {K:Orc} {A:FuncId->Ann}
def qJ(P:Program)(Gl:Nat->Option (List T))(prom:List Nat)(nt:Nat)(h0:qa)(c:Code)(s:St)(e:Ex)(s':St):Prop :=
 ∀(ro:Option Nat) (n:Nat),(qf c=true->ro=none)->∀(g0:Gh) (w0:World) (g:Gh) (a:Act) (w:World),HR g0 h0 w0->FrC g0 h0 w0 g s.h w->SR Gl prom nt g s a w->∀Q:Exit->Act->World->Prop,
  (∀a' w' g',SR Gl prom nt g' s' a' w'->FrC g0 h0 w0 g' s'.h w'->(qf c=false->a'.defers=a.defers)->Q e.out a' w')->c.wpIn (Ql ro) n P Q a w
theorem kr{h0:qa}{c:Code}{s s':St}{e:Ex}(h:CodeGoes P Gl prom nt c s e s'):qJ P Gl prom nt h0 c s e s' :=
 fun ro n hro _ _ g a w _ hf hs Q hn=>h ro n hro g a w hs Q fun a' w' g' hs' hf' hd'=>hn a' w' g' hs' (hf.trans hf') hd'
theorem qdG{h0:qa}{c d:Code}{s s1 s':St}{e:Ex}(h1:CodeGoes P Gl prom nt c s .normal s1)(h2:qJ P Gl prom nt h0 d s1 e s'):qJ P Gl prom nt h0 (.seq c d) s e s' :=
 fun ro n hro g0 w0 g a w hr hf hs Q hn=>wpIn_seq (h1 ro n (fun h=>hro (by simp[qf,h])) g a w hs _ fun a1 w1 g1 hs1 hf1 hd1=>h2 ro n (fun h=>hro (by simp[qf,h])) g0 w0 g1 a1 w1 hr (hf.trans hf1) hs1 Q fun a2 w2 g2 hs2 hf2 hd2=>hn a2 w2 g2 hs2 hf2 fun h=>by simp only[qf,Bool.or_eq_false_iff] at h;exact(hd2 h.2).trans (hd1 h.1))
theorem qaT{h0:qa}{c:Code}{s s':St}{e:Ex}(h:qJ P Gl prom nt h0 c s e s'):qJ P Gl prom nt h0 (.scope c) s e s' :=
 fun ro n hro g0 w0 g a w hr hf hs Q hn=>KF (h ro n (fun h=>hro (by simpa [qf] using h)) g0 w0 g a w hr hf hs _ fun a1 w1 g1 hs1 hf1 hd1=>by
  have:=hn a1 w1 g1 hs1 hf1 fun h=>hd1 (by simpa only[qf] using h);cases e<;>exact this)
theorem qbP{h0:qa}{c:Code}{s':St}{e:Ex}{l:List Nat}{vs vs2:List T}{h h2:qa}(hw:WeakTo Gl prom nt l h0.length vs h vs2 h2)(ht:qJ P Gl prom nt h0 c (qx l vs2 h2) e s'):qJ P Gl prom nt h0 c (qx l vs h) e s' :=
 fun ro n hro g0 w0 g a w hr hf hs Q hn=>by
  obtain⟨g2,q1,q2,_⟩:=hw g a w g0 h0 w0 (Nat.le_refl _) hr hf hs;exact ht ro n hro g0 w0 g2 a w hr q2 q1 Q hn
theorem Jd{c:Code}{s s':St}{e:Ex}(h:qJ P Gl prom nt s.h c s e s'):CodeGoes P Gl prom nt c s e s' :=
 fun ro n hro g a w hs Q hn=>h ro n hro g w g a w hs.hr (.refl _ _ _) hs Q hn
theorem Je(hn:Qv P=true){f:FuncId}{fn:Func}{c:Code}(hfn:P.funcs[f]?=some fn)(hb:fn.body=some c){args:List T}(hc:(Nat.ble fn.ntmps 1024&&Nat.ble args.length fn.ntmps)=true){s':St}(hgo:CodeGoes P Gl prom fn.ntmps c (enter args []) .ret s'){r:T}(hres:Yh P Gl prom fn s' (fun v=>some (yP s'.h v))=some r):ToldOk P Gl f args r:=by
 obtain⟨rv,hrv,hres2⟩:=qq (ko (P:=P) (Gl:=Gl) (prom:=prom) fn s') hres;obtain rfl:=Option.some.inj hrv;simp only[Bool.and_eq_true] at hc;have hnt:=qT hc.1;have hle:=qT hc.2;refine⟨⟨fn,hfn,by rw[hb];rfl,?_⟩,fun w U cargs hU hgl ha=>?_⟩
 ·have:=Array.all_eq_true'.1 hn fn (Array.mem_of_getElem? hfn);rw[hb] at this;simpa using this
 let g0:Gh:={ U:=U,φ:=fun _=>none,own:=fun _=>none,base:=w.heap.size,low:=0 }
 have hr:HR g0 [] w:=⟨fun i b hb=>by simp at hb,fun b hb=>⟨hU b hb,rfl⟩,fun b o ho=>(by cases ho),Nat.le_refl _,fun b o ho=>(by cases ho),fun b i ho=>(by cases ho),fun i b m hb=>by simp at hb⟩;have hav:ArgsVR g0 [] w args cargs:=⟨ha.1,fun i x hi=>by
  obtain⟨v,q1,q2⟩:=ha.2 i x hi;exact⟨v,q1,.imm _ _ q2⟩⟩
 have hs0:=SR.enter (Gl:=Gl) (prom:=prom) (Nat.le_refl _) (hr.setLow w.heap.size) hgl hav hnt hle;rw[←callsIn_wide (n:=0)];refine callsIn_of_wp_marks hfn hb trivial (hgo none 0 (fun _=>rfl) _ _ w hs0 _ fun a' w' g' hs' hf' _=>?_) rfl;obtain⟨hlo,l,hl1,hl2,hl3⟩:=hs'.defers;replace hl1:=hl1.nil hf'.dt;obtain⟨t1,t2,t3,t4,t5⟩:=JZ l w';have hoff:∀b,g'.U b∨g'.own b≠none->b∉l:=by
  rintro b hb hbl;obtain⟨q1,q2,q3,q4⟩:=hl3 b hbl;rcases hb with hb|hb
  ·exact q3 hb
  ·exact hb q2
 have hrm:∀b n,room w' b n->room (turn l w') b n:=by
  rintro b n ⟨arr,e,h1,h2⟩;refine⟨arr,e,?_,h2⟩;rw[t5 b fun hbl=>?_]
  ·exact h1
  ·have:=(hl3 b hbl).2.2.2;rw[h1] at this;cases this
 have hs2:=hs'.world (w':=turn l w') (ds:=[]) (by omega) (fun b hb=>t5 b (hoff b hb)) hrm (Marks.nil (by omega));obtain⟨x,hk,v,h1,h2⟩:=yj hs2 (hres2 T some);obtain rfl:=Option.some.inj hk;show LeavesInM Fence.wide 0 P fn a'.tmps (fun e w'=>∃v,e = .returned v/\RV w U (yP s'.h x) v w') a'.defers .returning w';rw[hl1];refine ZM l w' hl2 (fun D hD=>(hl3 D hD).2.2.2) ⟨v,h1,v,rfl,?_⟩;have hbase:g'.base=w.heap.size:=hf'.base;obtain⟨X,q1,q2,q3⟩:=Yp hs2.hr (B:=w.heap.size) (by omega) h2;refine⟨⟨⟨t2.trans hf'.os,t3.trans hf'.tape,(t4.trans hf'.output).1,by have:=hf'.size;omega,fun b hb=>?_⟩,(t4.trans hf'.output).2⟩,ZG g' (turn l w') w.heap.size (zP x),X,fun b hb=>.inl ((hf'.keep.u b hb).1),fun b hb=>?_,q2,q3,q1⟩
 ·rw[t5 b fun hbl=>by have:=(hl3 b hbl).1;have h4:g'.low=w.heap.size:=hf'.low;omega];exact hf'.same b hb rfl
 ·rcases hb with hb|hb
  ·exact⟨hf'.u b hb,(hs2.hr.u b hb).1⟩
  ·exact⟨.inr hb.1,hb.2.1⟩
end
section
variable {P:Program} {Gl:Nat->Option (List T)} {prom:List Nat} {nt:Nat} {K:Orc} {A:FuncId->Ann}
def qbQ(P:Program)(Gl:Nat->Option (List T))(prom:List Nat)(nt k:Nat)(c:Code)(s:St)(e:Ex)(s':St):Prop:=∀h0:qa,h0.length<=k->qJ P Gl prom nt h0 c s e s'
theorem CodeGoes.base{c:Code}{s s':St}{e:Ex}(h:CodeGoes P Gl prom nt c s e s')(k:Nat):qbQ P Gl prom nt k c s e s':=fun _ _=>kr h
def qhY(P:Program)(Gl:Nat->Option (List T))(prom:List Nat)(nt k:Nat)(live:Nat->Bool->List Nat)(S:Code->Prop)(rec:Rec):Prop :=
 zD rec/\∀b vs h e vs' h',S b->rec _ b vs h (fun e vs h=>some (e,vs,h))=some (e,vs',h')->qbQ P Gl prom nt k (zc b) (qx (live (qm b) false) vs h) e (qx (live (qm b) true) vs' h')
theorem ku(hm:P.follows .mixedOrders=true)(hK:OrcOk P Gl K)(hnt:nt<=1024){k0:Nat}{live:Nat->Bool->List Nat}{rec:Rec}(c:Code){R:Type}{s:St}{k:Ex->St->Option R}{r:R}(hk:exK P K Gl prom nt live rec c s k=some r)
 (he:exK P K Gl prom nt live rec c s k=exK P K Gl prom nt live (yq P K Gl prom nt live 0) c s k:=by rfl):∃e s',k e s'=some r/\qbQ P Gl prom nt k0 c s e s':=by
 obtain⟨e,s',h1,h2⟩:=Qh hm hK hnt (yh hm hK hnt 0) c (fun _ _=>trivial) (he.symm.trans hk);exact⟨e,s',h1,h2.base k0⟩
theorem ZB(hm:P.follows .mixedOrders=true)(hK:OrcOk P Gl K)(hnt:nt<=1024){k0:Nat}{live:Nat->Bool->List Nat}{S:Code->Prop}{rec:Rec}(hrec:qhY P Gl prom nt k0 live S rec) :
 ∀(c:Code) (_:∀b∈qn c,S b) {R:Type} {s:St} {k:Ex->St->Option R} {r:R},exK P K Gl prom nt live rec c s k=some r->∃e s',k e s'=some r/\qbQ P Gl prom nt k0 c s e s'
 |.skip,_,R,s,k,r,hk=>ku hm hK hnt .skip hk
 |.label i,_,R,s,k,r,hk=>ku hm hK hnt (.label i) hk
 |.region id ops draw,_,R,s,k,r,hk=>ku hm hK hnt (rec:=rec) (.region id ops draw) hk
 |.seq x y,hl,R,s,k,r,hk=>by
  simp only[exK] at hk;obtain⟨e,s1,hk,h1⟩:=ZB hm hK hnt hrec x (fun b hb=>hl b (by simp[qn,hb])) hk;cases e with
  |normal =>
   obtain⟨e2,s2,hk,h2⟩:=ZB hm hK hnt hrec y (fun b hb=>hl b (by simp[qn,hb])) hk;exact⟨e2,s2,hk,fun h0 hle ro n hro g0 w0 g a w hr hf hs Q hn=>wpIn_seq (h1 h0 hle ro n (fun h=>hro (by simp[qf,h])) g0 w0 g a w hr hf hs _ fun a1 w1 g1 hs1 hf1 hd1=>h2 h0 hle ro n (fun h=>hro (by simp[qf,h])) g0 w0 g1 a1 w1 hr hf1 hs1 Q fun a2 w2 g2 hs2 hf2 hd2=>hn a2 w2 g2 hs2 hf2 fun h=>by simp only[qf,Bool.or_eq_false_iff] at h;exact(hd2 h.2).trans (hd1 h.1))⟩
  |exit i=>exact⟨_,_,hk,fun h0 hle ro n hro g0 w0 g a w hr hf hs Q hn=>wpIn_seq (h1 h0 hle ro n (fun h=>hro (by simp[qf,h])) g0 w0 g a w hr hf hs _ fun a1 w1 g1 hs1 hf1 hd1=>hn a1 w1 g1 hs1 hf1 fun h=>by simp only[qf,Bool.or_eq_false_iff] at h;exact hd1 h.1)⟩
  |ret=>exact⟨_,_,hk,fun h0 hle ro n hro g0 w0 g a w hr hf hs Q hn=>wpIn_seq (h1 h0 hle ro n (fun h=>hro (by simp[qf,h])) g0 w0 g a w hr hf hs _ fun a1 w1 g1 hs1 hf1 hd1=>hn a1 w1 g1 hs1 hf1 fun h=>by simp only[qf,Bool.or_eq_false_iff] at h;exact hd1 h.1)⟩
 |.cond c x y,hl,R,s,k,r,hk=>by
  simp only[exK] at hk;cases hc:Ab.ev Gl prom s c with
  |bool t =>
   rw[hc] at hk;have hev:∀(g:Gh) (a:Act) (w:World),SR Gl prom nt g s a w->a.eval c = .bool t:=fun g a w hs=>by
    have:=hs.ev c;rw[hc] at this;exact this.bool
   cases t with
   |true =>
    obtain⟨e,s1,hk,h1⟩:=ZB hm hK hnt hrec x (fun b hb=>hl b (by simp[qn,hb])) hk;exact⟨e,s1,hk,fun h0 hle ro n hro g0 w0 g a w hr hf hs Q hn=>wpIn_cond_true (hev g a w hs) (h1 h0 hle ro n (fun h=>hro (by simp[qf,h])) g0 w0 g a w hr hf hs Q fun a1 w1 g1 hs1 hf1 hd1=>hn a1 w1 g1 hs1 hf1 fun h=>by simp only[qf,Bool.or_eq_false_iff] at h;exact hd1 h.1)⟩
   |false =>
    obtain⟨e,s1,hk,h1⟩:=ZB hm hK hnt hrec y (fun b hb=>hl b (by simp[qn,hb])) hk;exact⟨e,s1,hk,fun h0 hle ro n hro g0 w0 g a w hr hf hs Q hn=>wpIn_cond_false (hev g a w hs) (h1 h0 hle ro n (fun h=>hro (by simp[qf,h])) g0 w0 g a w hr hf hs Q fun a1 w1 g1 hs1 hf1 hd1=>hn a1 w1 g1 hs1 hf1 fun h=>by simp only[qf,Bool.or_eq_false_iff] at h;exact hd1 h.2)⟩
  |_=>rw[hc] at hk;cases hk
 |.block id b,hl,R,s,k,r,hk=>by
  simp only[exK] at hk;obtain⟨e,s1,hk,h1⟩:=ZB hm hK hnt hrec b (fun b' hb=>hl b' (by simp[qn,hb])) hk;cases e with
  |normal=>exact⟨_,_,hk,fun h0 hle ro n hro g0 w0 g a w hr hf hs Q hn=>wpIn_block (h1 h0 hle ro n (fun h=>hro (by simp[qf,h])) g0 w0 g a w hr hf hs _ fun a1 w1 g1 hs1 hf1 hd1=>hn a1 w1 g1 hs1 hf1 fun h=>hd1 (by simpa only[qf] using h))⟩
  |ret=>exact⟨_,_,hk,fun h0 hle ro n hro g0 w0 g a w hr hf hs Q hn=>wpIn_block (h1 h0 hle ro n (fun h=>hro (by simp[qf,h])) g0 w0 g a w hr hf hs _ fun a1 w1 g1 hs1 hf1 hd1=>hn a1 w1 g1 hs1 hf1 fun h=>hd1 (by simpa only[qf] using h))⟩
  |exit i =>
   dsimp only at hk;rcases qk hk with⟨hi,hk⟩|⟨hi,hk⟩
   ·refine⟨_,_,hk,fun h0 hle ro n hro g0 w0 g a w hr hf hs Q hn=>wpIn_block (h1 h0 hle ro n (fun h=>hro (by simp[qf,h])) g0 w0 g a w hr hf hs _ fun a1 w1 g1 hs1 hf1 hd1=>?_)⟩;have hi:i=id:=by simpa using hi
    simp only[Ex.out,Exit.inBlock,if_pos hi];exact hn a1 w1 g1 hs1 hf1 fun h=>hd1 (by simpa only[qf] using h)
   ·refine⟨_,_,hk,fun h0 hle ro n hro g0 w0 g a w hr hf hs Q hn=>wpIn_block (h1 h0 hle ro n (fun h=>hro (by simp[qf,h])) g0 w0 g a w hr hf hs _ fun a1 w1 g1 hs1 hf1 hd1=>?_)⟩;have hi:i≠id:=by simpa using hi
    simp only[Ex.out,Exit.inBlock,if_neg hi];exact hn a1 w1 g1 hs1 hf1 fun h=>hd1 (by simpa only[qf] using h)
 |.loop b,hl,R,s,k,r,hk=>by
  simp only[exK] at hk;rcases qk hk with⟨_,hk⟩|⟨hrg,hk⟩
  ·cases hk
  obtain⟨⟨e,vs,h⟩,hk,hr⟩:=qq (hrec.1 b (zS s (live (qm b) false)) s.h) (k:=fun p=>k p.1 (qx (live (qm b) true) p.2.1 p.2.2)) hk;have hgo:=hrec.2 b _ _ e vs h (hl b (by simp[qn])) (hr _ some);rw[show zc b = .loop b by simp[zc,hrg]] at hgo;exact⟨e,_,hk,fun h0 hle ro n hro g0 w0 g a w hr hf hs Q hn=>hgo h0 hle ro n hro g0 w0 g a w hr hf (hs.only _) Q hn⟩
 |.exit id,_,R,s,k,r,hk=>ku hm hK hnt (.exit id) hk
 |.ret,_,R,s,k,r,hk=>ku hm hK hnt .ret hk
 |.scope b,hl,R,s,k,r,hk=>by
  simp only[exK] at hk;obtain⟨e,s1,hk,h1⟩:=ZB hm hK hnt hrec b (fun b' hb=>hl b' (by simpa [qn] using hb)) hk;refine⟨e,s1,hk,fun h0 hle ro n hro g0 w0 g a w hr hf hs Q hn=>KF (h1 h0 hle ro n (fun h=>hro (by simpa [qf] using h)) g0 w0 g a w hr hf hs _ fun a1 w1 g1 hs1 hf1 hd1=>?_)⟩;have:=hn a1 w1 g1 hs1 hf1 fun h=>hd1 (by simpa only[qf] using h);cases e<;>exact this
 |.goto _,_,R,s,k,r,hk=>by simp only[exK] at hk;cases hk
 |.refuse _,_,R,s,k,r,hk=>by simp only[exK] at hk;cases hk
 |.rangeFunc f ps x y,hl,R,s,k,r,hk=>by
  simp only[exK] at hk;obtain⟨⟨e,vs,h⟩,hk,hr⟩:=qq (hrec.1 (.rangeFunc f ps x y) (zS s (live (qm (.rangeFunc f ps x y)) false)) s.h) (k:=fun p=>k p.1 (qx (live (qm (.rangeFunc f ps x y)) true) p.2.1 p.2.2)) hk;have hgo:=hrec.2 _ _ _ e vs h (hl (.rangeFunc f ps x y) (by simp[qn])) (hr _ some);rw[show zc (.rangeFunc f ps x y) = .rangeFunc f ps x y by rfl] at hgo;exact⟨e,_,hk,fun h0 hle ro n hro g0 w0 g a w hr hf hs Q hn=>hgo h0 hle ro n hro g0 w0 g a w hr hf (hs.only _) Q hn⟩
def BaseOk(P:Program)(Gl:Nat->Option (List T))(an:Ann)(f:FuncId)(k r:Nat)(spec:List T->qa->LT):Prop :=
 ∀fn,P.funcs[f]?=some fn->fn.ntmps<=1024->∀vs h e vs' h',(spec vs h).run (fun e vs h=>some (e,vs,h))=some (e,vs',h') →
  qbQ P Gl an.prom fn.ntmps k (zc (zp P f r)) (qx (an.live r false) vs h) e (qx (an.live r true) vs' h')
theorem LoopOk.base{an:Ann}{f r:Nat}{spec:List T->qa->LT}(h:LoopOk P Gl an f r spec)(k:Nat):BaseOk P Gl an f k r spec:=fun fn hf hnt vs hp e vs' h' hk=>(h fn hf hnt vs hp e vs' h' hk).base k
theorem Yx{f k:Nat}(ha:QD P f=true){base:Func->Rec}(hbd:∀fn,zD (base fn))(hb:KG P Gl A f base){fn:Func}{c:Code}(hf:P.funcs[f]?=some fn)(hc:fn.body=some c)(hnt:fn.ntmps<=1024) :
 ∀{l:List (Nat×(List T->qa->LT))},(∀p∈l,BaseOk P Gl (A f) f k p.1 p.2)->qhY P Gl (A f).prom fn.ntmps k (A f).live (fun b=>b∈qn c) (Zc l base fn)
 |[],_=>⟨hbd fn,fun b vs h e vs' h' hS hk=>((hb fn c hf hc hnt).2 b vs h e vs' h' hS hk).base k⟩
 |(r,spec)::l,hl=>by
  have ih:=Yx ha hbd hb hf hc hnt (l:=l) (fun p hp=>hl p (by simp[hp]));refine⟨yz hbd _ fn,fun b vs h e vs' h' hS hk=>?_⟩;simp only[Zc] at hk;rcases qk hk with⟨hr,hk⟩|⟨_,hk⟩
  ·have hr:qm b=r:=by simpa using hr
   have:=hl (r,spec) (by simp) fn hf hnt vs h e vs' h' hk;dsimp only at this;rw[←hr,j6 ha hf hc hS] at this;exact this
  ·exact ih.2 b vs h e vs' h' hS hk
def qeZ(P:Program)(G:Nat->Option (List T))(A:FuncId->Ann)(K:Orc)(m:Nat)(f:FuncId)(l:List (Nat×(List T->qa->LT)))(args:List T):Option T:=match P.funcs[f]? with
 |some fn=>match fn.body with
  |some c=>bif Nat.ble fn.ntmps 1024&&Nat.ble args.length fn.ntmps then
   exK P K G (A f).prom fn.ntmps (A f).live (Zc l (jP P G A K m f) fn) c (enter args []) fun e s=>match e with
    |.ret=>Yh P G (A f).prom fn s fun v=>some (yP s.h v)
    |_=>none
   else none
  |none=>none
 |none=>none
theorem qew(hm:P.follows .mixedOrders=true)(hn:Qv P=true)(hK:OrcOk P Gl K){m:Nat}{f:FuncId}(ha:QD P f=true){l:List (Nat×(List T->qa->LT))}
 (hl:∀p∈l,BaseOk P Gl (A f) f 0 p.1 p.2) {args:List T} {r:T} (h:qeZ P Gl A K m f l args=some r):ToldOk P Gl f args r:=by
 unfold qeZ at h;cases hf:P.funcs[f]? with
 |none=>rw[hf] at h;cases h
 |some fn =>
  rw[hf] at h;dsimp only at h;cases hb:fn.body with
  |none=>rw[hb] at h;cases h
  |some c =>
   rw[hb] at h;dsimp only at h;obtain⟨hc,h⟩:=qc h;have hc':=hc;simp only[Bool.and_eq_true] at hc';have hnt:=qT hc'.1;obtain⟨e,s',hk,hgo⟩:=ZB hm hK hnt (Yx (A:=A) (k:=0) ha (ZA P Gl A K m f) (kL hm hK m f) hf hb hnt hl) c (fun _ hb=>hb) h;cases e with
   |ret=>exact Je hn hf hb hc (Jd (hgo [] (Nat.le_refl _))) hk
   |_=>cases hk
noncomputable def qaU(k:Nat)(vs:List T)(h:qa)(vs0:List T)(h0:qa):Bool:=@decide (∀(Gl:Nat->Option (List T)) (prom:List Nat) (nt:Nat) (l:List Nat),WeakTo Gl prom nt l k vs h vs0 h0) (Classical.propDecidable _)
theorem Zp{k:Nat}{vs vs0:List T}{h h0:qa}:qaU k vs h vs0 h0=true↔∀(Gl:Nat->Option (List T)) (prom:List Nat) (nt:Nat) (l:List Nat),WeakTo Gl prom nt l k vs h vs0 h0:=by simp[qaU]
theorem qf8{k:Nat}{vs vs0:List T}{h h0:qa}(q:vs=vs0/\SameBlks h h0):qaU k vs h vs0 h0=true:=Zp.2 fun Gl prom nt l=>by rw[q.1];exact WeakTo.same q.2
theorem qdH{k:Nat}{vs vs':List T}{h h2 h':qa}(σ:List Nat)(ho:yk k σ h=true)(hv:vs.map (ren σ h)=vs')(hh:Ja σ h=h2)(hs:SameBlks h2 h'):qaU k vs h vs' h'=true:=Zp.2 fun Gl prom nt l=>.trans (.canon σ ho) (by rw[hv,hh];exact .same hs)
noncomputable def YM(k:Nat)(vs0:List T)(h0:qa)(e:Ex)(vs1:List T)(h1:qa):List T->qa->LT:=fun vs h=>.ite (qaU k vs h vs0 h0) (.ret e vs1 h1) .none
def qgE(P:Program)(Gl:Nat->Option (List T))(an:Ann)(f r k:Nat)(vs:List T)(h:qa)(e:Ex)(vs':List T)(h':qa):Prop :=
 ∃(A:FuncId->Ann) (K:Orc) (m:Nat) (l:List (Nat×(List T->qa->LT))),OrcOk P Gl K/\(A f).prom=an.prom/\(A f).live r=an.live r/\(∀p∈l,BaseOk P Gl (A f) f k p.1 p.2)/\qV P Gl A K m f l r vs h=some (e,vs',h')
theorem Rnd.base{an:Ann}{f r:Nat}{vs vs':List T}{h h':qa}{e:Ex}(x:Rnd P Gl an f r vs h e vs' h')(k:Nat):qgE P Gl an f r k vs h e vs' h':=by
 obtain⟨A,K,m,l,q1,q2,q3,q4,q5⟩:=x;exact⟨A,K,m,l,q1,q2,q3,fun p hp=>(q4 p hp).base k,q5⟩
def qhd(P:Program)(Gl:Nat->Option (List T))(an:Ann)(f r k:Nat)(vs:List T)(h:qa)(vs':List T)(h':qa):Prop :=
 ∃v1 h1,qgE P Gl an f r k vs h .normal v1 h1/\∀nt,WeakTo Gl an.prom nt (an.live r false) k v1 h1 vs' h'
def qhe(P:Program)(Gl:Nat->Option (List T))(an:Ann)(f r k:Nat)(vs:List T)(h:qa)(e:Ex)(vs':List T)(h':qa):Prop :=
 e≠.normal/\∃v1 h1,qgE P Gl an f r k vs h e v1 h1/\∀nt,WeakTo Gl an.prom nt (an.live r true) k v1 h1 vs' h'
theorem Step.base{an:Ann}{f r k:Nat}{vs vs':List T}{h h':qa}(x:Step P Gl an f r k vs h vs' h'):qhd P Gl an f r k vs h vs' h':=by
 obtain⟨v1,h1,q1,q2⟩:=x;exact⟨v1,h1,q1.base k,q2⟩
theorem Last.base{an:Ann}{f r k:Nat}{vs vs':List T}{h h':qa}{e:Ex}(x:Last P Gl an f r k vs h e vs' h'):qhe P Gl an f r k vs h e vs' h':=by
 obtain⟨he,v1,h1,q1,q2⟩:=x;exact⟨he,v1,h1,q1.base k,q2⟩
theorem qaV(hm:P.follows .mixedOrders=true){f r k:Nat}(ha:kp P f r=true){an:Ann}(vs:Nat->List T)(hh:Nat->qa){n:Nat}{e1:Ex}{vs1:List T}{h1:qa}
 (round:∀i,i<n->qhd P Gl an f r k (vs i) (hh i) (vs (i+1)) (hh (i+1))) (last:qhe P Gl an f r k (vs n) (hh n) e1 vs1 h1):BaseOk P Gl an f k r (YM k (vs 0) (hh 0) e1 vs1 h1):=by
 intro fn hf hnt vs0 h0' e vs' h' hk;unfold YM at hk;obtain⟨hc,rfl,rfl,rfl⟩:=LT.ite_some hk;have hw0:=Zp.1 hc;obtain⟨hap,c,hb,hmem,hfr,hasl⟩:=qbM ha hf;rw[hasl];intro h0 hle ro nn hro g0 w0 g a w hr0 hf0 hs0 Q hn;obtain⟨gs,q1,q2,_⟩:=hw0 Gl an.prom fn.ntmps (an.live r false) g a w g0 h0 w0 hle hr0 hf0 hs0;refine zI (fun j a' w'=>∃i g',i<=n/\j=n-i/\SR Gl an.prom fn.ntmps g' (qx (an.live r false) (vs i) (hh i)) a' w'/\FrC g0 h0 w0 g' (hh i) w'/\(qf (zp P f r)=false->a'.defers=a.defers)) (fun j a' w' hJ=>?_) n a w ⟨0,gs,Nat.zero_le _,rfl,q1,q2,fun _=>rfl⟩;obtain⟨i,g',hi,rfl,hs,hfr',hdf⟩:=hJ;have go:∀{e v1 h2},qgE P Gl an f r k (vs i) (hh i) e v1 h2->qbQ P Gl an.prom fn.ntmps k (zp P f r) (qx (an.live r false) (vs i) (hh i)) e (qx (match e with|.normal=>an.live r false|_=>an.live r true) v1 h2):=fun {e v1 h2} x=>by
  obtain⟨A,K,m,l,hK,hp,hlive,hl,hit⟩:=x;unfold qV at hit;rw[hf] at hit;dsimp only at hit;obtain⟨e',s',hk2,hgo⟩:=ZB hm hK hnt (Yx (A:=A) (k:=k) hap (ZA P Gl A K m f) (kL hm hK m f) hf hb hnt hl) (zp P f r) (fun b hb'=>Qc c hmem hb') hit;rw[hp,hlive] at hgo;rw[hlive] at hk2;cases e' with
  |normal =>
   simp only[Option.some.injEq,Prod.mk.injEq] at hk2;obtain⟨rfl,rfl,rfl⟩:=hk2;exact fun h0 hle ro n hro g0 w0 g a w hr hf hs Q hn=>hgo h0 hle ro n hro g0 w0 g a w hr hf hs Q fun a' w' g' hs' hf' hd'=>hn a' w' g' (hs'.only _) hf' hd'
  |exit j =>
   simp only[Option.some.injEq,Prod.mk.injEq] at hk2;obtain⟨rfl,rfl,rfl⟩:=hk2;exact fun h0 hle ro n hro g0 w0 g a w hr hf hs Q hn=>hgo h0 hle ro n hro g0 w0 g a w hr hf hs Q fun a' w' g' hs' hf' hd'=>hn a' w' g' (hs'.only _) hf' hd'
  |ret =>
   simp only[Option.some.injEq,Prod.mk.injEq] at hk2;obtain⟨rfl,rfl,rfl⟩:=hk2;exact fun h0 hle ro n hro g0 w0 g a w hr hf hs Q hn=>hgo h0 hle ro n hro g0 w0 g a w hr hf hs Q fun a' w' g' hs' hf' hd'=>hn a' w' g' (hs'.only _) hf' hd'
 rcases Nat.lt_or_ge i n with hlt|hge
 ·obtain⟨v1,h2,hx,hw⟩:=round i hlt;refine go hx h0 hle ro nn (fun hh=>hro (by simpa [qf] using hh)) g0 w0 g' a' w' hr0 hfr' hs _ fun a2 w2 g2 hs2 hf2 hd2=>?_;obtain⟨g3,p1,p2,_⟩:=hw fn.ntmps g2 a2 w2 g0 h0 w0 hle hr0 hf2 hs2;exact⟨n-(i+1),by omega,i+1,g3,by omega,rfl,p1,p2,fun h=>(hd2 h).trans (hdf h)⟩
 ·obtain rfl:i=n:=by omega
  obtain⟨hne,v1,h2,hx,hw⟩:=last;refine go hx h0 hle ro nn (fun hh=>hro (by simpa [qf] using hh)) g0 w0 g' a' w' hr0 hfr' hs _ fun a2 w2 g2 hs2 hf2 hd2=>?_;cases e1 with
  |normal=>exact absurd rfl hne
  |exit j =>
   obtain⟨g3,p1,p2,_⟩:=hw fn.ntmps g2 a2 w2 g0 h0 w0 hle hr0 hf2 hs2;exact hn a2 w2 g3 p1 p2 fun h=>by simp only[qf] at h;exact(hd2 h).trans (hdf h)
  |ret =>
   obtain⟨g3,p1,p2,_⟩:=hw fn.ntmps g2 a2 w2 g0 h0 w0 hle hr0 hf2 hs2;exact hn a2 w2 g3 p1 p2 fun h=>by simp only[qf] at h;exact(hd2 h).trans (hdf h)
theorem J0(P:Program)(Gl:Nat->Option (List T))(an:Ann)(f k r:Nat):∃q:List T->qa->Ex->List T->qa->Prop,q=fun vs h e vs' h'=>BaseOk P Gl an f k r (YM k vs h e vs' h'):=⟨_,rfl⟩
theorem BaseOk.less{an:Ann}{f k r:Nat}{vs vs0 vs1:List T}{h h0 h1:qa}{e:Ex}(l:BaseOk P Gl an f k r (YM k vs0 h0 e vs1 h1))(hw:qaU k vs h vs0 h0=true):BaseOk P Gl an f k r (YM k vs h e vs1 h1):=by
 intro fn hf hnt vs2 h2 e' vs' h' hk;unfold YM at hk;obtain⟨hc,rfl,rfl,rfl⟩:=LT.ite_some hk;refine l fn hf hnt vs2 h2 _ _ _ ?_;unfold YM;simp only[LT.run];rw[Zp.2 fun Gl prom nt l=>(Zp.1 hc Gl prom nt l).trans (Zp.1 hw Gl prom nt l)];rfl
theorem LoopOk.lit_base{an:Ann}{f k r:Nat}{vs0 vs1:List T}{h0 h1:qa}{e:Ex}(l:LoopOk P Gl an f r (qZ vs0 h0 e vs1 h1)):BaseOk P Gl an f k r (YM k vs0 h0 e vs1 h1):=by
 intro fn hf hnt vs2 h2 e' vs' h' hk;unfold YM at hk;obtain⟨hc,rfl,rfl,rfl⟩:=LT.ite_some hk;have hgo:=l fn hf hnt vs0 h0 _ _ _ (by unfold qZ;simp only[LT.run];rw[Qd ⟨rfl,.refl _⟩];rfl);intro hp hle ro n hro g0 w0 g a w hr hf' hs Q hn;obtain⟨g2,q1,q2,_⟩:=Zp.1 hc Gl an.prom fn.ntmps (an.live r false) g a w g0 hp w0 hle hr hf' hs;exact hgo ro n hro g2 a w q1 Q fun a' w' g' hs' hf2 hd'=>hn a' w' g' hs' (q2.trans hf2) hd'
theorem y4{an:Ann}{f k r:Nat}{q:List T->qa->Ex->List T->qa->Prop}(hq:q=fun vs h e vs' h'=>BaseOk P Gl an f k r (YM k vs h e vs' h')):∀t:LT,BaseOk P Gl an f k r (z4 q t)
 |.none,fn,hf,hnt,vs,h,e,vs',h',hk=>by cases hk
 |.ret e1 v1 h1,fn,hf,hnt,vs,h,e,vs',h',hk=>by
  simp only[z4,LT.run] at hk;obtain⟨hc,hk⟩:=qc hk;simp only[Option.some.injEq,Prod.mk.injEq] at hk;obtain⟨rfl,rfl,rfl⟩:=hk;have:=y0.1 hc;rw[hq] at this;refine this fn hf hnt vs h e1 v1 h1 ?_;unfold YM;simp only[LT.run];rw[qf8 ⟨rfl,.refl _⟩];rfl
 |.ite c x y,fn,hf,hnt,vs,h,e,vs',h',hk=>by
  simp only[z4,LT.run] at hk;cases c
  ·exact y4 hq y fn hf hnt vs h e vs' h' hk
  ·exact y4 hq x fn hf hnt vs h e vs' h' hk
theorem qgF{an:Ann}{f k r:Nat}{q:List T->qa->Ex->List T->qa->Prop}(hq:q=fun vs h e vs' h'=>BaseOk P Gl an f k r (YM k vs h e vs' h')){vs vs1:List T}{h h1:qa}{e:Ex}(l:BaseOk P Gl an f k r (YM k vs h e vs1 h1)):q vs h e vs1 h1:=by rw[hq];exact l
theorem QS{an:Ann}{f k r:Nat}{q:List T->qa->Ex->List T->qa->Prop}(hq:q=fun vs h e vs' h'=>BaseOk P Gl an f k r (YM k vs h e vs' h')){vs vs1:List T}{h h1:qa}{e:Ex}(l:BaseOk P Gl an f k r (YM k vs h e vs1 h1)):qF (q vs h e vs1 h1)=true:=y0.2 (qgF hq l)
theorem qhy{an:Ann}{f k r:Nat}{s:List T->qa->LT}(h:BaseOk P Gl an f k r s):∀p∈[(r,s)],BaseOk P Gl an f k p.1 p.2:=fun p hp=>by
 simp only[List.mem_singleton] at hp;subst hp;exact h
theorem qex{an:Ann}{f k r:Nat}{s:List T->qa->LT}{l:List (Nat×(List T->qa->LT))}(h:BaseOk P Gl an f k r s)(hl:∀p∈l,BaseOk P Gl an f k p.1 p.2):∀p∈(r,s)::l,BaseOk P Gl an f k p.1 p.2:=fun p hp=>by
 rcases List.mem_cons.1 hp with rfl|hp
 ·exact h
 ·exact hl p hp
end
end Go.Ab

