/- A part of the proof: nothing is assumed. -/
import Derived.Test.YtifccdcnhibceaaGreatDoorP2
import Derived.OrdersIn
import Derived.TacticsIn
import Derived.RangeFuncLeaves
import Derived.RangeFuncRecord
set_option linter.all false
namespace Go.Ab
inductive Behind(ops:Array Oper):Nat->Nat->Prop where
 |one {j k:Nat} {o:Oper} {e:Edge} (ho:ops[j]?=some o) (he:e∈o.after) (hb:Region.binds .any e=true) (hk:e.on=k):Behind ops j k
 |more {j m k:Nat} {o:Oper} {e:Edge} (ho:ops[j]?=some o) (he:e∈o.after) (hb:Region.binds .any e=true) (hm:e.on=m) (h:Behind ops m k):Behind ops j k
theorem qce{ops:Array Oper}{j:Nat}{o:Oper}{acc:Array Nat}(ho:ops[j]?=some o)(hacc:∀m k,(acc.getD m 0).testBit k=true->Behind ops m k) :
 ∀(l:List Edge) (s0:Nat),(∀e∈l,e∈o.after)->(∀k,s0.testBit k=true->Behind ops j k)->∀k,(l.foldl (fun s e=>if Region.binds .any e then s ||| 2 ^ e.on ||| acc.getD e.on 0 else s) s0).testBit k=true->Behind ops j k
 |[],s0,_,h0,k,hk=>h0 k hk
 |e::l,s0,hl,h0,k,hk=>by
  refine qce ho hacc l _ (fun e he=>hl e (List.mem_cons_of_mem _ he)) (fun k hk=>?_) k hk;dsimp only at hk;split at hk
  ·rename_i hb;simp only[Nat.testBit_or,Bool.or_eq_true] at hk;rcases hk with (hk|hk)|hk
   ·exact h0 k hk
   ·rw[Nat.testBit_two_pow] at hk;exact .one ho (hl e (by simp)) hb (by simpa using hk)
   ·exact .more ho (hl e (by simp)) hb rfl (hacc _ k hk)
  ·exact h0 k hk
theorem JR{ops:Array Oper}:∀(l:List Oper) (acc:Array Nat),(∀i,l[i]?=ops[acc.size+i]?)->(∀m k,(acc.getD m 0).testBit k=true->Behind ops m k) →
 ∀m k,((l.foldl (fun (acc:Array Nat) o=>acc.push (o.after.foldl (fun s e=>if Region.binds .any e then s ||| 2 ^ e.on ||| acc.getD e.on 0 else s) 0)) acc).getD m 0).testBit k=true->Behind ops m k
 |[],acc,_,h,m,k,hk=>h m k hk
 |o::l,acc,hl,h,m,k,hk=>by
  have ho:ops[acc.size]?=some o:=by have:=hl 0;simpa using this.symm
  refine JR l _ (fun i=>?_) (fun m k hk=>?_) m k hk
  ·have:=hl (i+1);simp only[List.getElem?_cons_succ] at this;rw[this,Array.size_push];congr 1;omega
  ·rw[Array.getD_eq_getD_getElem?,Array.getElem?_push] at hk;split at hk
   ·rename_i hm;subst hm;rw[←Array.foldl_toList] at hk;exact qce ho h o.after.toList 0 (fun e he=>by simpa using he) (fun k hk=>by simp at hk) k hk
   ·rw[←Array.getD_eq_getD_getElem?] at hk;exact h m k hk
theorem qbI{ops:Array Oper}{j k:Nat}(h:((Region.before ops).getD j 0).testBit k=true):Behind ops j k:=by
 unfold Region.before at h;rw[←Array.foldl_toList] at h;exact JR ops.toList #[] (fun i=>by simp) (fun m k hk=>by simp at hk) j k h
theorem jP:∀(l:List Oper) (j:Nat),jn j l=true->∀(i:Nat) (o:Oper),l[i]?=some o->∀e∈o.after,Region.binds .any e=true->e.on<j+i
 |[],_,_,i,o,ho=>by simp at ho
 |o::l,j,h,i,o',ho=>by
  simp only[jn,Bool.and_eq_true] at h;intro e he hb;cases i with
  |zero =>
   simp only[List.getElem?_cons_zero,Option.some.injEq] at ho;subst ho;have:=List.all_eq_true.1 h.1 e (by simpa using he);rw[hb] at this;simp only[Bool.not_true,Bool.false_or] at this;exact Qc this
  |succ i =>
   have:=jP l (j+1) h.2 i o' (by simpa using ho) e he hb;omega
theorem jQ{before:List Nat}:∀(l:List (Nat×FP)),qak before l=true->List.Pairwise (fun a b=>(before.getD b.1 0).testBit a.1=true∨jm a.2 b.2=false) l
 |[],_=>.nil
 |(i,a)::l,h=>by
  simp only[qak,Bool.and_eq_true] at h;refine List.pairwise_cons.2 ⟨fun b hb=>?_,jQ l h.2⟩;have:=List.all_eq_true.1 h.1 b hb;simpa using this
section
variable {P:Program} {K:Orc} {Gl:Nat->Option (List T)} {prom:List Nat} {nt:Nat} {s s1 s':St}
theorem Same.sr(x:Same s s1){g:Gh}{a:Act}{w:World}(h:SR Gl prom nt g s a w):SR Gl prom nt g s1 a w :=
 ⟨by rw[x.h];exact h.hr,h.defers,h.size,h.nt,fun t ht=>by rw[x.h,x.at'];exact h.tmps t ht,fun t ht cells hc=>by rw[x.h];exact h.regs t ht cells (by rw[←x.at'];exact hc),
  fun d t o hl=>h.loc d t o (by rw[←x.loc];exact hl),h.glob,fun d t o hl=>by rw[x.used];exact h.used d t o (by rw[←x.loc];exact hl)⟩
structure Rest(ops:Array Oper)(listed:Array Bool)(rem:List Nat):Prop where
 size:listed.size=ops.size
 mem:∀i,i∈rem↔listed.getD i true=false
 sorted:List.Pairwise (·<·) rem
 closed:∀j o,ops[j]?=some o->listed.getD j false=true->∀e∈o.after,Region.binds .any e=true->listed.getD e.on false=true
theorem Rest.behind{ops:Array Oper}{listed:Array Bool}{rem:List Nat}(r:Rest ops listed rem){j k:Nat}(h:Behind ops j k):listed.getD j false=true->listed.getD k false=true:=by
 induction h with
 |one ho he hb hk=>exact fun hl=>hk▸r.closed _ _ ho hl _ he hb
 |more ho he hb hm h ih=>exact fun hl=>ih (hm▸r.closed _ _ ho hl _ he hb)
theorem Rest.ready{ops:Array Oper}{listed:Array Bool}{rem:List Nat}(r:Rest ops listed rem){i k:Nat}(hi:i∈Region.ready .any ops listed)(h:Behind ops i k):listed.getD k false=true:=by
 obtain⟨_,o,ho,hall⟩:=mem_ready.1 hi;cases h with
 |one ho' he hb hk =>
  obtain rfl:=Option.some.inj (ho'.symm.trans ho);exact hk▸hall _ he hb
 |more ho' he hb hm h =>
  obtain rfl:=Option.some.inj (ho'.symm.trans ho);exact r.behind h (hm▸hall _ he hb)
theorem Yh{listed:Array Bool}{i:Nat}(h:listed.getD i true=false):i<listed.size/\listed.getD i false=false:=by
 rw[Array.getD_eq_getD_getElem?] at h ⊢;rcases Nat.lt_or_ge i listed.size with h'|h'
 ·rw[Array.getElem?_eq_getElem h'] at h ⊢;exact⟨h',h⟩
 ·rw[Array.getElem?_eq_none h'] at h;cases h
theorem qa1(hK:OrcOk P Gl K)(hnt:nt<=1024){ops:Array Oper}(hedge:jn 0 ops.toList=true){O:Nat->Oper}(hO:∀i,i<ops.size->ops[i]?=some (O i)){F:Nat->FP}
 (hF:∀i j,i<j->j<ops.size->((Region.before ops).getD j 0).testBit i=true∨jm (F i) (F j)=false) :
 ∀(fuel:Nat) {rem:List Nat} {listed:Array Bool} {s s1:St} {g:Gh} {a:Act} {w:World},rem.length=fuel->Rest ops listed rem->RunIs P K Gl prom nt ops.toList (rem.map O) s s1 (rem.map F)->Same s1 s'->SR Gl prom nt g s a w →
  ∀(ro:Option Nat) (n:Nat) (Q:Exit->Act->World->Prop),(∀a' w' g',SR Gl prom nt g' s' a' w'->FrC g s.h w g' s'.h w'->a'.defers=a.defers->Q .normal a' w')->wpAnyIn (QF ro) n P .any ops Q fuel listed a w
 |0,rem,listed,s,s1,g,a,w,hl,hr,hrun,hsame,hs,ro,n,Q,hn=>by
  obtain rfl:=List.length_eq_zero_iff.1 hl;cases hrun with
  |nil =>
   refine⟨?_,hn _ _ _ (hsame.sr hs) (by rw[hsame.h];exact FrC.refl _ _ _) rfl⟩;apply List.eq_nil_iff_forall_not_mem.2;intro i hi;have:=(hr.mem i).2 (mem_ready.1 hi).1;simp at this
 |fuel+1,rem,listed,s,s1,g,a,w,hl,hr,hrun,hsame,hs,ro,n,Q,hn=>by
  refine⟨fun h0=>?_,fun i hi=>?_⟩
  ·
   exfalso;cases rem with
   |nil=>cases hl
   |cons i0 rem =>
    have hun:=(hr.mem i0).1 (by simp);have hlt:=(Yh hun).1;rw[hr.size] at hlt;have ho:=hO i0 hlt;have:i0∈Region.ready .any ops listed:=by
     refine mem_ready.2 ⟨hun,O i0,ho,fun e he hb=>?_⟩;have h1:=jP ops.toList 0 hedge i0 (O i0) (by rw[Array.getElem?_toList];exact ho) e he hb;rw[Nat.zero_add] at h1;cases hb2:listed.getD e.on false with
     |true=>rfl
     |false =>
      have hes:e.on<listed.size:=by rw[hr.size];omega
      have:e.on∈i0::rem:=(hr.mem e.on).2 (by rw[Array.getD_eq_getD_getElem?] at hb2 ⊢;rw[Array.getElem?_eq_getElem hes] at hb2 ⊢;exact hb2);rcases List.mem_cons.1 this with h2|h2
      ·omega
      ·have:=(List.pairwise_cons.1 hr.sorted).1 _ h2;omega
    rw[h0] at this;cases this
  ·have hun:=(mem_ready.1 hi).1;have hlt:=(Yh hun).1;rw[hr.size] at hlt;have ho:=hO i hlt;obtain⟨pre,post,rfl⟩:=List.append_of_mem ((hr.mem i).2 hun);have hsort:=List.pairwise_append.1 hr.sorted;have hpre:∀j∈pre,j<i:=fun j hj=>hsort.2.2 j hj i (by simp);have hcl:∀q∈pre.map F,jm q (F i)=false:=by
    intro q hq;obtain⟨j,hj,rfl⟩:=List.mem_map.1 hq;rcases hF j i (hpre j hj) hlt with h1|h1
    ·have h2:=hr.ready hi (qbI h1);have h3:=(hr.mem j).1 (List.mem_append_left _ hj);rw[(Yh h3).2] at h2;cases h2
    ·exact h1
   rw[List.map_append,List.map_cons,List.map_append,List.map_cons] at hrun;obtain⟨f,s2,g1,g2,g3⟩:=RunIs.pull hnt (by simp) hcl hrun;have hgo:=g1.goes hK hs;have hrest:Rest ops (listed.setIfInBounds i true) (pre++post):=by
    refine⟨by simp[hr.size],fun j=>?_,?_,fun j o hj hl' e he hb=>?_⟩
    ·by_cases hji:j=i
     ·subst hji;have hx:j<listed.size:=by rw[hr.size];exact hlt
      have h4:(listed.setIfInBounds j true).getD j true=true:=by
       rw[Array.getD_eq_getD_getElem?,Array.getElem?_setIfInBounds_self_of_lt hx];rfl
      rw[h4];have h6:=(List.pairwise_cons.1 hsort.2.1).1;constructor
      ·intro hm;rcases List.mem_append.1 hm with h5|h5
       ·have:=hpre j h5;omega
       ·have:=h6 j h5;omega
      ·intro h5;cases h5
     ·rw[getD_set_ne true (Ne.symm hji),←hr.mem j];simp[hji]
    ·refine List.pairwise_append.2 ⟨hsort.1,(List.pairwise_cons.1 hsort.2.1).2,fun x hx y hy=>hsort.2.2 x hx y (by simp[hy])⟩
    ·by_cases hji:i=j
     ·subst hji;obtain⟨_,o2,ho2,hall⟩:=mem_ready.1 hi;obtain rfl:=Option.some.inj (hj.symm.trans ho2);exact getD_set_true (hall e he hb)
     ·rw[getD_set_ne false hji] at hl';exact getD_set_true (hr.closed j o hj hl' e he hb)
   have hih:=fun a' w' g' (hs':SR Gl prom nt g' (f.app s) a' w') (hf':FrC g s.h w g' (f.app s).h w') (hd':a'.defers=a.defers) =>
    qa1 hK hnt hedge hO hF fuel (rem:=pre++post) (listed:=listed.setIfInBounds i true) (s1:=s2) (by simp at hl ⊢;omega) hrest (by rw[List.map_append,List.map_append];exact g2) (g3.symm.trans hsame) hs' ro n Q
     fun a2 w2 g2' hs2 hf2 hd2=>hn a2 w2 g2' hs2 (hf'.trans hf2) (hd2.trans hd')
   have:=hgo ro n (wpAnyIn (QF ro) n P .any ops Q fuel (listed.setIfInBounds i true)) Q hih;unfold wpOpIn;rw[ho];dsimp only;split at this
   ·rename_i hw;rw[if_pos hw];exact this
   ·rename_i hw;rw[if_neg hw];exact⟨fun _ _=>trivial,this⟩
end
theorem z6{P:Program}{b:Frame}{a:Act}{k:List Item}{cs:List Frame}{w:World}{c:Code}:step P (lone (b.atR a (.code (.scope c)::k)) cs w) = .next (lone (b.atR a (.code c::.inScope c::k)) cs w) :=
 step_lone_go (by simp[stepG,stepG.exec,Frame.atR])
theorem qbJ{P:Program}{b:Frame}{a:Act}{k:List Item}{cs:List Frame}{w:World}{c:Code}:step P (lone (b.atR a (.inScope c::k)) cs w) = .next (lone (b.atR a k) cs w) :=
 step_lone_go (by simp[stepG,stepG.exec,Frame.atR])
theorem qa2{F:Fence}{n:Nat}{P:Program}{Q:Exit->Act->World->Prop}{a:Act}{w:World}{c:Code}(h:c.wpIn F n P (Exit.noGoto Q) a w):(Code.scope c).wpIn F n P Q a w:=by
 intro b k cs hro hb hr;have h0:(lone (b.atR a (.code (.scope c)::k)) cs w).fenced P F:=fenced_calm hb hr rfl;obtain⟨e,a₁,w₁,hq,harr⟩:=h b (.inScope c::k) cs hro hb hr;cases e with
 |normal=>exact⟨.normal,a₁,w₁,hq,.head h0 z6 (StepsIn.trans harr (.one (fenced_calm hb hr rfl) qbJ))⟩
 |exit id =>
  have hx:exitTo id (.inScope c::k)=exitTo id k:=by simp[exitTo]
  exact⟨.exit id,a₁,w₁,hq,fun k' hk=>.head h0 z6 (harr.1 k' (by rw[hx];exact hk)),
   fun hr' hk=>let ⟨k₁,h1,h2⟩:=harr.2 hr' (by rw[hx];exact hk);⟨k₁,h1,.head h0 z6 h2⟩⟩
 |goto l=>exact hq.elim
 |ret=>exact⟨_,a₁,w₁,hq,.of_steps (.one h0 z6) harr⟩
 |panic ch=>exact⟨_,a₁,w₁,hq,.of_steps (.one h0 z6) harr⟩
 |outgrown=>exact⟨_,a₁,w₁,hq,.of_steps (.one h0 z6) harr⟩
def Ex.out:Ex->Exit
 |.normal=>.normal
 |.exit i=>.exit i
 |.ret=>.ret
theorem ZH{F:Fence}{n0:Nat}{P:Program}{Q:Exit->Act->World->Prop}{c:Code}(I:Nat->Act->World->Prop)(round:∀n a w,I n a w->c.wpIn F n0 P (Exit.then (fun a' w'=>∃m,m<n/\I m a' w') Q) a w) :
 ∀n a w,I n a w->(Code.loop c).wpIn F n0 P Q a w:=by
 intro n a w h0 b k cs hro hb hr;have key:∀n a w,I n a w->∃e a' w',Q e a' w'/\ArrivesIn (Machine.fenced P F) P (lone (b.atR a (.code c::.inLoop c::k)) cs w) b k cs e a' w':=by
  intro n
  induction n using Nat.strongRecOn with
  |_ n ih =>
   intro a w hI;obtain⟨e,a₁,w₁,hq,harr⟩:=round n a w hI b (.inLoop c::k) cs hro hb hr;cases e with
   |normal =>
    obtain⟨m,hlt,hI₁⟩:=hq;obtain⟨e₂,a₂,w₂,hq₂,harr₂⟩:=ih m hlt a₁ w₁ hI₁;exact⟨e₂,a₂,w₂,hq₂,.of_steps (StepsIn.trans harr (.one (fenced_calm hb hr rfl) stepR_inLoop)) harr₂⟩
   |exit id=>exact⟨_,a₁,w₁,hq,.pass (x:=.inLoop c) rfl (fun _ _=>.inl (by simp)) harr⟩
   |goto l=>exact⟨_,a₁,w₁,hq,.pass (x:=.inLoop c) rfl (fun _ _=>.inl (by simp)) harr⟩
   |ret=>exact⟨_,a₁,w₁,hq,.pass (x:=.inLoop c) rfl (fun _ _=>.inl (by simp)) harr⟩
   |panic ch=>exact⟨_,a₁,w₁,hq,.pass (x:=.inLoop c) rfl (fun _ _=>.inl (by simp)) harr⟩
   |outgrown=>exact⟨_,a₁,w₁,hq,.pass (x:=.inLoop c) rfl (fun _ _=>.inl (by simp)) harr⟩
 obtain⟨e,a',w',hq,harr⟩:=key n a w h0;exact⟨e,a',w',hq,.of_steps (.one (fenced_calm hb hr rfl) stepR_loop) harr⟩
section
variable {P:Program} {K:Orc} {Gl:Nat->Option (List T)} {prom:List Nat} {nt:Nat} {R:Type}
def CodeGoes(P:Program)(Gl:Nat->Option (List T))(prom:List Nat)(nt:Nat)(c:Code)(s:St)(e:Ex)(s':St):Prop :=
 ∀(ro:Option Nat) (n:Nat),(qy c=true->ro=none)->∀(g:Gh) (a:Act) (w:World),SR Gl prom nt g s a w->∀Q:Exit->Act->World->Prop,(∀a' w' g',SR Gl prom nt g' s' a' w'->FrC g s.h w g' s'.h w'->(qy c=false->a'.defers=a.defers)->Q e.out a' w')->c.wpIn (QF ro) n P Q a w
theorem SR.bare{g:Gh}{s:St}{a:Act}{w:World}(h:SR Gl prom nt g s a w)(env:Tr)(he:∀t,({ s with env:=env,loc:=fun _=>none,used:=fun _=>false }:St).at t=s.at t∨({ s with env:=env,loc:=fun _=>none,used:=fun _=>false }:St).at t = .undef) :
 SR Gl prom nt g { s with env:=env,loc:=fun _=>none,used:=fun _=>false } a w:=by
 refine⟨h.hr,h.defers,h.size,h.nt,fun t ht=>?_,fun t ht cells hc=>?_,fun d t o hl=>(by cases hl),h.glob,fun d t o hl=>(by cases hl)⟩
 ·rcases he t with h1|h1
  ·rw[h1];exact h.tmps t ht
  ·rw[h1];exact .imm _ _ (.undef _)
 ·rcases he t with h1|h1
  ·exact h.regs t ht cells (by rw[←h1];exact hc)
  ·rw[h1] at hc;cases hc
theorem qir(s:St)(h:qk)(l:List Nat)(t:Nat):(qO l (zA s l) h).at t=s.at t∨(qO l (zA s l) h).at t = .undef:=by
 rcases Nat.lt_or_ge t 1024 with ht|ht
 ·rw[qdS ht];have key:∀(l:List Nat) (e:Tr),(Tr.get QJ e t=s.at t∨Tr.get QJ e t = .undef)->(Tr.get QJ (Zv l (zA s l) e) t=s.at t∨Tr.get QJ (Zv l (zA s l) e) t = .undef):=by
   intro l
   induction l with
   |nil=>exact fun e he=>he
   |cons i l ih =>
    intro e he;refine ih _ ?_;cases hb:Nat.blt i 1024 with
    |false=>simp only[cond_false];exact he
    |true =>
     have hi:=Qc hb;simp only[cond_true];rw[show Tr.get QJ (Tr.set QJ e i (s.at i)) t=_ from Tr.get_set 10 e i t _ hi ht];by_cases hti:t=i
     ·subst hti;rw[if_pos rfl];exact .inl rfl
     ·rw[if_neg hti];exact he
  exact key l .nil (.inr rfl)
 ·rw[JM (by omega)];exact .inr rfl
theorem SR.only{g:Gh}{s:St}{a:Act}{w:World}(h:SR Gl prom nt g s a w)(l:List Nat):SR Gl prom nt g (qO l (zA s l) s.h) a w:=by
 have:=qir s s.h l;exact h.bare (Zv l (zA s l) .nil) this
theorem SR.drawn{g:Gh}{s:St}{a:Act}{w:World}(h:SR Gl prom nt g s a w)(n:Nat):SR Gl prom nt g s a { w with drawn:=n }:=by
 have hk:zK g s.h w g s.h { w with drawn:=n }:=⟨fun b hb=>⟨hb,rfl⟩,fun _ b hb=>⟨b,hb,Nat.le_refl _,fun _=>⟨rfl,rfl,rfl⟩⟩,fun _ _ h=>h⟩;refine⟨⟨fun i b hb hmp=>?_,h.hr.u,h.hr.own,h.hr.base,h.hr.cells,h.hr.lt,fun i b m hb hm=>h.hr.mp_of hb hm rfl (fun _ hc=>hc) fun _ _ _=>rfl⟩,h.defers.to (Nat.le_refl _) (fun _ _=>rfl) (fun _ _ _=>rfl) rfl (fun _ h=>.inl h),h.size,h.nt,fun t ht=>(h.tmps t ht).keep hk,fun t ht cells hc=>?_,h.loc,fun gl cells hg=>(h.glob gl cells hg).keep hk.u,h.used⟩
 ·rcases h.hr.blk0 i b hb hmp with⟨cb,sh,arr,e,hok⟩|q
  rotate_left
  ·exact .inr q
  refine .inl ⟨cb,sh,arr,e,hok.φ,hok.own,hok.heap,hok.room,hok.len,fun j o c hj hc=>?_,hok.flat⟩;obtain⟨v,h1,h2,h3⟩:=hok.cell j o c hj hc;exact⟨v,h1,h2,h3.keep hk⟩
 ·obtain⟨cb,arr,e,hreg⟩:=h.regs t ht cells hc;exact⟨cb,arr,e,hreg.keep hk rfl rfl⟩
theorem JS(hm:P.follows .mixedOrders=true)(hK:OrcOk P Gl K)(hnt:nt<=1024){id:Nat}{ops:Array Oper}{draw:Bool}{s s':St}{fps:List FP}
 (hrun:RunIs P K Gl prom nt ops.toList ops.toList { s with loc:=fun _=>none,used:=fun _=>false } s' fps) (hd:draw=true->qcC ops fps=true):CodeGoes P Gl prom nt (.region id ops draw) s .normal s':=by
 intro ro n _ g a w hs Q hn;have hs0:=hs.bare s.env (fun t=>.inl rfl);cases draw with
 |false=>exact wpIn_region_list (hrun.goes hK hs0 ro n Q fun a' w' g' h1 h2 h3=>hn a' w' g' h1 h2 fun _=>h3)
 |true =>
  have hok:=hd rfl;simp only[qcC,Bool.and_eq_true] at hok;have hlen:fps.length=ops.size:=by
   have:∀{l:List Oper} {s s':St} {fps:List FP},RunIs P K Gl prom nt ops.toList l s s' fps->fps.length=l.length:=by
    intro l s s' fps h
    induction h with
    |nil=>rfl
    |cons _ _ ih=>simp[ih]
   have:=this hrun;simpa using this
  refine wpIn_region_any hm ?_;have hO:∀i,i<ops.size->ops[i]?=some (ops.getD i default):=fun i hi=>by
   rw[Array.getD_eq_getD_getElem?,Array.getElem?_eq_getElem hi];rfl
  have hmapO:(List.range ops.size).map (fun i=>ops.getD i default)=ops.toList:=by
   apply List.ext_getElem (by simp);intro i h1 h2;simp only[List.length_map,List.length_range] at h1;simp[Array.getElem?_eq_getElem h1]
  have hmapF:(List.range ops.size).map (fun i=>fps.getD i ⟨[],[],false,false,(none,false),(none,false)⟩)=fps:=by
   apply List.ext_getElem (by simp[hlen]);intro i h1 h2;simp[List.getElem?_eq_getElem h2]
  have hpair:∀i j,i<j->j<ops.size->((Region.before ops).getD j 0).testBit i=true∨jm (fps.getD i ⟨[],[],false,false,(none,false),(none,false)⟩) (fps.getD j ⟨[],[],false,false,(none,false),(none,false)⟩)=false:=by
   intro i j hij hj;have hp:=jQ _ hok.2;rw[List.pairwise_iff_getElem] at hp;have hz:∀m,m<ops.size->((List.range ops.size).zip fps)[m]?=some (m,fps.getD m ⟨[],[],false,false,(none,false),(none,false)⟩):=by
    intro m hm;rw[List.getElem?_zip_eq_some];refine⟨by simp[hm],?_⟩;rw[List.getD_eq_getElem?_getD,List.getElem?_eq_getElem (by omega)];rfl
   have hlz:((List.range ops.size).zip fps).length=ops.size:=by simp[hlen]
   have h1:=hp i j (by omega) (by omega) hij;have e1:=hz i (by omega);have e2:=hz j hj;rw[List.getElem?_eq_getElem (by omega)] at e1 e2;rw[Option.some.inj e1,Option.some.inj e2] at h1;dsimp only at h1;have e3:(Region.before ops).toList.getD j 0=(Region.before ops).getD j 0:=by
    simp[List.getD_eq_getElem?_getD,Array.getD_eq_getD_getElem?]
   rw[e3] at h1;exact h1
  refine qa1 hK hnt (s':=s') hok.1 hO hpair ops.size (rem:=List.range ops.size) (listed:=Array.replicate ops.size false) (s:=_) (s1:=s') (by simp) ⟨by simp,fun i=>?_,?_,fun j o _ hl=>?_⟩ (by rw[hmapO,hmapF];exact hrun) (.refl _) (hs0.drawn _) ro n Q ?_
  ·rw[List.mem_range,Array.getD_eq_getD_getElem?];rcases Nat.lt_or_ge i ops.size with h|h
   ·simp[h]
   ·rw[Array.getElem?_eq_none (by simpa using h)];simp;omega
  ·exact List.pairwise_lt_range
  ·rw[Array.getD_eq_getD_getElem?] at hl;rcases Nat.lt_or_ge j ops.size with h|h
   ·simp[h] at hl
   ·rw[Array.getElem?_eq_none (by simpa using h)] at hl;simp at hl
  ·intro a' w' g' hs' hf' hd';refine hn a' w' g' hs' ?_ (fun _=>hd');exact⟨⟨hf'.keep.u,hf'.keep.blk,hf'.keep.rm⟩,hf'.size,hf'.own,hf'.os,hf'.tape,⟨hf'.output.1,hf'.output.2⟩,hf'.same,hf'.bs,hf'.u,hf'.u'⟩
def RecOk(P:Program)(Gl:Nat->Option (List T))(prom:List Nat)(nt:Nat)(live:Nat->Bool->List Nat)(S:Code->Prop)(rec:Rec):Prop :=
 Zk rec/\∀b vs h e vs' h',S b->rec _ b vs h (fun e vs h=>some (e,vs,h))=some (e,vs',h')->CodeGoes P Gl prom nt (Zh b) (qO (live (qB b) false) vs h) e (qO (live (qB b) true) vs' h')
theorem RecOk.mono{live:Nat->Bool->List Nat}{S:Code->Prop}{rec:Rec}(h:RecOk P Gl prom nt live (fun _=>True) rec):RecOk P Gl prom nt live S rec :=
 ⟨h.1,fun b vs h0 e vs' h' _ hk=>h.2 b vs h0 e vs' h' trivial hk⟩
theorem QV(hm:P.follows .mixedOrders=true)(hK:OrcOk P Gl K)(hnt:nt<=1024){live:Nat->Bool->List Nat}{S:Code->Prop}{rec:Rec}(hrec:RecOk P Gl prom nt live S rec) :
 ∀(c:Code) (_:∀b∈qG c,S b) {s:St} {k:Ex->St->Option R} {r:R},exK P K Gl prom nt live rec c s k=some r->∃e s',k e s'=some r/\CodeGoes P Gl prom nt c s e s'
 |.skip,_,s,k,r,hk=>⟨_,_,hk,fun ro n _ g a w hs Q hn=>wpIn_skip (hn _ _ _ hs (FrC.refl _ _ _) fun _=>rfl)⟩
 |.label _,_,s,k,r,hk=>⟨_,_,hk,fun ro n _ g a w hs Q hn=>wpIn_label (hn _ _ _ hs (FrC.refl _ _ _) fun _=>rfl)⟩
 |.region id ops draw,_,s,k,r,hk=>by
  simp only[exK] at hk;obtain⟨s',fps,hk,hrun⟩:=Yx _ hk;replace hk:=(qn hk).2;cases draw with
  |false=>exact⟨_,_,hk,JS hm hK hnt hrun (fun h=>by cases h)⟩
  |true =>
   simp only[cond_true] at hk;obtain⟨ho,hk⟩:=qn hk;exact⟨_,_,hk,JS hm hK hnt hrun (fun _=>ho)⟩
 |.seq x y,hl,s,k,r,hk=>by
  simp only[exK] at hk;obtain⟨e,s1,hk,h1⟩:=QV hm hK hnt hrec x (fun b hb=>hl b (by simp[qG,hb])) hk;cases e with
  |normal =>
   obtain⟨e2,s2,hk,h2⟩:=QV hm hK hnt hrec y (fun b hb=>hl b (by simp[qG,hb])) hk;exact⟨e2,s2,hk,fun ro n hro g a w hs Q hn=>wpIn_seq (h1 ro n (fun h=>hro (by simp[qy,h])) g a w hs _ fun a1 w1 g1 hs1 hf1 hd1=>h2 ro n (fun h=>hro (by simp[qy,h])) g1 a1 w1 hs1 Q fun a2 w2 g2 hs2 hf2 hd2=>hn a2 w2 g2 hs2 (hf1.trans hf2) fun h=>by simp only[qy,Bool.or_eq_false_iff] at h;exact(hd2 h.2).trans (hd1 h.1))⟩
  |exit i=>exact⟨_,_,hk,fun ro n hro g a w hs Q hn=>wpIn_seq (h1 ro n (fun h=>hro (by simp[qy,h])) g a w hs _ fun a1 w1 g1 hs1 hf1 hd1=>hn a1 w1 g1 hs1 hf1 fun h=>by simp only[qy,Bool.or_eq_false_iff] at h;exact hd1 h.1)⟩
  |ret=>exact⟨_,_,hk,fun ro n hro g a w hs Q hn=>wpIn_seq (h1 ro n (fun h=>hro (by simp[qy,h])) g a w hs _ fun a1 w1 g1 hs1 hf1 hd1=>hn a1 w1 g1 hs1 hf1 fun h=>by simp only[qy,Bool.or_eq_false_iff] at h;exact hd1 h.1)⟩
 |.cond c x y,hl,s,k,r,hk=>by
  simp only[exK] at hk;cases hc:Ab.ev Gl prom s c with
  |bool t =>
   rw[hc] at hk;have hev:∀(g:Gh) (a:Act) (w:World),SR Gl prom nt g s a w->a.eval c = .bool t:=fun g a w hs=>by
    have:=hs.ev c;rw[hc] at this;exact this.bool
   cases t with
   |true =>
    obtain⟨e,s1,hk,h1⟩:=QV hm hK hnt hrec x (fun b hb=>hl b (by simp[qG,hb])) hk;exact⟨e,s1,hk,fun ro n hro g a w hs Q hn=>wpIn_cond_true (hev g a w hs) (h1 ro n (fun h=>hro (by simp[qy,h])) g a w hs Q fun a1 w1 g1 hs1 hf1 hd1=>hn a1 w1 g1 hs1 hf1 fun h=>by simp only[qy,Bool.or_eq_false_iff] at h;exact hd1 h.1)⟩
   |false =>
    obtain⟨e,s1,hk,h1⟩:=QV hm hK hnt hrec y (fun b hb=>hl b (by simp[qG,hb])) hk;exact⟨e,s1,hk,fun ro n hro g a w hs Q hn=>wpIn_cond_false (hev g a w hs) (h1 ro n (fun h=>hro (by simp[qy,h])) g a w hs Q fun a1 w1 g1 hs1 hf1 hd1=>hn a1 w1 g1 hs1 hf1 fun h=>by simp only[qy,Bool.or_eq_false_iff] at h;exact hd1 h.2)⟩
  |_=>rw[hc] at hk;cases hk
 |.block id b,hl,s,k,r,hk=>by
  simp only[exK] at hk;obtain⟨e,s1,hk,h1⟩:=QV hm hK hnt hrec b (fun b' hb=>hl b' (by simp[qG,hb])) hk;cases e with
  |normal=>exact⟨_,_,hk,fun ro n hro g a w hs Q hn=>wpIn_block (h1 ro n (fun h=>hro (by simp[qy,h])) g a w hs _ fun a1 w1 g1 hs1 hf1 hd1=>hn a1 w1 g1 hs1 hf1 fun h=>hd1 (by simpa only[qy] using h))⟩
  |ret=>exact⟨_,_,hk,fun ro n hro g a w hs Q hn=>wpIn_block (h1 ro n (fun h=>hro (by simp[qy,h])) g a w hs _ fun a1 w1 g1 hs1 hf1 hd1=>hn a1 w1 g1 hs1 hf1 fun h=>hd1 (by simpa only[qy] using h))⟩
  |exit i =>
   dsimp only at hk;rcases qx hk with⟨hi,hk⟩|⟨hi,hk⟩
   ·refine⟨_,_,hk,fun ro n hro g a w hs Q hn=>wpIn_block (h1 ro n (fun h=>hro (by simp[qy,h])) g a w hs _ fun a1 w1 g1 hs1 hf1 hd1=>?_)⟩;have hi:i=id:=by simpa using hi
    simp only[Ex.out,Exit.inBlock,if_pos hi];exact hn a1 w1 g1 hs1 hf1 fun h=>hd1 (by simpa only[qy] using h)
   ·refine⟨_,_,hk,fun ro n hro g a w hs Q hn=>wpIn_block (h1 ro n (fun h=>hro (by simp[qy,h])) g a w hs _ fun a1 w1 g1 hs1 hf1 hd1=>?_)⟩;have hi:i≠id:=by simpa using hi
    simp only[Ex.out,Exit.inBlock,if_neg hi];exact hn a1 w1 g1 hs1 hf1 fun h=>hd1 (by simpa only[qy] using h)
 |.loop b,hl,s,k,r,hk=>by
  simp only[exK] at hk;rcases qx hk with⟨_,hk⟩|⟨hrg,hk⟩
  ·cases hk
  obtain⟨⟨e,vs,h⟩,hk,hr⟩:=qJ (hrec.1 b (zA s (live (qB b) false)) s.h) (k:=fun p=>k p.1 (qO (live (qB b) true) p.2.1 p.2.2)) hk;have hgo:=hrec.2 b _ _ e vs h (hl b (by simp[qG])) (hr _ some);rw[show Zh b = .loop b by simp[Zh,hrg]] at hgo;exact⟨e,_,hk,fun ro n hro g a w hs Q hn=>hgo ro n hro g a w (hs.only _) Q hn⟩
 |.exit id,_,s,k,r,hk=>⟨_,_,hk,fun ro n _ g a w hs Q hn=>wpIn_exit (hn _ _ _ hs (FrC.refl _ _ _) fun _=>rfl)⟩
 |.ret,_,s,k,r,hk=>⟨_,_,hk,fun ro n _ g a w hs Q hn=>wpIn_ret (hn _ _ _ hs (FrC.refl _ _ _) fun _=>rfl)⟩
 |.scope b,hl,s,k,r,hk=>by
  simp only[exK] at hk;obtain⟨e,s1,hk,h1⟩:=QV hm hK hnt hrec b (fun b' hb=>hl b' (by simpa [qG] using hb)) hk;refine⟨e,s1,hk,fun ro n hro g a w hs Q hn=>qa2 (h1 ro n (fun h=>hro (by simpa [qy] using h)) g a w hs _ fun a1 w1 g1 hs1 hf1 hd1=>?_)⟩;have:=hn a1 w1 g1 hs1 hf1 fun h=>hd1 (by simpa only[qy] using h);cases e<;>exact this
 |.goto _,_,s,k,r,hk=>by simp only[exK] at hk;cases hk
 |.refuse _,_,s,k,r,hk=>by simp only[exK] at hk;cases hk
 |.rangeFunc f ps x y,hl,s,k,r,hk=>by
  simp only[exK] at hk;obtain⟨⟨e,vs,h⟩,hk,hr⟩:=qJ (hrec.1 (.rangeFunc f ps x y) (zA s (live (qB (.rangeFunc f ps x y)) false)) s.h) (k:=fun p=>k p.1 (qO (live (qB (.rangeFunc f ps x y)) true) p.2.1 p.2.2)) hk;have hgo:=hrec.2 _ _ _ e vs h (hl (.rangeFunc f ps x y) (by simp[qG])) (hr _ some);rw[show Zh (.rangeFunc f ps x y) = .rangeFunc f ps x y by rfl] at hgo;exact⟨e,_,hk,fun ro n hro g a w hs Q hn=>hgo ro n hro g a w (hs.only _) Q hn⟩
theorem qgp(hm:P.follows .mixedOrders=true)(hK:OrcOk P Gl K)(hnt:nt<=1024){live:Nat->Bool->List Nat}{b:Code}(I:Nat->List T->qk->Prop){e1:Ex}{vs1:List T}{h1:qk}
 (round:∀n vs h,I n vs h->∃(rec:Rec) (S:Code->Prop),RecOk P Gl prom nt live S rec/\(∀b'∈qG b,S b')/\∃e s',exK (R:=Ex×St) P K Gl prom nt live rec b (qO (live (qB b) false) vs h) (fun e s=>some (e,s))=some (e,s') ∧
  ((e = .normal/\∃m,m<n/\I m (zA s' (live (qB b) false)) s'.h)∨(e≠.normal/\e=e1/\zA s' (live (qB b) true)=vs1/\s'.h=h1))) :
 ∀n vs h,I n vs h->CodeGoes P Gl prom nt (.loop b) (qO (live (qB b) false) vs h) e1 (qO (live (qB b) true) vs1 h1):=by
 intro n vs h hI ro nn hro g0 a0 w0 hs0 Q hn;refine ZH (fun m a w=>∃vs' h' g,I m vs' h'/\SR Gl prom nt g (qO (live (qB b) false) vs' h') a w/\FrC g0 h w0 g h' w/\(qy b=false->a.defers=a0.defers)) (fun m a w hJ=>?_) n a0 w0 ⟨vs,h,g0,hI,hs0,FrC.refl _ _ _,fun _=>rfl⟩;obtain⟨vs',h',g,hI,hs,hf,hdf⟩:=hJ;obtain⟨rec,S,hrec,hS,e,s',hk,hcase⟩:=round m vs' h' hI;obtain⟨e',s2,hk2,hgo⟩:=QV hm hK hnt hrec b hS hk;simp only[Option.some.injEq,Prod.mk.injEq] at hk2;obtain⟨rfl,rfl⟩:=hk2;refine hgo ro nn (fun h=>hro (by simpa [qy] using h)) g a w hs _ fun a' w' g' hs' hf' hd'=>?_;rcases hcase with⟨rfl,j,hj,hI'⟩|⟨hne,rfl,rfl,rfl⟩
 ·exact⟨j,hj,_,_,g',hI',hs'.only _,hf.trans hf',fun h=>(hd' h).trans (hdf h)⟩
 ·have:=hn a' w' g' (hs'.only _) (hf.trans hf') (fun h=>by simp only[qy] at h;exact(hd' h).trans (hdf h));cases e' with
  |normal=>exact absurd rfl hne
  |exit i=>exact this
  |ret=>exact this
theorem jR(hm:P.follows .mixedOrders=true)(hK:OrcOk P Gl K)(hnt:nt<=1024){live:Nat->Bool->List Nat}:∀n,RecOk P Gl prom nt live (fun _=>True) (Yo P K Gl prom nt live n):=by
 intro n
 induction n using Nat.strongRecOn with
 |_ n ih =>
  refine⟨z4 P K Gl prom nt live n,fun b vs h e1 vs1 h1 _ hl=>?_⟩;have hrg:jo b=false:=by
   cases n with
   |zero=>cases hl
   |succ j =>
    simp only[Yo] at hl;rcases qx hl with⟨_,hl⟩|⟨h,_⟩
    ·cases hl
    ·exact h
  rw[show Zh b = .loop b by simp[Zh,hrg]];refine qgp hm hK hnt (fun m vs h=>m<=n/\Yo P K Gl prom nt live m _ b vs h (fun e vs h=>some (e,vs,h))=some (e1,vs1,h1)) (fun m vs h hI=>?_) n vs h ⟨Nat.le_refl _,hl⟩;obtain⟨hmn,hl⟩:=hI;cases m with
  |zero=>cases hl
  |succ j =>
   refine⟨_,_,ih j (by omega),fun _ _=>trivial,?_⟩;simp only[Yo,hrg,cond_false] at hl;obtain⟨⟨e,s'⟩,hk,hall⟩:=qJ (Zl P K Gl prom nt live (z4 P K Gl prom nt live j) b (qO (live (qB b) false) vs h)) (k:=fun p=>match p.1 with
    |.normal=>Yo P K Gl prom nt live j _ b (zA p.2 (live (qB b) false)) p.2.h fun e vs h=>some (e,vs,h)
    |e=>some (e,zA p.2 (live (qB b) true),p.2.h)) hl
   refine⟨e,s',hall _ some,?_⟩;cases e with
   |normal=>exact .inl ⟨rfl,j,by omega,by omega,hk⟩
   |exit i =>
    simp only[Option.some.injEq,Prod.mk.injEq] at hk;exact .inr ⟨by simp,hk.1,hk.2.1,hk.2.2⟩
   |ret =>
    simp only[Option.some.injEq,Prod.mk.injEq] at hk;exact .inr ⟨by simp,hk.1,hk.2.1,hk.2.2⟩
end
def YT(tmps:Array Value):ResultVar->Sem Value
 |.tmp t=>pure (tmps.getD t undef)
 |.cell a t=>do loadVar t (←asAddr (tmps.getD a undef))
theorem qa3(fn:Func)(tmps:Array Value):results fn tmps=(do let vs ←fn.results.mapM (YT tmps);pure (if h:vs.size=1 then vs[0] else .tuple vs)):=by
 unfold results
 first|rfl|(congr 1;done)|(congr 1;congr 1;done)|(congr 1;congr 1;funext r;cases r<;>rfl)
section
variable {P:Program} {K:Orc} {Gl:Nat->Option (List T)} {prom:List Nat} {nt:Nat} {R:Type} {g:Gh} {s:St} {a:Act} {w:World}
theorem qeU{ty:TypeId}{v u:Value}(h:(Instr.loadAt ty v).run P w = .ok u w):(do loadVar ty (←asAddr v):Sem Value).run P w = .ok u w:=by
 cases v with
 |pointer p =>
  cases p with
  |some ad=>simpa [Instr.loadAt,Instr.sureAddr,asAddr] using h
  |none=>simp[Instr.loadAt,Instr.sureAddr,stuck] at h
 |_=>simp[Instr.loadAt,Instr.sureAddr,stuck] at h
theorem qd0(hs:SR Gl prom nt g s a w){rv:ResultVar}{k:T->Option R}{r:R}(hk:qdx P Gl prom s rv k=some r) :
 ∃x,k x=some r/\∃v,(YT a.tmps rv).run P w = .ok v w/\g.VR s.h w x v:=by
 cases rv with
 |tmp t =>
  refine⟨_,hk,_,rfl,?_⟩;have:=hs.ev (.tmp t);simpa [Act.eval] using this
 |cell c ty =>
  simp only[qdx] at hk;cases hb:base prom s (.tmp c) with
  |some p =>
   obtain⟨t,off⟩:=p;rw[hb] at hk;dsimp only at hk;cases hc:s.at t with
   |reg cells =>
    rw[hc] at hk;obtain⟨hm,cb,arr,e,hreg,hev⟩:=YQ hb hs hc;obtain⟨y,hk,u,hrun,hyr⟩:=jx hk (hreg.cellsAt.drop off);rw[Nat.zero_add] at hrun;have hev':a.tmps.getD c undef = .pointer (some ⟨cb,off,none⟩):=by simpa [Act.eval] using hev
    refine⟨y,hk,u,?_,hyr⟩;simp[YT,hev',asAddr,hrun]
   |_=>rw[hc] at hk;cases hk
  |none =>
   rw[hb] at hk;dsimp only at hk;have hp:c∉prom:=by
    intro hp;have:prom.contains c=true:=by simpa using hp
    simp only[base,this,cond_true] at hb;cases hb
   obtain⟨y,hk,u,hrun,hyr⟩:=Yb (k:=fun v _ _=>k v) hk hs.hr (hs.tmps c hp);exact⟨y,hk,u,qeU hrun,hyr⟩
theorem jS(hs:SR Gl prom nt g s a w):∀(l:List ResultVar) {k:List T->Option R} {r:R},kv P Gl prom s l k=some r →
 ∃xs,k xs=some r/\∃vs:List Value,(l.mapM (YT a.tmps)).run P w = .ok vs w/\xs.length=vs.length/\∀(i:Nat) (x:T),xs[i]?=some x->∃v,vs[i]?=some v/\g.VR s.h w x v
 |[],k,r,hk=>⟨[],hk,[],rfl,rfl,fun i x hi=>by simp at hi⟩
 |rv::l,k,r,hk=>by
  simp only[kv] at hk;obtain⟨x,hk,v,h1,h2⟩:=qd0 hs hk;obtain⟨xs,hk,vs,h3,h4,h5⟩:=jS hs l hk;refine⟨x::xs,hk,v::vs,?_,by simp[h4],fun i y hi=>?_⟩
  ·simp[List.mapM_cons,h1,h3]
  ·cases i with
   |zero =>
    simp only[List.getElem?_cons_zero,Option.some.injEq] at hi;subst hi;exact⟨v,rfl,h2⟩
   |succ i=>exact h5 i y (by simpa using hi)
theorem yH(hs:SR Gl prom nt g s a w){fn:Func}{k:T->Option R}{r:R}(hk:KR P Gl prom fn s k=some r) :
 ∃x,k x=some r/\∃v,(results fn a.tmps).run P w = .ok v w/\g.VR s.h w x v:=by
 unfold KR at hk;obtain⟨xs,hk,vs,h1,h2,h3⟩:=jS hs _ hk;have hrun:(fn.results.mapM (YT a.tmps)).run P w = .ok vs.toArray w:=by
  rw[Array.mapM_eq_mapM_toList];rw[map_eq_pure_bind];simp only[Sem.run_bind,h1,Result.andThen_ok,Sem.run_pure]
 rw[qa3];have hres:(do let vs ←fn.results.mapM (YT a.tmps);pure (if h:vs.size=1 then vs[0] else .tuple vs):Sem Value).run P w = .ok (if h:vs.toArray.size=1 then vs.toArray[0] else .tuple vs.toArray) w:=by
  simp only[Sem.run_bind,hrun,Result.andThen_ok,Sem.run_pure]
 have tup:vs.length≠1->k (.tup xs)=some r->∃x,k x=some r/\∃v,(do let vs ←fn.results.mapM (YT a.tmps);pure (if h:vs.size=1 then vs[0] else .tuple vs):Sem Value).run P w = .ok v w/\g.VR s.h w x v:=by
  intro hl hk;refine⟨_,hk,_,hres,?_⟩;rw[dif_neg (by simpa using hl)];exact VR.mk_tup (by simpa using h2) (fun i c hi=>by
   obtain⟨v,q1,q2⟩:=h3 i c hi;exact⟨v,by simpa using q1,q2⟩)
 match xs,h2,h3,hk,tup with
 |[x],h2,h3,hk,_ =>
  obtain⟨v,q1,q2⟩:=h3 0 x rfl;refine⟨x,hk,v,?_,q2⟩;rw[hres];have hl:vs.length=1:=by simpa using h2.symm
  rw[dif_pos (by simpa using hl)];congr 1;rw[List.getElem?_eq_getElem (by omega)] at q1;simpa using Option.some.inj q1
 |[],h2,h3,hk,tup=>exact tup (by simp at h2;omega) hk
 |x::y::l,h2,h3,hk,tup=>exact tup (by simp at h2;omega) hk
theorem jT(t:Nat)(ht:t<1024):∀(l:List T) (i:Nat) (e:Tr),i+l.length<=1024->Tr.get QJ (kw i l e) t=if i<=t/\t<i+l.length then l.getD (t-i) .undef else Tr.get QJ e t
 |[],i,e,_=>by
  rw[if_neg (by simp)];rfl
 |x::l,i,e,hl=>by
  simp only[List.length_cons] at hl;simp only[kw];rw[jT t ht l (i+1) _ (by omega)];have hset:Tr.get QJ (Tr.set QJ e i x) t=if t=i then x else Tr.get QJ e t:=Tr.get_set 10 e i t x (by omega) ht;rw[hset];simp only[List.length_cons];by_cases h1:t=i
  ·subst h1;rw[if_neg (by omega),if_pos rfl,if_pos (by omega),Nat.sub_self];rfl
  ·rw[if_neg h1];by_cases h2:i<=t/\t<i+(l.length+1)
   ·rw[if_pos (by omega),if_pos h2,show t-i=(t-(i+1))+1 by omega];rfl
   ·rw[if_neg (by omega),if_neg h2]
theorem qhp(args:List T)(h:qk)(hl:args.length<=1024)(t:Nat):(enter args h).at t=args.getD t .undef:=by
 rcases Nat.lt_or_ge t 1024 with ht|ht
 ·rw[qdS ht];have:=jT t ht args 0 .nil (by omega);simp only[Nat.zero_add,Nat.zero_le,true_and,Nat.sub_zero] at this;rw[show(enter args h).env=kw 0 args .nil from rfl,this];split
  ·rfl
  ·rename_i hx;rw[List.getD_eq_getElem?_getD,List.getElem?_eq_none (by omega)];rfl
 ·rw[JM (by omega),List.getD_eq_getElem?_getD,List.getElem?_eq_none (by omega)];rfl
theorem SR.enter{args:List T}{h:qk}{cargs:Array Value}(hlow:g.low<=w.heap.size)(hr:HR g h w)(hgl:Zz Gl w g.U)(ha:ArgsVR g h w args cargs)(hnt:nt<=1024)(hle:args.length<=nt) :
 SR Gl prom nt g (enter args h) { tmps:=cargs++Array.replicate (nt-cargs.size) undef,defers:=[] } w:=by
 have hsz:cargs.size=args.length:=ha.1.symm;have hat:=qhp args h (by omega);have hv:∀t,g.VR h w ((Ab.enter args h).at t) ((cargs++Array.replicate (nt-cargs.size) undef).getD t undef):=by
  intro t;rw[hat];rcases Nat.lt_or_ge t args.length with ht|ht
  ·obtain⟨v,q1,q2⟩:=ha.2 t args[t] (by simp[ht]);rw[List.getD_eq_getElem?_getD,List.getElem?_eq_getElem ht,Array.getD_eq_getD_getElem?,Array.getElem?_append_left (by omega),q1];exact q2
  ·rw[List.getD_eq_getElem?_getD,List.getElem?_eq_none ht];exact .imm _ _ (.undef _)
 refine⟨hr,Marks.nil hlow,by simp[hsz];omega,hnt,fun t _=>hv t,fun t _ cells hc=>?_,fun d t o hl=>(by cases hl),hgl,fun d t o hl=>(by cases hl)⟩;have:=hv t;rw[hc] at this;exact absurd this VR.not_reg
variable {A:FuncId->Ann}
theorem jU(fn:Func)(s:St):Det fun R k=>KR (R:=R) P Gl prom fn s k:=by
 unfold KR;refine qF (g:=fun vs R k=>match vs with|[v]=>k v|vs=>k (T.tup vs)) (qaF P Gl prom s _) fun vs=>?_
 match vs with
 |[v]=>exact qo v
 |[]=>exact qo (T.tup [])
 |x::y::l=>exact qo (T.tup (x::y::l))
theorem qhq(fn:Func)(e:Ex)(s:St):Det (A:=T×qk) fun R k=>qip (R:=R) P Gl prom fn e s fun v h=>k (v,h):=by
 cases e with
 |exit i=>exact qm
 |normal=>exact qF (g:=fun v _ k=>k (v,s.h)) (jU fn s) fun v=>qo (v,s.h)
 |ret=>exact qF (g:=fun v _ k=>k (v,s.h)) (jU fn s) fun v=>qo (v,s.h)
theorem qgq{rec:Rec}(hrec:Zk rec)(f:FuncId)(fn:Func)(c:Code)(args:List T)(h:qk):Det (A:=T×qk) fun _R k=>qdy P Gl A K rec f fn c args h fun v h=>k (v,h):=by
 unfold qdy;refine qA _ (zc (Zl P K Gl (A f).prom fn.ntmps (A f).live hrec c (enter args h)) fun e s=>qhq fn e s)
theorem qa4{rec:Func->Rec}(hrec:∀fn,Zk (rec fn))(f:FuncId)(args:List T)(h:qk):Det (A:=T×qk) fun _R k=>kz P Gl A K rec f args h fun v h=>k (v,h):=by
 unfold kz;cases P.funcs[f]? with
 |none=>exact qm
 |some fn =>
  dsimp only;cases fn.body with
  |none=>exact qm
  |some c=>exact qgq (hrec fn) _ _ _ _ _
theorem qgr{rec:Func->Rec}(hrec:∀fn,Zk (rec fn)){f:FuncId}{args:List T}{h:qk}{k:T->qk->Option R}{r:R}(hk:kz P Gl A K rec f args h k=some r):∃v h',k v h'=some r/\kz P Gl A K rec f args h (fun v h=>some (v,h))=some (v,h'):=by
 obtain⟨⟨v,h'⟩,h1,h2⟩:=qJ (qa4 (P:=P) (K:=K) (Gl:=Gl) (A:=A) hrec f args h) (k:=fun p=>k p.1 p.2) hk;exact⟨v,h',h1,h2 _ some⟩
theorem SR.world(hs:SR Gl prom nt g s a w){w':World}{ds:List Deferred}(hsize:w.heap.size<=w'.heap.size)(hsame:∀b,g.U b∨g.own b≠none->w'.heap[b]?=w.heap[b]?)(hrm:∀b n,room w b n->room w' b n)
 (hds:Marks g w' ds):SR Gl prom nt g s { a with defers:=ds } w':=by
 have hk:zK g s.h w g s.h w':=⟨fun b hb=>⟨hb,hsame b (.inl hb)⟩,fun i b hb=>⟨b,hb,Nat.le_refl _,fun _=>⟨rfl,rfl,rfl⟩⟩,hrm⟩;refine⟨⟨fun i b hb hmp=>?_,fun b hb=>⟨Nat.lt_of_lt_of_le (hs.hr.u b hb).1 hsize,(hs.hr.u b hb).2⟩,fun b o ho=>⟨(hs.hr.own b o ho).1,Nat.lt_of_lt_of_le (hs.hr.own b o ho).2 hsize⟩,Nat.le_trans hs.hr.base hsize,fun b o ho=>hs.hr.cells_of ho (hsame b (.inr (by rw[ho];simp))),hs.hr.lt,fun i b m hb hm=>hs.hr.mp_of hb hm rfl (fun _ hc=>hc) fun c _ hc=>hsame c (.inr (by rw[hc];simp))⟩,
  hds,hs.size,hs.nt,fun t ht=>(hs.tmps t ht).keep hk,fun t ht cells hc=>?_,hs.loc,fun gl cells hg=>(hs.glob gl cells hg).keep hk.u,hs.used⟩
 ·rcases hs.hr.blk0 i b hb hmp with⟨cb,sh,arr,e,hok⟩|q
  rotate_left
  ·exact .inr q
  exact .inl ⟨cb,sh,arr,e,hok.φ,hok.own,(hsame cb (.inr (by rw[hok.own];simp))).trans hok.heap,hok.room,hok.len,fun j o c hj ho=>by
   obtain⟨v,q1,q2,q3⟩:=hok.cell j o c hj ho;exact⟨v,q1,q2,q3.keep hk⟩,hok.flat⟩
 ·obtain⟨cb,arr,e,hreg⟩:=hs.regs t ht cells hc;exact⟨cb,arr,e,hreg.keep hk rfl (hsame cb (.inr (by rw[hreg.own];simp)))⟩
theorem HR.setLow{h:qk}(hr:HR g h w)(n:Nat):HR { g with low:=n } h w :=
 ⟨fun i b hb hmp=>by
  rcases hr.blk0 i b hb hmp with⟨cb,sh,arr,e,hok⟩|q
  ·exact .inl ⟨cb,sh,arr,e,hok.φ,hok.own,hok.heap,hok.room,hok.len,hok.cell,hok.flat⟩
  ·exact .inr q,hr.u,hr.own,hr.base,hr.cells,hr.lt,hr.mp⟩
def turn:List Nat->World->World
 |[],w=>w
 |D::l,w=>turn l (w.putObj D (.deferred none))
theorem Kg:∀(l:List Nat) (w:World),(turn l w).heap.size=w.heap.size/\(turn l w).os=w.os/\(turn l w).tape=w.tape/\OutOk (turn l w) w/\∀b,b∉l->(turn l w).heap[b]?=w.heap[b]?
 |[],w=>⟨rfl,rfl,rfl,.refl _,fun _ _=>rfl⟩
 |D::l,w=>by
  obtain⟨h1,h2,h3,h4,h5⟩:=Kg l (w.putObj D (.deferred none));refine⟨by simp only[turn];rw[h1,World.putObj_size],by simp only[turn];rw[h2];rfl,by simp only[turn];rw[h3];rfl,by simp only[turn];exact h4.trans ⟨rfl,Nat.le_refl _⟩,fun b hb=>?_⟩;simp only[List.mem_cons,not_or] at hb;simp only[turn];rw[h5 b hb.2,World.putObj_heap_other hb.1]
theorem zQ{F:Fence}{n:Nat}{fn:Func}{tmps:Array Value}{R:Ending->World->Prop}:∀(l:List Nat) (w:World),l.Nodup->(∀D∈l,w.heap[D]?=some (.deferred (some []))) →
 (∃v,(results fn tmps).run P (turn l w) = .ok v (turn l w)/\R (.returned v) (turn l w))->LeavesInM F n P fn tmps R (l.map Kq) .returning w
 |[],w,_,_,h=>by simpa [LeavesInM,LeavesIn,turn] using h
 |D::l,w,hn,hD,h=>by
  rw[List.nodup_cons] at hn;refine⟨by simp,.inl ⟨D,_,rfl,run_takeDeferred (hD D (by simp)),zQ l _ hn.2 (fun E hE=>?_) h⟩⟩;rw[World.putObj_heap_other (by rintro rfl;exact hn.1 hE)];exact hD E (by simp[hE])
def Jn(P:Program)(Gl:Nat->Option (List T))(A:FuncId->Ann)(f:FuncId)(rec:Func->Rec):Prop :=
 ∀fn c,P.funcs[f]?=some fn->fn.body=some c->fn.ntmps<=1024->RecOk P Gl (A f).prom fn.ntmps (A f).live (fun b=>b∈qG c) (rec fn)
theorem YU(hm:P.follows .mixedOrders=true)(hK:OrcOk P Gl K){f:FuncId}{rec:Func->Rec}(hrec:Jn P Gl A f rec){args:List T}{h h':qk}{r:T}(hk:kz P Gl A K rec f args h (fun v h=>some (v,h))=some (r,h'))
 {cargs:Array Value} (hr:HR g h w) (hno:K5 g) (hgl:Zz Gl w g.U) (ha:ArgsVR g h w args cargs) :
 Calls P f cargs w fun e w'=>∃v,e = .returned v/\Res g h w r h' v w':=by
 unfold kz at hk;cases hf:P.funcs[f]? with
 |none=>rw[hf] at hk;cases hk
 |some fn =>
  rw[hf] at hk;dsimp only at hk;cases hb:fn.body with
  |none=>rw[hb] at hk;cases hk
  |some c =>
   rw[hb] at hk;dsimp only[qdy] at hk;obtain⟨hc,hk⟩:=qn hk;simp only[Bool.and_eq_true] at hc;have hnt:=Qm hc.1;have hle:=Qm hc.2;obtain⟨e,s',hk,hgo⟩:=QV hm hK hnt (hrec fn c hf hb hnt) c (fun _ hb=>hb) hk;have hs0:=SR.enter (Gl:=Gl) (prom:=(A f).prom) (Nat.le_refl _) (hr.setLow w.heap.size) hgl ha hnt hle;rw[←callsIn_wide (n:=0)];refine callsIn_of_wp_marks hf hb trivial (hgo none 0 (fun _=>rfl) _ _ w hs0 _ fun a' w' g' hs' hf' _=>?_) rfl;have fin:KR P Gl (A f).prom fn s' (fun v=>some (v,s'.h))=some (r,h')->LeavesInM Fence.wide 0 P fn a'.tmps (fun e w'=>∃v,e = .returned v/\Res g h w r h' v w') a'.defers .returning w':=by
    intro hk;obtain⟨hlo,l,hl1,hl2,hl3⟩:=hs'.defers;obtain⟨t1,t2,t3,t4,t5⟩:=Kg l w';have hlow:g'.low=w.heap.size:=hf'.low;have hoff:∀b,g'.U b∨g'.own b≠none->b∉l:=by
     rintro b hb hbl;obtain⟨q1,q2,q3,q4⟩:=hl3 b hbl;rcases hb with hb|hb
     ·exact q3 hb
     ·exact hb q2
    have hrm:∀b n,room w' b n->room (turn l w') b n:=by
     rintro b n ⟨arr,e,h1,h2⟩;refine⟨arr,e,?_,h2⟩;rw[t5 b fun hbl=>?_]
     ·exact h1
     ·have:=(hl3 b hbl).2.2.2;rw[h1] at this;cases this
    have hs2:=hs'.world (w':=turn l w') (ds:=[]) (by omega) (fun b hb=>t5 b (hoff b hb)) hrm (Marks.nil (by omega));obtain⟨x,hk,v,h1,h2⟩:=yH hs2 hk;simp only[Option.some.injEq,Prod.mk.injEq] at hk;obtain⟨rfl,rfl⟩:=hk;rw[hl1];refine zQ l w' hl2 (fun D hD=>(hl3 D hD).2.2.2) ⟨v,h1,v,rfl,{ g' with own:=fun b=>match g'.own b with|some (.inl i)=>some (.inl i)|_=>none,low:=g.low },(hs2.hr.strip).setLow g.low,h2,?_,?_⟩
    ·exact hf'.keep.trans ⟨fun b hb=>⟨hb,t5 b (hoff b (.inl hb))⟩,fun i b hb=>⟨b,hb,Nat.le_refl _,fun _=>⟨rfl,rfl,rfl⟩⟩,hrm⟩
    ·refine⟨by have:=hf'.size;omega,fun b hb=>?_,t2.trans hf'.os,t3.trans hf'.tape,t4.trans hf'.output,fun b hb hn=>?_,?_,hf'.u,fun b hb t=>by dsimp only;split<;>simp⟩
     ·dsimp only;rw[hf'.own b hb];dsimp only;cases ho:g.own b with
      |none=>rfl
      |some q =>
       cases q with
       |inl i=>rfl
       |inr t=>exact absurd ho (hno b t)
     ·rw[t5 b fun hbl=>by have:=(hl3 b hbl).1;omega];refine hf'.same b hb ?_;dsimp only;cases ho:g.own b with
      |none=>rfl
      |some q =>
       cases q with
       |inl i=>exact absurd ho (hn i)
       |inr t=>exact absurd ho (hno b t)
     ·have:=hf'.base;simp only[Gh.bs,this]
   cases e with
   |normal=>exact fin hk
   |ret=>exact fin hk
   |exit i=>cases hk
theorem qa5(hm:P.follows .mixedOrders=true)(hK:OrcOk P Gl K){f:FuncId}{rec:Func->Rec}(hdet:∀fn,Zk (rec fn))(hrec:Jn P Gl A f rec){args:List T}{r:T}(hk:kz P Gl A K rec f args [] (fun v h=>some (ji h v))=some r)
 {cargs:Array Value} {U:Nat->Prop} (hU:∀b,U b->b<w.heap.size) (hgl:Zz Gl w U) (ha:qcV w U args cargs) :
 Calls P f cargs w fun e w'=>∃v,e = .returned v/\RV w U r v w':=by
 obtain⟨rv,h',hgive,hk2⟩:=qgr hdet hk;obtain rfl:=Option.some.inj hgive
 let g0:Gh:={ U:=U,φ:=fun _=>none,own:=fun _=>none,base:=w.heap.size,low:=0 }
 have hr:HR g0 [] w:=⟨fun i b hb=>by simp at hb,fun b hb=>⟨hU b hb,rfl⟩,fun b o ho=>(by cases ho),Nat.le_refl _,fun b o ho=>(by cases ho),fun b i ho=>(by cases ho),fun i b m hb=>by simp at hb⟩;refine(YU (g:=g0) hm hK hrec hk2 hr (fun b t=>by simp[g0]) hgl ⟨ha.1,fun i x hi=>?_⟩).mono fun e w' ⟨v,he,hres⟩=>⟨v,he,?_⟩
 ·obtain⟨v,q1,q2⟩:=ha.2 i x hi;exact⟨v,q1,.imm _ _ q2⟩
 ·obtain⟨g',hr',hx,hkp,hf⟩:=hres;have hbase:g'.base=w.heap.size:=hf.base;obtain⟨X,q1,q2,q3⟩:=K4 hr' (B:=w.heap.size) (by omega) hx;refine⟨⟨⟨hf.os,hf.tape,hf.output.1,hf.size,fun b hb=>hf.same b hb (fun i=>by simp[g0])⟩,hf.output.2⟩,yE g' w' w.heap.size (Zb rv),X,fun b hb=>.inl (hkp.u b hb).1,fun b hb=>?_,q2,q3,q1⟩;rcases hb with hb|hb
  ·exact⟨hf.u b hb,(hr'.u b hb).1⟩
  ·exact⟨.inr hb.1,hb.2.1⟩
def QG(P:Program):Bool:=P.funcs.all fun fn=>fn.body.isNone || !(fn.name=="runtime.NumGoroutine")
theorem z7(hn:QG P=true){rec:Func->Rec}{f:FuncId}{args:List T}{h:qk}{k:T->qk->Option R}{r:R}(hk:kz P Gl A K rec f args h k=some r):∃fn,P.funcs[f]?=some fn/\fn.body.isNone=false/\(fn.name=="runtime.NumGoroutine")=false:=by
 unfold kz at hk;cases hf:P.funcs[f]? with
 |none=>rw[hf] at hk;cases hk
 |some fn =>
  rw[hf] at hk;dsimp only at hk;cases hb:fn.body with
  |none=>rw[hb] at hk;cases hk
  |some c =>
   refine⟨fn,rfl,by rw[hb];rfl,?_⟩;have:=Array.all_eq_true'.1 hn fn (Array.mem_of_getElem? hf);rw[hb] at this;simpa using this
theorem yL(P:Program)(Gl:Nat->Option (List T))(A:FuncId->Ann)(K:Orc)(m:Nat)(f:FuncId):∀fn,Zk (qdz P Gl A K m f fn):=fun _fn=>z4 P K Gl _ _ _ m
theorem Kh(hm:P.follows .mixedOrders=true)(hK:OrcOk P Gl K)(m:Nat)(f:FuncId):Jn P Gl A f (qdz P Gl A K m f):=fun _ _ _ _ hnt=>(jR hm hK hnt m).mono
def qp:Orc:=⟨fun _=>false,fun _ _ _ _=>none,fun _ _ _ _ _=>none,fun _ _=>qm,fun _ _ _=>qm,fun _=>false⟩
theorem qa:OrcOk P Gl qp :=
 ⟨fun f hx=>(by rcases hx with⟨args,r,hx⟩|⟨args,h,r,hx⟩<;>cases hx),fun f args r hx=>(by cases hx),fun f args h r h' hx=>(by cases hx),fun f hf=>by cases hf⟩
inductive Tree where
 |none
 |ret (v:T)
 |ite (c:Bool) (x y:Tree)
def Tree.run{R:Type}:Tree->(T->Option R)->Option R
 |.none,_=>Option.none
 |.ret v,k=>k v
 |.ite c x y,k=>bif c then x.run k else y.run k
theorem Tree.det:∀t:Tree,Det fun R k=>t.run (R:=R) k
 |.none=>qm
 |.ret v=>qo v
 |.ite c x y=>qL c x.det y.det
def Orc.add(K:Orc)(f:FuncId)(spec:List T->Tree):Orc where
 byRef e:=bif e==f then false else K.byRef e
 ref:=K.ref
 val e args R k:=bif e==f then(spec args).run k else K.val e args R k
 valDet e args:=qL _ (spec args).det (K.valDet e args)
 refDet:=K.refDet
 ro:=K.ro
end
end Go.Ab

