/- A part of the proof: nothing is assumed. -/
import Derived.Test.YtifccdcnhibceaaGreatDoorP4
import Derived.Test.YtifccdcnhibceaaGreatDoorP6
set_option linter.all false
namespace Go.Ab
def qdn:T->T
 |.new x=>x
 |x=>x
def strip:T->T
 |.agg l=>.agg (l.map qdn)
 |x=>qdn x
theorem j3(x:T):ResTo x (qdn x):=by cases x<;>first|exact .newv _|exact .refl _
theorem j4:∀l:List T,ResToL l (l.map qdn)
 |[]=>.nil
 |x::l=>.cons (j3 x) (j4 l)
theorem ToldOk.strip{P:Program}{Gl:Nat->Option (List T)}{f:FuncId}{args:List T}{r:T}(t:ToldOk P Gl f args r):ToldOk P Gl f args (Ab.strip r):=by
 cases r with
 |agg l=>exact t.aggTo (j4 l)
 |_=>exact t.resTo (j3 _)
theorem qf6(o:Option T):o.bind some=o:=by cases o<;>rfl
def qbS(o:Oper):Bool:=o.guard.isNone&&match o.op with
 |.move _|.assign _|.slice ..=>true
 |.call { callee:=.builtin .len,.. }=>true
 |_=>false
def kX:Code->Bool
 |.skip=>true
 |.region _ ops _=>ops.toList.all qbS
 |.seq a b=>kX a&&kX b
 |.cond _ a b=>kX a&&kX b
 |.ret=>true
 |_=>false
section
variable {P:Program} {Gl:Nat->Option (List T)} {K:Orc} {R:Type} {prom:List Nat} {nt:Nat} {live:Nat->Bool->List Nat}
theorem Km{len lim:Nat}{cap:Option Nat}{lo hi mx:Option T}{k:Nat->Nat->Option Nat->Option R}{r:R}(h:yh len lim cap lo hi mx k=some r):∃a b c,k a b c=some r:=by
 have opt:∀{x:Option T} {d:Int} {k:Int->Option R} {r:R},YD x d k=some r->∃i,k i=some r:=by
  intro x d k r h;unfold YD at h;split at h
  all_goals first|exact⟨_,h⟩|cases h
 unfold yh at h;obtain⟨l,h⟩:=opt h;obtain⟨u,h⟩:=opt h;split at h
 ·exact⟨_,_,_,(qn h).2⟩
 ·split at h
  ·cases h
  ·exact⟨_,_,_,(qn h).2⟩
 ·cases h
theorem qbq{h:qk}{i ver:Nat}{k:Blk->Option R}{r:R}(hk:qZ h i ver k=some r):∃b,k b=some r:=by
 obtain⟨b,_,_,_,h⟩:=y0 hk;exact⟨b,h⟩
theorem qep{t:TypeId}{x:T}{lo hi mx:Option T}{h:qk}{k:q9 R}{r:R}(hk:Q1 P t x lo hi mx h k=some r):∃v,k v h false=some r:=by
 unfold Q1 at hk;split at hk
 ·split at hk
  ·obtain⟨a,b,c,q⟩:=Km (qn hk).2;exact⟨_,q⟩
  ·cases hk
 ·split at hk
  ·obtain⟨a,b,c,q⟩:=Km (qn hk).2;exact⟨_,q⟩
  ·cases hk
 ·split at hk
  ·obtain⟨a,b,c,q⟩:=Km (qn hk).2;exact⟨_,(qn q).2⟩
  ·cases hk
 ·split at hk
  ·obtain⟨b,q⟩:=qbq hk;obtain⟨a,b,c,q⟩:=Km (qn q).2;exact⟨_,q⟩
  ·cases hk
 ·cases hk
theorem qg2{t:TypeId}{x:T}{h:qk}{k:q9 R}{r:R}(hk:KP P t x h k=some r):∃v,k v h false=some r:=by
 unfold KP at hk;split at hk
 ·exact⟨_,(qn hk).2⟩
 ·exact⟨_,(qn hk).2⟩
 ·exact⟨_,(qn hk).2⟩
 ·obtain⟨b,q⟩:=qbq (qn hk).2;exact⟨_,q⟩
 ·split at hk
  ·exact⟨_,hk⟩
  ·cases hk
 ·cases hk
theorem qeq{o:Oper}(ho:qbS o=true){e:Operand->T}{h:qk}{k:q9 R}{r:R}(hk:Qa P K o.op e h k=some r):∃v,k v h false=some r:=by
 unfold qbS at ho;simp only[Bool.and_eq_true] at ho;obtain⟨_,ho⟩:=ho;split at ho
 ·rename_i heq;rw[heq] at hk;exact⟨_,hk⟩
 ·rename_i heq;rw[heq] at hk;exact⟨_,hk⟩
 ·rename_i heq;rw[heq] at hk;exact qep hk
 ·rename_i heq;rw[heq] at hk;simp only[Qa,zz] at hk;split at hk
  all_goals first|exact qg2 hk|cases hk|skip
  all_goals simp_all
 ·cases ho
theorem qg3{A:Type}{v:T}{k:T->Option A}{r:A}(hk:j9 v k=some r):∃v,k v=some r:=by
 rw[zd] at hk;exact⟨v,hk⟩
theorem qf7{o:Oper}{s:St}{v:T}{rs:List Nat}{rd wr:Bool}{k:Eff->FP->Option R}{r:R}(hk:done nt o s v none rs rd wr k=some r):∃f fp,f.heap=none/\k f fp=some r:=by
 unfold done at hk;split at hk
 ·exact⟨_,_,rfl,hk⟩
 ·obtain⟨v,q⟩:=qg3 (qn hk).2;exact⟨_,_,rfl,q⟩
theorem Z4{o:Oper}(ho:qbS o=true){s:St}{k:Eff->FP->Option R}{r:R}(hk:Qb P K Gl prom nt o s k=some r):∃f fp,f.heap=none/\k f fp=some r:=by
 unfold Qb at hk;rcases qx hk with⟨_,hk⟩|⟨_,hk⟩
 ·obtain⟨v,q⟩:=qeq ho hk;exact qf7 q
 ·obtain⟨v,q⟩:=qeq ho hk;obtain⟨f,fp,h1,h2⟩:=qf7 q;exact⟨f,_,h1,h2⟩
theorem qg4{o:Oper}(ho:qbS o=true){s:St}{k:Eff->FP->Option R}{r:R}(hk:zr P K Gl prom nt o s k=some r):∃f fp,f.heap=none/\k f fp=some r:=by
 have ho2:=ho;unfold qbS at ho;simp only[Bool.and_eq_true] at ho;obtain⟨_,ho⟩:=ho;unfold zr at hk;split at ho
 ·rename_i heq;rw[heq] at hk;exact Z4 ho2 hk
 ·rename_i heq;rw[heq] at hk;exact Z4 ho2 hk
 ·rename_i heq;rw[heq] at hk;exact Z4 ho2 hk
 ·rename_i heq;rw[heq] at hk;exact Z4 ho2 hk
 ·cases ho
theorem qfv{ops:List Oper}{o:Oper}(ho:qbS o=true){s:St}{k:Eff->FP->Option R}{r:R}(hk:Q9 P K Gl prom nt ops o s k=some r):∃f fp,f.heap=none/\k f fp=some r:=by
 have hg:o.guard=none:=by
  unfold qbS at ho;simp only[Bool.and_eq_true] at ho;exact Option.isNone_iff_eq_none.1 ho.1
 unfold Q9 at hk;rw[hg] at hk;dsimp only at hk;rcases qx hk with⟨hz,hk⟩|⟨_,hk⟩
 ·unfold qbS at ho;unfold zI at hk;split at hk
  ·rename_i heq;rw[heq] at ho;simp at ho
  ·cases hk
 ·exact qg4 ho hk
theorem qcr{ops:List Oper}:∀{l:List Oper} {s:St} {k:St->List FP->Option R} {r:R},l.all qbS=true->ZT P K Gl prom nt ops l s k=some r->∃s' fps,s'.h=s.h/\k s' fps=some r
 |[],s,k,r,_,hk=>⟨s,[],rfl,hk⟩
 |o::l,s,k,r,ho,hk=>by
  simp only[List.all_cons,Bool.and_eq_true] at ho;simp only[ZT] at hk;obtain⟨f,fp,h1,h2⟩:=qfv ho.1 hk;obtain⟨s',fps,h3,h4⟩:=qcr ho.2 h2;refine⟨s',fp::fps,?_,h4⟩;rw[h3];show f.heap.getD s.h=s.h;rw[h1];rfl
theorem qbr{rec:Rec}:∀{c:Code} {s:St} {k:Ex->St->Option R} {r:R},kX c=true->exK P K Gl prom nt live rec c s k=some r->∃e s',s'.h=s.h/\k e s'=some r
 |.skip,s,k,r,_,hk=>⟨_,s,rfl,hk⟩
 |.ret,s,k,r,_,hk=>⟨_,s,rfl,hk⟩
 |.region id ops draw,s,k,r,ho,hk=>by
  simp only[exK] at hk;obtain⟨s',fps,h1,h2⟩:=qcr ho hk;have h2:=(qn h2).2;refine⟨.normal,s',h1,?_⟩;rcases qx h2 with⟨_,h2⟩|⟨_,h2⟩
  ·exact(qn h2).2
  ·exact h2
 |.seq a b,s,k,r,ho,hk=>by
  simp only[kX,Bool.and_eq_true] at ho;simp only[exK] at hk;obtain⟨e,s',h1,h2⟩:=qbr ho.1 hk;cases e with
  |normal =>
   obtain⟨e,s2,h3,h4⟩:=qbr ho.2 h2;exact⟨e,s2,h3.trans h1,h4⟩
  |exit i=>exact⟨_,s',h1,h2⟩
  |ret=>exact⟨_,s',h1,h2⟩
 |.cond c a b,s,k,r,ho,hk=>by
  simp only[kX,Bool.and_eq_true] at ho;simp only[exK] at hk;split at hk
  ·rcases qx hk with⟨_,hk⟩|⟨_,hk⟩
   ·exact qbr ho.1 hk
   ·exact qbr ho.2 hk
  ·cases hk
def qkD(P:Program)(f:FuncId):Bool:=match P.funcs[f]? with
 |some fn=>match fn.body with|some c=>kX c|none=>false
 |none=>false
theorem qi6{fn:Func}{e:Ex}{s:St}{k:T->qk->Option R}{r:R}(hk:qip P Gl prom fn e s k=some r):∃v,k v s.h=some r:=by
 have all:∀(l:List ResultVar) {k:List T->Option R} {r:R},kv P Gl prom s l k=some r->∃vs,k vs=some r:=by
  intro l
  induction l with
  |nil=>intro k r h;exact⟨_,h⟩
  |cons x l ih =>
   intro k r h;simp only[kv] at h;obtain⟨v,h1,_⟩:=qJ (qbY P Gl prom s x) h;obtain⟨vs,h2⟩:=ih h1;exact⟨_,h2⟩
 unfold qip at hk;split at hk
 ·cases hk
 ·unfold KR at hk;obtain⟨vs,h⟩:=all _ hk;split at h
  ·exact⟨_,h⟩
  ·exact⟨_,h⟩
theorem qi7{A:FuncId->Ann}{rec:Func->Rec}{f:FuncId}(hf:qkD P f=true){args:List T}{h:qk}{r:T}{h':qk}(hk:kz P Gl A K rec f args h (fun v h=>some (v,h))=some (r,h')):h'=h:=by
 unfold qkD at hf;unfold kz at hk;split at hk
 ·split at hk
  ·rename_i fn hfn _ c hc;rw[hfn] at hf;dsimp only at hf;rw[hc] at hf;dsimp only at hf;unfold qdy at hk;obtain⟨e,s',h1,h2⟩:=qbr hf (qn hk).2;obtain⟨v,h3⟩:=qi6 h2;simp only[Option.some.injEq,Prod.mk.injEq] at h3;rw[←h3.2,h1];rfl
  ·cases hk
 ·cases hk
end
def jc(P:Program)(Gl:Nat->Option (List T))(sq:FuncId->List T->Option (List (List T))):Prop:=∀gf caps l,sq gf caps=some l->SeqTold P Gl gf caps l.length (fun i=>l.getD i [])
section
variable (P:Program) (K:Orc) (G:Nat->Option (List T)) (prom:List Nat) (nt:Nat) (live:Nat->Bool->List Nat)
def YW{R:Type}(rec:Rec)(lin ps:List Nat)(vs:List T)(asg bod:Code):List (List T)->qk->(Ex->qk->Option R)->Option R
 |[],h,k=>k .normal h
 |xs::l,h,k=>exK P K G prom nt live rec asg (qO (lin++ps) (vs++xs) h) fun e s=>match e with
  |.normal=>exK P K G prom nt live rec bod s fun e s'=>match e with
   |.normal=>YW rec lin ps vs asg bod l s'.h k
   |e=>k e s'.h
  |_=>none
def kY(sq:FuncId->List T->Option (List (List T)))(m:Nat):Rec:=fun R b vs h k=>match b with
 |.rangeFunc (.tmp t) psa asg bod =>
  bif psa.toList.all (fun t=>Nat.blt t nt)&&!(qy asg)&&!(qy bod)&&(live (qB (.rangeFunc (.tmp t) psa asg bod)) false).all (fun t=>!(prom.contains t))&&!(prom.contains t)&&Nat.beq (live (qB (.rangeFunc (.tmp t) psa asg bod)) false).length vs.length then
   match (qO (live (qB (.rangeFunc (.tmp t) psa asg bod)) false) vs h).at t with
   |.fn gf caps=>bif caps.all Zo then match sq gf caps with
    |some l=>bif l.all (fun xs=>Nat.beq xs.length psa.toList.length) then
     YW P K G prom nt live (Yo P K G prom nt live m) (live (qB (.rangeFunc (.tmp t) psa asg bod)) false) psa.toList vs asg bod l h fun e h' =>
      k e (zA (qO (live (qB (.rangeFunc (.tmp t) psa asg bod)) false) vs h) (live (qB (.rangeFunc (.tmp t) psa asg bod)) true)) h'
     else none
    |none=>none
    else none
   |_=>none
  else none
 |b=>Yo P K G prom nt live m R b vs h k
theorem k8{rec:Rec}(hrec:Zk rec)(lin ps:List Nat)(vs:List T)(asg bod:Code):∀(l:List (List T)) (h:qk),Det (A:=Ex×qk) fun R k=>YW (R:=R) P K G prom nt live rec lin ps vs asg bod l h fun e h=>k (e,h)
 |[],h=>qo (_,_)
 |xs::l,h=>by
  simp only[YW];refine zc (Zl P K G prom nt live hrec asg _) fun e s=>?_;cases e with
  |normal =>
   refine zc (Zl P K G prom nt live hrec bod _) fun e s'=>?_;cases e with
   |normal=>exact k8 hrec lin ps vs asg bod l s'.h
   |exit i=>exact qo (_,_)
   |ret=>exact qo (_,_)
  |exit i=>exact qm
  |ret=>exact qm
theorem qbs(sq:FuncId->List T->Option (List (List T)))(m:Nat):Zk (kY P K G prom nt live sq m):=fun b vs h=>by
 unfold kY;split
 ·refine qA _ ?_;split
  ·refine qA _ ?_;split
   ·exact qA _ (zc (k8 P K G prom nt live (z4 P K G prom nt live m) _ _ vs _ _ _ h) fun e h'=>qo (_,_,_))
   ·exact qm
  ·exact qm
 ·exact z4 P K G prom nt live m _ vs h
end
section
variable {P:Program} {K:Orc} {Gl:Nat->Option (List T)} {prom:List Nat} {nt:Nat} {live:Nat->Bool->List Nat}
theorem qbt(hm:P.follows .mixedOrders=true)(hK:OrcOk P Gl K)(hnt:nt<=1024){rec:Rec}(hrec:RecOk P Gl prom nt live (fun _=>True) rec){lin ps:List Nat}{vs:List T}{asg bod:Code}{e1:Ex}{h1:qk} :
 ∀{l:List (List T)} {h:qk},YW P K Gl prom nt live rec lin ps vs asg bod l h (fun e h=>some (e,h))=some (e1,h1) →
 ∃(st:Nat->qk) (n:Nat),st 0=h/\n<=l.length ∧
  (∀i,i<n->∃s1 s2,CodeGoes P Gl prom nt asg (qO (lin++ps) (vs++l.getD i []) (st i)) .normal s1/\CodeGoes P Gl prom nt bod s1 .normal s2/\s2.h=st (i+1)) ∧
  ((n=l.length/\e1 = .normal/\h1=st l.length)∨(n<l.length/\e1≠.normal/\∃s1 s2,CodeGoes P Gl prom nt asg (qO (lin++ps) (vs++l.getD n []) (st n)) .normal s1/\CodeGoes P Gl prom nt bod s1 e1 s2/\s2.h=h1))
 |[],h,hk=>by
  simp only[YW,Option.some.injEq,Prod.mk.injEq] at hk;exact⟨fun _=>h,0,rfl,Nat.le_refl _,fun i hi=>(by omega),.inl ⟨rfl,hk.1.symm,hk.2.symm⟩⟩
 |xs::l,h,hk=>by
  simp only[YW] at hk;obtain⟨e,s1,hk,g1⟩:=QV hm hK hnt hrec asg (fun _ _=>trivial) hk;cases e with
  |normal =>
   dsimp only at hk;obtain⟨e,s2,hk,g2⟩:=QV hm hK hnt hrec bod (fun _ _=>trivial) hk
   have out:∀e',e=e'->e'≠.normal->some (e',s2.h)=some (e1,h1)->∃(st:Nat->qk) (n:Nat),st 0=h/\n<=(xs::l).length ∧
    (∀i,i<n->∃s1 s2,CodeGoes P Gl prom nt asg (qO (lin++ps) (vs++(xs::l).getD i []) (st i)) .normal s1/\CodeGoes P Gl prom nt bod s1 .normal s2/\s2.h=st (i+1)) ∧
    ((n=(xs::l).length/\e1 = .normal/\h1=st (xs::l).length)∨(n<(xs::l).length/\e1≠.normal/\∃s1 s2,CodeGoes P Gl prom nt asg (qO (lin++ps) (vs++(xs::l).getD n []) (st n)) .normal s1/\CodeGoes P Gl prom nt bod s1 e1 s2/\s2.h=h1)):=by
    intro e' he hne hk;simp only[Option.some.injEq,Prod.mk.injEq] at hk;obtain⟨rfl,rfl⟩:=hk;subst he;exact⟨fun _=>h,0,rfl,by simp,fun i hi=>(by omega),.inr ⟨by simp,hne,s1,s2,g1,g2,rfl⟩⟩
   cases e with
   |normal =>
    obtain⟨st,n,q1,q2,q3,q4⟩:=qbt hm hK hnt hrec hk;refine⟨fun i=>match i with|0=>h|i+1=>st i,n+1,rfl,by simpa using q2,fun i hi=>?_,?_⟩
    ·cases i with
     |zero=>exact⟨s1,s2,g1,g2,q1.symm⟩
     |succ i=>exact q3 i (by omega)
    ·rcases q4 with⟨p1,p2,p3⟩|⟨p1,p2,p3⟩
     ·exact .inl ⟨by simp[p1],p2,p3⟩
     ·exact .inr ⟨by simpa using p1,p2,p3⟩
   |exit i=>exact out _ rfl (by simp) hk
   |ret=>exact out _ rfl (by simp) hk
  |exit i=>cases hk
  |ret=>cases hk
theorem Kn(hm:P.follows .mixedOrders=true)(hK:OrcOk P Gl K)(hnt:nt<=1024){sq:FuncId->List T->Option (List (List T))}(hsq:jc P Gl sq)(m:Nat):RecOk P Gl prom nt live (fun _=>True) (kY P K Gl prom nt live sq m):=by
 refine⟨qbs P K Gl prom nt live sq m,fun b vs h e vs' h' _ hk=>?_⟩;unfold kY at hk;split at hk
 ·rename_i t psa asg bod _;obtain⟨hc,hk⟩:=qn hk;simp only[Bool.and_eq_true,Bool.not_eq_true',List.all_eq_true] at hc;obtain⟨⟨⟨⟨⟨a1,a2⟩,a3⟩,a4⟩,a5⟩,a6⟩:=hc;split at hk
  ·rename_i gf caps hat;obtain⟨hci,hk⟩:=qn hk;split at hk
   ·rename_i l hl;obtain⟨hxl,hk⟩:=qn hk;obtain⟨⟨e1,h1⟩,hk,hall⟩:=qJ (k8 P K Gl prom nt live (z4 P K Gl prom nt live m) _ _ vs _ _ _ h) (k:=fun p=>some (p.1,zA (qO (live (qB (.rangeFunc (.tmp t) psa asg bod)) false) vs h) (live (qB (.rangeFunc (.tmp t) psa asg bod)) true),p.2)) hk;simp only[Option.some.injEq,Prod.mk.injEq] at hk;obtain⟨rfl,rfl,rfl⟩:=hk;obtain⟨st,n,q1,q2,q3,q4⟩:=qbt hm hK hnt (jR hm hK hnt m) (hall _ some);subst q1;have hgo:=qe2 (prom:=prom) (nt:=nt) (psa:=psa) (asg:=asg) (bod:=bod) (ps:=psa.toList) hm (Nat.eq_of_beq_eq_true a6) (fun t ht=>by simpa using a4 t ht) (by simpa using a5) rfl (fun t ht=>Qc (a1 t ht)) a2 a3 hci (hsq gf caps l hl)
     (fun i hi=>by
      have:=List.all_eq_true.1 hxl (l.getD i []) (by rw[List.getD_eq_getElem?_getD,List.getElem?_eq_getElem hi];exact List.getElem_mem hi);exact(Nat.eq_of_beq_eq_true this).symm) st hat q2 (e1:=e1) (h1:=h1)
     (fun i hi=>by
      obtain⟨s1,s2,g1,g2,g3⟩:=q3 i hi;exact⟨s1,s2,g1,g2,g3▸WeakTo.refl _ _⟩)
     (by
      rcases q4 with⟨p1,p2,p3⟩|⟨p1,p2,s1,s2,g1,g2,g3⟩
      ·exact .inl ⟨p1,p2,p3⟩
      ·exact .inr ⟨p1,p2,s1,s2,g1,g2,g3▸WeakTo.refl _ _⟩)
    rw[show Zh (.rangeFunc (.tmp t) psa asg bod) = .rangeFunc (.tmp t) psa asg bod from rfl];intro ro nn hro g0 a w hs Q hQ;exact hgo ro nn hro g0 a w hs Q fun a' w' g' hs' hf' hd'=>hQ a' w' g' (hs'.only _) hf' hd'
   ·cases hk
  ·cases hk
 ·exact(jR hm hK hnt m).2 b vs h e vs' h' trivial hk
end
section
variable (P:Program) (G:Nat->Option (List T)) (A:FuncId->Ann) (sq:FuncId->List T->Option (List (List T)))
def qi8(K:Orc)(m:Nat)(f:FuncId)(fn:Func):Rec:=kY P K G (A f).prom fn.ntmps (A f).live sq m
def qjD(K:Orc)(m:Nat)(f:FuncId)(args:List T):Option T:=kz P G A K (qi8 P G A sq K m f) f args [] fun v h'=>some (ji h' v)
end
section
variable {P:Program} {G:Nat->Option (List T)} {A:FuncId->Ann} {sq:FuncId->List T->Option (List (List T))}
theorem qer(K:Orc)(m:Nat)(f:FuncId)(fn:Func):Zk (qi8 P G A sq K m f fn):=qbs _ _ _ _ _ _ _ _
theorem qf8(hm:P.follows .mixedOrders=true){K:Orc}(hK:OrcOk P G K)(hsq:jc P G sq)(m:Nat)(f:FuncId):Jn P G A f (qi8 P G A sq K m f):=fun _ _ _ _ hnt=>(Kn hm hK hnt hsq m).mono
theorem qfw(hm:P.follows .mixedOrders=true)(hn:QG P=true){K:Orc}(hK:OrcOk P G K)(hsq:jc P G sq){m:Nat}{f:FuncId}{args:List T}{r:T}(h:qjD P G A sq K m f args=some r):ToldOk P G f args r :=
 ⟨z7 hn h,fun _ _ _ hU hgl hargs=>qa5 hm hK (qer K m f) (qf8 hm hK hsq m f) h hU hgl hargs⟩
end
end Go.Ab

