/- A part of the proof: nothing is assumed. -/
import Derived.Test.YteoamlekamflbaaP4
import Derived.Test.YteoamlekamflbaaP6
set_option linter.all false
namespace Go.Ab
section
variable {P:Program} {Gl:Nat->Option (List T)}
def lowR(k:Nat):T->Bool
 |.tup l=>l.all (low0 k)
 |x=>low k x
theorem VR.lowR{w:World}{g:Gh}{h:qg}{k:Nat}{x:T}{v:Value}(hx:g.VR h w x v)(hl:Ab.lowR k x=true):g.VR (h.take k) w x v:=by
 cases x with
 |tup l =>
  obtain⟨cs,rfl,hlen,hc⟩:=hx.tup_inv;refine VR.mk_tup hlen (fun i c hi=>?_);obtain⟨u,hu,hr⟩:=hc i c hi;exact⟨u,hu,hr.low0 (List.all_eq_true.1 hl c (List.mem_of_getElem? hi))⟩
 |_=>exact VR.low hx hl
theorem ToldRef.trim{f:FuncId}{args:List T}{h:qg}{r:T}{h':qg}{k:Nat}(t:ToldRef P Gl f args h r h')(hk:h.length<=k)(hl:lowR k r=true)(hf:(h'.take k).all (qb8 k)=true):ToldRef P Gl f args h r (h'.take k):=by
 refine⟨t.enters,fun g w cargs hr hno hgl ha=>?_⟩;refine(t.calls g w cargs hr hno hgl ha).mono fun e w' ⟨v,he,g',q1,q2,q3,q4⟩=>⟨v,he,g'.cut k,q1.take hf,q2.lowR hl,⟨q3.u,fun i b hb=>?_,q3.rm⟩,⟨q4.size,fun b hb=>?_,q4.os,q4.tape,q4.output,q4.same,q4.bs,q4.u,fun b hb t ht=>q4.new b hb t (JI ht).1⟩⟩
 ·obtain⟨b',hb',h1,h2⟩:=q3.blk i b hb;have hi:i<k:=by
   rcases Nat.lt_or_ge i h.length with q|q
   ·omega
   ·rw[List.getElem?_eq_none q] at hb;cases hb
  exact⟨b',by rw[List.getElem?_take_of_lt hi];exact hb',h1,h2⟩
 ·have hq:=q4.own b hb;cases ho:g'.own b with
  |none=>rw[KE ho,←hq,ho]
  |some o =>
   cases o with
   |inr t=>rw[qeC ho,←hq,ho]
   |inl i=>rw[qbg ho (Nat.lt_of_lt_of_le (hr.lt b i (by rw[←hq];exact ho)) hk),←hq,ho]
end
section
variable {P:Program} {Gl:Nat->Option (List T)} {prom:List Nat} {nt:Nat}
theorem qji{c d:Code}{s s1 s2:St}{e:Ex}(h1:CodeGoes P Gl prom nt c s .normal s1)(h2:CodeGoes P Gl prom nt d s1 e s2):CodeGoes P Gl prom nt (.seq c d) s e s2 :=
 fun ro n hro g a w hs Q hn=>wpIn_seq (h1 ro n (fun h=>hro (by simp[qx,h])) g a w hs _ fun a1 w1 g1 hs1 hf1 hd1=>h2 ro n (fun h=>hro (by simp[qx,h])) g1 a1 w1 hs1 Q fun a2 w2 g2 hs2 hf2 hd2=>hn a2 w2 g2 hs2 (hf1.trans hf2) fun h=>by simp only[qx,Bool.or_eq_false_iff] at h;exact(hd2 h.2).trans (hd1 h.1))
theorem qdd{c d:Code}{s s1:St}{i:Nat}(h1:CodeGoes P Gl prom nt c s (.exit i) s1):CodeGoes P Gl prom nt (.seq c d) s (.exit i) s1 :=
 fun ro n hro g a w hs Q hn=>wpIn_seq (h1 ro n (fun h=>hro (by simp[qx,h])) g a w hs _ fun a1 w1 g1 hs1 hf1 hd1=>hn a1 w1 g1 hs1 hf1 fun h=>by simp only[qx,Bool.or_eq_false_iff] at h;exact hd1 h.1)
theorem qeQ{c d:Code}{s s1:St}(h1:CodeGoes P Gl prom nt c s .ret s1):CodeGoes P Gl prom nt (.seq c d) s .ret s1 :=
 fun ro n hro g a w hs Q hn=>wpIn_seq (h1 ro n (fun h=>hro (by simp[qx,h])) g a w hs _ fun a1 w1 g1 hs1 hf1 hd1=>hn a1 w1 g1 hs1 hf1 fun h=>by simp only[qx,Bool.or_eq_false_iff] at h;exact hd1 h.1)
theorem qcm{c:Code}{id:Nat}{s s1:St}(h1:CodeGoes P Gl prom nt c s .normal s1):CodeGoes P Gl prom nt (.block id c) s .normal s1 :=
 fun ro n hro g a w hs Q hn=>wpIn_block (h1 ro n (fun h=>hro (by simp[qx,h])) g a w hs _ fun a1 w1 g1 hs1 hf1 hd1=>hn a1 w1 g1 hs1 hf1 fun h=>hd1 (by simpa only[qx] using h))
theorem KI{c:Code}{id:Nat}{s s1:St}(h1:CodeGoes P Gl prom nt c s .ret s1):CodeGoes P Gl prom nt (.block id c) s .ret s1 :=
 fun ro n hro g a w hs Q hn=>wpIn_block (h1 ro n (fun h=>hro (by simp[qx,h])) g a w hs _ fun a1 w1 g1 hs1 hf1 hd1=>hn a1 w1 g1 hs1 hf1 fun h=>hd1 (by simpa only[qx] using h))
theorem qa7{c:Code}{id:Nat}{s s1:St}(h1:CodeGoes P Gl prom nt c s (.exit id) s1):CodeGoes P Gl prom nt (.block id c) s .normal s1 :=
 fun ro n hro g a w hs Q hn=>wpIn_block (h1 ro n (fun h=>hro (by simp[qx,h])) g a w hs _ fun a1 w1 g1 hs1 hf1 hd1=>by
  simp only[Ex.out,Exit.inBlock,if_pos];exact hn a1 w1 g1 hs1 hf1 fun h=>hd1 (by simpa only[qx] using h))
theorem Z8{K:Orc}{A:FuncId->Ann}(hm:P.follows .mixedOrders=true)(hK:OrcOk P Gl K){m:Nat}{f:FuncId}{fn:Func}{c:Code}(hf:P.funcs[f]?=some fn)(hb:fn.body=some c)(hnt:fn.ntmps<=1024)(ha:QI P f=true){lo:List (Nat×(List T->qg->LT))}(hL:∀p∈lo,LoopOk P Gl (A f) f p.1 p.2)
 (pick:Code->Code) {c0:Code} (hc:pick c=c0) (hsub:∀b∈qC (pick c),b∈qC c) {l l':List Nat} {vs vs':List T} {h h':qg} {e:Ex}
 (hk:qy P Gl A K m f lo pick l vs h l'=some (e,vs',h')):CodeGoes P Gl (A f).prom fn.ntmps c0 (qM l vs h) e (qM l' vs' h'):=by
 subst hc;unfold qy at hk;rw[hf] at hk;dsimp only at hk;rw[hb] at hk;dsimp only at hk;have hrec:=Zw (A:=A) ha (Zf P Gl A K m f) (yH hm hK m f) hL fn c hf hb hnt;obtain⟨e1,s1,hk,hgo⟩:=zk hm hK hnt hrec (pick c) hsub hk;simp only[Option.some.injEq,Prod.mk.injEq] at hk;obtain⟨rfl,rfl,rfl⟩:=hk;exact fun ro n hro g a w hs Q hn=>hgo ro n hro g a w hs Q fun a' w' g' hs' hf' hd'=>hn a' w' g' (hs'.only l') hf' hd'
theorem qif{b:Code}{lin lout:List Nat}(I:Nat->List T->qg->Prop)(Post:Ex->List T->qg->Prop)
 (round:∀n vs h,I n vs h->(∃m vs' h',m<n/\CodeGoes P Gl prom nt b (qM lin vs h) .normal (qM lin vs' h')/\I m vs' h')∨∃e vs' h',e≠.normal/\CodeGoes P Gl prom nt b (qM lin vs h) e (qM lout vs' h')/\Post e vs' h')
 {n:Nat} {vs:List T} {h:qg} (hI:I n vs h):∃e vs1 h1,Post e vs1 h1/\CodeGoes P Gl prom nt (.loop b) (qM lin vs h) e (qM lout vs1 h1):=by
 have key:∀n vs h,I n vs h->∃(N:Nat) (V:Nat->List T) (H:Nat->qg) (e:Ex) (vs1:List T) (h1:qg),V 0=vs/\H 0=h/\Post e vs1 h1/\(∀i,i<N->CodeGoes P Gl prom nt b (qM lin (V i) (H i)) .normal (qM lin (V (i+1)) (H (i+1))))/\e≠.normal/\CodeGoes P Gl prom nt b (qM lin (V N) (H N)) e (qM lout vs1 h1):=by
  intro n
  induction n using Nat.strongRecOn with
  |_ n ih =>
   intro vs h hI;rcases round n vs h hI with⟨m,vs',h',hm,hs,hI'⟩|⟨e,vs',h',hne,hl,hp⟩
   ·obtain⟨N,V,H,e,vs1,h1,q1,q2,q3,q4,q5⟩:=ih m hm vs' h' hI';refine⟨N+1,fun i=>match i with|0=>vs|i+1=>V i,fun i=>match i with|0=>h|i+1=>H i,e,vs1,h1,rfl,rfl,q3,fun i hi=>?_,q5⟩;cases i with
    |zero=>show CodeGoes P Gl prom nt b (qM lin vs h) .normal (qM lin (V 0) (H 0));rw[q1,q2];exact hs
    |succ i=>exact q4 i (by omega)
   ·exact⟨0,fun _=>vs,fun _=>h,e,vs',h',rfl,rfl,hp,fun i hi=>by omega,hne,hl⟩
 obtain⟨N,V,H,e,vs1,h1,q1,q2,q3,q4,hne,q5⟩:=key n vs h hI;refine⟨e,vs1,h1,q3,?_⟩;subst q1 q2;intro ro nn hro g0 a0 w0 hs0 Q hn;refine Ze (fun j a w=>∃i g,i<=N/\j=N-i/\SR Gl prom nt g (qM lin (V i) (H i)) a w/\FrC g0 (H 0) w0 g (H i) w/\(qx b=false->a.defers=a0.defers)) (fun j a w hJ=>?_) N a0 w0 ⟨0,g0,Nat.zero_le _,rfl,hs0,FrC.refl _ _ _,fun _=>rfl⟩;obtain⟨i,g,hi,rfl,hs,hf0,hdf⟩:=hJ;rcases Nat.lt_or_ge i N with q|q
 ·refine q4 i q ro nn (fun hh=>hro (by simpa [qx] using hh)) g a w hs _ fun a' w' g' hs' hf' hd'=>?_;exact⟨N-(i+1),by omega,i+1,g',by omega,rfl,hs',hf0.trans hf',fun h=>(hd' h).trans (hdf h)⟩
 ·obtain rfl:i=N:=by omega
  refine q5 ro nn (fun hh=>hro (by simpa [qx] using hh)) g a w hs _ fun a' w' g' hs' hf' hd'=>?_;have fin:=hn a' w' g' hs' (hf0.trans hf') (fun h=>by simp only[qx] at h;exact(hd' h).trans (hdf h));cases e with
  |normal=>exact absurd rfl hne
  |exit i=>exact fin
  |ret=>exact fin
end
def inB:Code->Code
 |.block _ c=>c
 |.loop c=>c
 |.scope c=>c
 |c=>c
theorem YV(c:Code):∀b∈qC (inB c),b∈qC c:=by
 intro b hb;cases c with
 |loop x=>simp only[inB,qC,List.mem_cons] at *;exact .inr hb
 |_=>exact hb
end Go.Ab

