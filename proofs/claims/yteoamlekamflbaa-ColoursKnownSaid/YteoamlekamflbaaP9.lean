/- A part of the proof: nothing is assumed. -/
import Derived.Test.YteoamlekamflbaaP7
import Derived.Test.YteoamlekamflbaaP8
import GoSem.Step
set_option linter.all false
namespace Go.Ab
open IntKind(i64 u8)
open Int(ofNat)
open Go.Proofs
def qcg:FuncId->Ann:=fun f=>match f with
 |10=>⟨[4],fun r o=>match r with|3=>bif o then [3] else [3,6]|_=>[],false⟩
 |f=>A18 f
def qgS:qg:=[⟨0,1,1,fun _=>[.nils],false,false,none⟩]
def h10(g:Nat->List T)(ver m:Nat):qg:=[⟨0,1,1,fun _=>[.own 1 ver 0 m none],false,false,none⟩,⟨ver,3,m,g,true,false,none⟩]
def v10(r:Nat->Int)(n:Nat)(c:Option Nat):List T:=[.ptr 0 0 0 0,.fn 44 [.vp [qB r n c]]]
noncomputable def K10(p:List T->Prop)(r:T):Orc:=(qk.inl P18 G18 A18 qk 0 28).add 27 (qi6 p r)
def flG(r:Nat->Int)(n j:Nat):List T:=YD r n ((fl r n n).getD j 0)
def qld(r:Nat->Int)(n:Nat):Nat->qg
 |0=>qgS
 |i+1=>h10 (flG r n) i (i+1)
theorem qkR(r:Nat->Int)(n:Nat)(c:Option Nat):ToldOk P18 G18 27 [qB r n c] (.fn 44 [.vp [qB r n c]]):=by
 refine qP qv q9 qf (K:=qk) (A:=A18) (m:=0) ?_;refine Eq.trans (show QU P18 G18 A18 qk 0 27 [qB r n c] =
( some (.fn (44:Nat) [.vp [qB r n c]])) from by kernel_rfl) ?_
 rfl
theorem jS(r:Nat->Int)(n m:Nat):(fl r n m).length<=m:=by
 unfold fl;have:=List.length_filter_le (fun k:Nat=>decide ((k:Int)+1<Zh r n k)) (List.range m);rw[List.length_range] at this;exact this
theorem l10(r:Nat->Int)(n:Nat)(c:Option Nat)(hn:n<=1000)(hr:∀j,j<n->0<=r j/\r j<256):LoopOk P18 G18 (qcg 10) 10 3 (qE (v10 r n c) qgS .normal [.ptr 0 0 0 0] (qld r n (fl r n n).length)):=by
 have:=qdG (P:=P18) (Gl:=G18) (f:=10) (r:=3) (t:=6) (np:=1) (an:=qcg 10) qv (by kernel_rfl) (vs:=v10 r n c) rfl (gf:=44) (caps:=[.vp [qB r n c]]) rfl (qkQ r n c hn hr) (by kernel_rfl) (fun i hi=>rfl)
  (qld r n) rfl (n:=(fl r n n).length) (Nat.le_refl _) (e1:=.normal) (h1:=qld r n (fl r n n).length) (vo:=[.ptr 0 0 0 0]) rfl (fun i hi=>?_) (.inl ⟨rfl,rfl,rfl⟩)
 ·exact this
 ·refine⟨qcg,qk,0,[],qf,rfl,rfl,qh,?_⟩;have hl:=jS r n n;cases i with
  |zero =>
   have hg0:flG r n 0=YD r n ((fl r n n).getD 0 0):=rfl;unfold YD at hg0 ⊢;generalize r ((fl r n n).getD 0 0)=a at *
   generalize (((fl r n n).getD 0 0:Nat):Int)+1=b at *
   generalize Zh r n ((fl r n n).getD 0 0)-((fl r n n).getD 0 0:Nat)-1=d at *
   refine⟨_,(show y9 P18 G18 qcg qk 0 10 [] 3 (v10 r n c) [.agg [uI a,iI b,iI d]] qgS =
( some ((.normal,[.mk 0 1 1 (fun e=>[bif e==(0:Nat) then .own [Blk.mk 0 1 1 (fun x=>[T.nils]) false false
 none,Blk.mk 0 3 1 (fun j=>[[uI a,iI b,iI d]].getD j []) true true
 none].length (0:Nat) (0:Nat) (1:Nat) none else .nils]) false false
 none,.mk 0 3 1 (fun j=>[[uI a,iI b,iI d]].getD j []) true true
 none,.mk 0 3 1 (fun j=>[[uI a,iI b,iI d]].getD (0+j) []) true false
 none]))) from by kernel_rfl),fun nt=>?_⟩
   refine WeakTo.canonS [0,2] (by kernel_rfl) (by rfl) rfl ?_;refine .cons ⟨rfl,rfl,rfl,id,fun j hj=>?_⟩ (.cons ⟨rfl,rfl,rfl,id,fun j hj=>?_⟩ .nil)
   ·obtain rfl:j=0:=by have:j<1:=hj;omega
    rfl
   ·obtain rfl:j=0:=by have:j<1:=hj;omega
    exact hg0
  |succ i =>
   have hg0:flG r n (i+1)=YD r n ((fl r n n).getD (i+1) 0):=rfl;unfold YD at hg0 ⊢;generalize r ((fl r n n).getD (i+1) 0)=a at *
   generalize (((fl r n n).getD (i+1) 0:Nat):Int)+1=b at *
   generalize Zh r n ((fl r n n).getD (i+1) 0)-((fl r n n).getD (i+1) 0:Nat)-1=d at *
   show ∃h',y9 P18 G18 qcg qk 0 10 [] 3 (v10 r n c) [.agg [uI a,iI b,iI d]] (h10 (flG r n) i (i+1))=some (.normal,h')/\_;generalize hgg:flG r n=g at *
   rw[(show y9 P18 G18 qcg qk 0 10 [] 3 (v10 r n c) [.agg [uI a,iI b,iI d]] (h10 g i (i+1)) =
( gD (i==i&&true)<|gD (((0:Nat)+(i+(1:Nat))).ble (i+1))<|gD (((i+(1:Nat)+(1:Nat))*(25:Nat)).ble 70368744177664)<|bif ((0:Nat)+(i+(1:Nat))+(1:Nat)).ble (i+1) then some ((.normal,[.mk 0 1 1 (fun e=>[bif e==(0:Nat) then .own 1 i 0 (i+1+(1:Nat)) none else .own 1 i 0 (i+1)
 none]) false false
 none,.mk i 3 (i+1) (fun j =>
 bif ((0:Nat)+(i+(1:Nat))).ble j&&j.blt ((0:Nat)+(i+1)+(1:Nat)) then [[uI a,iI b,iI d]].getD ((0:Nat)+(j-((0:Nat)+(i+1)))) []
 else g j) true false
 none,.mk 0 3 1 (fun j=>[[uI a,iI b,iI d]].getD j []) true true
 none])) else
 some ((.normal,[.mk 0 1 1 (fun e=>[bif e==(0:Nat) then .own 1 (i+1) (0:Nat) (i+1+(1:Nat)) none else .own 1 i 0 (i+1)
 none]) false false
 none,.mk (i+1) (3:Nat) (i+1+(1:Nat)) (fun j =>
 bif j.blt (i+1) then g (0+j)
 else [[uI a,iI b,iI d]].getD ((0:Nat)+(j-(i+1))) []) true false
 none,.mk 0 3 1 (fun j=>[[uI a,iI b,iI d]].getD j []) true true
 none]))) from by kernel_rfl)]
   have hi2:i+1<n:=by omega
   refine qi9 (by first|assumption|omega|(simp (disch:=omega) only[zJ,List.length_cons,List.length_nil,Nat.reduceAdd];done)|(simp (disch:=omega) only[zJ,List.length_cons,List.length_nil,Nat.reduceAdd];omega)) ?_;refine qi9 (by first|assumption|omega|(simp (disch:=omega) only[zJ,List.length_cons,List.length_nil,Nat.reduceAdd];done)|(simp (disch:=omega) only[zJ,List.length_cons,List.length_nil,Nat.reduceAdd];omega)) ?_;refine qi9 (by first|assumption|omega|(simp (disch:=omega) only[zJ,List.length_cons,List.length_nil,Nat.reduceAdd];done)|(simp (disch:=omega) only[zJ,List.length_cons,List.length_nil,Nat.reduceAdd];omega)) ?_;refine ql6 (by first|assumption|(simp (disch:=omega) only[zJ,List.length_cons,List.length_nil,Nat.reduceAdd];done)|(simp (disch:=omega) only[zJ,List.length_cons,List.length_nil,Nat.reduceAdd];omega)|(simp;done)|fail) ?_;refine⟨_,rfl,fun nt=>?_⟩;refine WeakTo.canonS [0,1] (by kernel_rfl) (by rfl) rfl ?_;refine .cons ⟨rfl,rfl,rfl,id,fun j hj=>?_⟩ (.cons ⟨rfl,rfl,rfl,id,fun j hj=>?_⟩ .nil)
   ·obtain rfl:j=0:=by have:j<1:=hj;omega
    rfl
   ·have hj2:j<i+2:=hj;show flG r n j=bif Nat.blt j (i+1) then g (0+j) else [[uI a,iI b,iI d]].getD (0+(j-(i+1))) [];rw[hgg];by_cases q:j<i+1
    ·rw[Qy q,cond_true,Nat.zero_add]
    ·obtain rfl:j=i+1:=by omega
     rw[Zg (by omega),cond_false,hg0,Nat.sub_self];rfl
theorem qhx(r:Nat->Int)(n:Nat)(c:Option Nat)(hn:n<=1000)(hr:∀j,j<n->0<=r j/\r j<256):ToldOk P18 G18 10 [qB r n c] (.new (.view 3 (fl r n n).length (flG r n) (some (fl r n n).length))):=by
 have hl:=l10 r n c hn hr;have hb:=jS r n n;obtain⟨p,hp⟩:=qic P18 G18 27 (.fn 44 [.vp [qB r n c]]);have hK:OrcOk P18 G18 (K10 p (.fn 44 [.vp [qB r n c]])):=qq (yt qv q9 qf qf) (qgP (qgQ hp));have y:=qi7 hp (qkR r n c);generalize (fl r n n).length=m at *
 cases m with
 |zero =>
  refine ToldOk.resTo (r:=.nils) ?_ (.niln 3 (flG r n) (some 0) (.inr rfl));refine qJ qv q9 hK (A:=qcg) (m:=0) (by kernel_rfl) (qK hl) ?_;refine Eq.trans (show QB P18 G18 qcg (K10 p (.fn 44 [.vp [qB r n c]])) 0 10 [(3,qE (v10 r n c) qgS .normal [.ptr 0 0 0 0] qgS)] [qB r n c] =
( gD (qdH p [qB r n c])<|gD (qS (v10 r n c) [.mk 0 1 1 (fun x=>[.nils]) false false
 none] (v10 r n c) [.mk 0 1 1 (fun x=>[.nils]) false false
 none])<|some (.nils)) from by kernel_rfl) ?_
  refine qm y ?_;refine qm (qw ⟨rfl,.refl _⟩) ?_;rfl
 |succ m =>
  replace hl:LoopOk P18 G18 (qcg 10) 10 3 (qE (v10 r n c) qgS .normal [.ptr 0 0 0 0] (h10 (flG r n) m (m+1))):=hl;generalize flG r n=g at *
  refine ToldOk.frz (r:=.fresh true 3 (m+1) g (m+1) (some (m+1))) ?_;refine qJ qv q9 hK (A:=qcg) (m:=0) (by kernel_rfl) (qK hl) ?_;refine Eq.trans (show QB P18 G18 qcg (K10 p (.fn 44 [.vp [qB r n c]])) 0 10 [(3,qE (v10 r n c) qgS .normal [.ptr 0 0 0 0] (h10 g m (m+1)))] [qB r n c] =
( gD (qdH p [qB r n c])<|gD (qS (v10 r n c) [.mk 0 1 1 (fun x=>[.nils]) false false
 none] (v10 r n c) [.mk 0 1 1 (fun x=>[.nils]) false false
 none])<|gD (m==m&&true)<|gD (m==m&&true)<|gD (m==m&&true)<|gD (decide (0<=ofNat (m+1))&&decide (ofNat (m+1)<=ofNat (m+1))&&decide (ofNat (m+1)<=ofNat (m+1-(0:Nat))))<|some (bif m==m&&((0:Nat)+(m+(1:Nat)-(0:Nat))).ble (m+1) then .fresh true (3:Nat) (m+1-(0:Nat)) (fun j=>g (0+j)) (m+1-(0:Nat)) (some (m+1-(0:Nat)))
 else .undef)) from by kernel_rfl) ?_
  refine qm y ?_;refine qm (qw ⟨rfl,.refl _⟩) ?_;rw[beq_self_eq_true,Bool.true_and]
  (repeat (first|refine BT ?_|refine BG ?_))
  rw[Nat.sub_zero,Nat.zero_add,QZ (Nat.le_refl _)];simp only[Nat.zero_add];rfl
def v11(r:Nat->Int)(n:Nat)(c:Option Nat)(o:T)(from_ y cnt:Int):List T:=[qB r n c,o,iI from_,uI y,iI cnt]
def w11(r:Nat->Int)(n:Nat)(c:Option Nat)(o:T)(from_:Int):List T:=[qB r n c,o,iI from_]
def qie(r:Nat->Int)(n:Nat):Nat->qg
 |0=>[]
 |i+1=>[⟨i,3,i+1,flG r n,true,false,none⟩]
def o11:Nat->T
 |0=>.nils
 |i+1=>.own 0 i 0 (i+1) none
def sI(r:Nat->Int)(n i:Nat):Nat:=Ya r (r i) (n-(i+1)) (i+1)
theorem qbh(r:Nat->Int)(y:Int):∀m j k,j<=k->k<Ya r y m j->r k≠y:=by
 intro m
 induction m with
 |zero=>intro j k h1 h2;simp only[Ya] at h2;omega
 |succ m ih =>
  intro j k h1 h2;rw[Ya] at h2;by_cases q:r j=y
  ·rw[if_pos q] at h2;omega
  ·rw[if_neg q] at h2;rcases Nat.lt_or_ge j k with h3|h3
   ·exact ih (j+1) k (by omega) h2
   ·obtain rfl:j=k:=by omega
    exact q
theorem qeH(r:Nat->Int)(y:Int):∀m j,Ya r y m j<j+m->r (Ya r y m j)=y:=by
 intro m
 induction m with
 |zero=>intro j h;simp only[Ya] at h;omega
 |succ m ih =>
  intro j h;rw[Ya] at h ⊢;by_cases q:r j=y
  ·rw[if_pos q];exact q
  ·rw[if_neg q] at h ⊢;exact ih (j+1) (by omega)
theorem qfT(r:Nat->Int)(n:Nat)(c:Option Nat)(y:Int)(a b:Nat)(o:T)(h:qg):qA P18 G18 A18 qk 0 11 [] 8 (v11 r n c o a y b) h =
( bif decide (i64.wrap (ofNat a+ofNat b)<ofNat n) then gD (decide (0<=i64.wrap (ofNat a+ofNat b))&&decide (i64.wrap (ofNat a+ofNat b)<ofNat n))<|bif !decide (r (i64.wrap (ofNat a+ofNat b)).toNat=y) then zN (v11 r n c o (ofNat a) y (i64.wrap (ofNat b+1))) h else
 zX 2 (v11 r n c o (ofNat a) y (ofNat b)) h else
 zX 2 (v11 r n c o (ofNat a) y (ofNat b)) h):=by kernel_rfl
theorem qnG(r:Nat->Int)(n:Nat)(c:Option Nat)(o:T)(h:qg)(y:Int)(a:Nat)(hn:n<=1000)(ha:a<=n) :
 LoopOk P18 G18 (A18 11) 11 8 (qE (v11 r n c o a y 0) h (.exit 2) (v11 r n c o a y (Ya r y (n-a) a-a:Nat)) h):=by
 have hs:=KW r y (n-a) a;have hne:=qbh r y (n-a) a;have heq:=qeH r y (n-a) a;refine qz qv (by kernel_rfl) (fun k=>v11 r n c o a y (k:Nat)) (fun _=>h) (n:=Ya r y (n-a) a-a) (fun b hb=>?_) ?_
 ·have h1:=hne (a+b) (by omega) (by omega);refine Step.mk0 (A:=A18) (m:=0) qf rfl rfl qh (h1:=h) ?_ (.refl _);refine Eq.trans (qfT r n c y a b o h) ?_;clear hne heq;rw[qn,qn,qn,qI (x:=(a:Int)+b) (by omega) (by omega),show((a:Int)+b).toNat=a+b by omega]
  (repeat (first|refine BT ?_|refine BG ?_))
  first|rfl|(simp (disch:=omega) only[qI,wr8,qi1,qi0,qn,Nat.zero_add,QZ,Qy,dT,dF,Bool.true_and,Bool.and_true,Bool.and_self,cond_true,cond_false,Nat.sub_zero,beq_self_eq_true];done)|(simp (disch:=omega) only[qI,wr8,qi1,qi0,qn,Nat.zero_add,QZ,Qy,dT,dF,Bool.true_and,Bool.and_true,Bool.and_self,cond_true,cond_false,Nat.sub_zero,beq_self_eq_true];rfl)
 ·generalize Ya r y (n-a) a=s at *
  obtain⟨b,rfl⟩:∃b,s=a+b:=⟨s-a,by omega⟩;rw[show a+b-a=b by omega];refine Last.mk0 (A:=A18) (m:=0) qf rfl rfl qh (h1:=h) (by simp) ?_ (.refl _);refine Eq.trans (qfT r n c y a b o h) ?_;rw[qn,qn,qn,qI (x:=(a:Int)+b) (by omega) (by omega),show((a:Int)+b).toNat=a+b by omega];by_cases q:a+b<n
  ·have h2:=heq (by omega);clear hne heq
   (repeat (first|refine BT ?_|refine BG ?_))
   rfl
  ·clear hne heq
   (repeat (first|refine BT ?_|refine BG ?_))
   rfl
theorem JN(r:Nat->Int)(n i:Nat):Zh r n i=if sI r n i<n then(sI r n i:Int) else -1:=by
 unfold Zh Yv sI;split<;>omega
theorem qch(r:Nat->Int)(n:Nat)(c:Option Nat)(i cnt:Nat)(ri:Int):qA P18 G18 A18 qk 0 11 [(8,qE (v11 r n c .nils (i+1:Nat) ri 0) [] (.exit 2) (v11 r n c .nils (i+1:Nat) ri cnt) [])] 3 (w11 r n c .nils (i+1:Nat)) [] =
( bif decide (ofNat (i+1)<ofNat n) then gD (decide (0<=i64.wrap (ofNat (i+1)-(1:Int)))&&decide (i64.wrap (ofNat (i+1)-(1:Int))<ofNat n))<|gD (decide (0<=ofNat (i+1))&&decide (ofNat (i+1)<ofNat n))<|bif decide (r (i+1)=r (i64.wrap (ofNat (i+(1:Nat))-(1:Int))).toNat) then zN [qB r n c,.nils,iI (i64.wrap (ofNat (i+1)+(1:Int)))] [] else
 gD (qS (v11 r n c .nils (ofNat (i+1)) (r (i64.wrap (ofNat (i+(1:Nat))-(1:Int))).toNat) (0:Int)) [] (v11 r n c .nils (ofNat (i+1)) ri (0:Int)) [])<|bif decide (i64.wrap (ofNat (i+1)+ofNat cnt)<ofNat n) then zN [qB r n c,.own 1 0 0 1
 none,iI (i64.wrap (ofNat (i+1)+(1:Int)))] [.mk 0 3 1 (fun j=>[[uI ri,iI (ofNat (i+(1:Nat))),iI (ofNat cnt)]].getD j []) true true
 none,.mk 0 3 1 (fun j=>[[uI ri,iI (ofNat (i+(1:Nat))),iI (ofNat cnt)]].getD (0+j) []) true false
 none] else
 zN [qB r n c,.nils,iI (i64.wrap (ofNat (i+1)+(1:Int)))] [] else
 zX 0 [.nils] []):=by kernel_rfl
theorem qci(r:Nat->Int)(n:Nat)(c:Option Nat)(i cnt:Nat)(g:Nat->List T)(m:Nat)(ri:Int):qA P18 G18 A18 qk 0 11 [(8,qE (v11 r n c (.own 0 m 0 (m+1) none) (i+1:Nat) ri 0) [⟨m,3,m+1,g,true,false,none⟩] (.exit 2) (v11 r n c (.own 0 m 0 (m+1) none) (i+1:Nat) ri cnt) [⟨m,3,m+1,g,true,false,none⟩])] 3 (w11 r n c (.own 0 m 0 (m+1) none) (i+1:Nat)) [⟨m,3,m+1,g,true,false,none⟩] =
( bif decide (ofNat (i+1)<ofNat n) then gD (decide (0<=i64.wrap (ofNat (i+1)-(1:Int)))&&decide (i64.wrap (ofNat (i+1)-(1:Int))<ofNat n))<|gD (decide (0<=ofNat (i+1))&&decide (ofNat (i+1)<ofNat n))<|bif decide (r (i+1)=r (i64.wrap (ofNat (i+(1:Nat))-(1:Int))).toNat) then zN [qB r n c,.own 0 m 0 (m+1)
 none,iI (i64.wrap (ofNat (i+1)+(1:Int)))] [.mk m 3 (m+1) g true false
 none] else
 gD (qS (v11 r n c (.own 0 m 0 (m+1)
 none) (ofNat (i+1)) (r (i64.wrap (ofNat (i+(1:Nat))-(1:Int))).toNat) (0:Int)) [.mk m 3 (m+1) g true false
 none] (v11 r n c (.own 0 m 0 (m+1)
 none) (ofNat (i+1)) ri (0:Int)) [.mk m 3 (m+1) g true false
 none])<|bif decide (i64.wrap (ofNat (i+1)+ofNat cnt)<ofNat n) then gD (m==m&&true)<|gD (((0:Nat)+(m+(1:Nat))).ble (m+1))<|gD (((m+(1:Nat)+(1:Nat))*(25:Nat)).ble 70368744177664)<|bif ((0:Nat)+(m+(1:Nat))+(1:Nat)).ble (m+1) then zN [qB r n c,.own 0 m 0 (m+1+(1:Nat))
 none,iI (i64.wrap (ofNat (i+1)+(1:Int)))] [.mk m 3 (m+1) (fun j =>
 bif ((0:Nat)+(m+(1:Nat))).ble j&&j.blt ((0:Nat)+(m+1)+(1:Nat)) then [[uI ri,iI (ofNat (i+(1:Nat))),iI (ofNat cnt)]].getD ((0:Nat)+(j-((0:Nat)+(m+1)))) []
 else g j) true false
 none,.mk 0 3 1 (fun j=>[[uI ri,iI (ofNat (i+(1:Nat))),iI (ofNat cnt)]].getD j []) true true
 none] else
 zN [qB r n c,.own 0 (m+1) (0:Nat) (m+1+(1:Nat))
 none,iI (i64.wrap (ofNat (i+1)+(1:Int)))] [.mk (m+1) (3:Nat) (m+1+(1:Nat)) (fun j =>
 bif j.blt (m+1) then g (0+j)
 else [[uI ri,iI (ofNat (i+(1:Nat))),iI (ofNat cnt)]].getD ((0:Nat)+(j-(m+1))) []) true false
 none,.mk 0 3 1 (fun j=>[[uI ri,iI (ofNat (i+(1:Nat))),iI (ofNat cnt)]].getD j []) true true
 none] else
 zN [qB r n c,.own 0 m 0 (m+1)
 none,iI (i64.wrap (ofNat (i+1)+(1:Int)))] [.mk m 3 (m+1) g true false
 none] else
 zX 0 [.own 0 m 0 (m+1)
 none] [.mk m 3 (m+1) g true false
 none]):=by kernel_rfl
theorem l11(r:Nat->Int)(n:Nat)(c:Option Nat)(hn:n<=1000)(hr:∀j,j<n->0<=r j/\r j<256) :
 LoopOk P18 G18 (A18 11) 11 3 (qE (w11 r n c .nils 1) [] (.exit 0) [o11 (fl r n n).length] (qie r n (fl r n n).length)):=by
 refine qz qv (by kernel_rfl) (fun i=>w11 r n c (o11 (fl r n i).length) ((i:Int)+1)) (fun i=>qie r n (fl r n i).length) (n:=n-1) (fun i hi=>?_) ?_
 ·have hlen:=jS r n i;have hs:=JM r n i;have hx:=JN r n i;have hin:=qnG r n c (o11 (fl r n i).length) (qie r n (fl r n i).length) (r i) (i+1) hn (by omega);have hge:=KW r (r i) (n-(i+1)) (i+1);have h1:r (i+1)=r i->sI r n i=i+1:=fun q=>by
   unfold sI;rw[show n-(i+1)=(n-(i+2))+1 by omega,Ya,if_pos q]
  have h2:r (i+1)≠r i->i+1<sI r n i:=fun q=>by
   unfold sI;rw[show n-(i+1)=(n-(i+2))+1 by omega,Ya,if_neg q];have:=KW r (r i) (n-(i+2)) (i+2);show i+1<Ya r (r i) (n-(i+2)) (i+2);omega
  change i+1<=sI r n i/\sI r n i<=i+1+(n-(i+1)) at hge;change LoopOk P18 G18 (A18 11) 11 8 (qE (v11 r n c (o11 (fl r n i).length) (i+1:Nat) (r i) 0) (qie r n (fl r n i).length) (.exit 2) (v11 r n c (o11 (fl r n i).length) (i+1:Nat) (r i) (sI r n i-(i+1):Nat)) (qie r n (fl r n i).length)) at hin;have hg:=@qi8 r n i n (by omega);have hge2:(i:Int)+1<Zh r n i->flG r n (fl r n i).length=[uI (r i),iI ((i:Int)+1),iI ((sI r n i-(i+1):Nat):Int)]:=fun q=>by
   unfold flG;rw[(hg q).1];unfold YD;rw[hx] at q ⊢;by_cases q2:sI r n i<n
   ·rw[if_pos q2] at q ⊢;rw[show(sI r n i:Int)-i-1=((sI r n i-(i+1):Nat):Int) by omega]
   ·rw[if_neg q2] at q;omega
  rw[show(i:Int)+1=((i+1:Nat):Int) by omega] at *
  have hw:i64.wrap (((i+1:Nat):Int)-1)=(i:Int):=by rw[qI (by omega) (by omega)];omega
  have hw2:i64.wrap (((i+1:Nat):Int)+1)=((i+1:Nat):Int)+1:=qI (by omega) (by omega);have hfl0:¬((i+1:Nat):Int)<Zh r n i->fl r n (i+1)=fl r n i:=fun q=>by rw[hs,if_neg q]
  have hfl1:((i+1:Nat):Int)<Zh r n i->(fl r n (i+1)).length=(fl r n i).length+1:=fun q=>by rw[hs,if_pos q];simp
  generalize hcnt:sI r n i-(i+1)=cnt at *
  generalize hm0:(fl r n i).length=m at *
  have hcn:cnt<=n:=by omega
  generalize hri:r i=ri at *
  cases m with
  |zero =>
   change LoopOk P18 G18 (A18 11) 11 8 (qE (v11 r n c .nils (i+1:Nat) ri 0) [] (.exit 2) (v11 r n c .nils (i+1:Nat) ri cnt) []) at hin;by_cases q:r (i+1)=ri
   ·have h3:=h1 q;have h4:¬((i+1:Nat):Int)<Zh r n i:=by rw[hx];split<;>omega
    rw[hfl0 h4,hm0];refine Step.mk0 (A:=A18) (m:=0) qf rfl rfl (qK hin) (h1:=[]) ?_ .nil;refine Eq.trans (qch r n c i cnt ri) ?_;rw[qn,qn,hw,QJ,hri,hw2];clear hge2 hg hfl0 hfl1 h1 h2 hs
    (repeat (first|refine BT ?_|refine BG ?_))
    rfl
   ·have h3:=h2 q;by_cases h4:sI r n i<n
    ·have h5:((i+1:Nat):Int)<Zh r n i:=by rw[hx,if_pos h4];omega
     have h6:=hge2 h5;rw[hfl1 h5];clear hge2 hg hfl0 hfl1 h1 h2 hs;refine Step.mkC (A:=A18) (m:=0) qf rfl rfl (qK hin) [1] (Eq.trans (qch r n c i cnt ri) ?_) (v1:=w11 r n c (.own 1 0 0 1 none) ((i+1:Nat)+1)) (h1:=[⟨0,3,1,fun j=>[[uI ri,iI (i+1:Nat),iI cnt]].getD j [],true,true,none⟩,⟨0,3,1,fun j=>[[uI ri,iI (i+1:Nat),iI cnt]].getD (0+j) [],true,false,none⟩]) (by kernel_rfl) (v2:=w11 r n c (.own 0 0 0 1 none) ((i+1:Nat)+1)) rfl rfl fun nt=>.same (.cons ⟨rfl,rfl,rfl,id,fun j hj=>?_⟩ .nil)
     ·rw[qn,qn,qn,hw,QJ,hri,hw2]
      (repeat (first|refine BT ?_|refine BG ?_))
      refine qm (qw ⟨rfl,.refl _⟩) ?_
      (repeat (first|refine BT ?_|refine BG ?_))
      rfl
     ·obtain rfl:=Yb hj;exact h6
    ·have h5:¬((i+1:Nat):Int)<Zh r n i:=by rw[hx,if_neg h4];omega
     rw[hfl0 h5,hm0];clear hge2 hg hfl0 hfl1 h1 h2 hs;refine Step.mk0 (A:=A18) (m:=0) qf rfl rfl (qK hin) (h1:=[]) ?_ .nil;refine Eq.trans (qch r n c i cnt ri) ?_;rw[qn,qn,qn,hw,QJ,hri,hw2]
     (repeat (first|refine BT ?_|refine BG ?_))
     refine qm (qw ⟨rfl,.refl _⟩) ?_
     (repeat (first|refine BT ?_|refine BG ?_))
     rfl
  |succ m =>
   change LoopOk P18 G18 (A18 11) 11 8 (qE (v11 r n c (.own 0 m 0 (m+1) none) (i+1:Nat) ri 0) [⟨m,3,m+1,flG r n,true,false,none⟩] (.exit 2) (v11 r n c (.own 0 m 0 (m+1) none) (i+1:Nat) ri cnt) [⟨m,3,m+1,flG r n,true,false,none⟩]) at hin;generalize hgg:flG r n=g at hin hge2;by_cases q:r (i+1)=ri
   ·have h3:=h1 q;have h4:¬((i+1:Nat):Int)<Zh r n i:=by rw[hx];split<;>omega
    rw[hfl0 h4,hm0];show Step P18 G18 (A18 11) 11 3 _ _ [⟨m,3,m+1,flG r n,true,false,none⟩] _ [⟨m,3,m+1,flG r n,true,false,none⟩];rw[hgg];refine Step.mk0 (A:=A18) (m:=0) qf rfl rfl (qK hin) (h1:=[⟨m,3,m+1,g,true,false,none⟩]) ?_ (.refl _);refine Eq.trans (qci r n c i cnt g m ri) ?_;rw[qn,qn,hw,QJ,hri,hw2];clear hge2 hg hfl0 hfl1 h1 h2 hs
    (repeat (first|refine BT ?_|refine BG ?_))
    rfl
   ·have h3:=h2 q;by_cases h4:sI r n i<n
    ·have h5:((i+1:Nat):Int)<Zh r n i:=by rw[hx,if_pos h4];omega
     have h6:=hge2 h5;rw[hfl1 h5];clear hge2 hg hfl0 hfl1 h1 h2 hs;show Step P18 G18 (A18 11) 11 3 _ _ [⟨m,3,m+1,flG r n,true,false,none⟩] _ [⟨m+1,3,m+1+1,flG r n,true,false,none⟩];rw[hgg];refine Step.mkC (A:=A18) (m:=0) qf rfl rfl (qK hin) [0] (Eq.trans (qci r n c i cnt g m ri) ?_) (v1:=w11 r n c (.own 0 (m+1) 0 (m+1+1) none) ((i+1:Nat)+1)) (h1:=[⟨m+1,3,m+1+1,fun j=>bif Nat.blt j (m+1) then g (0+j) else [[uI ri,iI (i+1:Nat),iI cnt]].getD (0+(j-(m+1))) [],true,false,none⟩,⟨0,3,1,fun j=>[[uI ri,iI (i+1:Nat),iI cnt]].getD j [],true,true,none⟩]) (by kernel_rfl) (v2:=w11 r n c (.own 0 (m+1) 0 (m+1+1) none) ((i+1:Nat)+1)) rfl rfl fun nt=>.same (.cons ⟨rfl,rfl,rfl,id,fun j hj=>?_⟩ .nil)
     ·rw[qn,qn,qn,hw,QJ,hri,hw2]
      (repeat (first|refine BT ?_|refine BG ?_))
      refine qm (qw ⟨rfl,.refl _⟩) ?_
      (repeat (first|refine BT ?_|refine BG ?_))
      rfl
     ·have hj2:j<m+1+1:=hj;show g j=bif Nat.blt j (m+1) then g (0+j) else [[uI ri,iI (i+1:Nat),iI cnt]].getD (0+(j-(m+1))) [];by_cases q2:j<m+1
      ·rw[Qy q2,cond_true,Nat.zero_add]
      ·obtain rfl:j=m+1:=by omega
       rw[Zg (by omega),cond_false,h6,Nat.sub_self];rfl
    ·have h5:¬((i+1:Nat):Int)<Zh r n i:=by rw[hx,if_neg h4];omega
     rw[hfl0 h5,hm0];show Step P18 G18 (A18 11) 11 3 _ _ [⟨m,3,m+1,flG r n,true,false,none⟩] _ [⟨m,3,m+1,flG r n,true,false,none⟩];rw[hgg];clear hge2 hg hfl0 hfl1 h1 h2 hs;refine Step.mk0 (A:=A18) (m:=0) qf rfl rfl (qK hin) (h1:=[⟨m,3,m+1,g,true,false,none⟩]) ?_ (.refl _);refine Eq.trans (qci r n c i cnt g m ri) ?_;rw[qn,qn,qn,hw,QJ,hri,hw2]
     (repeat (first|refine BT ?_|refine BG ?_))
     refine qm (qw ⟨rfl,.refl _⟩) ?_
     (repeat (first|refine BT ?_|refine BG ?_))
     rfl
 ·have hlast:fl r n n=fl r n (n-1):=by
   rcases Nat.eq_zero_or_pos n with q|q
   ·subst q;rfl
   ·have:=JM r n (n-1);rw[show n-1+1=n by omega] at this;rw[this,if_neg];rw[JN];have:=KW r (r (n-1)) (n-(n-1+1)) (n-1+1);unfold sI;split<;>omega
  rw[hlast];have hlen:=jS r n (n-1);generalize (fl r n (n-1)).length=m at *
  rw[show((n-1:Nat):Int)+1=((n-1+1:Nat):Int) by omega];have hk:n<=n-1+1:=by omega
  generalize n-1+1=k at *
  cases m with
  |zero =>
   refine Last.mk0 (A:=A18) (m:=0) qf rfl rfl qh (h1:=[]) (by simp) ?_ .nil;refine Eq.trans (show qA P18 G18 A18 qk 0 11 [] 3 (w11 r n c .nils (k:Nat)) [] =
( bif decide (ofNat k<ofNat n) then gD (decide (0<=i64.wrap (ofNat k-1))&&decide (i64.wrap (ofNat k-1)<ofNat n))<|gD (decide (0<=ofNat k)&&decide (ofNat k<ofNat n))<|gD (decide (r k=r (i64.wrap (ofNat k-(1:Int))).toNat))<|zN [qB r n c,.nils,iI (i64.wrap (ofNat k+1))] [] else
 zX 0 [.nils] []) from by kernel_rfl) ?_
   (repeat (first|refine BT ?_|refine BG ?_))
   rfl
  |succ m =>
   show Last P18 G18 (A18 11) 11 3 _ _ [⟨m,3,m+1,flG r n,true,false,none⟩] _ [.own 0 m 0 (m+1) none] [⟨m,3,m+1,flG r n,true,false,none⟩];generalize flG r n=g;refine Last.mk0 (A:=A18) (m:=0) qf rfl rfl qh (h1:=[⟨m,3,m+1,g,true,false,none⟩]) (by simp) ?_ (.refl _);refine Eq.trans (show qA P18 G18 A18 qk 0 11 [] 3 (w11 r n c (.own 0 m 0 (m+1) none) (k:Nat)) [⟨m,3,m+1,g,true,false,none⟩] =
( bif decide (ofNat k<ofNat n) then gD (decide (0<=i64.wrap (ofNat k-1))&&decide (i64.wrap (ofNat k-1)<ofNat n))<|gD (decide (0<=ofNat k)&&decide (ofNat k<ofNat n))<|gD (decide (r k=r (i64.wrap (ofNat k-(1:Int))).toNat))<|zN [qB r n c,.own 0 m 0 (m+1)
 none,iI (i64.wrap (ofNat k+1))] [.mk m 3 (m+1) g true false
 none] else
 zX 0 [.own 0 m 0 (m+1)
 none] [.mk m 3 (m+1) g true false
 none]) from by kernel_rfl) ?_
   (repeat (first|refine BT ?_|refine BG ?_))
   rfl
theorem qcj(r:Nat->Int)(n:Nat)(c:Option Nat)(hn:n<=1000)(hr:∀j,j<n->0<=r j/\r j<256):ToldOk P18 G18 11 [qB r n c] (.new (.view 3 (fl r n n).length (flG r n) none)):=by
 have hl:=l11 r n c hn hr;have hb:=jS r n n;generalize (fl r n n).length=m at *
 cases m with
 |zero =>
  refine ToldOk.resTo (r:=.nils) ?_ (.niln 3 (flG r n) none (.inl rfl));refine qJ qv q9 qf (A:=A18) (m:=0) (by kernel_rfl) (qK hl) ?_;refine Eq.trans (show QB P18 G18 A18 qk 0 11 [(3,qE (w11 r n c .nils 1) [] (.exit 0) [o11 0] (qie r n 0))] [qB r n c] =
( gD (qS [qB r n c,.nils,iI 1] [] [qB r n c,.nils,iI 1] [])<|some (.nils)) from by kernel_rfl) ?_
  refine qm (qw ⟨rfl,.refl _⟩) ?_;rfl
 |succ m =>
  replace hl:LoopOk P18 G18 (A18 11) 11 3 (qE (w11 r n c .nils 1) [] (.exit 0) [.own 0 m 0 (m+1) none] [⟨m,3,m+1,flG r n,true,false,none⟩]):=hl;generalize flG r n=g at *
  refine ToldOk.frz (r:=.fresh true 3 (m+1) g (m+1) none) ?_;refine qJ qv q9 qf (A:=A18) (m:=0) (by kernel_rfl) (qK hl) ?_;refine Eq.trans (show QB P18 G18 A18 qk 0 11 [(3,qE (w11 r n c .nils 1) [] (.exit 0) [.own 0 m 0 (m+1) none] [⟨m,3,m+1,g,true,false,none⟩])] [qB r n c] =
( gD (qS [qB r n c,.nils,iI 1] [] [qB r n c,.nils,iI 1] [])<|some (bif m==m&&((0:Nat)+(m+(1:Nat))).ble (m+1) then .fresh true (3:Nat) (m+1) (fun j=>g (0+j)) (m+1) none else .undef)) from by kernel_rfl) ?_
  refine qm (qw ⟨rfl,.refl _⟩) ?_;simp only[Nat.zero_add,beq_self_eq_true,Nat.sub_zero,QZ (Nat.le_refl _)];rfl
def plc(a c k:Int)(b:Bool):List T:=[iI a,uI c,iI k,.bool b]
def nK(k c d:Int):Int:=bif decide (k=0) then 1 else bif decide (c=d) then k+1 else 1
def nI(k c d:Int)(b:Bool):Bool:=bif decide (k=0) then false else bif decide (c=d) then b else true
def nO(k c d:Int)(b:Bool)(m:Int):Bool:=bif decide (k=0) then true else bif decide (c=d) then true else bif b then decide (k<=m) else true
def chg(a c:Int):Int:=bif decide (a=c) then 0 else 1
def qja:List T->Tree
 |[.agg [.int .i64 a,.int .u8 c,.int .i64 k,.bool b],.int .u8 d,.int .i64 m]=>.ite (decide (0<=a)&&(decide (a<=1000000)&&(decide (0<=k)&&decide (k<=1000000)))) (.ret (.tup [.agg [.int .i64 (a+1),.int .u8 d,.int .i64 (nK k c d),.bool (nI k c d b)],.bool (nO k c d b m)])) .none
 |_=>.none
def qle:List T->Tree
 |[.int .u8 a,.int .u8 c]=>.ret (.int .i64 (chg a c))
 |_=>.none
noncomputable def K63:Orc:=(qk.add 49 qja).add 50 qle
theorem ql7{args:List T}{r:T}(h:(qja args).run some=some r):ToldOk P18 G18 49 args r:=by
 unfold qja at h;split at h
 ·rename_i a c k b d m;simp only[Tree.run] at h;obtain⟨h1,h⟩:=(qu h);obtain rfl:=Option.some.inj h;simp only[Bool.and_eq_true,decide_eq_true_eq] at h1;refine qP qv q9 qf (K:=qk) (A:=A18) (m:=0) ?_;refine Eq.trans (show QU P18 G18 A18 qk 0 49 [.agg (plc a c k b),uI d,iI m] =
( bif decide (k=0) then some (.tup [.agg (plc (i64.wrap (a+1)) d (1:Int) false),.bool true]) else
 bif decide (c=d) then bif b then some (.tup [.agg (plc (i64.wrap (a+1)) d (i64.wrap (k+1)) true),.bool true]) else
 some (.tup [.agg (plc (i64.wrap (a+1)) d (i64.wrap (k+1)) false),.bool true]) else
 bif b then bif decide (k<=m) then some (.tup [.agg (plc (i64.wrap (a+1)) d (1:Int) true),.bool true]) else
 some (.tup [.agg (plc (i64.wrap (a+1)) d (1:Int) true),.bool false]) else
 some (.tup [.agg (plc (i64.wrap (a+1)) d (1:Int) true),.bool true])) from by kernel_rfl) ?_
  rw[qI (x:=a+1) (by omega) (by omega),qI (x:=k+1) (by omega) (by omega)];unfold nK nI nO;by_cases q1:k=0
  ·rw[dT q1];rfl
  ·rw[dF q1];by_cases q2:c=d
   ·rw[dT q2];cases b<;>rfl
   ·rw[dF q2];cases b
    ·rfl
    ·by_cases q3:k<=m
     ·rw[dT q3];rfl
     ·rw[dF q3];rfl
 ·cases h
theorem qnH{args:List T}{r:T}(h:(qle args).run some=some r):ToldOk P18 G18 50 args r:=by
 unfold qle at h;split at h
 ·rename_i a c;obtain rfl:=Option.some.inj h;refine qP qv q9 qf (K:=qk) (A:=A18) (m:=0) ?_;refine Eq.trans (show QU P18 G18 A18 qk 0 50 [uI a,uI c] =
( bif !decide (a=c) then some (iI 1) else
 some (iI 0)) from by kernel_rfl) ?_
  unfold chg;by_cases q:a=c
  ·rw[dT q];rfl
  ·rw[dF q];rfl
 ·cases h
theorem qgT:OrcOk P18 G18 K63:=qq (qq qf fun _ _=>ql7) fun _ _=>qnH
def qjb:KS:=.row [some .i64,some .u8,some .i64,none]
def mD(has:List Int->Bool)(val:List Int->Int)(born:List Int->Nat)(cl:Nat)(la:Option (List Int×Nat)):MapD:=⟨qjb,.i64,has,val,born,cl,la⟩
def bx(x:T):Blk:=⟨0,1,1,fun _=>[x],false,false,none⟩
def h63(r:Nat->Int)(n:Nat)(c:Option Nat)(cs:Nat->Int)(k:Nat)(cc:Option Nat)(most:Int)(ver:Nat)(md:MapD):qg:=[bx (qB r n c),bx (qB cs k cc),bx (iI most),ZY ver md,bx (.mp 3 ver)]
def v63(cs:Nat->Int)(k:Nat)(cc:Option Nat)(a col run:Int)(b:Bool)(best i:Int):List T:=[.ptr 0 0 0 0,.ptr 4 0 0 0,.ptr 2 0 0 0,.reg (plc a col run b),iI best,qB cs k cc,iI k,iI i]
def b2i(b:Bool):Int:=bif b then 1 else 0
def qdb(r:Nat->Int)(most:Int)(val:List Int->Int)(a:Nat)(col run:Int)(b:Bool)(d:Int):Int:=val [(a:Int)+1,d,nK run col d,b2i (nI run col d b)]+chg (r a) d
def ZD(r:Nat->Int)(n:Nat)(cs:Nat->Int)(most:Int)(val:List Int->Int)(a:Nat)(col run:Int)(b:Bool):Nat->Int
 |0=>(n:Int)+1
 |i+1=>bif nO run col (cs i) b most then(bif decide (qdb r most val a col run b (cs i)<ZD r n cs most val a col run b i) then qdb r most val a col run b (cs i) else ZD r n cs most val a col run b i) else ZD r n cs most val a col run b i
def k8(r:Nat->Int)(n:Nat)(cs:Nat->Int)(k:Nat)(most:Int)(val:List Int->Int)(a:Nat)(col run:Int)(b:Bool):Int:=if a=n then 0 else ZD r n cs most val a col run b k
structure MOk(n:Nat)(m:MapD):Prop where
 ks:m.ks=qjb
 q:m.q = .i64
 val:∀l,0<=m.val l/\m.val l<=(n:Int)+1
theorem qeI(a c:Int):0<=chg a c/\chg a c<=1:=by unfold chg;cases decide (a=c)<;>simp
theorem qfU(r:Nat->Int)(n:Nat)(cs:Nat->Int)(most:Int)(val:List Int->Int)(a:Nat)(col run:Int)(b:Bool)(hv:∀l,0<=val l/\val l<=(n:Int)+1):∀i,0<=ZD r n cs most val a col run b i/\ZD r n cs most val a col run b i<=(n:Int)+1:=by
 intro i
 induction i with
 |zero=>unfold ZD;omega
 |succ i ih =>
  unfold ZD;have h1:0<=qdb r most val a col run b (cs i):=by
   unfold qdb;have:=qeI (r a) (cs i);have:=hv [(a:Int)+1,cs i,nK run col (cs i),b2i (nI run col (cs i) b)];omega
  cases nO run col (cs i) b most
  ·exact ih
  ·rw[cond_true];by_cases q:qdb r most val a col run b (cs i)<ZD r n cs most val a col run b i
   ·rw[dT q,cond_true];omega
   ·rw[dF q,cond_false];exact ih
theorem l63(r:Nat->Int)(n:Nat)(c:Option Nat)(cs:Nat->Int)(k:Nat)(cc:Option Nat)(most:Int)(ver:Nat)(has:List Int->Bool)(val:List Int->Int)(born:List Int->Nat)(cl:Nat)(la:Option (List Int×Nat))(col run:Int)(b:Bool)(a:Nat)
 (hn:n<=1000) (hk:k<=1000) (ha:a<n) (hrun:0<=run/\run<=1000000) (hv:∀l,0<=val l/\val l<=(n:Int)+1) :
 LoopOk P18 G18 (A18 63) 63 5 (qE (v63 cs k cc a col run b (n+1) 0) (h63 r n c cs k cc most ver (mD has val born cl la)) (.exit 0) [.ptr 4 0 0 0,.reg (plc a col run b),iI (ZD r n cs most val a col run b k)] (h63 r n c cs k cc most ver (mD has val born cl la))):=by
 refine qz qv (by kernel_rfl) (fun i=>v63 cs k cc a col run b (ZD r n cs most val a col run b i) i) (fun _=>h63 r n c cs k cc most ver (mD has val born cl la)) (n:=k) (fun i hi=>?_) ?_
 ·refine Step.mk0 (A:=A18) (m:=0) qgT rfl rfl qh (h1:=h63 r n c cs k cc most ver (mD has val born cl la)) ?_ (.refl _);have hbd:=qfU r n cs most val a col run b hv i;have hc:=qeI (r a) (cs i);have hv2:=hv [(a:Int)+1,cs i,nK run col (cs i),b2i (nI run col (cs i) b)];have hw:i64.wrap (val [(a:Int)+1,cs i,nK run col (cs i),b2i (nI run col (cs i) b)]+chg (r a) (cs i))=qdb r most val a col run b (cs i):=by unfold qdb;exact qI (by omega) (by omega)
  have hw2:i64.wrap ((i:Int)+1)=((i+1:Nat):Int):=by rw[qI (by omega) (by omega)];omega
  have hb1:ZD r n cs most val a col run b (i+1)=bif nO run col (cs i) b most then(bif decide (qdb r most val a col run b (cs i)<ZD r n cs most val a col run b i) then qdb r most val a col run b (cs i) else ZD r n cs most val a col run b i) else ZD r n cs most val a col run b i:=rfl;rw[hb1];generalize ZD r n cs most val a col run b i=best at *
  refine Eq.trans (show qA P18 G18 A18 K63 0 63 [] 5 (v63 cs k cc a col run b best i) (h63 r n c cs k cc most ver (mD has val born cl la)) =
(
 bif decide (ofNat i<ofNat k) then
 bif decide (0<=ofNat i)&&decide (ofNat i<ofNat k) then
 bif decide (0<=ofNat a)&&(decide (ofNat a<=1000000)&&(decide (0<=run)&&decide (run<=1000000))) then
 bif
 bif decide (run=0) then true
 else
 bif decide (col=cs i) then true
 else
 bif b then decide (run<=most)
 else true then
 bif ver==ver then
 bif decide (0<=ofNat a)&&decide (ofNat a<ofNat n) then
 some ((.normal,v63 cs k cc (ofNat a) col run b (bif decide (i64.wrap (val [ofNat a+1,cs i,
 bif decide (run=0) then(1:Int)
 else
 bif decide (col=cs i) then run+1
 else(1:Int),
 bif
 bif decide (run=0) then false
 else
 bif decide (col=cs i) then b
 else true then(1:Int)
 else(0:Int)] +
 bif decide (r a=cs i) then(0:Int)
 else(1:Int))<best) then i64.wrap (val [ofNat a+1,cs i,
 bif decide (run=0) then(1:Int)
 else
 bif decide (col=cs i) then run+1
 else(1:Int),
 bif
 bif decide (run=0) then false
 else
 bif decide (col=cs i) then b
 else true then(1:Int)
 else(0:Int)] +
 bif decide (r a=cs i) then(0:Int)
 else(1:Int))
 else best) (i64.wrap (ofNat i+1)),h63 r n c cs k cc most ver (MapD.mk (KS.row [some IntKind.i64,some IntKind.u8,some IntKind.i64,
 none]) IntKind.i64 has val born cl la)))
 else none else none else
 some ((.normal,v63 cs k cc (ofNat a) col run b best (i64.wrap (ofNat i+1)),h63 r n c cs k cc most ver (MapD.mk (KS.row [some IntKind.i64,some IntKind.u8,some IntKind.i64,
 none]) IntKind.i64 has val born cl la)))
 else none else none else
 some ((.exit 0,[.ptr 4 0 0 0,.reg (plc (ofNat a) col run b),iI best],h63 r n c cs k cc most ver (MapD.mk (KS.row [some IntKind.i64,some IntKind.u8,some IntKind.i64,
 none]) IntKind.i64 has val born cl la)))) from by kernel_rfl) ?_
  refine BT ?_;refine BT ?_;refine BT ?_;change (bif nO run col (cs i) b most then _ else _)=_;cases nO run col (cs i) b most
  ·rw[cond_false,qn i,hw2];rfl
  ·rw[cond_true,beq_self_eq_true,cond_true];refine BT ?_;rw[qn i,hw2];change some (Ex.normal,[T.ptr 0 0 0 0,.ptr 4 0 0 0,.ptr 2 0 0 0,.reg (plc a col run b),iI (bif decide (i64.wrap (val [(a:Int)+1,cs i,nK run col (cs i),b2i (nI run col (cs i) b)]+chg (r a) (cs i))<best) then i64.wrap (val [(a:Int)+1,cs i,nK run col (cs i),b2i (nI run col (cs i) b)]+chg (r a) (cs i)) else best),qB cs k cc,iI k,iI ((i+1:Nat):Int)],h63 r n c cs k cc most ver (mD has val born cl la))=_;rw[hw];rfl
 ·refine Last.mk0 (A:=A18) (m:=0) qgT rfl rfl qh (h1:=h63 r n c cs k cc most ver (mD has val born cl la)) (by simp) ?_ (.refl _);generalize ZD r n cs most val a col run b k=best;refine Eq.trans (show qA P18 G18 A18 K63 0 63 [] 5 (v63 cs k cc a col run b best (k:Nat)) (h63 r n c cs k cc most ver (mD has val born cl la)) =
(
 bif decide (ofNat k<ofNat k) then
 bif decide (0<=ofNat k)&&decide (ofNat k<ofNat k) then
 bif decide (0<=ofNat a)&&(decide (ofNat a<=1000000)&&(decide (0<=run)&&decide (run<=1000000))) then
 bif
 bif decide (run=0) then true
 else
 bif decide (col=cs k) then true
 else
 bif b then decide (run<=most)
 else true then
 bif ver==ver then
 bif decide (0<=ofNat a)&&decide (ofNat a<ofNat n) then
 some ((.normal,v63 cs k cc (ofNat a) col run b (bif decide (i64.wrap (val [ofNat a+1,cs k,
 bif decide (run=0) then(1:Int)
 else
 bif decide (col=cs k) then run+1
 else(1:Int),
 bif
 bif decide (run=0) then false
 else
 bif decide (col=cs k) then b
 else true then(1:Int)
 else(0:Int)] +
 bif decide (r a=cs k) then(0:Int)
 else(1:Int))<best) then i64.wrap (val [ofNat a+1,cs k,
 bif decide (run=0) then(1:Int)
 else
 bif decide (col=cs k) then run+1
 else(1:Int),
 bif
 bif decide (run=0) then false
 else
 bif decide (col=cs k) then b
 else true then(1:Int)
 else(0:Int)] +
 bif decide (r a=cs k) then(0:Int)
 else(1:Int))
 else best) (i64.wrap (ofNat k+1)),h63 r n c cs k cc most ver (MapD.mk (KS.row [some IntKind.i64,some IntKind.u8,some IntKind.i64,
 none]) IntKind.i64 has val born cl la)))
 else none else none else
 some ((.normal,v63 cs k cc (ofNat a) col run b best (i64.wrap (ofNat k+1)),h63 r n c cs k cc most ver (MapD.mk (KS.row [some IntKind.i64,some IntKind.u8,some IntKind.i64,
 none]) IntKind.i64 has val born cl la)))
 else none else none else
 some ((.exit 0,[.ptr 4 0 0 0,.reg (plc (ofNat a) col run b),iI best],h63 r n c cs k cc most ver (MapD.mk (KS.row [some IntKind.i64,some IntKind.u8,some IntKind.i64,
 none]) IntKind.i64 has val born cl la)))) from by kernel_rfl) ?_
  (repeat (first|refine BT ?_|refine BG ?_))
  rfl
theorem ql8(r:Nat->Int)(n:Nat)(c:Option Nat)(cs:Nat->Int)(k:Nat)(cc:Option Nat)(most:Int)(ver:Nat)(m:MapD)(col run:Int)(b:Bool)(a:Nat)
 (hn:n<=1000) (hk:k<=1000) (ha:a<=n) (hrun:0<=run/\run<=1000000) (hm:MOk n m) :
 ToldRef P18 G18 63 [.agg (plc a col run b),.ptr 0 0 0 0,.ptr 4 0 0 0,.ptr 1 0 0 0,.ptr 2 0 0 0] (h63 r n c cs k cc most ver m) (.tup []) (h63 r n c cs k cc most ver (m.put [a,col,run,b2i b] (k8 r n cs k most m.val a col run b))):=by
 obtain⟨h1,h2,hv⟩:=hm;obtain⟨ks,q,has,val,born,cl,la⟩:=m;dsimp only at h1 h2 hv;subst h1 h2;have hw:i64.wrap ((n:Int)+1)=(n:Int)+1:=qI (by omega) (by omega);by_cases q:a=n
 ·subst q;refine Qu qv q9 qgT (A:=A18) (m:=0) (by kernel_rfl) (l:=[]) qh ?_;refine Eq.trans (show ZN P18 G18 A18 K63 0 63 [] [.agg (plc a col run b),.ptr 0 0 0 0,.ptr 4 0 0 0,.ptr 1 0 0 0,.ptr 2 0 0 0] (h63 r a c cs k cc most ver (mD has val born cl la)) =
(
 bif decide (ofNat a=ofNat a) then
 bif ver==ver then
 some ((.tup [],h63 r a c cs k cc most ver (MapD.mk (KS.row [some IntKind.i64,some IntKind.u8,some IntKind.i64,
 none]) IntKind.i64 (fun l=>keq l [↑a,col,run,
 bif b then(1:Int)
 else(0:Int)] || has l) (fun l =>
 bif keq l [↑a,col,run,
 bif b then(1:Int)
 else(0:Int)] then(0:Int)
 else val l) (fun l =>
 bif keq l [↑a,col,run,
 bif b then(1:Int)
 else(0:Int)] then
 bif has [ofNat a,col,run,
 bif b then(1:Int)
 else(0:Int)] then born [ofNat a,col,run,
 bif b then(1:Int)
 else(0:Int)]
 else cl
 else born l) (bif has [ofNat a,col,run,
 bif b then(1:Int)
 else(0:Int)] then cl
 else cl+1)
 none)))
 else none else
 none) from by kernel_rfl) ?_
  unfold k8;rw[if_pos rfl,dT rfl,cond_true,beq_self_eq_true,cond_true];rfl
 ·have hl:=l63 r n c cs k cc most ver has val born cl la col run b a hn hk (by omega) hrun hv;unfold k8;rw[if_neg q];generalize ZD r n cs most val a col run b k=best at *
  refine Qu qv q9 qgT (A:=A18) (m:=0) (by kernel_rfl) (qK hl) ?_;refine Eq.trans (show ZN P18 G18 A18 K63 0 63 [(5,qE (v63 cs k cc a col run b (n+1) 0) (h63 r n c cs k cc most ver (mD has val born cl la)) (.exit 0) [.ptr 4 0 0 0,.reg (plc a col run b),iI best] (h63 r n c cs k cc most ver (mD has val born cl la)))] [.agg (plc a col run b),.ptr 0 0 0 0,.ptr 4 0 0 0,.ptr 1 0 0 0,.ptr 2 0 0 0] (h63 r n c cs k cc most ver (mD has val born cl la)) =
(
 bif decide (ofNat a=ofNat n) then
 bif ver==ver then
 some ((.tup [],h63 r n c cs k cc most ver (MapD.mk (KS.row [some IntKind.i64,some IntKind.u8,some IntKind.i64,
 none]) IntKind.i64 (fun l=>keq l [↑a,col,run,
 bif b then(1:Int)
 else(0:Int)] || has l) (fun l =>
 bif keq l [↑a,col,run,
 bif b then(1:Int)
 else(0:Int)] then(0:Int)
 else val l) (fun l =>
 bif keq l [↑a,col,run,
 bif b then(1:Int)
 else(0:Int)] then
 bif has [ofNat a,col,run,
 bif b then(1:Int)
 else(0:Int)] then born [ofNat a,col,run,
 bif b then(1:Int)
 else(0:Int)]
 else cl
 else born l) (bif has [ofNat a,col,run,
 bif b then(1:Int)
 else(0:Int)] then cl
 else cl+1)
 none)))
 else none else
 bif qS (v63 cs k cc (ofNat a) col run b (i64.wrap (ofNat n+1)) (0:Int)) (h63 r n c cs k cc most ver (MapD.mk (KS.row [some IntKind.i64,some IntKind.u8,some IntKind.i64,
 none]) IntKind.i64 has val born cl la)) (v63 cs k cc (ofNat a) col run b (ofNat n+1) (0:Int)) (h63 r n c cs k cc most ver (MapD.mk (KS.row [some IntKind.i64,some IntKind.u8,some IntKind.i64,
 none]) IntKind.i64 has val born cl la)) then
 bif ver==ver then
 some ((.tup [],h63 r n c cs k cc most ver (MapD.mk (KS.row [some IntKind.i64,some IntKind.u8,some IntKind.i64,
 none]) IntKind.i64 (fun l=>keq l [↑a,col,run,
 bif b then(1:Int)
 else(0:Int)] || has l) (fun l =>
 bif keq l [↑a,col,run,
 bif b then(1:Int)
 else(0:Int)] then best
 else val l) (fun l =>
 bif keq l [↑a,col,run,
 bif b then(1:Int)
 else(0:Int)] then
 bif has [ofNat a,col,run,
 bif b then(1:Int)
 else(0:Int)] then born [ofNat a,col,run,
 bif b then(1:Int)
 else(0:Int)]
 else cl
 else born l) (bif has [ofNat a,col,run,
 bif b then(1:Int)
 else(0:Int)] then cl
 else cl+1)
 none)))
 else none else
 none) from by kernel_rfl) ?_
  rw[dF (show ¬(ofNat a=ofNat n) by rw[qn,qn];omega),cond_false,qn n,hw];refine qm (qw ⟨rfl,.refl _⟩) ?_;rw[beq_self_eq_true,cond_true];rfl
def F63(u:Int->Int->Int->Bool->MapD->MapD):List T->qg->Option (T×qg)
 |.agg [.int _ a,.int _ c,.int _ k,.bool b]::_,[b0,b1,b2,⟨v,_,_,_,_,_,some m⟩,b4]=>some (.tup [],[b0,b1,b2,ZY v (u a c k b m),b4])
 |_,_=>none
noncomputable def K48(p:List T->qg->T->qg->Prop)(u:Int->Int->Int->Bool->MapD->MapD):Orc:=qk.addRef 63 (qa4 p (F63 u))
def f48:T:=.fn 63 [.ptr 0 0 0 0,.ptr 4 0 0 0,.ptr 1 0 0 0,.ptr 2 0 0 0]
def v48(cs:Nat->Int)(k:Nat)(cc:Option Nat)(a j i:Int):List T:=[.ptr 1 0 0 0,.ptr 4 0 0 0,f48,iI a,iI j,qB cs k cc,iI k,iI i]
def qa5(a j:Int):List T:=[.ptr 1 0 0 0,.ptr 4 0 0 0,f48,iI a,iI j]
def qa6(a:Int):List T:=[.ptr 1 0 0 0,.ptr 4 0 0 0,f48,iI a]
def Qt(r:Nat->Int)(n:Nat)(cs:Nat->Int)(k:Nat)(most:Int)(a c j:Int)(b:Bool)(m:MapD):MapD:=m.put [a,c,j,b2i b] (k8 r n cs k most m.val a.toNat c j b)
section
variable (u:Int->Int->Int->Bool->MapD->MapD) (cs:Nat->Int) (k:Nat)
def ZW(a j:Nat)(m:MapD):Nat->MapD
 |0=>m
 |i+1=>u a (cs i) j true (u a (cs i) j false (ZW a j m i))
def YT(a:Nat)(m:MapD):Nat->MapD
 |0=>m
 |j+1=>ZW u cs a (j+1) (YT a m j) k
def KG(n:Nat):Nat->MapD
 |0=>.made qjb .i64
 |i+1=>YT u cs k (n-i) (KG n i) (n-i)
end
theorem qjc(r:Nat->Int)(n:Nat)(cs:Nat->Int)(k:Nat)(most:Int)(val:List Int->Int)(a:Nat)(col run:Int)(b:Bool)(hv:∀l,0<=val l/\val l<=(n:Int)+1):0<=k8 r n cs k most val a col run b/\k8 r n cs k most val a col run b<=(n:Int)+1:=by
 have:=qfU r n cs most val a col run b hv k;unfold k8;split<;>omega
theorem MOk.fill{r:Nat->Int}{n:Nat}{cs:Nat->Int}{k:Nat}{most:Int}{m:MapD}(h:MOk n m)(a c j:Int)(b:Bool):MOk n (Qt r n cs k most a c j b m):=by
 refine⟨h.ks,h.q,fun l=>?_⟩;show 0<=(bif keq l [a,c,j,b2i b] then k8 r n cs k most m.val a.toNat c j b else m.val l)/\(bif keq l [a,c,j,b2i b] then k8 r n cs k most m.val a.toNat c j b else m.val l)<=(n:Int)+1;cases keq l [a,c,j,b2i b]
 ·exact h.val l
 ·exact qjc r n cs k most m.val a.toNat c j b h.val
section
variable {r:Nat->Int} {n:Nat} {c:Option Nat} {cs:Nat->Int} {k:Nat} {cc:Option Nat} {most:Int} {p:List T->qg->T->qg->Prop}
theorem MOk.f1{m:MapD}(h:MOk n m)(a j:Nat):∀i,MOk n (ZW (Qt r n cs k most) cs a j m i)
 |0=>h
 |i+1=>(((h.f1 a j i).fill _ _ _ _).fill _ _ _ _)
theorem MOk.f2{m:MapD}(h:MOk n m)(a:Nat):∀j,MOk n (YT (Qt r n cs k most) cs k a m j)
 |0=>h
 |j+1=>(h.f2 a j).f1 a (j+1) k
theorem MOk.f3:∀i,MOk n (KG (Qt r n cs k most) cs k n i)
 |0=>⟨rfl,rfl,fun l=>by show(0:Int)<=0/\(0:Int)<=_;omega⟩
 |i+1=>(MOk.f3 i).f2 (n-i) (n-i)
theorem qjd(hp:p=ToldRef P18 G18 63){ver:Nat}{m:MapD}(hn:n<=1000)(hk:k<=1000)(hm:MOk n m)(a j:Nat)(col:Int)(b:Bool)(ha:a<=n)(hj:j<=1000000) :
 qF (p [.agg (plc a col j b),.ptr 0 0 0 0,.ptr 4 0 0 0,.ptr 1 0 0 0,.ptr 2 0 0 0] (h63 r n c cs k cc most ver m) (.tup []) (h63 r n c cs k cc most ver (Qt r n cs k most a col j b m)))=true :=
 Qe hp (ql8 r n c cs k cc most ver m col j b a hn hk ha ⟨by omega,by omega⟩ hm)
theorem qnI(hp:p=ToldRef P18 G18 63){m:MapD}(hn:n<=1000)(hk:k<=1000)(hm:MOk n m)(a j:Nat)(ha:a<=n)(hj:j<=n) :
 LoopOk P18 G18 (A18 48) 48 10 (qE (v48 cs k cc a j 0) (h63 r n c cs k cc most 0 m) (.exit 4) (qa5 a j) (h63 r n c cs k cc most 0 (ZW (Qt r n cs k most) cs a j m k))):=by
 have okK:∀u,OrcOk P18 G18 (K48 p u):=fun u=>QL qf (zf hp);refine qz qv (by kernel_rfl) (fun i=>v48 cs k cc a j i) (fun i=>h63 r n c cs k cc most 0 (ZW (Qt r n cs k most) cs a j m i)) (n:=k) (fun i hi=>?_) ?_
 ·have h1:=hm.f1 (r:=r) (cs:=cs) (k:=k) (most:=most) a j i;have y1:=qjd (c:=c) (cc:=cc) (ver:=0) (cs:=cs) (r:=r) (most:=most) hp hn hk h1 a j (cs i) false ha (by omega);have y2:=qjd (c:=c) (cc:=cc) (ver:=0) (cs:=cs) (r:=r) (most:=most) hp hn hk (MOk.fill (r:=r) (cs:=cs) (k:=k) (most:=most) h1 a (cs i) j false) a j (cs i) true ha (by omega);show Step P18 G18 (A18 48) 48 10 _ _ _ _ (h63 r n c cs k cc most 0 (Qt r n cs k most a (cs i) j true (Qt r n cs k most a (cs i) j false (ZW (Qt r n cs k most) cs a j m i))));generalize ZW (Qt r n cs k most) cs a j m i=mm at *
  generalize Qt r n cs k most=u at *
  refine Step.mk0 (A:=A18) (K:=K48 p u) (m:=0) (okK u) rfl rfl qh (h1:=h63 r n c cs k cc most 0 (u a (cs i) j true (u a (cs i) j false mm))) ?_ (.refl _);refine Eq.trans (show qA P18 G18 A18 (K48 p u) 0 48 [] 10 (v48 cs k cc a j i) (h63 r n c cs k cc most 0 mm) =
( bif decide (ofNat i<ofNat k) then gD (decide (0<=ofNat i)&&decide (ofNat i<ofNat k))<|gD (qF (p [.agg (plc (ofNat a) (cs i) (ofNat j) false),.ptr 0 0 0 0,.ptr 4 0 0 0,.ptr 1 0 0 0,.ptr 2 0 0 0] (h63 r n c cs k cc most (0:Nat) mm) (.tup []) (h63 r n c cs k cc most (0:Nat) (u (ofNat a) (cs i) (ofNat j) false mm))))<|gD (qF (p [.agg (plc (ofNat a) (cs i) (ofNat j) true),.ptr 0 0 0 0,.ptr 4 0 0 0,.ptr 1 0 0 0,.ptr 2 0 0 0] (h63 r n c cs k cc most (0:Nat) (u (ofNat a) (cs i) (ofNat j) false mm)) (.tup []) (h63 r n c cs k cc most (0:Nat) (u (ofNat a) (cs i) (ofNat j) true (u (ofNat a) (cs i) (ofNat j) false mm)))))<|zN (v48 cs k cc (ofNat a) (ofNat j) (i64.wrap (ofNat i+1))) (h63 r n c cs k cc most (0:Nat) (u (ofNat a) (cs i) (ofNat j) true (u (ofNat a) (cs i) (ofNat j) false mm))) else
 zX 4 (qa5 (ofNat a) (ofNat j)) (h63 r n c cs k cc most (0:Nat) mm)) from by kernel_rfl) ?_
  refine BT ?_;refine BT ?_;refine qm y1 ?_;refine qm y2 ?_;rw[qn i,qI (x:=(i:Int)+1) (by omega) (by omega)];rfl
 ·generalize ZW (Qt r n cs k most) cs a j m k=mm at *
  refine Last.mk0 (A:=A18) (K:=qk) (m:=0) qf rfl rfl qh (h1:=h63 r n c cs k cc most 0 mm) (by simp) ?_ (.refl _);refine Eq.trans (show qA P18 G18 A18 qk 0 48 [] 10 (v48 cs k cc a j (k:Nat)) (h63 r n c cs k cc most 0 mm) =
( bif decide (ofNat k<ofNat k) then gD (decide (0<=ofNat k)&&decide (ofNat k<ofNat k)) none else
 zX 4 (qa5 (ofNat a) (ofNat j)) (h63 r n c cs k cc most (0:Nat) mm)) from by kernel_rfl) ?_
  (repeat (first|refine BT ?_|refine BG ?_))
  rfl
theorem qnJ(hp:p=ToldRef P18 G18 63){m:MapD}(hn:n<=1000)(hk:k<=1000)(hm:MOk n m)(a:Nat)(ha:a<=n) :
 LoopOk P18 G18 (A18 48) 48 7 (qE (qa5 a 1) (h63 r n c cs k cc most 0 m) (.exit 2) (qa6 a) (h63 r n c cs k cc most 0 (YT (Qt r n cs k most) cs k a m a))):=by
 refine qz qv (by kernel_rfl) (fun j=>qa5 a ((j:Nat)+1)) (fun j=>h63 r n c cs k cc most 0 (YT (Qt r n cs k most) cs k a m j)) (n:=a) (fun j hj=>?_) ?_
 ·have h1:=hm.f2 (r:=r) (cs:=cs) (k:=k) (most:=most) a j;have hl:=qnI (c:=c) (cc:=cc) (cs:=cs) (r:=r) (most:=most) hp hn hk h1 a (j+1) ha (by omega);show Step P18 G18 (A18 48) 48 7 _ _ _ _ (h63 r n c cs k cc most 0 (ZW (Qt r n cs k most) cs a (j+1) (YT (Qt r n cs k most) cs k a m j) k));generalize YT (Qt r n cs k most) cs k a m j=mm at *
  generalize ZW (Qt r n cs k most) cs a (j+1) mm k=m2 at *
  refine Step.mk0 (A:=A18) (K:=qk) (m:=0) qf rfl rfl (qK hl) (h1:=h63 r n c cs k cc most 0 m2) ?_ (.refl _);refine Eq.trans (show qA P18 G18 A18 qk 0 48 [(10,qE (v48 cs k cc a (j+1:Nat) 0) (h63 r n c cs k cc most 0 mm) (.exit 4) (qa5 a (j+1:Nat)) (h63 r n c cs k cc most 0 m2))] 7 (qa5 a ((j:Nat)+1)) (h63 r n c cs k cc most 0 mm) =
( bif decide (ofNat j+1<=ofNat a) then gD (qS (v48 cs k cc (ofNat a) (ofNat j+1) (0:Int)) (h63 r n c cs k cc most (0:Nat) mm) (v48 cs k cc (ofNat a) (ofNat (j+1)) (0:Int)) (h63 r n c cs k cc most (0:Nat) mm))<|zN (qa5 (ofNat a) (i64.wrap (ofNat (j+1)+(1:Int)))) (h63 r n c cs k cc most (0:Nat) m2) else
 zX 2 (qa6 (ofNat a)) (h63 r n c cs k cc most (0:Nat) mm)) from by kernel_rfl) ?_
  refine BT ?_;refine qm (qw ⟨rfl,.refl _⟩) ?_;rw[qn (j+1),qI (x:=((j+1:Nat):Int)+1) (by omega) (by omega)];rfl
 ·generalize YT (Qt r n cs k most) cs k a m a=mm at *
  refine Last.mk0 (A:=A18) (K:=qk) (m:=0) qf rfl rfl qh (h1:=h63 r n c cs k cc most 0 mm) (by simp) ?_ (.refl _);refine Eq.trans (show qA P18 G18 A18 qk 0 48 [] 7 (qa5 a ((a:Nat)+1)) (h63 r n c cs k cc most 0 mm) =
( bif decide (ofNat a+1<=ofNat a) then none else
 zX 2 (qa6 (ofNat a)) (h63 r n c cs k cc most (0:Nat) mm)) from by kernel_rfl) ?_
  (repeat (first|refine BT ?_|refine BG ?_))
  rfl
theorem qnK(hp:p=ToldRef P18 G18 63)(hn:n<=1000)(hk:k<=1000) :
 LoopOk P18 G18 (A18 48) 48 4 (qE (qa6 n) (h63 r n c cs k cc most 0 (.made qjb .i64)) (.exit 0) [.ptr 4 0 0 0,f48] (h63 r n c cs k cc most 0 (KG (Qt r n cs k most) cs k n n))):=by
 rw[show((n:Nat):Int)=(n:Int)-((0:Nat):Int) by omega];refine qz qv (by kernel_rfl) (fun i=>qa6 ((n:Int)-(i:Nat))) (fun i=>h63 r n c cs k cc most 0 (KG (Qt r n cs k most) cs k n i)) (n:=n) (fun i hi=>?_) ?_
 ·have h1:=MOk.f3 (r:=r) (n:=n) (cs:=cs) (k:=k) (most:=most) i;have hl:=qnJ (c:=c) (cc:=cc) (cs:=cs) (r:=r) (most:=most) hp hn hk h1 (n-i) (by omega);show Step P18 G18 (A18 48) 48 4 _ _ _ _ (h63 r n c cs k cc most 0 (YT (Qt r n cs k most) cs k (n-i) (KG (Qt r n cs k most) cs k n i) (n-i)));generalize KG (Qt r n cs k most) cs k n i=mm at *
  generalize YT (Qt r n cs k most) cs k (n-i) mm (n-i)=m2 at *
  obtain⟨a,ha⟩:∃a,n-i=a+1:=⟨n-i-1,by omega⟩;rw[ha] at hl;rw[show(n:Int)-(i:Nat)=((a+1:Nat):Int) by omega,show(n:Int)-((i+1:Nat):Int)=(a:Int) by omega];refine Step.mk0 (A:=A18) (K:=qk) (m:=0) qf rfl rfl (qK hl) (h1:=h63 r n c cs k cc most 0 m2) ?_ (.refl _);refine Eq.trans (show qA P18 G18 A18 qk 0 48 [(7,qE (qa5 (a+1:Nat) 1) (h63 r n c cs k cc most 0 mm) (.exit 2) (qa6 (a+1:Nat)) (h63 r n c cs k cc most 0 m2))] 4 (qa6 (a+1:Nat)) (h63 r n c cs k cc most 0 mm) =
( bif decide (0<ofNat (a+1)) then gD (qS (qa5 (ofNat (a+1)) (1:Int)) (h63 r n c cs k cc most (0:Nat) mm) (qa5 (ofNat (a+1)) (1:Int)) (h63 r n c cs k cc most (0:Nat) mm))<|zN (qa6 (i64.wrap (ofNat (a+1)-(1:Int)))) (h63 r n c cs k cc most (0:Nat) m2) else
 zX 0 [.ptr 4 0 0 0,.fn (63:Nat) [.ptr 0 0 0 0,.ptr 4 0 0 0,.ptr 1 0 0 0,.ptr 2 0 0 0]] (h63 r n c cs k cc most (0:Nat) mm)) from by kernel_rfl) ?_
  (repeat (first|refine BT ?_|refine BG ?_))
  refine qm (qw ⟨rfl,.refl _⟩) ?_;rw[qn (a+1),qI (x:=((a+1:Nat):Int)-1) (by omega) (by omega),show((a+1:Nat):Int)-1=(a:Int) by omega]
  try rfl
 ·rw[show(n:Int)-(n:Nat)=0 by omega];generalize KG (Qt r n cs k most) cs k n n=mm at *
  refine Last.mk0 (A:=A18) (K:=qk) (m:=0) qf rfl rfl qh (h1:=h63 r n c cs k cc most 0 mm) (by simp) ?_ (.refl _);refine Eq.trans (show qA P18 G18 A18 qk 0 48 [] 4 (qa6 0) (h63 r n c cs k cc most 0 mm) =
( zX 0 [.ptr 4 0 0 0,.fn (63:Nat) [.ptr 0 0 0 0,.ptr 4 0 0 0,.ptr 1 0 0 0,.ptr 2 0 0 0]] (h63 r n c cs k cc most (0:Nat) mm)) from by kernel_rfl) ?_
  rfl
end
def zH(r:Nat->Int)(n:Nat)(cs:Nat->Int)(k:Nat)(most:Int):MapD:=Qt r n cs k most 0 0 0 false (KG (Qt r n cs k most) cs k n n)
theorem qje(r:Nat->Int)(n:Nat)(c:Option Nat)(cs:Nat->Int)(k:Nat)(cc:Option Nat)(most:Int)(hn:n<=1000)(hk:k<=1000):ToldOk P18 G18 48 [qB r n c,qB cs k cc,iI most] (.freshm (zH r n cs k most)):=by
 obtain⟨p,hp⟩:=ZO P18 G18 63;have okK:∀u,OrcOk P18 G18 (K48 p u):=fun u=>QL qf (zf hp);have hl:=qnK (r:=r) (n:=n) (c:=c) (cs:=cs) (k:=k) (cc:=cc) (most:=most) hp hn hk;have h1:=MOk.f3 (r:=r) (n:=n) (cs:=cs) (k:=k) (most:=most) n;have y1:=qjd (c:=c) (cc:=cc) (ver:=0) (cs:=cs) (r:=r) (most:=most) hp hn hk h1 0 0 0 false (by omega) (by omega);unfold zH;generalize KG (Qt r n cs k most) cs k n n=mm at *
 generalize Qt r n cs k most=u at *
 refine qJ qv q9 (okK u) (A:=A18) (m:=0) (by kernel_rfl) (qK hl) ?_;refine Eq.trans (show QB P18 G18 A18 (K48 p u) 0 48 [(4,qE (qa6 n) (h63 r n c cs k cc most 0 (.made qjb .i64)) (.exit 0) [.ptr 4 0 0 0,f48] (h63 r n c cs k cc most 0 mm))] [qB r n c,qB cs k cc,iI most] =
( gD (qS (qa6 (ofNat n)) [.mk 0 [qB r n c].length (1:Nat) (fun x=>[qB r n c]) false false
 none,.mk 0 [qB cs k cc].length (1:Nat) (fun x=>[qB cs k cc]) false false
 none,.mk 0 [iI most].length (1:Nat) (fun x=>[iI most]) true false
 none,.mk 0 0 0 (fun x=>[]) false false (some (MapD.mk (KS.row [some IntKind.i64,some IntKind.u8,some IntKind.i64,
 none]) IntKind.i64 (fun x=>false) (fun x=>(0:Int)) (fun x=>(0:Nat)) (0:Nat)
 none)),.mk 0 1 1 (fun e=>[bif e==(0:Nat) then T.mp [Blk.mk 0 [qB r n c].length (1:Nat) (fun x=>[qB r n c]) false false
 none,Blk.mk 0 [qB cs k cc].length (1:Nat) (fun x=>[qB cs k cc]) false false
 none,Blk.mk 0 [iI most].length (1:Nat) (fun x=>[iI most]) true false
 none].length (0:Nat)
 else T.nilm]) false false
 none] (qa6 (ofNat n)) (h63 r n c cs k cc most (0:Nat) (MapD.mk (KS.row [some IntKind.i64,some IntKind.u8,some IntKind.i64,
 none]) IntKind.i64 (fun x=>false) (fun x=>(0:Int)) (fun x=>(0:Nat)) (0:Nat)
 none)))<|gD (qF (p [.agg (plc (0:Int) (0:Int) (0:Int) false),.ptr 0 0 0 0,.ptr 4 0 0 0,.ptr 1 0 0 0,.ptr 2 0 0 0] (h63 r n c cs k cc most (0:Nat) mm) (.tup []) (h63 r n c cs k cc most (0:Nat) (u (0:Int) (0:Int) (0:Int) false mm))))<|some (T.freshm (u (0:Int) (0:Int) (0:Int) false mm))) from by kernel_rfl) ?_
 refine qm (qw ⟨rfl,.cons ⟨rfl,rfl,rfl,fun h=>h,fun _ _=>rfl⟩ (.cons ⟨rfl,rfl,rfl,fun h=>h,fun _ _=>rfl⟩ (.cons ⟨rfl,rfl,rfl,fun _=>rfl,fun _ _=>rfl⟩ (.cons ⟨rfl,rfl,rfl,fun h=>h,fun _ _=>rfl⟩ (.cons ⟨rfl,rfl,rfl,fun h=>h,fun j hj=>?_⟩ .nil))))⟩) ?_
 ·obtain rfl:=Yb hj;rfl
 refine qm y1 ?_;rfl
structure PS where
 c:Int
 run:Int
 inn:Bool
def PS.nx(s:PS)(d:Int):PS:=⟨d,nK s.run s.c d,nI s.run s.c d s.inn⟩
def PS.ok(s:PS)(most d:Int):Bool:=nO s.run s.c d s.inn most
def PS.key(s:PS)(a:Int):List Int:=[a,s.c,s.run,b2i s.inn]
def PS.cells(s:PS)(a:Int):List T:=plc a s.c s.run s.inn
def fnd(t:Nat->Bool):Nat->Nat->Nat
 |0,j=>j
 |m+1,j=>if t j=true then j else fnd t m (j+1)
def tst(r:Nat->Int)(most:Int)(val:List Int->Int)(i:Nat)(s:PS)(d:Int):Bool:=s.ok most d&&decide (val ((s.nx d).key ((i:Int)+1))+chg (r i) d=val (s.key i))
section
variable (r:Nat->Int) (cs:Nat->Int) (k:Nat) (most:Int) (val:List Int->Int)
def psC(i:Nat)(s:PS):Nat:=fnd (fun j=>tst r most val i s (cs j)) k 0
def psT:Nat->PS
 |0=>⟨0,0,false⟩
 |i+1=>(psT i).nx (cs (psC r cs k most val i (psT i)))
def wvn(i:Nat):Int:=(psT r cs k most val (i+1)).c
end
def h30(m:MapD)(n:Nat)(w:Nat->Int):qg:=[ZY 0 m,⟨0,1,n,fun j=>[uI (w j)],true,false,none⟩]
def v30(r:Nat->Int)(n:Nat)(c:Option Nat)(cs:Nat->Int)(k:Nat)(cc:Option Nat)(most:Int)(s:PS)(a i:Int):List T:=[iI most,qB cs k cc,.mp 0 0,.own 1 0 0 n (some n),.reg (s.cells a),qB r n c,iI n,iI i]
def qck(r:Nat->Int)(n:Nat)(c:Option Nat)(cs:Nat->Int)(k:Nat)(cc:Option Nat)(most:Int)(s:PS)(a i j:Int)(old:Int):List T:=[iI most,qB cs k cc,.mp 0 0,.own 1 0 0 n (some n),.reg (s.cells a),iI i,uI old,qB r n c,iI n,iI i,qB cs k cc,iI k,iI j]
noncomputable def K30(p47 p48:List T->T->Prop)(cl:T)(m:MapD):Orc:=(K63.add 47 (qL p47 fun _=>some cl)).add 48 (qL p48 fun _=>some (.freshm m))
theorem qlf(t:Nat->Bool):∀m j,j<=fnd t m j/\fnd t m j<=j+m:=by
 intro m
 induction m with
 |zero=>intro j;exact⟨Nat.le_refl _,Nat.le_refl _⟩
 |succ m ih =>
  intro j;have:=ih (j+1);rw[fnd];split<;>omega
theorem qjf(t:Nat->Bool):∀m j i,j<=i->i<fnd t m j->t i=false:=by
 intro m
 induction m with
 |zero=>intro j i h1 h2;simp only[fnd] at h2;omega
 |succ m ih =>
  intro j i h1 h2;rw[fnd] at h2;by_cases q:t j=true
  ·rw[if_pos q] at h2;omega
  ·rw[if_neg q] at h2;rcases Nat.lt_or_ge j i with h3|h3
   ·exact ih (j+1) i (by omega) h2
   ·obtain rfl:j=i:=by omega
    simpa using q
theorem qlg(t:Nat->Bool):∀m j,fnd t m j<j+m->t (fnd t m j)=true:=by
 intro m
 induction m with
 |zero=>intro j h;simp only[fnd] at h;omega
 |succ m ih =>
  intro j h;rw[fnd] at h ⊢;by_cases q:t j=true
  ·rw[if_pos q];exact q
  ·rw[if_neg q] at h ⊢;exact ih (j+1) (by omega)
theorem ql9(k c d:Int)(h:0<=k):0<=nK k c d/\nK k c d<=k+1:=by
 unfold nK;cases decide (k=0)<;>cases decide (c=d)<;>simp<;>omega
section
variable {r:Nat->Int} {n:Nat} {c:Option Nat} {cs:Nat->Int} {k:Nat} {cc:Option Nat} {most:Int} {m:MapD}
theorem qjg(val:List Int->Int):∀i,0<=(psT r cs k most val i).run/\(psT r cs k most val i).run<=i
 |0=>by show(0:Int)<=0/\(0:Int)<=((0:Nat):Int);omega
 |i+1=>by
  have h:=qjg val i;have:=ql9 (psT r cs k most val i).run (psT r cs k most val i).c (cs (psC r cs k most val i (psT r cs k most val i))) h.1;show 0<=nK _ _ _/\nK _ _ _<=((i+1:Nat):Int);omega
theorem qnL(hn:n<=1000)(hk:k<=1000)(hm:MOk n m)(s:PS)(i:Nat)(w:Nat->Int)(hi:i<n)(hs:0<=s.run/\s.run<=i)(hf:psC r cs k most m.val i s<k) :
 LoopOk P18 G18 (A18 30) 30 9 (qE (qck r n c cs k cc most s i i 0 (r i)) (h30 m n w) (.exit 2) (v30 r n c cs k cc most (s.nx (cs (psC r cs k most m.val i s))) ((i:Int)+1) i) (h30 m n fun e=>bif e==i then cs (psC r cs k most m.val i s) else w e)):=by
 obtain⟨h1,h2,hv⟩:=hm;obtain⟨ks,q,has,val,born,cl,la⟩:=m;dsimp only at h1 h2 hv;subst h1 h2;have ht1:=qjf (fun j=>tst r most val i s (cs j)) k 0;have ht2:=qlg (fun j=>tst r most val i s (cs j)) k 0;change psC r cs k most val i s<k at hf;unfold psC at hf;unfold psC;dsimp only;generalize fnd (fun j=>tst r most val i s (cs j)) k 0=J at *
 have e0:∀j,(bif nO s.run s.c (cs j) s.inn most then bif decide (val [(i:Int)+1,cs j,nK s.run s.c (cs j),b2i (nI s.run s.c (cs j) s.inn)]+chg (r i) (cs j)=val [(i:Int),s.c,s.run,b2i s.inn]) then true else false else false)=tst r most val i s (cs j):=fun j=>by
  unfold tst PS.ok PS.key PS.nx;dsimp only;cases nO s.run s.c (cs j) s.inn most<;>simp
 have hw:∀j,i64.wrap (val [(i:Int)+1,cs j,nK s.run s.c (cs j),b2i (nI s.run s.c (cs j) s.inn)]+chg (r i) (cs j))=val [(i:Int)+1,cs j,nK s.run s.c (cs j),b2i (nI s.run s.c (cs j) s.inn)]+chg (r i) (cs j):=fun j=>by
  have:=hv [(i:Int)+1,cs j,nK s.run s.c (cs j),b2i (nI s.run s.c (cs j) s.inn)];have:=qeI (r i) (cs j);exact qI (by omega) (by omega)
 refine qz qv (by kernel_rfl) (fun j=>qck r n c cs k cc most s i i j (r i)) (fun _=>h30 (mD has val born cl la) n w) (n:=J) (fun j hj=>?_) ?_
 ·have ht:=ht1 j (by omega) hj;rw[←e0 j] at ht;have hwj:=hw j;clear ht1 ht2 e0 hw;refine Step.mk0 (A:=A18) (m:=0) qgT rfl rfl qh (h1:=h30 (mD has val born cl la) n w) ?_ (.refl _);generalize r i=old at *
  refine Eq.trans (show qA P18 G18 A18 K63 0 30 [] 9 (qck r n c cs k cc most s i i j old) (h30 (mD has val born cl la) n w) =
(
 bif decide (ofNat j<ofNat k) then
 bif decide (0<=ofNat j)&&decide (ofNat j<ofNat k) then
 bif decide (0<=ofNat i)&&(decide (ofNat i<=1000000)&&(decide (0<=s.run)&&decide (s.run<=1000000))) then
 bif
 bif decide (s.run=0) then true
 else
 bif decide (s.c=cs j) then true
 else
 bif s.inn then decide (s.run<=most)
 else true then
 bif decide (i64.wrap (val [ofNat i+1,cs j,
 bif decide (s.run=0) then(1:Int)
 else
 bif decide (s.c=cs j) then s.run+1
 else(1:Int),
 bif
 bif decide (s.run=0) then false
 else
 bif decide (s.c=cs j) then s.inn
 else true then(1:Int)
 else(0:Int)] +
 bif decide (old=cs j) then(0:Int)
 else(1:Int))=val [ofNat i,s.c,s.run,
 bif s.inn then(1:Int)
 else(0:Int)]) then
 bif decide (0<=ofNat i)&&decide (ofNat i<ofNat n) then
 bif ((0:Nat)+i).blt n&&[uI (cs j)].length==(1:Nat)&&true&&true then
 some ((.exit 2,[iI most,qB cs k cc,T.mp (0:Nat) (0:Nat),.own 1 0 0 n (some n),.reg (plc (ofNat i+1) (cs j) (bif decide (s.run=0) then(1:Int)
 else
 bif decide (s.c=cs j) then s.run+1
 else(1:Int)) (bif decide (s.run=0) then false
 else
 bif decide (s.c=cs j) then s.inn
 else true)),qB r n c,iI (.ofNat n),iI (.ofNat i)],h30 (MapD.mk (KS.row [some IntKind.i64,some IntKind.u8,some IntKind.i64,
 none]) IntKind.i64 has val born cl la) n fun j_1 =>
 bif j_1==0+i then cs j
 else w j_1))
 else none else none else
 some ((.normal,qck r n c cs k cc most s (ofNat i) (ofNat i) (i64.wrap (ofNat j+1)) old,h30 (MapD.mk (KS.row [some IntKind.i64,some IntKind.u8,some IntKind.i64,
 none]) IntKind.i64 has val born cl la) n w))
 else
 some ((.normal,qck r n c cs k cc most s (ofNat i) (ofNat i) (i64.wrap (ofNat j+1)) old,h30 (MapD.mk (KS.row [some IntKind.i64,some IntKind.u8,some IntKind.i64,
 none]) IntKind.i64 has val born cl la) n w))
 else none else none else
 some ((.exit 2,v30 r n c cs k cc most s (ofNat i) (ofNat i),h30 (MapD.mk (KS.row [some IntKind.i64,some IntKind.u8,some IntKind.i64,
 none]) IntKind.i64 has val born cl la) n w))) from by kernel_rfl) ?_
  refine BT ?_;refine BT ?_;refine BT ?_;rw[qn j,qI (x:=(j:Int)+1) (by omega) (by omega)];change (bif nO s.run s.c (cs j) s.inn most then(bif decide (i64.wrap (val [(i:Int)+1,cs j,nK s.run s.c (cs j),b2i (nI s.run s.c (cs j) s.inn)]+chg old (cs j))=val [(i:Int),s.c,s.run,b2i s.inn]) then _ else _) else _)=_;rw[hwj];cases q1:nO s.run s.c (cs j) s.inn most
  ·rfl
  ·rw[q1,cond_true] at ht;rw[cond_true];cases q:decide (val [(i:Int)+1,cs j,nK s.run s.c (cs j),b2i (nI s.run s.c (cs j) s.inn)]+chg old (cs j)=val [(i:Int),s.c,s.run,b2i s.inn])
   ·rfl
   ·rw[q] at ht;cases ht
 ·have ht:=ht2 (by omega);rw[←e0 J] at ht;have hwj:=hw J;clear ht1 ht2 e0 hw;refine Last.mk0 (A:=A18) (m:=0) qgT rfl rfl qh (h1:=h30 (mD has val born cl la) n fun e=>bif e==0+i then cs J else w e) (by simp) ?_ (by rw[Nat.zero_add];exact .refl _);generalize r i=old at *
  refine Eq.trans (show qA P18 G18 A18 K63 0 30 [] 9 (qck r n c cs k cc most s i i J old) (h30 (mD has val born cl la) n w) =
(
 bif decide (ofNat J<ofNat k) then
 bif decide (0<=ofNat J)&&decide (ofNat J<ofNat k) then
 bif decide (0<=ofNat i)&&(decide (ofNat i<=1000000)&&(decide (0<=s.run)&&decide (s.run<=1000000))) then
 bif
 bif decide (s.run=0) then true
 else
 bif decide (s.c=cs J) then true
 else
 bif s.inn then decide (s.run<=most)
 else true then
 bif decide (i64.wrap (val [ofNat i+1,cs J,
 bif decide (s.run=0) then(1:Int)
 else
 bif decide (s.c=cs J) then s.run+1
 else(1:Int),
 bif
 bif decide (s.run=0) then false
 else
 bif decide (s.c=cs J) then s.inn
 else true then(1:Int)
 else(0:Int)] +
 bif decide (old=cs J) then(0:Int)
 else(1:Int))=val [ofNat i,s.c,s.run,
 bif s.inn then(1:Int)
 else(0:Int)]) then
 bif decide (0<=ofNat i)&&decide (ofNat i<ofNat n) then
 bif ((0:Nat)+i).blt n&&[uI (cs J)].length==(1:Nat)&&true&&true then
 some ((.exit 2,[iI most,qB cs k cc,T.mp (0:Nat) (0:Nat),.own 1 0 0 n (some n),.reg (plc (ofNat i+1) (cs J) (bif decide (s.run=0) then(1:Int)
 else
 bif decide (s.c=cs J) then s.run+1
 else(1:Int)) (bif decide (s.run=0) then false
 else
 bif decide (s.c=cs J) then s.inn
 else true)),qB r n c,iI (.ofNat n),iI (.ofNat i)],h30 (MapD.mk (KS.row [some IntKind.i64,some IntKind.u8,some IntKind.i64,
 none]) IntKind.i64 has val born cl la) n fun j =>
 bif j==0+i then cs J
 else w j))
 else none else none else
 some ((.normal,qck r n c cs k cc most s (ofNat i) (ofNat i) (i64.wrap (ofNat J+1)) old,h30 (MapD.mk (KS.row [some IntKind.i64,some IntKind.u8,some IntKind.i64,
 none]) IntKind.i64 has val born cl la) n w))
 else
 some ((.normal,qck r n c cs k cc most s (ofNat i) (ofNat i) (i64.wrap (ofNat J+1)) old,h30 (MapD.mk (KS.row [some IntKind.i64,some IntKind.u8,some IntKind.i64,
 none]) IntKind.i64 has val born cl la) n w))
 else none else none else
 some ((.exit 2,v30 r n c cs k cc most s (ofNat i) (ofNat i),h30 (MapD.mk (KS.row [some IntKind.i64,some IntKind.u8,some IntKind.i64,
 none]) IntKind.i64 has val born cl la) n w))) from by kernel_rfl) ?_
  refine BT ?_;refine BT ?_;refine BT ?_;change (bif nO s.run s.c (cs J) s.inn most then(bif decide (i64.wrap (val [(i:Int)+1,cs J,nK s.run s.c (cs J),b2i (nI s.run s.c (cs J) s.inn)]+chg old (cs J))=val [(i:Int),s.c,s.run,b2i s.inn]) then _ else _) else _)=_;rw[hwj];cases q1:nO s.run s.c (cs J) s.inn most
  ·rw[q1] at ht;cases ht
  ·rw[q1,cond_true] at ht;rw[cond_true];cases q:decide (val [(i:Int)+1,cs J,nK s.run s.c (cs J),b2i (nI s.run s.c (cs J) s.inn)]+chg old (cs J)=val [(i:Int),s.c,s.run,b2i s.inn])
   ·rw[q] at ht;cases ht
   ·rw[cond_true];refine BT ?_;refine BT ?_;rfl
theorem l30(hn:n<=1000)(hk:k<=1000)(hm:MOk n m)(hf:∀i,i<n->psC r cs k most m.val i (psT r cs k most m.val i)<k) :
 LoopOk P18 G18 (A18 30) 30 6 (qE (v30 r n c cs k cc most ⟨0,0,false⟩ 0 0) (h30 m n fun _=>0) (.exit 0) [.mp 0 0,.own 1 0 0 n (some n)] (h30 m n fun j=>bif Nat.blt j n then wvn r cs k most m.val j else 0)):=by
 refine qz qv (by kernel_rfl) (fun i=>v30 r n c cs k cc most (psT r cs k most m.val i) (i:Nat) (i:Nat)) (fun i=>h30 m n fun j=>bif Nat.blt j i then wvn r cs k most m.val j else 0) (n:=n) (fun i hi=>?_) ?_
 ·have hs:=qjg (r:=r) (cs:=cs) (k:=k) (most:=most) m.val i;have hl:=qnL (c:=c) (cc:=cc) (r:=r) (cs:=cs) (most:=most) hn hk hm (psT r cs k most m.val i) i (fun j=>bif Nat.blt j i then wvn r cs k most m.val j else 0) hi hs (hf i hi);have e1:psT r cs k most m.val (i+1)=(psT r cs k most m.val i).nx (cs (psC r cs k most m.val i (psT r cs k most m.val i))):=rfl;have e2:wvn r cs k most m.val i=cs (psC r cs k most m.val i (psT r cs k most m.val i)):=rfl;have hw:(fun j=>bif Nat.blt j (i+1) then wvn r cs k most m.val j else 0)=fun e=>bif e==i then cs (psC r cs k most m.val i (psT r cs k most m.val i)) else bif Nat.blt e i then wvn r cs k most m.val e else 0:=by
   funext e;by_cases q:e=i
   ·subst q;rw[beq_self_eq_true,cond_true,Qy (by omega),cond_true,e2]
   ·rw[show(e==i)=false by simpa using q,cond_false];by_cases q2:e<i
    ·rw[Qy q2,Qy (by omega)]
    ·rw[Zg (by omega),Zg (by omega)]
  rw[e1,hw];generalize (psT r cs k most m.val i).nx (cs (psC r cs k most m.val i (psT r cs k most m.val i)))=s2 at *
  generalize psT r cs k most m.val i=s at *
  generalize (fun e=>bif e==i then cs (psC r cs k most m.val i s) else bif Nat.blt e i then wvn r cs k most m.val e else 0)=w2 at *
  generalize (fun j=>bif Nat.blt j i then wvn r cs k most m.val j else 0)=w at *
  have hL:(h30 m n (fun _=>0)).length=2:=rfl;refine Step.mk0 (A:=A18) (m:=0) qf rfl rfl (qK hl) (h1:=h30 m n w2) ?_ (.refl _);refine Eq.trans (show qA P18 G18 A18 qk 0 30 [(9,qE (qck r n c cs k cc most s i i 0 (r i)) (h30 m n w) (.exit 2) (v30 r n c cs k cc most s2 ((i:Int)+1) i) (h30 m n w2))] 6 (v30 r n c cs k cc most s (i:Nat) (i:Nat)) (h30 m n w) =
( bif decide (ofNat i<ofNat n) then gD (decide (0<=ofNat i)&&decide (ofNat i<ofNat n))<|gD (qS (qck r n c cs k cc most s (ofNat i) (ofNat i) (0:Int) (r i)) (h30 m n w) (qck r n c cs k cc most s (ofNat i) (ofNat i) (0:Int) (r i)) (h30 m n w))<|zN (v30 r n c cs k cc most s2 (ofNat i+1) (i64.wrap (ofNat i+1))) (h30 m n w2) else
 zX 0 [T.mp (0:Nat) (0:Nat),.own 1 0 0 n (some n)] (h30 m n w)) from by kernel_rfl) ?_
  (repeat (first|refine BT ?_|refine BG ?_))
  refine qm (qw ⟨rfl,.refl _⟩) ?_;rw[qn i,qI (x:=(i:Int)+1) (by omega) (by omega)];rfl
 ·generalize psT r cs k most m.val n=s at *
  generalize (fun j=>bif Nat.blt j n then wvn r cs k most m.val j else 0)=w at *
  refine Last.mk0 (A:=A18) (m:=0) qf rfl rfl qh (h1:=h30 m n w) (by simp) ?_ (.refl _);refine Eq.trans (show qA P18 G18 A18 qk 0 30 [] 6 (v30 r n c cs k cc most s (n:Nat) (n:Nat)) (h30 m n w) =
( bif decide (ofNat n<ofNat n) then gD (decide (0<=ofNat n)&&decide (ofNat n<ofNat n)) none else
 zX 0 [T.mp (0:Nat) (0:Nat),.own 1 0 0 n (some n)] (h30 m n w)) from by kernel_rfl) ?_
  (repeat (first|refine BT ?_|refine BG ?_))
  rfl
end
theorem qkk(r:Nat->Int)(n:Nat)(c:Option Nat)(cs:Nat->Int)(k:Nat)(cc:Option Nat)(most:Int)(hn:n<=1000)(hk:k<=1000)(h47:ToldOk P18 G18 47 [qB r n c] (.new (qB cs k cc)))
 (hf:∀i,i<n->psC r cs k most (zH r n cs k most).val i (psT r cs k most (zH r n cs k most).val i)<k) :
 ToldOk P18 G18 30 [qB r n c,iI most] (.tup [.fresh true 1 n (fun j=>[uI (wvn r cs k most (zH r n cs k most).val j)]) n (some n),iI ((zH r n cs k most).val [0,0,0,0])]):=by
 obtain⟨p47,hp47⟩:=qD P18 G18 47;obtain⟨p48,hp48⟩:=qD P18 G18 48;have h48:=qje r n c cs k cc most hn hk;have hm:MOk n (zH r n cs k most):=(MOk.f3 n).fill _ _ _ _;have hl:=l30 (c:=c) (cc:=cc) hn hk hm hf;have hK:OrcOk P18 G18 (K30 p47 p48 (.new (qB cs k cc)) (zH r n cs k most)):=qq (qq qgT (qj hp47)) (qj hp48);have y1:=qp hp47 h47;have y2:=qp hp48 h48;clear hf;generalize zH r n cs k most=m at *
 obtain⟨h1,h2,hv⟩:=hm;generalize wvn r cs k most m.val=wv at *
 obtain⟨ks,q,has,val,born,cl,la⟩:=m;dsimp only at h1 h2 hv;subst h1 h2;refine ToldOk.tupTo (l:=[.fresh true 1 n (fun j=>[uI (bif Nat.blt j n then wv j else 0)]) n (some n),iI (val [0,0,0,0])]) ?_ (.cons (.fresh (Nat.le_refl _) (Nat.le_refl _) (fun _ h=>by cases h;exact Nat.le_refl _) fun j hj=>by rw[Qy hj,cond_true]) (.cons (.refl _) .nil));refine qJ qv q9 hK (A:=A18) (m:=0) (by kernel_rfl) (qK hl) ?_;refine Eq.trans (show QB P18 G18 A18 (K30 p47 p48 (.new (qB cs k cc)) (mD has val born cl la)) 0 30 [(6,qE (v30 r n c cs k cc most ⟨0,0,false⟩ 0 0) (h30 (mD has val born cl la) n fun _=>0) (.exit 0) [.mp 0 0,.own 1 0 0 n (some n)] (h30 (mD has val born cl la) n fun j=>bif Nat.blt j n then wv j else 0))] [qB r n c,iI most] =
( gD (qF (p47 [qB r n c] (qB cs k cc).new))<|gD (qF (p48 [qB r n c,qB cs k cc,iI most] (T.freshm (MapD.mk (KS.row [some IntKind.i64,some IntKind.u8,some IntKind.i64,
 none]) IntKind.i64 has val born cl la))))<|gD (decide (0<=ofNat n)&&decide (ofNat n<=ofNat n)&&decide (ofNat n*1<=140737488355328)&&decide (ofNat n<=9223372036854775807))<|gD (qS [iI most,qB cs k cc,T.mp (0:Nat) (0:Nat),.own [Blk.mk 0 0 0 (fun x=>[]) false false (some (MapD.mk (KS.row [some IntKind.i64,some IntKind.u8,some IntKind.i64,
 none]) IntKind.i64 has val born cl la))].length (0:Nat) (0:Nat) n (some n),.reg (plc (0:Int) (0:Int) (0:Int) false),qB r n c,iI (.ofNat n),iI 0] (h30 (MapD.mk (KS.row [some IntKind.i64,some IntKind.u8,some IntKind.i64,
 none]) IntKind.i64 has val born cl la) n fun j=>(0:Int)) [iI most,qB cs k cc,T.mp (0:Nat) (0:Nat),.own 1 0 0 n (some n),.reg (plc (0:Int) (0:Int) (0:Int) false),qB r n c,iI (.ofNat n),iI 0] (h30 (MapD.mk (KS.row [some IntKind.i64,some IntKind.u8,some IntKind.i64,
 none]) IntKind.i64 has val born cl la) n fun j=>(0:Int)))<|some (.tup [bif ((0:Nat)+n).ble n then .fresh true (1:Nat) (n-0) (fun j=>[uI (bif ((0:Nat)+j).blt n then wv (0+j)
 else(0:Int))]) n (some n)
 else .undef,iI (val [(0:Int),(0:Int),(0:Int),(0:Int)])])) from by kernel_rfl) ?_
 refine qm y1 ?_;refine qm y2 ?_;refine BT ?_;refine qm (qw ⟨rfl,.refl _⟩) ?_;simp only[Nat.zero_add,Nat.sub_zero,QZ (Nat.le_refl _),cond_true]
def qlh:List T->Tree
 |[.int .u8 _]=>.ret (.bool false)
 |_=>.none
def qjh:List T->Tree
 |[.int .u8 x,.int .u8 y]=>.ret (.bool (decide (x<y)))
 |_=>.none
noncomputable def K94:Orc:=qk.add 94 qlh
noncomputable def K82:Orc:=qk.add 82 qjh
def ub(ver n:Nat)(y:Nat->Int):Blk:=⟨ver,1,n,fun j=>[uI (y j)],true,false,none⟩
theorem qnM{args:List T}{r:T}(h:(qlh args).run some=some r):ToldOk P18 G18 94 args r:=by
 unfold qlh at h;split at h
 ·obtain rfl:=Option.some.inj h;rename_i x;refine qP qv q9 qf (K:=qk) (A:=A18) (m:=0) ?_;rw[(show QU P18 G18 A18 qk 0 94 [uI x] =
( bif !decide (x=x) then some (.bool true) else
 some (.bool false)) from by kernel_rfl)]
  rw[dT rfl];rfl
 ·cases h
theorem qnN:OrcOk P18 G18 K94:=qq qf fun _ _=>qnM
theorem qma{args:List T}{r:T}(h:(qjh args).run some=some r):ToldOk P18 G18 82 args r:=by
 unfold qjh at h;split at h
 ·obtain rfl:=Option.some.inj h;rename_i x y;refine qP qv q9 qnN (A:=A18) (m:=0) ?_;rw[(show QU P18 G18 A18 K94 0 82 [uI x,uI y] =
( bif decide (x<y) then some (.bool true) else
 some (.bool false)) from by kernel_rfl)]
  first|rfl|(cases decide (x<y)<;>rfl)
 ·cases h
theorem Zi:OrcOk P18 G18 K82:=qq qf fun _ _=>qma
def v62(n k:Nat):List T:=[.own 0 0 0 n none,iI k]
def qgU(n k i0 m:Nat):List T:=[.own 0 0 0 n none,iI k,.own 0 0 i0 (n-i0) none,iI m]
def Mem(y:Nat->Int)(a b:Nat)(v:Int):Prop:=∃j,a<=j/\j<b/\y j=v
structure Pr(y z:Nat->Int)(a b:Nat):Prop where
 mem:∀v,Mem z a b v↔Mem y a b v
 out:∀j,j<a∨b<=j->z j=y j
theorem Pr.refl(y:Nat->Int)(a b:Nat):Pr y y a b:=⟨fun _=>Iff.rfl,fun _ _=>rfl⟩
theorem Pr.trans{x y z:Nat->Int}{a b:Nat}(h1:Pr x y a b)(h2:Pr y z a b):Pr x z a b :=
 ⟨fun v=>(h2.mem v).trans (h1.mem v),fun j hj=>(h2.out j hj).trans (h1.out j hj)⟩
theorem Pr.swap(y:Nat->Int){a b i j:Nat}(hi:a<=i/\i<b)(hj:a<=j/\j<b):Pr y (fun e=>if e=i then y j else if e=j then y i else y e) a b:=by
 refine⟨fun v=>⟨fun ⟨e,h1,h2,h3⟩=>?_,fun ⟨e,h1,h2,h3⟩=>?_⟩,fun e he=>?_⟩
 ·dsimp only at h3;by_cases q:e=i
  ·rw[if_pos q] at h3;exact⟨j,hj.1,hj.2,h3⟩
  ·rw[if_neg q] at h3;by_cases q2:e=j
   ·rw[if_pos q2] at h3;exact⟨i,hi.1,hi.2,h3⟩
   ·rw[if_neg q2] at h3;exact⟨e,h1,h2,h3⟩
 ·by_cases q:e=i
  ·refine⟨j,hj.1,hj.2,?_⟩
   try dsimp only
   by_cases q2:j=i
   ·rw[if_pos q2,q2,←q];exact h3
   ·rw[if_neg q2,if_pos rfl,←q];exact h3
  ·by_cases q2:e=j
   ·refine⟨i,hi.1,hi.2,?_⟩
    try dsimp only
    rw[if_pos rfl,←q2];exact h3
   ·refine⟨e,h1,h2,?_⟩
    try dsimp only
    rw[if_neg q,if_neg q2];exact h3
 ·try dsimp only
  rw[if_neg (by omega),if_neg (by omega)]
theorem Pr.wider{y z:Nat->Int}{a b c d:Nat}(h:Pr y z c d)(h1:a<=c)(h2:d<=b):Pr y z a b:=by
 refine⟨fun v=>⟨fun ⟨e,q1,q2,q3⟩=>?_,fun ⟨e,q1,q2,q3⟩=>?_⟩,fun e he=>h.out e (by omega)⟩
 ·by_cases q:c<=e/\e<d
  ·obtain⟨e',r1,r2,r3⟩:=(h.mem v).1 ⟨e,q.1,q.2,q3⟩;exact⟨e',by omega,by omega,r3⟩
  ·exact⟨e,q1,q2,by rw[←h.out e (by omega)];exact q3⟩
 ·by_cases q:c<=e/\e<d
  ·obtain⟨e',r1,r2,r3⟩:=(h.mem v).2 ⟨e,q.1,q.2,q3⟩;exact⟨e',by omega,by omega,r3⟩
  ·exact⟨e,q1,q2,by rw[h.out e (by omega)];exact q3⟩
def Asc(y:Nat->Int)(a b:Nat):Prop:=∀p q,a<=p->p<q->q<b->y p<=y q
structure Ins(x y:Nat->Int)(a b i j:Nat):Prop where
 pr:Pr x y a b
 lo:a<=j
 hi:j<=i
 lt:i<b
 rest:∀p q,a<=p->p<q->q<=i->p≠j->q≠j->y p<=y q
 up:∀q,j<q->q<=i->y j<=y q
theorem Ins.start{x y:Nat->Int}{a b i:Nat}(hp:Pr x y a b)(h1:a<=i)(h2:i<b)(hs:Asc y a i):Ins x y a b i i :=
 ⟨hp,h1,Nat.le_refl _,h2,fun p q h3 h4 h5 h6 h7=>hs p q h3 h4 (by omega),fun q h3 h4=>by omega⟩
theorem Ins.step{x y:Nat->Int}{a b i j:Nat}(h:Ins x y a b i (j+1))(ha:a<=j)(hlt:y (j+1)<y j):Ins x (fun e=>if e=j then y (j+1) else if e=j+1 then y j else y e) a b i j:=by
 have hi:=h.hi;have hl:=h.lt;refine⟨h.pr.trans (Pr.swap y (i:=j) (j:=j+1) ⟨ha,by omega⟩ ⟨by omega,by omega⟩),ha,by omega,hl,fun p q h3 h4 h5 h6 h7=>?_,fun q h3 h4=>?_⟩
 ·try dsimp only
  rw[if_neg h6,if_neg h7];by_cases q1:p=j+1
  ·rw[if_pos q1,if_neg (by omega)];exact h.rest j q ha (by omega) h5 (by omega) (by omega)
  ·rw[if_neg q1];by_cases q2:q=j+1
   ·rw[if_pos q2];exact h.rest p j h3 (by omega) (by omega) (by omega) (by omega)
   ·rw[if_neg q2];exact h.rest p q h3 h4 h5 (by omega) (by omega)
 ·try dsimp only
  rw[if_pos rfl,if_neg (by omega)];by_cases q2:q=j+1
  ·rw[if_pos q2];omega
  ·rw[if_neg q2];exact h.up q (by omega) h4
theorem Ins.last{x y:Nat->Int}{a b i j:Nat}(h:Ins x y a b i j)(hl:j=a∨∃k,j=k+1/\y k<=y j):Asc y a (i+1):=by
 intro p q h1 h2 h3;have hlo:=h.lo;by_cases q1:p=j
 ·subst q1;exact h.up q h2 (by omega)
 ·by_cases q2:q=j
  ·rcases hl with hl|⟨k,hk,hl⟩
   ·omega
   ·rw[q2];by_cases q3:p=k
    ·rw[q3];exact hl
    ·exact Int.le_trans (h.rest p k h1 (by omega) (by have:=h.hi;omega) q1 (by omega)) hl
  ·exact h.rest p q h1 h2 (by omega) q1 q2
def SAsc(z:Nat->Int)(k:Nat):Prop:=∀p q,p<q->q<k->z p<z q
structure Cmp(y z:Nat->Int)(n k m:Nat):Prop where
 k1:1<=k
 km:k<=m
 mn:m<=n
 asc:SAsc z k
 mem:∀v,Mem z 0 k v↔Mem y 0 m v
 last:z (k-1)=y (m-1)
 keep:∀j,m<=j->z j=y j
 at1:z (m-1)=y (m-1)
theorem Cmp.start(y:Nat->Int){n:Nat}(hn:1<=n):Cmp y y n 1 1 :=
 ⟨Nat.le_refl _,Nat.le_refl _,hn,fun p q h1 h2=>by omega,fun _=>Iff.rfl,rfl,fun _ _=>rfl,rfl⟩
theorem qcl{y:Nat->Int}{m:Nat}{v:Int}:Mem y 0 (m+1) v↔Mem y 0 m v∨y m=v:=by
 constructor
 ·rintro⟨j,h1,h2,h3⟩;by_cases q:j=m
  ·subst q;exact .inr h3
  ·exact .inl ⟨j,h1,by omega,h3⟩
 ·rintro (⟨j,h1,h2,h3⟩|h)
  ·exact⟨j,h1,by omega,h3⟩
  ·exact⟨m,Nat.zero_le _,by omega,h⟩
theorem qdJ{y z:Nat->Int}{a b:Nat}{v:Int}(h:∀j,a<=j->j<b->z j=y j):Mem z a b v↔Mem y a b v:=by
 constructor
 ·rintro⟨j,h1,h2,h3⟩;exact⟨j,h1,h2,by rw[←h j h1 h2];exact h3⟩
 ·rintro⟨j,h1,h2,h3⟩;exact⟨j,h1,h2,by rw[h j h1 h2];exact h3⟩
theorem Cmp.same{y z:Nat->Int}{n k m:Nat}(h:Cmp y z n k m)(hm:m<n)(he:y m=y (m-1)):Cmp y z n k (m+1):=by
 have h1:=h.k1;have h2:=h.km;refine⟨h1,by omega,hm,h.asc,fun v=>?_,?_,fun j hj=>h.keep j (by omega),?_⟩
 ·rw[h.mem,qcl];constructor
  ·exact .inl
  ·rintro (q|q)
   ·exact q
   ·exact⟨m-1,Nat.zero_le _,by omega,by rw[←he];exact q⟩
 ·rw[h.last,Nat.add_sub_cancel,he]
 ·rw[Nat.add_sub_cancel];exact h.keep m (Nat.le_refl _)
theorem Cmp.new{y z:Nat->Int}{n k m:Nat}(h:Cmp y z n k m)(hs:Asc y 0 n)(hm:m<n)(he:y m≠y (m-1)):Cmp y (fun e=>if e=k then z m else z e) n (k+1) (m+1):=by
 have h1:=h.k1;have h2:=h.km;have hz:z m=y m:=h.keep m (Nat.le_refl _);have hlt:z (k-1)<z m:=by
  rw[h.last,hz];have:=hs (m-1) m (Nat.zero_le _) (by omega) hm;omega
 refine⟨by omega,by omega,hm,fun p q h3 h4=>?_,fun v=>?_,?_,fun j hj=>?_,?_⟩
 ·try dsimp only
  rw[if_neg (by omega:¬p=k)];by_cases q1:q=k
  ·rw[if_pos q1];by_cases q2:p=k-1
   ·rw[q2];exact hlt
   ·exact Int.lt_trans (h.asc p (k-1) (by omega) (by omega)) hlt
  ·rw[if_neg q1];exact h.asc p q h3 (by omega)
 ·rw[qcl,qcl,←h.mem,qdJ (y:=z) (z:=fun e=>if e=k then z m else z e) (fun j _ hj=>if_neg (by omega))]
  try dsimp only
  rw[if_pos rfl,hz]
 ·try dsimp only
  rw[if_pos (by omega),Nat.add_sub_cancel,hz]
 ·try dsimp only
  rw[if_neg (by omega)];exact h.keep j (by omega)
 ·try dsimp only
  rw[Nat.add_sub_cancel];by_cases q:m=k
  ·rw[if_pos q,hz]
  ·rw[if_neg q,hz]
theorem Cmp.pre{y:Nat->Int}{n k:Nat}(h:Cmp y y n k k)(hs:Asc y 0 n)(hk:k<n)(he:y k≠y (k-1)):Cmp y y n (k+1) (k+1):=by
 have h2:=h.new hs hk he;have e:(fun e=>if e=k then y k else y e)=y:=by
  funext e;by_cases q:e=k
  ·rw[if_pos q,q]
  ·rw[if_neg q]
 rw[e] at h2;exact h2
theorem SAsc.unique:∀{k l:Nat} {z w:Nat->Int},SAsc z k->SAsc w l->(∀v,Mem z 0 k v↔Mem w 0 l v)->k=l/\∀j,j<k->z j=w j:=by
 intro k
 induction k with
 |zero =>
  intro l z w _ _ h;refine⟨?_,fun j hj=>by omega⟩;rcases Nat.eq_zero_or_pos l with q|q
  ·exact q.symm
  ·obtain⟨j,h1,h2,_⟩:=(h (w 0)).2 ⟨0,Nat.le_refl _,q,rfl⟩;omega
 |succ k ih =>
  intro l z w hz hw h;rcases Nat.eq_zero_or_pos l with q|q
  ·subst q;obtain⟨j,h1,h2,_⟩:=(h (z 0)).1 ⟨0,Nat.le_refl _,by omega,rfl⟩;omega
  ·obtain⟨l,rfl⟩:∃i,l=i+1:=⟨l-1,by omega⟩;have e:z k=w l:=by
    obtain⟨j,_,h2,h3⟩:=(h (z k)).1 ⟨k,Nat.zero_le _,by omega,rfl⟩;obtain⟨j',_,h2',h3'⟩:=(h (w l)).2 ⟨l,Nat.zero_le _,by omega,rfl⟩;have a1:z k<=w l:=by
     rw[←h3];rcases Nat.lt_or_ge j l with q|q
     ·exact Int.le_of_lt (hw j l q (by omega))
     ·rw[show j=l by omega];exact Int.le_refl _
    have a2:w l<=z k:=by
     rw[←h3'];rcases Nat.lt_or_ge j' k with q|q
     ·exact Int.le_of_lt (hz j' k q (by omega))
     ·rw[show j'=k by omega];exact Int.le_refl _
    omega
   have key:k=l/\∀j,j<k->z j=w j:=by
    refine ih (fun p q h1 h2=>hz p q h1 (by omega)) (fun p q h1 h2=>hw p q h1 (by omega)) fun v=>⟨?_,?_⟩
    ·rintro⟨j,h1,h2,h3⟩;have:=hz j k h2 (by omega);obtain⟨j',g1,g2,g3⟩:=(h v).1 ⟨j,h1,by omega,h3⟩;refine⟨j',g1,?_,g3⟩;rcases Nat.lt_or_ge j' l with q|q
     ·exact q
     ·rw[show j'=l by omega] at g3;omega
    ·rintro⟨j,h1,h2,h3⟩;have:=hw j l h2 (by omega);obtain⟨j',g1,g2,g3⟩:=(h v).2 ⟨j,h1,by omega,h3⟩;refine⟨j',g1,?_,g3⟩;rcases Nat.lt_or_ge j' k with q|q
     ·exact q
     ·rw[show j'=k by omega] at g3;omega
   refine⟨by omega,fun j hj=>?_⟩;rcases Nat.lt_or_ge j k with q|q
   ·exact key.2 j q
   ·rw[show j=k by omega,e,key.1]
def Q9(n a b:Nat)(i:Int):List T:=[.own 0 0 0 n none,iI a,iI b,iI i]
def qdc(n a b:Nat)(i j:Int):List T:=[.own 0 0 0 n none,iI a,iI b,iI i,iI j]
theorem YU{n:Nat}{y z:Nat->Int}(h:∀j,z j=y j):SameBlks [ub 0 n y] [ub 0 n z] :=
 .cons ⟨rfl,rfl,rfl,id,fun j hj=>by show [uI (z j)]=[uI (y j)];rw[h j]⟩ .nil
theorem qfV(n a b i j:Nat)(y':Nat->Int):qA P18 G18 A18 K82 0 76 [] 4 (qdc n a b i (j+1:Nat)) [ub 0 n y'] =
( bif decide (ofNat a<ofNat (j+1)) then gD (decide (0<=ofNat (j+1))&&decide (ofNat (j+1)<ofNat n))<|gD (((0:Nat)+(j+(1:Nat))).blt n)<|gD (decide (0<=i64.wrap (ofNat (j+1)-(1:Int)))&&decide (i64.wrap (ofNat (j+1)-(1:Int))<ofNat n))<|gD (((0:Nat)+(i64.wrap (ofNat (j+(1:Nat))-(1:Int))).toNat).blt n)<|bif decide (y' ((0:Nat)+(j+1))<y' ((0:Nat)+(i64.wrap (ofNat (j+(1:Nat))-(1:Int))).toNat)) then gD (decide (0<=i64.wrap (ofNat (j+1)-(1:Int)))&&decide (i64.wrap (ofNat (j+1)-(1:Int))<ofNat n))<|gD (((0:Nat)+(i64.wrap (ofNat (j+(1:Nat))-(1:Int))).toNat).blt n)<|gD (decide (0<=ofNat (j+1))&&decide (ofNat (j+1)<ofNat n))<|gD (((0:Nat)+(j+(1:Nat))).blt n)<|gD (decide (0<=ofNat (j+1))&&decide (ofNat (j+1)<ofNat n))<|gD (((0:Nat)+(j+(1:Nat))).blt n&&true&&true&&true)<|gD (decide (0<=i64.wrap (ofNat (j+1)-(1:Int)))&&decide (i64.wrap (ofNat (j+1)-(1:Int))<ofNat n))<|gD (((0:Nat)+(i64.wrap (ofNat (j+(1:Nat))-(1:Int))).toNat).blt n&&true&&true&&true)<|zN (qdc n a b (ofNat i) (i64.wrap (ofNat (j+1)-(1:Int)))) [ub (0:Nat) n fun j_1 =>
 bif j_1==(0:Nat)+(i64.wrap (ofNat (j+(1:Nat))-(1:Int))).toNat then y' ((0:Nat)+(j+1))
 else
 bif j_1==(0:Nat)+(j+1) then y' ((0:Nat)+(i64.wrap (ofNat (j+(1:Nat))-(1:Int))).toNat)
 else y' j_1] else
 zX 2 (Q9 n a b (ofNat i)) [ub (0:Nat) n y'] else
 zX 2 (Q9 n a b (ofNat i)) [ub (0:Nat) n y']):=by kernel_rfl
theorem qnO(n a b:Nat)(x y:Nat->Int)(i:Nat)(hn:n<=1000)(hb:b<=n)(hi:a<=i)(hi2:i<b)(hp:Pr x y a b)(hs:Asc y a i) :
 ∃z,(Pr x z a b/\Asc z a (i+1))/\LoopOk P18 G18 (A18 76) 76 4 (qE (qdc n a b i i) [ub 0 n y] (.exit 2) (Q9 n a b i) [ub 0 n z]):=by
 refine Exists.elim (Qv (P:=P18) (Gl:=G18) (f:=76) (r:=4) (an:=A18 76) (k:=1) qv (by kernel_rfl)
  (fun m vs h=>∃j y',m=j/\vs=qdc n a b i j/\h=[ub 0 n y']/\Ins x y' a b i j)
  (fun e vs1 h1=>∃z,e = .exit 2/\vs1=Q9 n a b i/\h1=[ub 0 n z]/\(Pr x z a b/\Asc z a (i+1)))
  (fun m vs h ⟨j,y',hm,hv,hh,hI⟩=>?_) (n:=i) (vs:=qdc n a b i i) (h:=[ub 0 n y]) rfl ⟨i,y,rfl,rfl,rfl,Ins.start hp hi hi2 hs⟩) ?_
 ·subst hm hv hh;have h2:=hI.lo;have h3:=hI.hi;rcases Nat.lt_or_ge a m with q|q
  ·obtain⟨j,rfl⟩:∃j,m=j+1:=⟨m-1,by omega⟩;have ej:i64.wrap (((j+1:Nat):Int)-1)=(j:Int):=by rw[qI (by omega) (by omega)];omega
   by_cases q2:y' (j+1)<y' j
   ·refine .inl ⟨j,_,_,Nat.lt_succ_self _,?_,⟨j,_,rfl,rfl,rfl,hI.step (by omega) q2⟩⟩;refine Step.mk0 (A:=A18) (m:=0) Zi rfl rfl qh (h1:=[ub 0 n fun e=>bif e==0+j then y' (0+(j+1)) else bif e==0+(j+1) then y' (0+j) else y' e]) ?_ (YU fun e=>?_)
    ·refine Eq.trans (qfV n a b i j y') ?_;rw[qn (j+1),ej,QJ]
     (repeat (first|refine BT ?_|refine BG ?_))
     rfl
    ·rw[Nat.zero_add,Nat.zero_add];by_cases q3:e=j
     ·subst q3;rw[if_pos rfl,beq_self_eq_true,cond_true]
     ·rw[if_neg q3,show(e==j)=false by simpa using q3,cond_false];by_cases q4:e=j+1
      ·subst q4;rw[if_pos rfl,beq_self_eq_true,cond_true]
      ·rw[if_neg q4,show(e==j+1)=false by simpa using q4,cond_false]
   ·refine .inr ⟨_,_,_,?_,y',rfl,rfl,rfl,hI.pr,hI.last (.inr ⟨j,rfl,by omega⟩)⟩;refine Last.mk0 (A:=A18) (m:=0) Zi rfl rfl qh (h1:=[ub 0 n y']) (by simp) ?_ (.refl _);refine Eq.trans (qfV n a b i j y') ?_;rw[qn (j+1),ej,QJ]
    (repeat (first|refine BT ?_|refine BG ?_))
    rfl
  ·obtain rfl:m=a:=by omega
   refine .inr ⟨_,_,_,?_,y',rfl,rfl,rfl,hI.pr,hI.last (.inl rfl)⟩;refine Last.mk0 (A:=A18) (m:=0) Zi rfl rfl qh (h1:=[ub 0 n y']) (by simp) ?_ (.refl _);refine Eq.trans (show qA P18 G18 A18 K82 0 76 [] 4 (qdc n m b i m) [ub 0 n y'] =
( bif decide (ofNat m<ofNat m) then gD (decide (0<=ofNat m)&&decide (ofNat m<ofNat n))<|gD (((0:Nat)+m).blt n)<|gD (decide (0<=i64.wrap (ofNat m-1))&&decide (i64.wrap (ofNat m-1)<ofNat n))<|gD (((0:Nat)+(i64.wrap (ofNat m-(1:Int))).toNat).blt n)<|bif decide (y' (0+m)<y' ((0:Nat)+(i64.wrap (ofNat m-(1:Int))).toNat)) then gD (decide (0<=i64.wrap (ofNat m-1))&&decide (i64.wrap (ofNat m-1)<ofNat n))<|gD (((0:Nat)+(i64.wrap (ofNat m-(1:Int))).toNat).blt n)<|gD (decide (0<=ofNat m)&&decide (ofNat m<ofNat n))<|gD (((0:Nat)+m).blt n)<|gD (decide (0<=ofNat m)&&decide (ofNat m<ofNat n))<|gD (((0:Nat)+m).blt n&&true&&true&&true)<|gD (decide (0<=i64.wrap (ofNat m-1))&&decide (i64.wrap (ofNat m-1)<ofNat n))<|gD (((0:Nat)+(i64.wrap (ofNat m-(1:Int))).toNat).blt n&&true&&true&&true)<|zN (qdc n m b (ofNat i) (i64.wrap (ofNat m-1))) [ub (0:Nat) n fun j =>
 bif j==(0:Nat)+(i64.wrap (ofNat m-(1:Int))).toNat then y' (0+m)
 else
 bif j==0+m then y' ((0:Nat)+(i64.wrap (ofNat m-(1:Int))).toNat)
 else y' j] else
 zX 2 (Q9 n m b (ofNat i)) [ub (0:Nat) n y'] else
 zX 2 (Q9 n m b (ofNat i)) [ub (0:Nat) n y']) from by kernel_rfl) ?_
   (repeat (first|refine BT ?_|refine BG ?_))
   rfl
 ·rintro e ⟨vs1,h1,⟨z,rfl,rfl,rfl,hz⟩,hl⟩;exact⟨z,hz,hl⟩
theorem l76(n a b:Nat)(x:Nat->Int)(hn:n<=1000)(hb:b<=n)(hab:a<=b) :
 ∃z,(Pr x z a b/\Asc z a b)/\LoopOk P18 G18 (A18 76) 76 1 (qE (Q9 n a b (a+1:Nat)) [ub 0 n x] (.exit 0) [] [ub 0 n z]):=by
 refine Exists.elim (Qv (P:=P18) (Gl:=G18) (f:=76) (r:=1) (an:=A18 76) (k:=1) qv (by kernel_rfl)
  (fun m vs h=>∃i y,m=b-i/\a<i/\vs=Q9 n a b i/\h=[ub 0 n y]/\Pr x y a b/\Asc y a (min i b))
  (fun e vs1 h1=>∃z,e = .exit 0/\vs1=[]/\h1=[ub 0 n z]/\(Pr x z a b/\Asc z a b))
  (fun m vs h ⟨i,y,hm,hai,hv,hh,hI⟩=>?_) (n:=b-(a+1)) (vs:=Q9 n a b (a+1:Nat)) (h:=[ub 0 n x]) rfl ⟨a+1,x,rfl,by omega,rfl,rfl,.refl _ _ _,fun p q _ _ _=>by omega⟩) ?_
 ·subst hm hv hh;rcases Nat.lt_or_ge i b with q|q
  ·rw[Nat.min_eq_left (by omega)] at hI;obtain⟨z,hz,hl⟩:=qnO n a b x y i hn hb (by omega) q hI.1 hI.2;refine .inl ⟨b-(i+1),_,_,by omega,?_,⟨i+1,z,rfl,by omega,rfl,rfl,hz.1,by rw[Nat.min_eq_left (by omega)];exact hz.2⟩⟩;refine Step.mk0 (A:=A18) (m:=0) qf rfl rfl (qK hl) (h1:=[ub 0 n z]) ?_ (.refl _);refine Eq.trans (show qA P18 G18 A18 qk 0 76 [(4,qE (qdc n a b i i) [ub 0 n y] (.exit 2) (Q9 n a b i) [ub 0 n z])] 1 (Q9 n a b i) [ub 0 n y] =
( bif decide (ofNat i<ofNat b) then gD (qS (qdc n a b (ofNat i) (ofNat i)) [ub (0:Nat) n y] (qdc n a b (ofNat i) (ofNat i)) [ub (0:Nat) n y])<|zN (Q9 n a b (i64.wrap (ofNat i+1))) [ub (0:Nat) n z] else
 zX 0 [] [ub (0:Nat) n y]) from by kernel_rfl) ?_
   (repeat (first|refine BT ?_|refine BG ?_))
   refine qm (qw ⟨rfl,.refl _⟩) ?_;rw[qn i,qI (x:=(i:Int)+1) (by omega) (by omega)];rfl
  ·rw[Nat.min_eq_right q] at hI;refine .inr ⟨_,_,_,?_,y,rfl,rfl,rfl,hI⟩;refine Last.mk0 (A:=A18) (m:=0) qf rfl rfl qh (h1:=[ub 0 n y]) (by simp) ?_ (.refl _);refine Eq.trans (show qA P18 G18 A18 qk 0 76 [] 1 (Q9 n a b i) [ub 0 n y] =
( bif decide (ofNat i<ofNat b) then none else
 zX 0 [] [ub (0:Nat) n y]) from by kernel_rfl) ?_
   (repeat (first|refine BT ?_|refine BG ?_))
   rfl
 ·rintro e ⟨vs1,h1,⟨z,rfl,rfl,rfl,hz⟩,hl⟩;exact⟨z,hz,hl⟩
theorem qmb(n a b:Nat)(x:Nat->Int)(hn:n<=1000)(hb:b<=n)(hab:a<=b) :
 ∃z,(Pr x z a b/\Asc z a b)/\ToldRef P18 G18 76 [.own 0 0 0 n none,iI a,iI b] [ub 0 n x] (.tup []) [ub 0 n z]:=by
 obtain⟨z,hz,hl⟩:=l76 n a b x hn hb hab;refine⟨z,hz,?_⟩;refine Qu qv q9 qf (A:=A18) (m:=0) (by kernel_rfl) (qK hl) ?_;refine Eq.trans (show ZN P18 G18 A18 qk 0 76 [(1,qE (Q9 n a b (a+1:Nat)) [ub 0 n x] (.exit 0) [] [ub 0 n z])] [.own 0 0 0 n none,iI a,iI b] [ub 0 n x] =
( gD (qS (Q9 n a b (i64.wrap (ofNat a+1))) [ub (0:Nat) n x] (Q9 n a b (ofNat (a+1))) [ub (0:Nat) n x])<|some ((.tup [],[ub (0:Nat) n z]))) from by kernel_rfl) ?_
 rw[qn a,qI (x:=(a:Int)+1) (by omega) (by omega)];refine qm (qw ⟨rfl,.refl _⟩) ?_;rfl
noncomputable def K70(p:List T->qg->T->qg->Prop)(n:Nat)(z:Nat->Int):Orc:=qk.addRef 76 (qa4 p fun _ _=>some (.tup [],[ub 0 n z]))
noncomputable def K86:Orc:=qk.inl P18 G18 A18 qk 0 86
noncomputable def K61(p71:List T->T->Prop)(lim:Int)(p:List T->qg->T->qg->Prop)(n:Nat)(z:Nat->Int):Orc:=(qk.add 71 (qL p71 fun _=>some (iI lim))).addRef 70 (qa4 p fun _ _=>some (.tup [],[ub 0 n z]))
theorem qdK{x:Int}(h1:0<=x)(h2:x<=1000000):IntKind.u64.wrap x=x:=by
 simp only[IntKind.wrap,IntKind.signed,IntKind.bits];simp;omega
theorem KH(n lim:Nat)(h1:lim<=10)(h2:12<n->n<=lim+12)(h:QU P18 G18 A18 K86 0 71 [.int .u64 n]=some (iI (lim:Nat))):∃l:Nat,l<=10/\(12<n->n<=l+12)/\ToldOk P18 G18 71 [.int .u64 n] (iI (l:Nat)):=⟨lim,h1,h2,qP qv q9 (yt qv q9 qf qf) h⟩
theorem qnP(n:Nat)(hn:n<=16):∃lim:Nat,lim<=10/\(12<n->n<=lim+12)/\ToldOk P18 G18 71 [.int .u64 n] (iI (lim:Nat)):=by
 obtain h|h:n<=8∨9<=n:=by omega
 ·obtain rfl|rfl|rfl|rfl|rfl|rfl|rfl|rfl|rfl:n=0∨n=1∨n=2∨n=3∨n=4∨n=5∨n=6∨n=7∨n=8:=by omega
  ·exact KH 0 0 (by omega) (by omega) (by kernel_rfl)
  ·exact KH 1 1 (by omega) (by omega) (by kernel_rfl)
  ·exact KH 2 2 (by omega) (by omega) (by kernel_rfl)
  ·exact KH 3 2 (by omega) (by omega) (by kernel_rfl)
  ·exact KH 4 3 (by omega) (by omega) (by kernel_rfl)
  ·exact KH 5 3 (by omega) (by omega) (by kernel_rfl)
  ·exact KH 6 3 (by omega) (by omega) (by kernel_rfl)
  ·exact KH 7 3 (by omega) (by omega) (by kernel_rfl)
  ·exact KH 8 4 (by omega) (by omega) (by kernel_rfl)
 ·obtain rfl|rfl|rfl|rfl|rfl|rfl|rfl|rfl:n=9∨n=10∨n=11∨n=12∨n=13∨n=14∨n=15∨n=16:=by omega
  ·exact KH 9 4 (by omega) (by omega) (by kernel_rfl)
  ·exact KH 10 4 (by omega) (by omega) (by kernel_rfl)
  ·exact KH 11 4 (by omega) (by omega) (by kernel_rfl)
  ·exact KH 12 4 (by omega) (by omega) (by kernel_rfl)
  ·exact KH 13 4 (by omega) (by omega) (by kernel_rfl)
  ·exact KH 14 4 (by omega) (by omega) (by kernel_rfl)
  ·exact KH 15 4 (by omega) (by omega) (by kernel_rfl)
  ·exact KH 16 5 (by omega) (by omega) (by kernel_rfl)
structure CompOk(y z:Nat->Int)(n k:Nat):Prop where
 k1:1<=k
 kn:k<=n
 asc:SAsc z k
 mem:∀v,Mem z 0 k v↔Mem y 0 n v
theorem Cmp.ok{y z:Nat->Int}{n k:Nat}(h:Cmp y z n k n):CompOk y z n k:=⟨h.k1,h.km,h.asc,h.mem⟩
theorem CompOk.congr{y z w:Nat->Int}{n k:Nat}(h:CompOk y z n k)(he:∀j,j<k->w j=z j):CompOk y w n k :=
 ⟨h.k1,h.kn,fun p q h1 h2=>by rw[he p (by omega),he q h2];exact h.asc p q h1 h2,fun v=>(qdJ (fun j _ hj=>he j hj)).trans (h.mem v)⟩
theorem qnQ(n i0:Nat)(y:Nat->Int)(hn:n<=1000)(hi:i0<n)(hs:Asc y 0 n)(hc:Cmp y y n i0 (i0+1)) :
 ∃z k,CompOk y z n k/\LoopOk P18 G18 (A18 62) 62 9 (qE (qgU n i0 i0 1) [ub 0 n y] (.exit 2) (v62 n k) [ub 0 n z]):=by
 refine Exists.elim (Qv (P:=P18) (Gl:=G18) (f:=62) (r:=9) (an:=A18 62) (k:=1) qv (by kernel_rfl)
  (fun s vs h=>∃m k z,s=n-(i0+(m+1))/\vs=qgU n k i0 (m+1)/\h=[ub 0 n z]/\Cmp y z n k (i0+(m+1)))
  (fun e vs1 h1=>∃z k,e = .exit 2/\vs1=v62 n k/\h1=[ub 0 n z]/\CompOk y z n k)
  (fun s vs h ⟨m,k,z,hm,hv,hh,hI⟩=>?_) (n:=n-(i0+(0+1))) (vs:=qgU n i0 i0 1) (h:=[ub 0 n y]) rfl ⟨0,i0,y,rfl,rfl,rfl,hc⟩) ?_
 ·subst hm hv hh;have h1:=hI.km;have h2:=hI.mn;have h3:=hI.keep (i0+(m+1)) (Nat.le_refl _);have h4:=hI.at1;rw[show i0+(m+1)-1=i0+m by omega] at h4;have ej:i64.wrap (((m+1:Nat):Int)-1)=(m:Int):=by rw[qI (by omega) (by omega)];omega
  have ej2:i64.wrap (((m+1:Nat):Int)+1)=((m+1:Nat):Int)+1:=qI (by omega) (by omega);have ek:i64.wrap ((k:Int)+1)=((k+1:Nat):Int):=by rw[qI (by omega) (by omega)];omega
  rcases Nat.lt_or_ge (i0+(m+1)) n with q|q
  ·by_cases q2:z (i0+(m+1))=z (i0+m)
   ·refine .inl ⟨n-(i0+(m+1+1)),_,_,by omega,?_,⟨m+1,k,z,rfl,rfl,rfl,hI.same q (by rw[show i0+(m+1)-1=i0+m by omega,←h3,←h4];exact q2)⟩⟩;refine Step.mk0 (A:=A18) (m:=0) qf rfl rfl qh (h1:=[ub 0 n z]) ?_ (.refl _);refine Eq.trans (show qA P18 G18 A18 qk 0 62 [] 9 (qgU n k i0 (m+1)) [ub 0 n z] =
( bif decide (ofNat (m+1)<ofNat (n-i0)) then gD (decide (0<=ofNat (m+1))&&decide (ofNat (m+1)<ofNat (n-i0)))<|gD ((i0+(m+(1:Nat))).blt n)<|gD (decide (0<=i64.wrap (ofNat (m+1)-(1:Int)))&&decide (i64.wrap (ofNat (m+1)-(1:Int))<ofNat (n-i0)))<|gD ((i0+(i64.wrap (ofNat (m+(1:Nat))-(1:Int))).toNat).blt n)<|bif !decide (z (i0+(m+1))=z (i0+(i64.wrap (ofNat (m+(1:Nat))-(1:Int))).toNat)) then gD (decide (0<=ofNat (m+1))&&decide (ofNat (m+1)<ofNat (n-i0)))<|gD ((i0+(m+(1:Nat))).blt n)<|gD (decide (0<=ofNat k)&&decide (ofNat k<ofNat n))<|gD (((0:Nat)+k).blt n&&[uI (z (i0+(m+(1:Nat))))].length==(1:Nat)&&true&&true)<|zN [.own 0 0 0 n
 none,iI (i64.wrap (ofNat k+1)),.own 0 0 i0 (n-i0)
 none,iI (i64.wrap (ofNat (m+1)+(1:Int)))] [.mk 0 1 n (fun e=>[uI (bif e==0+k then z (i0+(m+1))
 else z e)]) true false
 none] else
 zN [.own 0 0 0 n
 none,iI (.ofNat k),.own 0 0 i0 (n-i0)
 none,iI (i64.wrap (ofNat (m+1)+(1:Int)))] [.mk 0 1 n (fun j=>[uI (z j)]) true false
 none] else
 zX 2 [.own 0 0 0 n
 none,iI (.ofNat k)] [.mk 0 1 n (fun j=>[uI (z j)]) true false
 none]) from by kernel_rfl) ?_
    rw[qn (m+1),ej,ej2,QJ]
    (repeat (first|refine BT ?_|refine BG ?_))
    first|rfl|(refine qZ (by simp[q2]) ?_;rfl)
   ·refine .inl ⟨n-(i0+(m+1+1)),_,_,by omega,?_,⟨m+1,k+1,_,rfl,rfl,rfl,hI.new hs q (by rw[show i0+(m+1)-1=i0+m by omega,←h3,←h4];exact q2)⟩⟩;refine Step.mk0 (A:=A18) (m:=0) qf rfl rfl qh (h1:=[ub 0 n fun e=>bif e==0+k then z (i0+(m+1)) else z e]) ?_ (YU fun e=>?_)
    ·refine Eq.trans (show qA P18 G18 A18 qk 0 62 [] 9 (qgU n k i0 (m+1)) [ub 0 n z] =
( bif decide (ofNat (m+1)<ofNat (n-i0)) then gD (decide (0<=ofNat (m+1))&&decide (ofNat (m+1)<ofNat (n-i0)))<|gD ((i0+(m+(1:Nat))).blt n)<|gD (decide (0<=i64.wrap (ofNat (m+1)-(1:Int)))&&decide (i64.wrap (ofNat (m+1)-(1:Int))<ofNat (n-i0)))<|gD ((i0+(i64.wrap (ofNat (m+(1:Nat))-(1:Int))).toNat).blt n)<|bif !decide (z (i0+(m+1))=z (i0+(i64.wrap (ofNat (m+(1:Nat))-(1:Int))).toNat)) then gD (decide (0<=ofNat (m+1))&&decide (ofNat (m+1)<ofNat (n-i0)))<|gD ((i0+(m+(1:Nat))).blt n)<|gD (decide (0<=ofNat k)&&decide (ofNat k<ofNat n))<|gD (((0:Nat)+k).blt n&&[uI (z (i0+(m+(1:Nat))))].length==(1:Nat)&&true&&true)<|zN [.own 0 0 0 n
 none,iI (i64.wrap (ofNat k+1)),.own 0 0 i0 (n-i0)
 none,iI (i64.wrap (ofNat (m+1)+(1:Int)))] [.mk 0 1 n (fun e=>[uI (bif e==0+k then z (i0+(m+1))
 else z e)]) true false
 none] else
 zN [.own 0 0 0 n
 none,iI (.ofNat k),.own 0 0 i0 (n-i0)
 none,iI (i64.wrap (ofNat (m+1)+(1:Int)))] [.mk 0 1 n (fun j=>[uI (z j)]) true false
 none] else
 zX 2 [.own 0 0 0 n
 none,iI (.ofNat k)] [.mk 0 1 n (fun j=>[uI (z j)]) true false
 none]) from by kernel_rfl) ?_
     rw[qn (m+1),ej,ej2,QJ,qn k,ek]
     (repeat (first|refine BT ?_|refine BG ?_))
     rfl
    ·rw[Nat.zero_add];by_cases q3:e=k
     ·rw[if_pos q3,show(e==k)=true by simpa using q3,cond_true]
     ·rw[if_neg q3,show(e==k)=false by simpa using q3,cond_false]
  ·have e:i0+(m+1)=n:=by omega
   rw[e] at hI;refine .inr ⟨_,_,_,?_,z,k,rfl,rfl,rfl,hI.ok⟩;refine Last.mk0 (A:=A18) (m:=0) qf rfl rfl qh (h1:=[ub 0 n z]) (by simp) ?_ (.refl _);refine Eq.trans (show qA P18 G18 A18 qk 0 62 [] 9 (qgU n k i0 (m+1)) [ub 0 n z] =
( bif decide (ofNat (m+1)<ofNat (n-i0)) then gD (decide (0<=ofNat (m+1))&&decide (ofNat (m+1)<ofNat (n-i0)))<|gD ((i0+(m+(1:Nat))).blt n)<|gD (decide (0<=i64.wrap (ofNat (m+1)-(1:Int)))&&decide (i64.wrap (ofNat (m+1)-(1:Int))<ofNat (n-i0)))<|gD ((i0+(i64.wrap (ofNat (m+(1:Nat))-(1:Int))).toNat).blt n)<|bif !decide (z (i0+(m+1))=z (i0+(i64.wrap (ofNat (m+(1:Nat))-(1:Int))).toNat)) then gD (decide (0<=ofNat (m+1))&&decide (ofNat (m+1)<ofNat (n-i0)))<|gD ((i0+(m+(1:Nat))).blt n)<|gD (decide (0<=ofNat k)&&decide (ofNat k<ofNat n))<|gD (((0:Nat)+k).blt n&&[uI (z (i0+(m+(1:Nat))))].length==(1:Nat)&&true&&true)<|zN [.own 0 0 0 n
 none,iI (i64.wrap (ofNat k+1)),.own 0 0 i0 (n-i0)
 none,iI (i64.wrap (ofNat (m+1)+(1:Int)))] [.mk 0 1 n (fun e=>[uI (bif e==0+k then z (i0+(m+1))
 else z e)]) true false
 none] else
 zN [.own 0 0 0 n
 none,iI (.ofNat k),.own 0 0 i0 (n-i0)
 none,iI (i64.wrap (ofNat (m+1)+(1:Int)))] [.mk 0 1 n (fun j=>[uI (z j)]) true false
 none] else
 zX 2 [.own 0 0 0 n
 none,iI (.ofNat k)] [.mk 0 1 n (fun j=>[uI (z j)]) true false
 none]) from by kernel_rfl) ?_
   (repeat (first|refine BT ?_|refine BG ?_))
   rfl
 ·rintro e ⟨vs1,h1,⟨z,k,rfl,rfl,rfl,hz⟩,hl⟩;exact⟨z,k,hz,hl⟩
theorem l62(n:Nat)(y:Nat->Int)(hn:n<=1000)(h1:1<=n)(hs:Asc y 0 n) :
 ∃e r z k,(e = .ret/\r = .own 0 0 0 k none∨e = .exit 0/\r = .undef/\k=n)/\CompOk y z n k/\LoopOk P18 G18 (A18 62) 62 4 (qE (v62 n 1) [ub 0 n y] e [.own 0 0 0 n none,r] [ub 0 n z]):=by
 refine Exists.elim (Qv (P:=P18) (Gl:=G18) (f:=62) (r:=4) (an:=A18 62) (k:=1) qv (by kernel_rfl)
  (fun s vs h=>∃k,s=n-(k+1)/\vs=v62 n (k+1)/\h=[ub 0 n y]/\Cmp y y n (k+1) (k+1))
  (fun e vs1 h1=>∃r z k,(e = .ret/\r = .own 0 0 0 k none∨e = .exit 0/\r = .undef/\k=n)/\vs1=[.own 0 0 0 n none,r]/\h1=[ub 0 n z]/\CompOk y z n k)
  (fun s vs h ⟨k,hm,hv,hh,hI⟩=>?_) (n:=n-(0+1)) (vs:=v62 n 1) (h:=[ub 0 n y]) rfl ⟨0,rfl,rfl,rfl,Cmp.start y h1⟩) ?_
 ·subst hm hv hh;have ej:i64.wrap (((k+1:Nat):Int)-1)=(k:Int):=by rw[qI (by have:=hI.mn;omega) (by have:=hI.mn;omega)];omega
  have ej2:i64.wrap (((k+1:Nat):Int)+1)=((k+1:Nat):Int)+1:=qI (by omega) (by have:=hI.mn;omega);rcases Nat.lt_or_ge (k+1) n with q|q
  ·by_cases q2:y (k+1)=y k
   ·obtain⟨z,j,hz,hl⟩:=qnQ n (k+1) y hn q hs (hI.same q q2);have hj:=hz.kn;have hj1:=hz.k1;refine .inr ⟨_,_,_,?_,_,(fun i=>bif Nat.ble (0+j) i&&Nat.blt i (0+j+(n-j)) then 0 else z i),j,.inl ⟨rfl,rfl⟩,rfl,rfl,hz.congr fun i hi=>?_⟩
    ·refine Last.mk0 (A:=A18) (m:=0) qf rfl rfl (qK hl) (h1:=[⟨0,1,n,fun i=>bif Nat.ble (0+j) i&&Nat.blt i (0+j+(n-j)) then [uI 0] else [uI (z i)],true,false,none⟩]) (by simp) ?_ (.cons ⟨rfl,rfl,rfl,id,fun i hi=>?_⟩ .nil)
     ·refine Eq.trans (show qA P18 G18 A18 qk 0 62 [(9,qE (qgU n (k+1:Nat) (k+1) 1) [ub 0 n y] (.exit 2) (v62 n j) [ub 0 n z])] 4 (v62 n (k+1)) [ub 0 n y] =
( bif decide (ofNat (k+1)<ofNat n) then gD (decide (0<=ofNat (k+1))&&decide (ofNat (k+1)<ofNat n))<|gD (((0:Nat)+(k+(1:Nat))).blt n)<|gD (decide (0<=i64.wrap (ofNat (k+1)-(1:Int)))&&decide (i64.wrap (ofNat (k+1)-(1:Int))<ofNat n))<|gD (((0:Nat)+(i64.wrap (ofNat (k+(1:Nat))-(1:Int))).toNat).blt n)<|bif decide (y ((0:Nat)+(k+1))=y ((0:Nat)+(i64.wrap (ofNat (k+(1:Nat))-(1:Int))).toNat)) then gD (decide (0<=ofNat (k+1))&&decide (ofNat (k+1)<=ofNat n)&&decide (ofNat n<=ofNat (n-0)))<|gD (qS [.own 0 0 0 n
 none,iI (.ofNat (k+1)),.own 0 0 ((0:Nat)+(k+1)) (n-(k+1))
 none,iI 1] [.mk 0 1 n (fun j=>[uI (y j)]) true false
 none] [.own 0 0 0 n
 none,iI (.ofNat (k+1)),.own 0 0 (k+1) (n-(k+1))
 none,iI 1] [.mk 0 1 n (fun j=>[uI (y j)]) true false
 none])<|gD (decide (0<=ofNat j)&&decide (ofNat j<=ofNat n)&&decide (ofNat n<=ofNat (n-0)))<|gD (((0:Nat)+j+(n-j)).ble n)<|gD (decide (0<=ofNat j)&&decide (ofNat j<=ofNat (n-0)))<|zR [.own 0 0 0 n
 none,.own 0 0 0 (j-0)
 none] [.mk 0 1 n (fun j_1 =>
 bif ((0:Nat)+j).ble j_1&&j_1.blt (0+j+(n-j)) then [uI 0]
 else [uI (z j_1)]) true false
 none] else
 zN [.own 0 0 0 n
 none,iI (i64.wrap (ofNat (k+1)+(1:Int)))] [.mk 0 1 n (fun j=>[uI (y j)]) true false
 none] else
 zX 0 [.own 0 0 0 n
 none,.undef] [.mk 0 1 n (fun j=>[uI (y j)]) true false
 none]) from by kernel_rfl) ?_
      rw[qn (k+1),ej,QJ];clear hz hs hI
      (repeat (first|refine BT ?_|refine BG ?_))
      refine qm (qw ⟨by rw[Nat.zero_add],.refl _⟩) ?_
      (repeat (first|refine BT ?_|refine BG ?_))
      rfl
     ·show [uI (bif Nat.ble (0+j) i&&Nat.blt i (0+j+(n-j)) then 0 else z i)]=bif Nat.ble (0+j) i&&Nat.blt i (0+j+(n-j)) then [uI 0] else [uI (z i)];cases Nat.ble (0+j) i&&Nat.blt i (0+j+(n-j))<;>rfl
    ·show(bif Nat.ble (0+j) i&&Nat.blt i (0+j+(n-j)) then 0 else z i)=z i;rw[qa2 (by omega)];rfl
   ·refine .inl ⟨n-(k+1+1),_,_,by omega,?_,⟨k+1,rfl,rfl,rfl,hI.pre hs q q2⟩⟩;refine Step.mk0 (A:=A18) (m:=0) qf rfl rfl qh (h1:=[ub 0 n y]) ?_ (.refl _);refine Eq.trans (show qA P18 G18 A18 qk 0 62 [] 4 (v62 n (k+1)) [ub 0 n y] =
( bif decide (ofNat (k+1)<ofNat n) then gD (decide (0<=ofNat (k+1))&&decide (ofNat (k+1)<ofNat n))<|gD (((0:Nat)+(k+(1:Nat))).blt n)<|gD (decide (0<=i64.wrap (ofNat (k+1)-(1:Int)))&&decide (i64.wrap (ofNat (k+1)-(1:Int))<ofNat n))<|gD (((0:Nat)+(i64.wrap (ofNat (k+(1:Nat))-(1:Int))).toNat).blt n)<|bif decide (y ((0:Nat)+(k+1))=y ((0:Nat)+(i64.wrap (ofNat (k+(1:Nat))-(1:Int))).toNat)) then gD (decide (0<=ofNat (k+1))&&decide (ofNat (k+1)<=ofNat n)&&decide (ofNat n<=ofNat (n-0))) none else
 zN [.own 0 0 0 n
 none,iI (i64.wrap (ofNat (k+1)+(1:Int)))] [.mk 0 1 n (fun j=>[uI (y j)]) true false
 none] else
 zX 0 [.own 0 0 0 n
 none,.undef] [.mk 0 1 n (fun j=>[uI (y j)]) true false
 none]) from by kernel_rfl) ?_
    rw[qn (k+1),ej,ej2,QJ];clear hs hI
    (repeat (first|refine BT ?_|refine BG ?_))
    rfl
  ·have hmn:=hI.mn;have e:k+1=n:=by omega
   rw[e] at hI;refine .inr ⟨_,_,_,?_,_,y,n,.inr ⟨rfl,rfl,rfl⟩,rfl,rfl,hI.ok⟩;clear hs hI;refine Last.mk0 (A:=A18) (m:=0) qf rfl rfl qh (h1:=[ub 0 n y]) (by simp) ?_ (.refl _);refine Eq.trans (show qA P18 G18 A18 qk 0 62 [] 4 (v62 n (k+1)) [ub 0 n y] =
( bif decide (ofNat (k+1)<ofNat n) then gD (decide (0<=ofNat (k+1))&&decide (ofNat (k+1)<ofNat n))<|gD (((0:Nat)+(k+(1:Nat))).blt n)<|gD (decide (0<=i64.wrap (ofNat (k+1)-(1:Int)))&&decide (i64.wrap (ofNat (k+1)-(1:Int))<ofNat n))<|gD (((0:Nat)+(i64.wrap (ofNat (k+(1:Nat))-(1:Int))).toNat).blt n)<|bif decide (y ((0:Nat)+(k+1))=y ((0:Nat)+(i64.wrap (ofNat (k+(1:Nat))-(1:Int))).toNat)) then gD (decide (0<=ofNat (k+1))&&decide (ofNat (k+1)<=ofNat n)&&decide (ofNat n<=ofNat (n-0))) none else
 zN [.own 0 0 0 n
 none,iI (i64.wrap (ofNat (k+1)+(1:Int)))] [.mk 0 1 n (fun j=>[uI (y j)]) true false
 none] else
 zX 0 [.own 0 0 0 n
 none,.undef] [.mk 0 1 n (fun j=>[uI (y j)]) true false
 none]) from by kernel_rfl) ?_
   (repeat (first|refine BT ?_|refine BG ?_))
   rfl
 ·rintro e ⟨vs1,h1,⟨r,z,k,he,rfl,rfl,hz⟩,hl⟩;exact⟨e,r,z,k,he,hz,hl⟩
theorem qmc(n:Nat)(y:Nat->Int)(hn:n<=1000)(h1:1<=n)(hs:Asc y 0 n) :
 ∃z k,CompOk y z n k/\ToldRef P18 G18 62 [.own 0 0 0 n none] [ub 0 n y] (.own 0 0 0 k none) [ub 0 n z]:=by
 obtain⟨e,r,z,k,he,hz,hl⟩:=l62 n y hn h1 hs;have hk:=hz.kn;rcases Nat.lt_or_ge n 2 with q|q
 ·obtain rfl:n=1:=by omega
  refine⟨y,1,⟨Nat.le_refl _,Nat.le_refl _,fun p q h1 h2=>by omega,fun _=>Iff.rfl⟩,?_⟩;refine Qu qv q9 qf (A:=A18) (m:=0) (by kernel_rfl) (l:=[]) qh ?_;refine Eq.trans (show ZN P18 G18 A18 qk 0 62 [] [.own 0 0 0 1 none] [ub 0 1 y] =
( some ((.own 0 0 0 1
 none,[.mk 0 1 1 (fun j=>[uI (y j)]) true false
 none]))) from by kernel_rfl) ?_
  rfl
 ·refine⟨z,k,hz,?_⟩;rcases he with⟨rfl,rfl⟩|⟨rfl,rfl,rfl⟩
  ·refine Qu qv q9 qf (A:=A18) (m:=0) (by kernel_rfl) (qK hl) ?_;refine Eq.trans (show ZN P18 G18 A18 qk 0 62 [(4,qE (v62 n 1) [ub 0 n y] .ret [.own 0 0 0 n none,.own 0 0 0 k none] [ub 0 n z])] [.own 0 0 0 n none] [ub 0 n y] =
( bif decide (ofNat n<2) then some ((.own 0 0 0 n
 none,[.mk 0 1 n (fun j=>[uI (y j)]) true false
 none])) else
 gD (qS [.own 0 0 0 n
 none,iI 1] [.mk 0 1 n (fun j=>[uI (y j)]) true false
 none] [.own 0 0 0 n
 none,iI 1] [.mk 0 1 n (fun j=>[uI (y j)]) true false
 none])<|some ((.own 0 0 0 k
 none,[.mk 0 1 n (fun j=>[uI (z j)]) true false
 none]))) from by kernel_rfl) ?_
   (repeat (first|refine BT ?_|refine BG ?_))
   refine qm (qw ⟨rfl,.refl _⟩) ?_;rfl
  ·refine Qu qv q9 qf (A:=A18) (m:=0) (by kernel_rfl) (qK hl) ?_;refine Eq.trans (show ZN P18 G18 A18 qk 0 62 [(4,qE (v62 k 1) [ub 0 k y] (.exit 0) [.own 0 0 0 k none,.undef] [ub 0 k z])] [.own 0 0 0 k none] [ub 0 k y] =
( bif decide (ofNat k<2) then some ((.own 0 0 0 k
 none,[.mk 0 1 k (fun j=>[uI (y j)]) true false
 none])) else
 gD (qS [.own 0 0 0 k
 none,iI 1] [.mk 0 1 k (fun j=>[uI (y j)]) true false
 none] [.own 0 0 0 k
 none,iI 1] [.mk 0 1 k (fun j=>[uI (y j)]) true false
 none])<|some ((.own 0 0 0 k
 none,[.mk 0 1 k (fun j=>[uI (z j)]) true false
 none]))) from by kernel_rfl) ?_
   (repeat (first|refine BT ?_|refine BG ?_))
   refine qm (qw ⟨rfl,.refl _⟩) ?_;rfl
def Out(y:Nat->Int)(n a b:Nat):Prop:=∀p q,p<q->q<n->(p<a∨b<=p∨q<a∨b<=q)->y p<=y q
theorem Out.start(y:Nat->Int)(n:Nat):Out y n 0 n:=fun p q h1 h2 h=>by omega
theorem Pr.inside{y z:Nat->Int}{a b:Nat}(h:Pr y z a b){p:Nat}(h1:a<=p)(h2:p<b):∃e,a<=e/\e<b/\y e=z p:=(h.mem (z p)).1 ⟨p,h1,h2,rfl⟩
theorem Out.move{y z:Nat->Int}{n a b:Nat}(h:Out y n a b)(hp:Pr y z a b)(hb:b<=n):Out z n a b:=by
 intro p q h1 h2 h3;by_cases hpi:a<=p/\p<b
 ·by_cases hqi:a<=q/\q<b
  ·omega
  ·rw[hp.out q (by omega)];obtain⟨e,e1,e2,e3⟩:=hp.inside hpi.1 hpi.2;rw[←e3];exact h e q (by omega) h2 (by omega)
 ·rw[hp.out p (by omega)];by_cases hqi:a<=q/\q<b
  ·obtain⟨e,e1,e2,e3⟩:=hp.inside hqi.1 hqi.2;rw[←e3];exact h p e (by omega) (by omega) (by omega)
  ·rw[hp.out q (by omega)];exact h p q h1 h2 (by omega)
theorem Out.asc{y:Nat->Int}{n a b:Nat}(h:Out y n a b)(hs:Asc y a b):Asc y 0 n:=by
 intro p q h1 h2 h3;by_cases hh:a<=p/\q<b
 ·exact hs p q hh.1 h2 hh.2
 ·exact h p q h2 h3 (by omega)
theorem Out.right{y:Nat->Int}{n a b m:Nat}(h:Out y n a b)(hm:a<=m)(hb:m<=b)(hs:∀p q,a<=p->p<q->q<b->p<m->y p<=y q):Out y n m b:=by
 intro p q h1 h2 h3;by_cases hh:a<=p/\q<b
 ·exact hs p q hh.1 h1 hh.2 (by omega)
 ·exact h p q h1 h2 (by omega)
theorem Out.left{y:Nat->Int}{n a b m:Nat}(h:Out y n a b)(hm:a<=m)(hb:m<=b)(hs:∀p q,a<=p->p<q->q<b->m<=q->y p<=y q):Out y n a m:=by
 intro p q h1 h2 h3;by_cases hh:a<=p/\q<b
 ·exact hs p q hh.1 h1 hh.2 (by omega)
 ·exact h p q h1 h2 (by omega)
structure Parted(y:Nat->Int)(a b m:Nat):Prop where
 lo:a<=m
 hi:m<b
 left:∀p,a<=p->p<m->y p<y m
 right:∀p,m<p->p<b->y m<=y p
theorem Parted.le{y:Nat->Int}{a b m:Nat}(h:Parted y a b m){p q:Nat}(h1:a<=p)(h2:p<q)(h3:q<b)(h4:p<=m)(h5:m<=q):y p<=y q:=by
 have a1:y p<=y m:=by
  by_cases e:p=m
  ·rw[e];exact Int.le_refl _
  ·exact Int.le_of_lt (h.left p h1 (by omega))
 have a2:y m<=y q:=by
  by_cases e:q=m
  ·rw[e];exact Int.le_refl _
  ·exact h.right q (by omega) h3
 exact Int.le_trans a1 a2
theorem Parted.goRight{y z:Nat->Int}{n a b m:Nat}(h:Parted y a b m)(ho:Out y n a b)(hp:Pr y z a m)(hs:Asc z a m)(hb:b<=n):Out z n (m+1) b:=by
 have hlo:=h.lo;have hhi:=h.hi;have ho2:=ho.move (hp.wider (Nat.le_refl _) (by omega)) hb;refine ho2.right (by omega) (by omega) fun p q h1 h2 h3 h4=>?_;by_cases hq:q<m
 ·exact hs p q h1 h2 hq
 ·rw[hp.out q (by omega)];by_cases hpm:p<m
  ·obtain⟨e,e1,e2,e3⟩:=hp.inside h1 hpm;rw[←e3];exact h.le e1 (by omega) h3 (by omega) (by omega)
  ·rw[hp.out p (by omega)];exact h.le h1 h2 h3 (by omega) (by omega)
theorem Parted.goLeft{y z:Nat->Int}{n a b m:Nat}(h:Parted y a b m)(ho:Out y n a b)(hp:Pr y z (m+1) b)(hs:Asc z (m+1) b)(hb:b<=n):Out z n a m:=by
 have hlo:=h.lo;have hhi:=h.hi;have ho2:=ho.move (hp.wider (by omega) (Nat.le_refl _)) hb;refine ho2.left (by omega) (by omega) fun p q h1 h2 h3 h4=>?_;by_cases hq:m<p
 ·exact hs p q (by omega) h2 h3
 ·rw[hp.out p (by omega)];by_cases hqm:m<q
  ·obtain⟨e,e1,e2,e3⟩:=hp.inside (p:=q) (by omega) h3;rw[←e3];exact h.le h1 (by omega) e2 (by omega) (by omega)
  ·rw[hp.out q (by omega)];exact h.le h1 h2 h3 (by omega) (by omega)
theorem Out.equal{y:Nat->Int}{n a b m:Nat}(ho:Out y n a b)(hm:a<=m)(hb:m<=b)(hall:∀p q,a<=p->p<m->a<=q->q<b->y p<=y q):Out y n m b :=
 ho.right hm hb fun p q h1 h2 h3 h4=>hall p q h1 h4 (by omega) h3
def v80(n:Nat)(i j:Int):List T:=[.own 0 0 0 n none,iI i,iI j]
def v81(n a b:Nat)(i t:Int):List T:=[.own 0 0 0 n none,iI a,iI b,iI i,iI t]
noncomputable def K79:Orc:=(K82.inl P18 G18 A18 K82 0 95).inl P18 G18 A18 (K82.inl P18 G18 A18 K82 0 95) 0 93
theorem qhy(n i j:Nat)(y:Nat->Int):qA P18 G18 A18 qk 0 80 [] 2 (v80 n i j) [ub 0 n y] =
( bif decide (ofNat i<ofNat j) then gD (decide (0<=ofNat j)&&decide (ofNat j<ofNat n))<|gD (((0:Nat)+j).blt n)<|gD (decide (0<=ofNat i)&&decide (ofNat i<ofNat n))<|gD (((0:Nat)+i).blt n)<|gD (decide (0<=ofNat i)&&decide (ofNat i<ofNat n))<|gD (((0:Nat)+i).blt n&&true&&true&&true)<|gD (decide (0<=ofNat j)&&decide (ofNat j<ofNat n))<|gD (((0:Nat)+j).blt n&&true&&true&&true)<|zN (v80 n (i64.wrap (ofNat i+1)) (i64.wrap (ofNat j-1))) [ub (0:Nat) n fun j_1 =>
 bif j_1==0+j then y (0+i)
 else
 bif j_1==0+i then y (0+j)
 else y j_1] else
 zX 0 [] [ub (0:Nat) n y]):=by kernel_rfl
theorem qnR(n a b:Nat)(x:Nat->Int)(hn:n<=1000)(hb:b<=n)(hab:a<b) :
 ∃z,Pr x z a b/\ToldRef P18 G18 80 [.own 0 0 0 n none,iI a,iI b] [ub 0 n x] (.tup []) [ub 0 n z]:=by
 have hl:∃z,Pr x z a b/\LoopOk P18 G18 (A18 80) 80 2 (qE (v80 n a (b-1:Nat)) [ub 0 n x] (.exit 0) [] [ub 0 n z]):=by
  refine Exists.elim (Qv (P:=P18) (Gl:=G18) (f:=80) (r:=2) (an:=A18 80) (k:=1) qv (by kernel_rfl)
   (fun m vs h=>∃(i j:Nat) (y:Nat->Int),m=j+1-i/\a<=i/\j<b/\vs=v80 n i j/\h=[ub 0 n y]/\Pr x y a b)
   (fun e vs1 h1=>∃z,e = .exit 0/\vs1=[]/\h1=[ub 0 n z]/\Pr x z a b)
   (fun m vs h ⟨i,j,y,hm,h1,h2,hv,hh,hI⟩=>?_) (n:=b-1+1-a) (vs:=v80 n a (b-1:Nat)) (h:=[ub 0 n x]) rfl ⟨a,b-1,x,rfl,Nat.le_refl _,by omega,rfl,rfl,.refl _ _ _⟩) ?_
  ·subst hm hv hh;by_cases q:i<j
   ·have ei:i64.wrap ((i:Int)+1)=((i+1:Nat):Int):=by rw[qI (by omega) (by omega)];omega
    have ej:i64.wrap ((j:Int)-1)=((j-1:Nat):Int):=by rw[qI (by omega) (by omega)];omega
    refine .inl ⟨j-1+1-(i+1),_,_,by omega,?_,⟨i+1,j-1,_,rfl,by omega,by omega,rfl,rfl,hI.trans (Pr.swap y (i:=j) (j:=i) ⟨by omega,h2⟩ ⟨h1,by omega⟩)⟩⟩;refine Step.mk0 (A:=A18) (m:=0) qf rfl rfl qh (h1:=[ub 0 n fun e=>bif e==0+j then y (0+i) else bif e==0+i then y (0+j) else y e]) ?_ (YU fun e=>?_)
    ·rw[(qhy n i j y)];rw[qn i,qn j,ei,ej];clear hI
     (repeat (first|refine BT ?_|refine BG ?_))
     rfl
    ·rw[Nat.zero_add,Nat.zero_add];by_cases q3:e=j
     ·rw[if_pos q3,show(e==j)=true by simpa using q3,cond_true]
     ·rw[if_neg q3,show(e==j)=false by simpa using q3,cond_false];by_cases q4:e=i
      ·rw[if_pos q4,show(e==i)=true by simpa using q4,cond_true]
      ·rw[if_neg q4,show(e==i)=false by simpa using q4,cond_false]
   ·refine .inr ⟨_,_,_,?_,y,rfl,rfl,rfl,hI⟩;refine Last.mk0 (A:=A18) (m:=0) qf rfl rfl qh (h1:=[ub 0 n y]) (by simp) ?_ (.refl _);rw[(qhy n i j y)];clear hI
    (repeat (first|refine BT ?_|refine BG ?_))
    rfl
  ·rintro e ⟨vs1,h1,⟨z,rfl,rfl,rfl,hz⟩,hl⟩;exact⟨z,hz,hl⟩
 obtain⟨z,hz,hl⟩:=hl;refine⟨z,hz,?_⟩;refine Qu qv q9 qf (A:=A18) (m:=0) (by kernel_rfl) (qK hl) ?_;rw[(show ZN P18 G18 A18 qk 0 80 [(2,qE (v80 n a (b-1:Nat)) [ub 0 n x] (.exit 0) [] [ub 0 n z])] [.own 0 0 0 n none,iI a,iI b] [ub 0 n x] =
( gD (qS (v80 n (ofNat a) (i64.wrap (ofNat b-1))) [ub (0:Nat) n x] (v80 n (ofNat a) (ofNat (b-1))) [ub (0:Nat) n x])<|some ((.tup [],[ub (0:Nat) n z]))) from by kernel_rfl)]
 rw[qn b,show i64.wrap ((b:Int)-1)=((b-1:Nat):Int) by rw[qI (by omega) (by omega)];omega];exact qm (qw ⟨rfl,.refl _⟩) rfl
theorem qeJ(n a b i:Nat)(x:Nat->Int):qA P18 G18 A18 K82 0 81 [] 5 (v81 n a b (i+1:Nat) 0) [ub 0 n x] =
( bif decide (ofNat (i+1)<ofNat b) then gD (decide (0<=ofNat (i+1))&&decide (ofNat (i+1)<ofNat n))<|gD (((0:Nat)+(i+(1:Nat))).blt n)<|gD (decide (0<=i64.wrap (ofNat (i+1)-(1:Int)))&&decide (i64.wrap (ofNat (i+1)-(1:Int))<ofNat n))<|gD (((0:Nat)+(i64.wrap (ofNat (i+(1:Nat))-(1:Int))).toNat).blt n)<|bif decide (x ((0:Nat)+(i+1))<x ((0:Nat)+(i64.wrap (ofNat (i+(1:Nat))-(1:Int))).toNat)) then zX 2 (v81 n a b (ofNat (i+1)) (0:Int)) [ub (0:Nat) n x] else
 zN (v81 n a b (i64.wrap (ofNat (i+1)+(1:Int))) (0:Int)) [ub (0:Nat) n x] else
 zX 2 (v81 n a b (ofNat (i+1)) (0:Int)) [ub (0:Nat) n x]):=by kernel_rfl
theorem qmd(n a b:Nat)(x:Nat->Int)(hn:n<=1000)(hb:b<=n)(hab:a<b)(h50:b-a<50) :
 ∃r:Bool,(r=true->Asc x a b)/\ToldRef P18 G18 81 [.own 0 0 0 n none,iI a,iI b] [ub 0 n x] (.bool r) [ub 0 n x]:=by
 have hl:∃j:Nat,a<j/\j<=b/\Asc x a j/\LoopOk P18 G18 (A18 81) 81 5 (qE (v81 n a b (a+1:Nat) 0) [ub 0 n x] (.exit 2) (v81 n a b j 0) [ub 0 n x]):=by
  refine Exists.elim (Qv (P:=P18) (Gl:=G18) (f:=81) (r:=5) (an:=A18 81) (k:=1) qv (by kernel_rfl)
   (fun m vs h=>∃i:Nat,m=b-(i+1)/\a<=i/\i+1<=b/\vs=v81 n a b (i+1:Nat) 0/\h=[ub 0 n x]/\Asc x a (i+1))
   (fun e vs1 h1=>∃j:Nat,e = .exit 2/\vs1=v81 n a b j 0/\h1=[ub 0 n x]/\a<j/\j<=b/\Asc x a j)
   (fun m vs h ⟨i,hm,h1,h2,hv,hh,hI⟩=>?_) (n:=b-(a+1)) (vs:=v81 n a b (a+1:Nat) 0) (h:=[ub 0 n x]) rfl ⟨a,rfl,Nat.le_refl _,by omega,rfl,rfl,fun p q _ _ _=>by omega⟩) ?_
  ·subst hm hv hh;have ei:i64.wrap (((i+1:Nat):Int)+1)=((i+1+1:Nat):Int):=by rw[qI (by omega) (by omega)];omega
   have ej:i64.wrap (((i+1:Nat):Int)-1)=(i:Int):=by rw[qI (by omega) (by omega)];omega
   by_cases q:i+1<b
   ·by_cases q2:x (i+1)<x i
    ·refine .inr ⟨_,_,_,?_,i+1,rfl,rfl,rfl,by omega,by omega,hI⟩;refine Last.mk0 (A:=A18) (m:=0) Zi rfl rfl qh (h1:=[ub 0 n x]) (by simp) ?_ (.refl _);rw[(qeJ n a b i x)];rw[qn (i+1),ei,ej,QJ];clear hI
     (repeat (first|refine BT ?_|refine BG ?_))
     rfl
    ·refine .inl ⟨b-(i+1+1),_,_,by omega,?_,⟨i+1,rfl,by omega,by omega,rfl,rfl,fun p q' g1 g2 g3=>?_⟩⟩
     ·refine Step.mk0 (A:=A18) (m:=0) Zi rfl rfl qh (h1:=[ub 0 n x]) ?_ (.refl _);rw[(qeJ n a b i x)];rw[qn (i+1),ei,ej,QJ];clear hI
      (repeat (first|refine BT ?_|refine BG ?_))
      rfl
     ·by_cases e:q'=i+1
      ·rw[e];by_cases e2:p=i
       ·rw[e2];omega
       ·have:=hI p i g1 (by omega) (by omega);omega
      ·exact hI p q' g1 g2 (by omega)
   ·refine .inr ⟨_,_,_,?_,i+1,rfl,rfl,rfl,by omega,by omega,hI⟩;refine Last.mk0 (A:=A18) (m:=0) Zi rfl rfl qh (h1:=[ub 0 n x]) (by simp) ?_ (.refl _);rw[(qeJ n a b i x)];clear hI
    (repeat (first|refine BT ?_|refine BG ?_))
    rfl
  ·rintro e ⟨vs1,h1,⟨j,rfl,rfl,rfl,g1,g2,g3⟩,hl⟩;exact⟨j,g1,g2,g3,hl⟩
 obtain⟨j,g1,g2,g3,hl⟩:=hl;have hl3:LoopOk P18 G18 (A18 81) 81 3 (qE (v81 n a b (a+1:Nat) 0) [ub 0 n x] .ret [.bool (decide (j=b))] [ub 0 n x]):=by
  refine qz qv (by kernel_rfl) (fun _=>v81 n a b (a+1:Nat) 0) (fun _=>[ub 0 n x]) (n:=0) (fun i hi=>by omega) ?_;refine Last.mk0 (A:=A18) (m:=0) Zi rfl rfl (qK hl) (h1:=[ub 0 n x]) (by simp) ?_ (.refl _);rw[(show qA P18 G18 A18 K82 0 81 [(5,qE (v81 n a b (a+1:Nat) 0) [ub 0 n x] (.exit 2) (v81 n a b j 0) [ub 0 n x])] 3 (v81 n a b (a+1:Nat) 0) [ub 0 n x] =
( gD (qS (v81 n a b (ofNat (a+1)) (0:Int)) [ub (0:Nat) n x] (v81 n a b (ofNat (a+1)) (0:Int)) [ub (0:Nat) n x])<|bif decide (ofNat j=ofNat b) then zR [.bool true] [ub (0:Nat) n x] else
 bif decide (i64.wrap (ofNat b-ofNat a)<(50:Int)) then zR [.bool false] [ub (0:Nat) n x] else
 gD (decide (0<=i64.wrap (ofNat j-1))&&decide (i64.wrap (ofNat j-1)<ofNat n))<|gD (((0:Nat)+(i64.wrap (ofNat j-(1:Int))).toNat).blt n)<|gD (decide (0<=ofNat j)&&decide (ofNat j<ofNat n))<|gD (((0:Nat)+j).blt n)<|gD (decide (0<=ofNat j)&&decide (ofNat j<ofNat n))<|gD (((0:Nat)+j).blt n&&true&&true&&true)<|gD (decide (0<=i64.wrap (ofNat j-1))&&decide (i64.wrap (ofNat j-1)<ofNat n))<|gD (((0:Nat)+(i64.wrap (ofNat j-(1:Int))).toNat).blt n&&true&&true&&true)<|bif decide (2<=i64.wrap (ofNat j-ofNat a)) then none else
 bif decide (2<=i64.wrap (ofNat b-ofNat j)) then none else
 zN (v81 n a b (ofNat j) (1:Int)) [ub (0:Nat) n fun j_1 =>
 bif j_1==(0:Nat)+(i64.wrap (ofNat j-(1:Int))).toNat then x (0+j)
 else
 bif j_1==0+j then x ((0:Nat)+(i64.wrap (ofNat j-(1:Int))).toNat)
 else x j_1]) from by kernel_rfl)]
  refine qm (qw ⟨rfl,.refl _⟩) ?_;by_cases q:j=b
  ·rw[decide_eq_true q];refine BT ?_;rfl
  ·rw[decide_eq_false q];refine BF ?_;rw[qn b,qn a,qI (x:=(b:Int)-a) (by omega) (by omega)];refine BT ?_;rfl
 refine⟨decide (j=b),fun h=>by rw[decide_eq_true_eq] at h;rw[←h];exact g3,?_⟩;generalize decide (j=b)=r at *
 refine Qu qv q9 qf (A:=A18) (m:=0) (by kernel_rfl) (qK hl3) ?_;rw[(show ZN P18 G18 A18 qk 0 81 [(3,qE (v81 n a b (a+1:Nat) 0) [ub 0 n x] .ret [.bool r] [ub 0 n x])] [.own 0 0 0 n none,iI a,iI b] [ub 0 n x] =
( gD (qS (v81 n a b (i64.wrap (ofNat a+1)) (0:Int)) [ub (0:Nat) n x] (v81 n a b (ofNat (a+1)) (0:Int)) [ub (0:Nat) n x])<|some ((.bool r,[ub (0:Nat) n x]))) from by kernel_rfl)]
 rw[qn a,show i64.wrap ((a:Int)+1)=((a+1:Nat):Int) by rw[qI (by omega) (by omega)];omega];exact qm (qw ⟨rfl,.refl _⟩) rfl
theorem qnS:OrcOk P18 G18 K79:=yt qv q9 (yt qv q9 Zi Zi) (yt qv q9 Zi Zi)
def sw(s:Int):Blk:=⟨0,1,1,fun _=>[iI s],true,false,none⟩
set_option maxRecDepth 100000 in
set_option maxHeartbeats 1000000 in
theorem qnT(n a b:Nat)(x:Nat->Int)(hn:n<=1000)(hb:b<=n)(h8:a+8<=b)(h50:b<a+50) :
 ∃(p:Nat) (hint:Int) (B:Blk),(a<=p/\p<b)/\ToldRef P18 G18 79 [.own 0 0 0 n none,iI a,iI b] [ub 0 n x] (.tup [iI p,iI hint]) [ub 0 n x,B]:=by
 obtain⟨L,hL⟩:∃L:Nat,b-a=L:=⟨_,rfl⟩;obtain⟨q,hq⟩:∃q:Nat,L/4=q:=⟨_,rfl⟩;have eL:i64.wrap (ofNat b-ofNat a)=(L:Int):=by rw[qn,qn,qI (by omega) (by omega)];omega
 have eq0:(L:Int).tdiv 4=(q:Int):=by rw[←hq];rfl
 have eq:i64.wrap (q:Int)=(q:Int):=qI (by omega) (by omega);have e1:i64.wrap ((q:Int)*1)=(q:Int):=by rw[qI (by omega) (by omega)];omega
 have e2:i64.wrap ((q:Int)*2)=((2*q:Nat):Int):=by rw[qI (by omega) (by omega)];omega
 have e3:i64.wrap ((q:Int)*3)=((3*q:Nat):Int):=by rw[qI (by omega) (by omega)];omega
 have p1:i64.wrap (ofNat a+(q:Int))=((a+q:Nat):Int):=by rw[qn,qI (by omega) (by omega)];omega
 have p2:i64.wrap (ofNat a+((2*q:Nat):Int))=((a+2*q:Nat):Int):=by rw[qn,qI (by omega) (by omega)];omega
 have p3:i64.wrap (ofNat a+((3*q:Nat):Int))=((a+3*q:Nat):Int):=by rw[qn,qI (by omega) (by omega)];omega
 refine qkj (show ZN P18 G18 A18 K79 0 79 [] [.own 0 0 0 n none,iI a,iI b] [ub 0 n x] =
( bif decide (8<=i64.wrap (ofNat b-ofNat a)) then bif decide (50<=i64.wrap (ofNat b-ofNat a)) then none else
 gD (decide (0<=i64.wrap (ofNat a+i64.wrap (i64.wrap ((i64.wrap (ofNat b-ofNat a)).tdiv 4)*(2:Int))))&&decide (i64.wrap (ofNat a+i64.wrap (i64.wrap ((i64.wrap (ofNat b-ofNat a)).tdiv 4)*(2:Int)))<ofNat n))<|gD (((0:Nat)+(i64.wrap (ofNat a+i64.wrap (i64.wrap ((i64.wrap (ofNat b-ofNat a)).tdiv (4:Int))*(2:Int)))).toNat).blt n)<|gD (decide (0<=i64.wrap (ofNat a+i64.wrap (i64.wrap ((i64.wrap (ofNat b-ofNat a)).tdiv 4)*(1:Int))))&&decide (i64.wrap (ofNat a+i64.wrap (i64.wrap ((i64.wrap (ofNat b-ofNat a)).tdiv 4)*(1:Int)))<ofNat n))<|gD (((0:Nat)+(i64.wrap (ofNat a+i64.wrap (i64.wrap ((i64.wrap (ofNat b-ofNat a)).tdiv (4:Int))*(1:Int)))).toNat).blt n)<|bif decide (x ((0:Nat)+(i64.wrap (ofNat a+i64.wrap (i64.wrap ((i64.wrap (ofNat b-ofNat a)).tdiv (4:Int))*(2:Int)))).toNat)<x ((0:Nat)+(i64.wrap (ofNat a+i64.wrap (i64.wrap ((i64.wrap (ofNat b-ofNat a)).tdiv (4:Int))*(1:Int)))).toNat)) then gD (decide (0<=i64.wrap (ofNat a+i64.wrap (i64.wrap ((i64.wrap (ofNat b-ofNat a)).tdiv 4)*(3:Int))))&&decide (i64.wrap (ofNat a+i64.wrap (i64.wrap ((i64.wrap (ofNat b-ofNat a)).tdiv 4)*(3:Int)))<ofNat n))<|gD (((0:Nat)+(i64.wrap (ofNat a+i64.wrap (i64.wrap ((i64.wrap (ofNat b-ofNat a)).tdiv (4:Int))*(3:Int)))).toNat).blt n)<|gD (decide (0<=i64.wrap (ofNat a+i64.wrap (i64.wrap ((i64.wrap (ofNat b-ofNat a)).tdiv 4)*(1:Int))))&&decide (i64.wrap (ofNat a+i64.wrap (i64.wrap ((i64.wrap (ofNat b-ofNat a)).tdiv 4)*(1:Int)))<ofNat n))<|gD (((0:Nat)+(i64.wrap (ofNat a+i64.wrap (i64.wrap ((i64.wrap (ofNat b-ofNat a)).tdiv (4:Int))*(1:Int)))).toNat).blt n)<|bif decide (x ((0:Nat)+(i64.wrap (ofNat a+i64.wrap (i64.wrap ((i64.wrap (ofNat b-ofNat a)).tdiv (4:Int))*(3:Int)))).toNat)<x ((0:Nat)+(i64.wrap (ofNat a+i64.wrap (i64.wrap ((i64.wrap (ofNat b-ofNat a)).tdiv (4:Int))*(1:Int)))).toNat)) then gD (decide (0<=i64.wrap (ofNat a+i64.wrap (i64.wrap ((i64.wrap (ofNat b-ofNat a)).tdiv 4)*(3:Int))))&&decide (i64.wrap (ofNat a+i64.wrap (i64.wrap ((i64.wrap (ofNat b-ofNat a)).tdiv 4)*(3:Int)))<ofNat n))<|gD (((0:Nat)+(i64.wrap (ofNat a+i64.wrap (i64.wrap ((i64.wrap (ofNat b-ofNat a)).tdiv (4:Int))*(3:Int)))).toNat).blt n)<|gD (decide (0<=i64.wrap (ofNat a+i64.wrap (i64.wrap ((i64.wrap (ofNat b-ofNat a)).tdiv 4)*(2:Int))))&&decide (i64.wrap (ofNat a+i64.wrap (i64.wrap ((i64.wrap (ofNat b-ofNat a)).tdiv 4)*(2:Int)))<ofNat n))<|gD (((0:Nat)+(i64.wrap (ofNat a+i64.wrap (i64.wrap ((i64.wrap (ofNat b-ofNat a)).tdiv (4:Int))*(2:Int)))).toNat).blt n)<|bif decide (x ((0:Nat)+(i64.wrap (ofNat a+i64.wrap (i64.wrap ((i64.wrap (ofNat b-ofNat a)).tdiv (4:Int))*(3:Int)))).toNat)<x ((0:Nat)+(i64.wrap (ofNat a+i64.wrap (i64.wrap ((i64.wrap (ofNat b-ofNat a)).tdiv (4:Int))*(2:Int)))).toNat)) then some ((.tup [iI (i64.wrap (ofNat a+i64.wrap (i64.wrap ((i64.wrap (ofNat b-ofNat a)).tdiv 4)*(2:Int)))),iI 0],[ub (0:Nat) n x,.mk 0 1 1 (fun e=>[iI (bif e==(0:Nat) then(3:Int)
 else
 bif e==(0:Nat) then(2:Int)
 else
 bif e==(0:Nat) then(1:Int)
 else(0:Int))]) true false
 none])) else
 some ((.tup [iI (i64.wrap (ofNat a+i64.wrap (i64.wrap ((i64.wrap (ofNat b-ofNat a)).tdiv 4)*(3:Int)))),iI 0],[ub (0:Nat) n x,.mk 0 1 1 (fun e=>[iI (bif e==(0:Nat) then(2:Int)
 else
 bif e==(0:Nat) then(1:Int)
 else(0:Int))]) true false
 none])) else
 gD (decide (0<=i64.wrap (ofNat a+i64.wrap (i64.wrap ((i64.wrap (ofNat b-ofNat a)).tdiv 4)*(1:Int))))&&decide (i64.wrap (ofNat a+i64.wrap (i64.wrap ((i64.wrap (ofNat b-ofNat a)).tdiv 4)*(1:Int)))<ofNat n))<|gD (((0:Nat)+(i64.wrap (ofNat a+i64.wrap (i64.wrap ((i64.wrap (ofNat b-ofNat a)).tdiv (4:Int))*(1:Int)))).toNat).blt n)<|gD (decide (0<=i64.wrap (ofNat a+i64.wrap (i64.wrap ((i64.wrap (ofNat b-ofNat a)).tdiv 4)*(2:Int))))&&decide (i64.wrap (ofNat a+i64.wrap (i64.wrap ((i64.wrap (ofNat b-ofNat a)).tdiv 4)*(2:Int)))<ofNat n))<|gD (((0:Nat)+(i64.wrap (ofNat a+i64.wrap (i64.wrap ((i64.wrap (ofNat b-ofNat a)).tdiv (4:Int))*(2:Int)))).toNat).blt n)<|bif decide (x ((0:Nat)+(i64.wrap (ofNat a+i64.wrap (i64.wrap ((i64.wrap (ofNat b-ofNat a)).tdiv (4:Int))*(1:Int)))).toNat)<x ((0:Nat)+(i64.wrap (ofNat a+i64.wrap (i64.wrap ((i64.wrap (ofNat b-ofNat a)).tdiv (4:Int))*(2:Int)))).toNat)) then some ((.tup [iI (i64.wrap (ofNat a+i64.wrap (i64.wrap ((i64.wrap (ofNat b-ofNat a)).tdiv 4)*(2:Int)))),iI 0],[ub (0:Nat) n x,.mk 0 1 1 (fun e=>[iI (bif e==(0:Nat) then(2:Int)
 else
 bif e==(0:Nat) then(1:Int)
 else(0:Int))]) true false
 none])) else
 some ((.tup [iI (i64.wrap (ofNat a+i64.wrap (i64.wrap ((i64.wrap (ofNat b-ofNat a)).tdiv 4)*(1:Int)))),iI 0],[ub (0:Nat) n x,.mk 0 1 1 (fun e=>[iI (bif e==(0:Nat) then(1:Int)
 else(0:Int))]) true false
 none])) else
 gD (decide (0<=i64.wrap (ofNat a+i64.wrap (i64.wrap ((i64.wrap (ofNat b-ofNat a)).tdiv 4)*(3:Int))))&&decide (i64.wrap (ofNat a+i64.wrap (i64.wrap ((i64.wrap (ofNat b-ofNat a)).tdiv 4)*(3:Int)))<ofNat n))<|gD (((0:Nat)+(i64.wrap (ofNat a+i64.wrap (i64.wrap ((i64.wrap (ofNat b-ofNat a)).tdiv (4:Int))*(3:Int)))).toNat).blt n)<|gD (decide (0<=i64.wrap (ofNat a+i64.wrap (i64.wrap ((i64.wrap (ofNat b-ofNat a)).tdiv 4)*(2:Int))))&&decide (i64.wrap (ofNat a+i64.wrap (i64.wrap ((i64.wrap (ofNat b-ofNat a)).tdiv 4)*(2:Int)))<ofNat n))<|gD (((0:Nat)+(i64.wrap (ofNat a+i64.wrap (i64.wrap ((i64.wrap (ofNat b-ofNat a)).tdiv (4:Int))*(2:Int)))).toNat).blt n)<|bif decide (x ((0:Nat)+(i64.wrap (ofNat a+i64.wrap (i64.wrap ((i64.wrap (ofNat b-ofNat a)).tdiv (4:Int))*(3:Int)))).toNat)<x ((0:Nat)+(i64.wrap (ofNat a+i64.wrap (i64.wrap ((i64.wrap (ofNat b-ofNat a)).tdiv (4:Int))*(2:Int)))).toNat)) then gD (decide (0<=i64.wrap (ofNat a+i64.wrap (i64.wrap ((i64.wrap (ofNat b-ofNat a)).tdiv 4)*(3:Int))))&&decide (i64.wrap (ofNat a+i64.wrap (i64.wrap ((i64.wrap (ofNat b-ofNat a)).tdiv 4)*(3:Int)))<ofNat n))<|gD (((0:Nat)+(i64.wrap (ofNat a+i64.wrap (i64.wrap ((i64.wrap (ofNat b-ofNat a)).tdiv (4:Int))*(3:Int)))).toNat).blt n)<|gD (decide (0<=i64.wrap (ofNat a+i64.wrap (i64.wrap ((i64.wrap (ofNat b-ofNat a)).tdiv 4)*(1:Int))))&&decide (i64.wrap (ofNat a+i64.wrap (i64.wrap ((i64.wrap (ofNat b-ofNat a)).tdiv 4)*(1:Int)))<ofNat n))<|gD (((0:Nat)+(i64.wrap (ofNat a+i64.wrap (i64.wrap ((i64.wrap (ofNat b-ofNat a)).tdiv (4:Int))*(1:Int)))).toNat).blt n)<|bif decide (x ((0:Nat)+(i64.wrap (ofNat a+i64.wrap (i64.wrap ((i64.wrap (ofNat b-ofNat a)).tdiv (4:Int))*(3:Int)))).toNat)<x ((0:Nat)+(i64.wrap (ofNat a+i64.wrap (i64.wrap ((i64.wrap (ofNat b-ofNat a)).tdiv (4:Int))*(1:Int)))).toNat)) then some ((.tup [iI (i64.wrap (ofNat a+i64.wrap (i64.wrap ((i64.wrap (ofNat b-ofNat a)).tdiv 4)*(1:Int)))),iI 0],[ub (0:Nat) n x,.mk 0 1 1 (fun e=>[iI (bif e==(0:Nat) then(2:Int)
 else
 bif e==(0:Nat) then(1:Int)
 else(0:Int))]) true false
 none])) else
 some ((.tup [iI (i64.wrap (ofNat a+i64.wrap (i64.wrap ((i64.wrap (ofNat b-ofNat a)).tdiv 4)*(3:Int)))),iI 0],[ub (0:Nat) n x,.mk 0 1 1 (fun e=>[iI (bif e==(0:Nat) then(1:Int)
 else(0:Int))]) true false
 none])) else
 gD (decide (0<=i64.wrap (ofNat a+i64.wrap (i64.wrap ((i64.wrap (ofNat b-ofNat a)).tdiv 4)*(2:Int))))&&decide (i64.wrap (ofNat a+i64.wrap (i64.wrap ((i64.wrap (ofNat b-ofNat a)).tdiv 4)*(2:Int)))<ofNat n))<|gD (((0:Nat)+(i64.wrap (ofNat a+i64.wrap (i64.wrap ((i64.wrap (ofNat b-ofNat a)).tdiv (4:Int))*(2:Int)))).toNat).blt n)<|gD (decide (0<=i64.wrap (ofNat a+i64.wrap (i64.wrap ((i64.wrap (ofNat b-ofNat a)).tdiv 4)*(1:Int))))&&decide (i64.wrap (ofNat a+i64.wrap (i64.wrap ((i64.wrap (ofNat b-ofNat a)).tdiv 4)*(1:Int)))<ofNat n))<|gD (((0:Nat)+(i64.wrap (ofNat a+i64.wrap (i64.wrap ((i64.wrap (ofNat b-ofNat a)).tdiv (4:Int))*(1:Int)))).toNat).blt n)<|bif decide (x ((0:Nat)+(i64.wrap (ofNat a+i64.wrap (i64.wrap ((i64.wrap (ofNat b-ofNat a)).tdiv (4:Int))*(2:Int)))).toNat)<x ((0:Nat)+(i64.wrap (ofNat a+i64.wrap (i64.wrap ((i64.wrap (ofNat b-ofNat a)).tdiv (4:Int))*(1:Int)))).toNat)) then some ((.tup [iI (i64.wrap (ofNat a+i64.wrap (i64.wrap ((i64.wrap (ofNat b-ofNat a)).tdiv 4)*(1:Int)))),iI 0],[ub (0:Nat) n x,.mk 0 1 1 (fun e=>[iI (bif e==(0:Nat) then(1:Int)
 else(0:Int))]) true false
 none])) else
 some ((.tup [iI (i64.wrap (ofNat a+i64.wrap (i64.wrap ((i64.wrap (ofNat b-ofNat a)).tdiv 4)*(2:Int)))),iI 1],[ub (0:Nat) n x,sw (0:Int)])) else
 some ((.tup [iI (i64.wrap (ofNat a+i64.wrap (i64.wrap ((i64.wrap (ofNat b-ofNat a)).tdiv 4)*(2:Int)))),iI 1],[ub (0:Nat) n x,sw (0:Int)]))) from by kernel_rfl) ?_
 simp only[eL,eq0,eq,e1,e2,e3,p1,p2,p3,QJ,Nat.zero_add]
 have fin:∀(p:Nat) (hint:Int) (B:Blk),a<=p->p<b->ZN P18 G18 A18 K79 0 79 [] [.own 0 0 0 n none,iI a,iI b] [ub 0 n x]=some (.tup [iI p,iI hint],[ub 0 n x,B]) →
  ∃(p:Nat) (hint:Int) (B:Blk),(a<=p/\p<b)/\ToldRef P18 G18 79 [.own 0 0 0 n none,iI a,iI b] [ub 0 n x] (.tup [iI p,iI hint]) [ub 0 n x,B] :=
  fun p hint B h1 h2 h=>⟨p,hint,B,⟨h1,h2⟩,Qu qv q9 qnS (A:=A18) (m:=0) (by kernel_rfl) (l:=[]) qh h⟩
 (repeat (first|(refine ql4 (by first|assumption|omega|(simp (disch:=omega) only[zJ,List.length_cons,List.length_nil,Nat.reduceAdd];done)|(simp (disch:=omega) only[zJ,List.length_cons,List.length_nil,Nat.reduceAdd];omega)) ?_)|(refine ql5 (by first|assumption|(simp (disch:=omega) only[zJ,List.length_cons,List.length_nil,Nat.reduceAdd];done)|(simp (disch:=omega) only[zJ,List.length_cons,List.length_nil,Nat.reduceAdd];omega)|(simp;done)|fail) ?_)))
 by_cases c1:x (a+2*q)<x (a+q)<;>by_cases c2:x (a+3*q)<x (a+q)<;>by_cases c3:x (a+3*q)<x (a+2*q)
 all_goals
  (repeat (first|(refine ql4 (by first|assumption|omega|(simp (disch:=omega) only[zJ,List.length_cons,List.length_nil,Nat.reduceAdd];done)|(simp (disch:=omega) only[zJ,List.length_cons,List.length_nil,Nat.reduceAdd];omega)) ?_)|(refine ql5 (by first|assumption|(simp (disch:=omega) only[zJ,List.length_cons,List.length_nil,Nat.reduceAdd];done)|(simp (disch:=omega) only[zJ,List.length_cons,List.length_nil,Nat.reduceAdd];omega)|(simp;done)|fail) ?_)))
  exact⟨_,rfl,fin _ _ _ (by omega) (by omega)⟩
def v83(n a:Nat)(i j:Int):List T:=[.own 0 0 0 n none,iI a,iI i,iI j]
structure PInv(L:Int->Int->Prop)(x y:Nat->Int)(a b i j:Nat)(P:Int):Prop where
 piv:y a=P
 pr:Pr x y a b
 ai:a<i
 ij:i<=j+1
 jb:j<b
 left:∀e,a<e->e<i->L (y e) (y a)
 right:∀e,j<e->e<b->¬L (y e) (y a)
theorem JO(y:Nat->Int)(i j e:Nat):(fun e=>if e=j then y i else if e=i then y j else y e) e=bif e==0+j then y (0+i) else bif e==0+i then y (0+j) else y e:=by
 rw[Nat.zero_add,Nat.zero_add];show(if e=j then y i else if e=i then y j else y e)=_;by_cases q3:e=j
 ·rw[if_pos q3,show(e==j)=true by simpa using q3,cond_true]
 ·rw[if_neg q3,show(e==j)=false by simpa using q3,cond_false];by_cases q4:e=i
  ·rw[if_pos q4,show(e==i)=true by simpa using q4,cond_true]
  ·rw[if_neg q4,show(e==i)=false by simpa using q4,cond_false]
theorem PInv.swap{L:Int->Int->Prop}{x y:Nat->Int}{a b i j:Nat}{P:Int}(h:PInv L x y a b i j P)(hij:i<=j)(h1:¬L (y i) (y a))(h2:L (y j) (y a)):PInv L x (fun e=>if e=j then y i else if e=i then y j else y e) a b (i+1) (j-1) P:=by
 have hne:i≠j:=fun e=>h1 (by rw[e];exact h2);have ha:=h.ai;have hj:=h.jb;have e0:(if a=j then y i else if a=i then y j else y a)=y a:=by
  rw[if_neg (by omega),if_neg (by omega)]
 refine⟨e0.trans h.piv,h.pr.trans (Pr.swap y (i:=j) (j:=i) ⟨by omega,hj⟩ ⟨by omega,by omega⟩),by omega,by omega,by omega,fun e g1 g2=>?_,fun e g1 g2=>?_⟩
 ·show L (if e=j then y i else if e=i then y j else y e) (if a=j then y i else if a=i then y j else y a);rw[e0];rw[if_neg (by omega)];by_cases q:e=i
  ·rw[if_pos q];exact h2
  ·rw[if_neg q];exact h.left e g1 (by omega)
 ·show ¬L (if e=j then y i else if e=i then y j else y e) (if a=j then y i else if a=i then y j else y a);rw[e0];by_cases q:e=j
  ·rw[if_pos q];exact h1
  ·rw[if_neg q,if_neg (by omega)];exact h.right e (by omega) g2
theorem PInv.up{L:Int->Int->Prop}{x y:Nat->Int}{a b i j:Nat}{P:Int}(h:PInv L x y a b i j P)(hij:i<=j)(h1:L (y i) (y a)):PInv L x y a b (i+1) j P :=
 ⟨h.piv,h.pr,by have:=h.ai;omega,by omega,h.jb,fun e g1 g2=>by
  by_cases q:e=i
  ·rw[q];exact h1
  ·exact h.left e g1 (by omega),h.right⟩
theorem PInv.down{L:Int->Int->Prop}{x y:Nat->Int}{a b i j:Nat}{P:Int}(h:PInv L x y a b i j P)(hij:i<=j)(h1:¬L (y j) (y a)):PInv L x y a b i (j-1) P :=
 ⟨h.piv,h.pr,h.ai,by have:=h.ai;omega,by have:=h.jb;omega,h.left,fun e g1 g2=>by
  by_cases q:e=j
  ·rw[q];exact h1
  ·exact h.right e (by omega) g2⟩
theorem qeK(n a i j:Nat)(y:Nat->Int):qA P18 G18 A18 K82 0 84 [] 3 (v83 n a i j) [ub 0 n y] =
( bif decide (ofNat i<=ofNat j) then gD (decide (0<=ofNat i)&&decide (ofNat i<ofNat n))<|gD (((0:Nat)+i).blt n)<|gD (decide (0<=ofNat a)&&decide (ofNat a<ofNat n))<|gD (((0:Nat)+a).blt n)<|bif decide (y (0+i)<y (0+a)) then zN (v83 n a (i64.wrap (ofNat i+1)) (ofNat j)) [ub (0:Nat) n y] else
 zX 0 (Q9 n a i (ofNat j)) [ub (0:Nat) n y] else
 zX 0 (Q9 n a i (ofNat j)) [ub (0:Nat) n y]):=by kernel_rfl
theorem qme(n a b:Nat)(x y:Nat->Int)(i0 j0:Nat)(P:Int)(hn:n<=1000)(hb:b<=n)(hI0:PInv (fun u v:Int=>u<v) x y a b i0 j0 P) :
 ∃i j,PInv (fun u v:Int=>u<v) x y a b i j P/\(i0<=i/\j=j0)/\(i<=j->¬(fun u v:Int=>u<v) (y i) (y a))/\LoopOk P18 G18 (A18 84) 84 3 (qE (v83 n a i0 j0) [ub 0 n y] (.exit 0) (v83 n a i j) [ub 0 n y]):=by
 refine Exists.elim (Qv (P:=P18) (Gl:=G18) (f:=84) (r:=3) (an:=A18 84) (k:=1) qv (by kernel_rfl)
  (fun m vs h=>∃i j:Nat,m=j+1-i/\vs=v83 n a i j/\h=[ub 0 n y]/\PInv (fun u v:Int=>u<v) x y a b i j P/\i0<=i/\j=j0)
  (fun e vs1 h1=>∃i j:Nat,e = .exit 0/\vs1=v83 n a i j/\h1=[ub 0 n y]/\PInv (fun u v:Int=>u<v) x y a b i j P/\i0<=i/\j=j0/\(i<=j->¬(fun u v:Int=>u<v) (y i) (y a)))
  (fun m vs h ⟨i,j,hm,hv,hh,hI,hi0,hj0⟩=>?_) (n:=j0+1-i0) (vs:=v83 n a i0 j0) (h:=[ub 0 n y]) rfl ⟨i0,j0,rfl,rfl,rfl,hI0,Nat.le_refl _,rfl⟩) ?_
 ·subst hm hv hh;have h1:=hI.ai;have h2:=hI.jb;have h3:=hI.ij;have ei:i64.wrap ((i:Int)+1)=((i+1:Nat):Int):=by rw[qI (by omega) (by omega)];omega
  by_cases q:i<=j
  ·have ej:i64.wrap ((j:Int)-1)=((j-1:Nat):Int):=by rw[qI (by omega) (by omega)];omega
   by_cases q2:(fun u v:Int=>u<v) (y i) (y a)
   ·have q3:y i<y a:=q2;refine .inl ⟨j+1-(i+1),_,_,by omega,?_,⟨i+1,j,rfl,rfl,rfl,hI.up q q2,by omega,hj0⟩⟩;refine Step.mk0 (A:=A18) (m:=0) Zi rfl rfl qh (h1:=[ub 0 n y]) ?_ (.refl _);rw[(qeK n a i j y)];rw[qn i,qn j,ei];clear hI
    (repeat (first|refine BT ?_|refine BG ?_))
    rfl
   ·have q3:¬y i<y a:=q2;refine .inr ⟨_,_,_,?_,i,j,rfl,rfl,rfl,hI,hi0,hj0,fun _=>q2⟩;refine Last.mk0 (A:=A18) (m:=0) Zi rfl rfl qh (h1:=[ub 0 n y]) (by simp) ?_ (.refl _);rw[(qeK n a i j y)];rw[qn i,qn j];clear hI
    (repeat (first|refine BT ?_|refine BG ?_))
    rfl
  ·refine .inr ⟨_,_,_,?_,i,j,rfl,rfl,rfl,hI,hi0,hj0,fun h=>absurd h q⟩;refine Last.mk0 (A:=A18) (m:=0) Zi rfl rfl qh (h1:=[ub 0 n y]) (by simp) ?_ (.refl _);rw[(qeK n a i j y)];rw[qn i,qn j];clear hI
   (repeat (first|refine BT ?_|refine BG ?_))
   rfl
 ·rintro e ⟨vs1,h1,⟨i,j,rfl,rfl,rfl,g1,g2,g3,g4⟩,hl⟩;exact⟨i,j,g1,⟨g2,g3⟩,g4,hl⟩
theorem qeL(n a i j:Nat)(y:Nat->Int):qA P18 G18 A18 K82 0 84 [] 5 (v83 n a i j) [ub 0 n y] =
( bif decide (ofNat i<=ofNat j) then gD (decide (0<=ofNat j)&&decide (ofNat j<ofNat n))<|gD (((0:Nat)+j).blt n)<|gD (decide (0<=ofNat a)&&decide (ofNat a<ofNat n))<|gD (((0:Nat)+a).blt n)<|bif decide (y (0+j)<y (0+a)) then zX 2 (Q9 n a i (ofNat j)) [ub (0:Nat) n y] else
 zN (Q9 n a i (i64.wrap (ofNat j-1))) [ub (0:Nat) n y] else
 zX 2 (Q9 n a i (ofNat j)) [ub (0:Nat) n y]):=by kernel_rfl
theorem qmf(n a b:Nat)(x y:Nat->Int)(i0 j0:Nat)(P:Int)(hn:n<=1000)(hb:b<=n)(hI0:PInv (fun u v:Int=>u<v) x y a b i0 j0 P) :
 ∃i j,PInv (fun u v:Int=>u<v) x y a b i j P/\(i=i0/\j<=j0)/\(i<=j->(fun u v:Int=>u<v) (y j) (y a))/\LoopOk P18 G18 (A18 84) 84 5 (qE (v83 n a i0 j0) [ub 0 n y] (.exit 2) (v83 n a i j) [ub 0 n y]):=by
 refine Exists.elim (Qv (P:=P18) (Gl:=G18) (f:=84) (r:=5) (an:=A18 84) (k:=1) qv (by kernel_rfl)
  (fun m vs h=>∃i j:Nat,m=j+1-i/\vs=v83 n a i j/\h=[ub 0 n y]/\PInv (fun u v:Int=>u<v) x y a b i j P/\i=i0/\j<=j0)
  (fun e vs1 h1=>∃i j:Nat,e = .exit 2/\vs1=v83 n a i j/\h1=[ub 0 n y]/\PInv (fun u v:Int=>u<v) x y a b i j P/\i=i0/\j<=j0/\(i<=j->(fun u v:Int=>u<v) (y j) (y a)))
  (fun m vs h ⟨i,j,hm,hv,hh,hI,hi0,hj0⟩=>?_) (n:=j0+1-i0) (vs:=v83 n a i0 j0) (h:=[ub 0 n y]) rfl ⟨i0,j0,rfl,rfl,rfl,hI0,rfl,Nat.le_refl _⟩) ?_
 ·subst hm hv hh;have h1:=hI.ai;have h2:=hI.jb;have h3:=hI.ij;have ei:i64.wrap ((i:Int)+1)=((i+1:Nat):Int):=by rw[qI (by omega) (by omega)];omega
  by_cases q:i<=j
  ·have ej:i64.wrap ((j:Int)-1)=((j-1:Nat):Int):=by rw[qI (by omega) (by omega)];omega
   by_cases q2:¬(fun u v:Int=>u<v) (y j) (y a)
   ·have q3:¬y j<y a:=q2;refine .inl ⟨j-1+1-i,_,_,by omega,?_,⟨i,j-1,rfl,rfl,rfl,hI.down q q2,hi0,by omega⟩⟩;refine Step.mk0 (A:=A18) (m:=0) Zi rfl rfl qh (h1:=[ub 0 n y]) ?_ (.refl _);rw[(qeL n a i j y)];rw[qn i,qn j,ej];clear hI
    (repeat (first|refine BT ?_|refine BG ?_))
    rfl
   ·have q3:y j<y a:=Decidable.not_not.1 q2;refine .inr ⟨_,_,_,?_,i,j,rfl,rfl,rfl,hI,hi0,hj0,fun _=>Decidable.not_not.1 q2⟩;refine Last.mk0 (A:=A18) (m:=0) Zi rfl rfl qh (h1:=[ub 0 n y]) (by simp) ?_ (.refl _);rw[(qeL n a i j y)];rw[qn i,qn j];clear hI
    (repeat (first|refine BT ?_|refine BG ?_))
    rfl
  ·refine .inr ⟨_,_,_,?_,i,j,rfl,rfl,rfl,hI,hi0,hj0,fun h=>absurd h q⟩;refine Last.mk0 (A:=A18) (m:=0) Zi rfl rfl qh (h1:=[ub 0 n y]) (by simp) ?_ (.refl _);rw[(qeL n a i j y)];rw[qn i,qn j];clear hI
   (repeat (first|refine BT ?_|refine BG ?_))
   rfl
 ·rintro e ⟨vs1,h1,⟨i,j,rfl,rfl,rfl,g1,g2,g3,g4⟩,hl⟩;exact⟨i,j,g1,⟨g2,g3⟩,g4,hl⟩
theorem qeM(n a i j:Nat)(y:Nat->Int):qA P18 G18 A18 K82 0 84 [] 13 (v83 n a i j) [ub 0 n y] =
( bif decide (ofNat i<=ofNat j) then gD (decide (0<=ofNat i)&&decide (ofNat i<ofNat n))<|gD (((0:Nat)+i).blt n)<|gD (decide (0<=ofNat a)&&decide (ofNat a<ofNat n))<|gD (((0:Nat)+a).blt n)<|bif decide (y (0+i)<y (0+a)) then zN (v83 n a (i64.wrap (ofNat i+1)) (ofNat j)) [ub (0:Nat) n y] else
 zX 6 (Q9 n a i (ofNat j)) [ub (0:Nat) n y] else
 zX 6 (Q9 n a i (ofNat j)) [ub (0:Nat) n y]):=by kernel_rfl
theorem qli(n a b:Nat)(x y:Nat->Int)(i0 j0:Nat)(P:Int)(hn:n<=1000)(hb:b<=n)(hI0:PInv (fun u v:Int=>u<v) x y a b i0 j0 P) :
 ∃i j,PInv (fun u v:Int=>u<v) x y a b i j P/\(i0<=i/\j=j0)/\(i<=j->¬(fun u v:Int=>u<v) (y i) (y a))/\LoopOk P18 G18 (A18 84) 84 13 (qE (v83 n a i0 j0) [ub 0 n y] (.exit 6) (v83 n a i j) [ub 0 n y]):=by
 refine Exists.elim (Qv (P:=P18) (Gl:=G18) (f:=84) (r:=13) (an:=A18 84) (k:=1) qv (by kernel_rfl)
  (fun m vs h=>∃i j:Nat,m=j+1-i/\vs=v83 n a i j/\h=[ub 0 n y]/\PInv (fun u v:Int=>u<v) x y a b i j P/\i0<=i/\j=j0)
  (fun e vs1 h1=>∃i j:Nat,e = .exit 6/\vs1=v83 n a i j/\h1=[ub 0 n y]/\PInv (fun u v:Int=>u<v) x y a b i j P/\i0<=i/\j=j0/\(i<=j->¬(fun u v:Int=>u<v) (y i) (y a)))
  (fun m vs h ⟨i,j,hm,hv,hh,hI,hi0,hj0⟩=>?_) (n:=j0+1-i0) (vs:=v83 n a i0 j0) (h:=[ub 0 n y]) rfl ⟨i0,j0,rfl,rfl,rfl,hI0,Nat.le_refl _,rfl⟩) ?_
 ·subst hm hv hh;have h1:=hI.ai;have h2:=hI.jb;have h3:=hI.ij;have ei:i64.wrap ((i:Int)+1)=((i+1:Nat):Int):=by rw[qI (by omega) (by omega)];omega
  by_cases q:i<=j
  ·have ej:i64.wrap ((j:Int)-1)=((j-1:Nat):Int):=by rw[qI (by omega) (by omega)];omega
   by_cases q2:(fun u v:Int=>u<v) (y i) (y a)
   ·have q3:y i<y a:=q2;refine .inl ⟨j+1-(i+1),_,_,by omega,?_,⟨i+1,j,rfl,rfl,rfl,hI.up q q2,by omega,hj0⟩⟩;refine Step.mk0 (A:=A18) (m:=0) Zi rfl rfl qh (h1:=[ub 0 n y]) ?_ (.refl _);rw[(qeM n a i j y)];rw[qn i,qn j,ei];clear hI
    (repeat (first|refine BT ?_|refine BG ?_))
    rfl
   ·have q3:¬y i<y a:=q2;refine .inr ⟨_,_,_,?_,i,j,rfl,rfl,rfl,hI,hi0,hj0,fun _=>q2⟩;refine Last.mk0 (A:=A18) (m:=0) Zi rfl rfl qh (h1:=[ub 0 n y]) (by simp) ?_ (.refl _);rw[(qeM n a i j y)];rw[qn i,qn j];clear hI
    (repeat (first|refine BT ?_|refine BG ?_))
    rfl
  ·refine .inr ⟨_,_,_,?_,i,j,rfl,rfl,rfl,hI,hi0,hj0,fun h=>absurd h q⟩;refine Last.mk0 (A:=A18) (m:=0) Zi rfl rfl qh (h1:=[ub 0 n y]) (by simp) ?_ (.refl _);rw[(qeM n a i j y)];rw[qn i,qn j];clear hI
   (repeat (first|refine BT ?_|refine BG ?_))
   rfl
 ·rintro e ⟨vs1,h1,⟨i,j,rfl,rfl,rfl,g1,g2,g3,g4⟩,hl⟩;exact⟨i,j,g1,⟨g2,g3⟩,g4,hl⟩
theorem qeN(n a i j:Nat)(y:Nat->Int):qA P18 G18 A18 K82 0 84 [] 15 (v83 n a i j) [ub 0 n y] =
( bif decide (ofNat i<=ofNat j) then gD (decide (0<=ofNat j)&&decide (ofNat j<ofNat n))<|gD (((0:Nat)+j).blt n)<|gD (decide (0<=ofNat a)&&decide (ofNat a<ofNat n))<|gD (((0:Nat)+a).blt n)<|bif decide (y (0+j)<y (0+a)) then zX 8 (Q9 n a i (ofNat j)) [ub (0:Nat) n y] else
 zN (Q9 n a i (i64.wrap (ofNat j-1))) [ub (0:Nat) n y] else
 zX 8 (Q9 n a i (ofNat j)) [ub (0:Nat) n y]):=by kernel_rfl
theorem qlj(n a b:Nat)(x y:Nat->Int)(i0 j0:Nat)(P:Int)(hn:n<=1000)(hb:b<=n)(hI0:PInv (fun u v:Int=>u<v) x y a b i0 j0 P) :
 ∃i j,PInv (fun u v:Int=>u<v) x y a b i j P/\(i=i0/\j<=j0)/\(i<=j->(fun u v:Int=>u<v) (y j) (y a))/\LoopOk P18 G18 (A18 84) 84 15 (qE (v83 n a i0 j0) [ub 0 n y] (.exit 8) (v83 n a i j) [ub 0 n y]):=by
 refine Exists.elim (Qv (P:=P18) (Gl:=G18) (f:=84) (r:=15) (an:=A18 84) (k:=1) qv (by kernel_rfl)
  (fun m vs h=>∃i j:Nat,m=j+1-i/\vs=v83 n a i j/\h=[ub 0 n y]/\PInv (fun u v:Int=>u<v) x y a b i j P/\i=i0/\j<=j0)
  (fun e vs1 h1=>∃i j:Nat,e = .exit 8/\vs1=v83 n a i j/\h1=[ub 0 n y]/\PInv (fun u v:Int=>u<v) x y a b i j P/\i=i0/\j<=j0/\(i<=j->(fun u v:Int=>u<v) (y j) (y a)))
  (fun m vs h ⟨i,j,hm,hv,hh,hI,hi0,hj0⟩=>?_) (n:=j0+1-i0) (vs:=v83 n a i0 j0) (h:=[ub 0 n y]) rfl ⟨i0,j0,rfl,rfl,rfl,hI0,rfl,Nat.le_refl _⟩) ?_
 ·subst hm hv hh;have h1:=hI.ai;have h2:=hI.jb;have h3:=hI.ij;have ei:i64.wrap ((i:Int)+1)=((i+1:Nat):Int):=by rw[qI (by omega) (by omega)];omega
  by_cases q:i<=j
  ·have ej:i64.wrap ((j:Int)-1)=((j-1:Nat):Int):=by rw[qI (by omega) (by omega)];omega
   by_cases q2:¬(fun u v:Int=>u<v) (y j) (y a)
   ·have q3:¬y j<y a:=q2;refine .inl ⟨j-1+1-i,_,_,by omega,?_,⟨i,j-1,rfl,rfl,rfl,hI.down q q2,hi0,by omega⟩⟩;refine Step.mk0 (A:=A18) (m:=0) Zi rfl rfl qh (h1:=[ub 0 n y]) ?_ (.refl _);rw[(qeN n a i j y)];rw[qn i,qn j,ej];clear hI
    (repeat (first|refine BT ?_|refine BG ?_))
    rfl
   ·have q3:y j<y a:=Decidable.not_not.1 q2;refine .inr ⟨_,_,_,?_,i,j,rfl,rfl,rfl,hI,hi0,hj0,fun _=>Decidable.not_not.1 q2⟩;refine Last.mk0 (A:=A18) (m:=0) Zi rfl rfl qh (h1:=[ub 0 n y]) (by simp) ?_ (.refl _);rw[(qeN n a i j y)];rw[qn i,qn j];clear hI
    (repeat (first|refine BT ?_|refine BG ?_))
    rfl
  ·refine .inr ⟨_,_,_,?_,i,j,rfl,rfl,rfl,hI,hi0,hj0,fun h=>absurd h q⟩;refine Last.mk0 (A:=A18) (m:=0) Zi rfl rfl qh (h1:=[ub 0 n y]) (by simp) ?_ (.refl _);rw[(qeN n a i j y)];rw[qn i,qn j];clear hI
   (repeat (first|refine BT ?_|refine BG ?_))
   rfl
 ·rintro e ⟨vs1,h1,⟨i,j,rfl,rfl,rfl,g1,g2,g3,g4⟩,hl⟩;exact⟨i,j,g1,⟨g2,g3⟩,g4,hl⟩
theorem qeO(n a i j:Nat)(y:Nat->Int):qA P18 G18 A18 K82 0 83 [] 3 (v83 n a i j) [ub 0 n y] =
( bif decide (ofNat i<=ofNat j) then gD (decide (0<=ofNat a)&&decide (ofNat a<ofNat n))<|gD (((0:Nat)+a).blt n)<|gD (decide (0<=ofNat i)&&decide (ofNat i<ofNat n))<|gD (((0:Nat)+i).blt n)<|bif decide (y (0+a)<y (0+i)) then zX 2 (Q9 n a i (ofNat j)) [ub (0:Nat) n y] else
 zN (v83 n a (i64.wrap (ofNat i+1)) (ofNat j)) [ub (0:Nat) n y] else
 zX 2 (Q9 n a i (ofNat j)) [ub (0:Nat) n y]):=by kernel_rfl
theorem qmg(n a b:Nat)(x y:Nat->Int)(i0 j0:Nat)(P:Int)(hn:n<=1000)(hb:b<=n)(hI0:PInv (fun u v:Int=>¬v<u) x y a b i0 j0 P) :
 ∃i j,PInv (fun u v:Int=>¬v<u) x y a b i j P/\(i0<=i/\j=j0)/\(i<=j->¬(fun u v:Int=>¬v<u) (y i) (y a))/\LoopOk P18 G18 (A18 83) 83 3 (qE (v83 n a i0 j0) [ub 0 n y] (.exit 2) (v83 n a i j) [ub 0 n y]):=by
 refine Exists.elim (Qv (P:=P18) (Gl:=G18) (f:=83) (r:=3) (an:=A18 83) (k:=1) qv (by kernel_rfl)
  (fun m vs h=>∃i j:Nat,m=j+1-i/\vs=v83 n a i j/\h=[ub 0 n y]/\PInv (fun u v:Int=>¬v<u) x y a b i j P/\i0<=i/\j=j0)
  (fun e vs1 h1=>∃i j:Nat,e = .exit 2/\vs1=v83 n a i j/\h1=[ub 0 n y]/\PInv (fun u v:Int=>¬v<u) x y a b i j P/\i0<=i/\j=j0/\(i<=j->¬(fun u v:Int=>¬v<u) (y i) (y a)))
  (fun m vs h ⟨i,j,hm,hv,hh,hI,hi0,hj0⟩=>?_) (n:=j0+1-i0) (vs:=v83 n a i0 j0) (h:=[ub 0 n y]) rfl ⟨i0,j0,rfl,rfl,rfl,hI0,Nat.le_refl _,rfl⟩) ?_
 ·subst hm hv hh;have h1:=hI.ai;have h2:=hI.jb;have h3:=hI.ij;have ei:i64.wrap ((i:Int)+1)=((i+1:Nat):Int):=by rw[qI (by omega) (by omega)];omega
  by_cases q:i<=j
  ·have ej:i64.wrap ((j:Int)-1)=((j-1:Nat):Int):=by rw[qI (by omega) (by omega)];omega
   by_cases q2:(fun u v:Int=>¬v<u) (y i) (y a)
   ·have q3:¬y a<y i:=q2;refine .inl ⟨j+1-(i+1),_,_,by omega,?_,⟨i+1,j,rfl,rfl,rfl,hI.up q q2,by omega,hj0⟩⟩;refine Step.mk0 (A:=A18) (m:=0) Zi rfl rfl qh (h1:=[ub 0 n y]) ?_ (.refl _);rw[(qeO n a i j y)];rw[qn i,qn j,ei];clear hI
    (repeat (first|refine BT ?_|refine BG ?_))
    rfl
   ·have q3:y a<y i:=Decidable.not_not.1 q2;refine .inr ⟨_,_,_,?_,i,j,rfl,rfl,rfl,hI,hi0,hj0,fun _=>q2⟩;refine Last.mk0 (A:=A18) (m:=0) Zi rfl rfl qh (h1:=[ub 0 n y]) (by simp) ?_ (.refl _);rw[(qeO n a i j y)];rw[qn i,qn j];clear hI
    (repeat (first|refine BT ?_|refine BG ?_))
    rfl
  ·refine .inr ⟨_,_,_,?_,i,j,rfl,rfl,rfl,hI,hi0,hj0,fun h=>absurd h q⟩;refine Last.mk0 (A:=A18) (m:=0) Zi rfl rfl qh (h1:=[ub 0 n y]) (by simp) ?_ (.refl _);rw[(qeO n a i j y)];rw[qn i,qn j];clear hI
   (repeat (first|refine BT ?_|refine BG ?_))
   rfl
 ·rintro e ⟨vs1,h1,⟨i,j,rfl,rfl,rfl,g1,g2,g3,g4⟩,hl⟩;exact⟨i,j,g1,⟨g2,g3⟩,g4,hl⟩
theorem qeP(n a i j:Nat)(y:Nat->Int):qA P18 G18 A18 K82 0 83 [] 5 (v83 n a i j) [ub 0 n y] =
( bif decide (ofNat i<=ofNat j) then gD (decide (0<=ofNat a)&&decide (ofNat a<ofNat n))<|gD (((0:Nat)+a).blt n)<|gD (decide (0<=ofNat j)&&decide (ofNat j<ofNat n))<|gD (((0:Nat)+j).blt n)<|bif decide (y (0+a)<y (0+j)) then zN (Q9 n a i (i64.wrap (ofNat j-1))) [ub (0:Nat) n y] else
 zX 4 (Q9 n a i (ofNat j)) [ub (0:Nat) n y] else
 zX 4 (Q9 n a i (ofNat j)) [ub (0:Nat) n y]):=by kernel_rfl
theorem qmh(n a b:Nat)(x y:Nat->Int)(i0 j0:Nat)(P:Int)(hn:n<=1000)(hb:b<=n)(hI0:PInv (fun u v:Int=>¬v<u) x y a b i0 j0 P) :
 ∃i j,PInv (fun u v:Int=>¬v<u) x y a b i j P/\(i=i0/\j<=j0)/\(i<=j->(fun u v:Int=>¬v<u) (y j) (y a))/\LoopOk P18 G18 (A18 83) 83 5 (qE (v83 n a i0 j0) [ub 0 n y] (.exit 4) (v83 n a i j) [ub 0 n y]):=by
 refine Exists.elim (Qv (P:=P18) (Gl:=G18) (f:=83) (r:=5) (an:=A18 83) (k:=1) qv (by kernel_rfl)
  (fun m vs h=>∃i j:Nat,m=j+1-i/\vs=v83 n a i j/\h=[ub 0 n y]/\PInv (fun u v:Int=>¬v<u) x y a b i j P/\i=i0/\j<=j0)
  (fun e vs1 h1=>∃i j:Nat,e = .exit 4/\vs1=v83 n a i j/\h1=[ub 0 n y]/\PInv (fun u v:Int=>¬v<u) x y a b i j P/\i=i0/\j<=j0/\(i<=j->(fun u v:Int=>¬v<u) (y j) (y a)))
  (fun m vs h ⟨i,j,hm,hv,hh,hI,hi0,hj0⟩=>?_) (n:=j0+1-i0) (vs:=v83 n a i0 j0) (h:=[ub 0 n y]) rfl ⟨i0,j0,rfl,rfl,rfl,hI0,rfl,Nat.le_refl _⟩) ?_
 ·subst hm hv hh;have h1:=hI.ai;have h2:=hI.jb;have h3:=hI.ij;have ei:i64.wrap ((i:Int)+1)=((i+1:Nat):Int):=by rw[qI (by omega) (by omega)];omega
  by_cases q:i<=j
  ·have ej:i64.wrap ((j:Int)-1)=((j-1:Nat):Int):=by rw[qI (by omega) (by omega)];omega
   by_cases q2:¬(fun u v:Int=>¬v<u) (y j) (y a)
   ·have q3:y a<y j:=Decidable.not_not.1 q2;refine .inl ⟨j-1+1-i,_,_,by omega,?_,⟨i,j-1,rfl,rfl,rfl,hI.down q q2,hi0,by omega⟩⟩;refine Step.mk0 (A:=A18) (m:=0) Zi rfl rfl qh (h1:=[ub 0 n y]) ?_ (.refl _);rw[(qeP n a i j y)];rw[qn i,qn j,ej];clear hI
    (repeat (first|refine BT ?_|refine BG ?_))
    rfl
   ·have q3:¬y a<y j:=fun h=>q2 fun k=>k h;refine .inr ⟨_,_,_,?_,i,j,rfl,rfl,rfl,hI,hi0,hj0,fun _=>Decidable.not_not.1 q2⟩;refine Last.mk0 (A:=A18) (m:=0) Zi rfl rfl qh (h1:=[ub 0 n y]) (by simp) ?_ (.refl _);rw[(qeP n a i j y)];rw[qn i,qn j];clear hI
    (repeat (first|refine BT ?_|refine BG ?_))
    rfl
  ·refine .inr ⟨_,_,_,?_,i,j,rfl,rfl,rfl,hI,hi0,hj0,fun h=>absurd h q⟩;refine Last.mk0 (A:=A18) (m:=0) Zi rfl rfl qh (h1:=[ub 0 n y]) (by simp) ?_ (.refl _);rw[(qeP n a i j y)];rw[qn i,qn j];clear hI
   (repeat (first|refine BT ?_|refine BG ?_))
   rfl
 ·rintro e ⟨vs1,h1,⟨i,j,rfl,rfl,rfl,g1,g2,g3,g4⟩,hl⟩;exact⟨i,j,g1,⟨g2,g3⟩,g4,hl⟩
theorem qhz(n a i0 j' i' j1:Nat)(y:Nat->Int):qA P18 G18 A18 qk 0 84 [(13,qE (v83 n a i0 j') [ub 0 n y] (.exit 6) (v83 n a i' j') [ub 0 n y]),(15,qE (v83 n a i' j') [ub 0 n y] (.exit 8) (v83 n a i' j1) [ub 0 n y])] 17 (v83 n a i0 j') [ub 0 n y] =
( gD (qS (Q9 n a i0 (ofNat j')) [ub (0:Nat) n y] (Q9 n a i0 (ofNat j')) [ub (0:Nat) n y])<|gD (qS (Q9 n a i' (ofNat j')) [ub (0:Nat) n y] (Q9 n a i' (ofNat j')) [ub (0:Nat) n y])<|bif decide (ofNat j1<ofNat i') then zX 4 (v80 n (ofNat a) (ofNat j1)) [ub (0:Nat) n y] else
 gD (decide (0<=ofNat j1)&&decide (ofNat j1<ofNat n))<|gD (((0:Nat)+j1).blt n)<|gD (decide (0<=ofNat i')&&decide (ofNat i'<ofNat n))<|gD (((0:Nat)+i').blt n)<|gD (decide (0<=ofNat i')&&decide (ofNat i'<ofNat n))<|gD (((0:Nat)+i').blt n&&true&&true&&true)<|gD (decide (0<=ofNat j1)&&decide (ofNat j1<ofNat n))<|gD (((0:Nat)+j1).blt n&&true&&true&&true)<|zN (v83 n a (i64.wrap (ofNat i'+1)) (i64.wrap (ofNat j1-1))) [ub (0:Nat) n fun j =>
 bif j==0+j1 then y (0+i')
 else
 bif j==0+i' then y (0+j1)
 else y j]):=by kernel_rfl
theorem m84(n a b:Nat)(x y0:Nat->Int)(i00 j00:Nat)(P:Int)(hn:n<=1000)(hb:b<=n)(hI0:PInv (fun u v:Int=>u<v) x y0 a b i00 j00 P) :
 ∃i j y,PInv (fun u v:Int=>u<v) x y a b i j P/\i=j+1/\LoopOk P18 G18 (A18 84) 84 17 (qE (v83 n a i00 j00) [ub 0 n y0] (.exit 4) [.own 0 0 0 n none,iI a,iI j] [ub 0 n y]):=by
 refine Exists.elim (Qv (P:=P18) (Gl:=G18) (f:=84) (r:=17) (an:=A18 84) (k:=1) qv (by kernel_rfl)
  (fun m vs h=>∃(i j:Nat) (y:Nat->Int),m=j+1-i/\vs=v83 n a i j/\h=[ub 0 n y]/\PInv (fun u v:Int=>u<v) x y a b i j P)
  (fun e vs1 h1=>∃(i j:Nat) (y:Nat->Int),e = .exit 4/\vs1=[.own 0 0 0 n none,iI a,iI j]/\h1=[ub 0 n y]/\PInv (fun u v:Int=>u<v) x y a b i j P/\i=j+1)
  (fun m vs h ⟨i0,j0,y,hm,hv,hh,hI⟩=>?_) (n:=j00+1-i00) (vs:=v83 n a i00 j00) (h:=[ub 0 n y0]) rfl ⟨i00,j00,y0,rfl,rfl,rfl,hI0⟩) ?_
 ·subst hm hv hh;obtain⟨i1,j',h1,⟨h2,rfl⟩,h3,hl1⟩:=qli n a b x y i0 j0 P hn hb hI;obtain⟨i',j1,g1,⟨rfl,g2⟩,g3,hl2⟩:=qlj n a b x y i1 j' P hn hb h1;have k1:=g1.ai;have k2:=g1.jb;have k3:=g1.ij;have k4:=h1.jb;by_cases q:i'<=j1
  ·have c1:=h3 (by omega);have c2:=g3 q;have ei:i64.wrap ((i':Int)+1)=((i'+1:Nat):Int):=by rw[qI (by omega) (by omega)];omega
   have ej:i64.wrap ((j1:Int)-1)=((j1-1:Nat):Int):=by rw[qI (by omega) (by omega)];omega
   refine .inl ⟨j1-1+1-(i'+1),_,_,by omega,?_,⟨i'+1,j1-1,_,rfl,rfl,rfl,g1.swap q c1 c2⟩⟩;refine Step.mk0 (A:=A18) (m:=0) qf rfl rfl (zq hl1 (qK hl2)) (h1:=[ub 0 n fun e=>bif e==0+j1 then y (0+i') else bif e==0+i' then y (0+j1) else y e]) ?_ (YU fun e=>JO y i' j1 e);rw[(qhz n a i0 j' i' j1 y)];refine qm (qw ⟨rfl,.refl _⟩) ?_;refine qm (qw ⟨rfl,.refl _⟩) ?_;rw[qn i',qn j1,ei,ej];clear hI h1 g1 h3 g3 c1 c2
   (repeat (first|refine BT ?_|refine BG ?_))
   rfl
  ·refine .inr ⟨_,_,_,?_,i',j1,y,rfl,rfl,rfl,g1,by omega⟩;refine Last.mk0 (A:=A18) (m:=0) qf rfl rfl (zq hl1 (qK hl2)) (h1:=[ub 0 n y]) (by simp) ?_ (.refl _);rw[(qhz n a i0 j' i' j1 y)];refine qm (qw ⟨rfl,.refl _⟩) ?_;refine qm (qw ⟨rfl,.refl _⟩) ?_;rw[qn i',qn j1];clear hI h1 g1 h3 g3
   (repeat (first|refine BT ?_|refine BG ?_))
   rfl
 ·rintro e ⟨vs1,h1,⟨i,j,y,rfl,rfl,rfl,g1,g2⟩,hl⟩;exact⟨i,j,y,g1,g2,hl⟩
theorem qhA(n a i0 j' i' j1:Nat)(y:Nat->Int):qA P18 G18 A18 qk 0 83 [(3,qE (v83 n a i0 j') [ub 0 n y] (.exit 2) (v83 n a i' j') [ub 0 n y]),(5,qE (v83 n a i' j') [ub 0 n y] (.exit 4) (v83 n a i' j1) [ub 0 n y])] 7 (v83 n a i0 j') [ub 0 n y] =
( gD (qS (Q9 n a i0 (ofNat j')) [ub (0:Nat) n y] (Q9 n a i0 (ofNat j')) [ub (0:Nat) n y])<|gD (qS (Q9 n a i' (ofNat j')) [ub (0:Nat) n y] (Q9 n a i' (ofNat j')) [ub (0:Nat) n y])<|bif decide (ofNat j1<ofNat i') then zX 0 [iI (.ofNat i')] [ub (0:Nat) n y] else
 gD (decide (0<=ofNat j1)&&decide (ofNat j1<ofNat n))<|gD (((0:Nat)+j1).blt n)<|gD (decide (0<=ofNat i')&&decide (ofNat i'<ofNat n))<|gD (((0:Nat)+i').blt n)<|gD (decide (0<=ofNat i')&&decide (ofNat i'<ofNat n))<|gD (((0:Nat)+i').blt n&&true&&true&&true)<|gD (decide (0<=ofNat j1)&&decide (ofNat j1<ofNat n))<|gD (((0:Nat)+j1).blt n&&true&&true&&true)<|zN (v83 n a (i64.wrap (ofNat i'+1)) (i64.wrap (ofNat j1-1))) [ub (0:Nat) n fun j =>
 bif j==0+j1 then y (0+i')
 else
 bif j==0+i' then y (0+j1)
 else y j]):=by kernel_rfl
theorem m83(n a b:Nat)(x y0:Nat->Int)(i00 j00:Nat)(P:Int)(hn:n<=1000)(hb:b<=n)(hI0:PInv (fun u v:Int=>¬v<u) x y0 a b i00 j00 P) :
 ∃i j y,PInv (fun u v:Int=>¬v<u) x y a b i j P/\i=j+1/\LoopOk P18 G18 (A18 83) 83 7 (qE (v83 n a i00 j00) [ub 0 n y0] (.exit 0) [iI i] [ub 0 n y]):=by
 refine Exists.elim (Qv (P:=P18) (Gl:=G18) (f:=83) (r:=7) (an:=A18 83) (k:=1) qv (by kernel_rfl)
  (fun m vs h=>∃(i j:Nat) (y:Nat->Int),m=j+1-i/\vs=v83 n a i j/\h=[ub 0 n y]/\PInv (fun u v:Int=>¬v<u) x y a b i j P)
  (fun e vs1 h1=>∃(i j:Nat) (y:Nat->Int),e = .exit 0/\vs1=[iI i]/\h1=[ub 0 n y]/\PInv (fun u v:Int=>¬v<u) x y a b i j P/\i=j+1)
  (fun m vs h ⟨i0,j0,y,hm,hv,hh,hI⟩=>?_) (n:=j00+1-i00) (vs:=v83 n a i00 j00) (h:=[ub 0 n y0]) rfl ⟨i00,j00,y0,rfl,rfl,rfl,hI0⟩) ?_
 ·subst hm hv hh;obtain⟨i1,j',h1,⟨h2,rfl⟩,h3,hl1⟩:=qmg n a b x y i0 j0 P hn hb hI;obtain⟨i',j1,g1,⟨rfl,g2⟩,g3,hl2⟩:=qmh n a b x y i1 j' P hn hb h1;have k1:=g1.ai;have k2:=g1.jb;have k3:=g1.ij;have k4:=h1.jb;by_cases q:i'<=j1
  ·have c1:=h3 (by omega);have c2:=g3 q;have ei:i64.wrap ((i':Int)+1)=((i'+1:Nat):Int):=by rw[qI (by omega) (by omega)];omega
   have ej:i64.wrap ((j1:Int)-1)=((j1-1:Nat):Int):=by rw[qI (by omega) (by omega)];omega
   refine .inl ⟨j1-1+1-(i'+1),_,_,by omega,?_,⟨i'+1,j1-1,_,rfl,rfl,rfl,g1.swap q c1 c2⟩⟩;refine Step.mk0 (A:=A18) (m:=0) qf rfl rfl (zq hl1 (qK hl2)) (h1:=[ub 0 n fun e=>bif e==0+j1 then y (0+i') else bif e==0+i' then y (0+j1) else y e]) ?_ (YU fun e=>JO y i' j1 e);rw[(qhA n a i0 j' i' j1 y)];refine qm (qw ⟨rfl,.refl _⟩) ?_;refine qm (qw ⟨rfl,.refl _⟩) ?_;rw[qn i',qn j1,ei,ej];clear hI h1 g1 h3 g3 c1 c2
   (repeat (first|refine BT ?_|refine BG ?_))
   rfl
  ·refine .inr ⟨_,_,_,?_,i',j1,y,rfl,rfl,rfl,g1,by omega⟩;refine Last.mk0 (A:=A18) (m:=0) qf rfl rfl (zq hl1 (qK hl2)) (h1:=[ub 0 n y]) (by simp) ?_ (.refl _);rw[(qhA n a i0 j' i' j1 y)];refine qm (qw ⟨rfl,.refl _⟩) ?_;refine qm (qw ⟨rfl,.refl _⟩) ?_;rw[qn i',qn j1];clear hI h1 g1 h3 g3
   (repeat (first|refine BT ?_|refine BG ?_))
   rfl
 ·rintro e ⟨vs1,h1,⟨i,j,y,rfl,rfl,rfl,g1,g2⟩,hl⟩;exact⟨i,j,y,g1,g2,hl⟩
def Sw(y:Nat->Int)(i j:Nat):Nat->Int:=fun e=>if e=j then y i else if e=i then y j else y e
def swB(y:Nat->Int)(i j:Nat):Nat->Int:=fun e=>bif e==0+j then y (0+i) else bif e==0+i then y (0+j) else y e
theorem KX(n:Nat)(y:Nat->Int)(i j:Nat):SameBlks [ub 0 n (swB y i j)] [ub 0 n (Sw y i j)]:=YU fun e=>JO y i j e
theorem PInv.start{L:Int->Int->Prop}(x:Nat->Int){a b p:Nat}(ha:a<=p)(hp:p<b)(h2:a+1<b):PInv L x (Sw x a p) a b (a+1) (b-1) (x p) :=
 ⟨by
  show(if a=p then x a else if a=a then x p else x a)=x p;by_cases q:a=p
  ·rw[if_pos q,q]
  ·rw[if_neg q,if_pos rfl],Pr.swap x (i:=p) (j:=a) ⟨ha,hp⟩ ⟨Nat.le_refl _,by omega⟩,by omega,by omega,by omega,fun e g1 g2=>by omega,fun e g1 g2=>by omega⟩
theorem PInv.parted{x y:Nat->Int}{a b i j:Nat}{P:Int}(h:PInv (fun u v:Int=>u<v) x y a b i j P)(hij:i=j+1):Pr x (Sw y j a) a b/\Parted (Sw y j a) a b j:=by
 have ha:=h.ai;have hj:=h.jb;have ej:Sw y j a j=y a:=by
  show(if j=a then y j else if j=j then y a else y j)=y a;by_cases q:j=a
  ·rw[if_pos q,q]
  ·rw[if_neg q,if_pos rfl]
 refine⟨h.pr.trans (Pr.swap y (i:=a) (j:=j) ⟨Nat.le_refl _,by omega⟩ ⟨by omega,hj⟩),by omega,hj,fun p g1 g2=>?_,fun p g1 g2=>?_⟩
 ·rw[ej];show(if p=a then y j else if p=j then y a else y p)<y a;by_cases q:p=a
  ·rw[if_pos q];exact h.left j (by omega) (by omega)
  ·rw[if_neg q,if_neg (by omega)];exact h.left p (by omega) (by omega)
 ·rw[ej];show y a<=(if p=a then y j else if p=j then y a else y p);rw[if_neg (by omega),if_neg (by omega)];exact Int.not_lt.1 (h.right p g1 g2)
theorem qmi(n a b p:Nat)(x:Nat->Int)(hn:n<=1000)(hb:b<=n)(ha:a<=p)(hp:p<b)(h2:a+1<b) :
 ∃z m d,Pr x z a b/\Parted z a b m/\ToldRef P18 G18 84 [.own 0 0 0 n none,iI a,iI b,iI p] [ub 0 n x] (.tup [iI (m:Nat),.bool d]) [ub 0 n z]:=by
 obtain⟨i1,j0,k1,⟨k2,rfl⟩,k3,hl1⟩:=qme n a b x (Sw x a p) (a+1) (b-1) (x p) hn hb (PInv.start x ha hp h2);obtain⟨i',j1,g1,⟨rfl,g2⟩,g3,hl2⟩:=qmf n a b x (Sw x a p) i1 (b-1) (x p) hn hb k1;have q1:=g1.ai;have q2:=g1.jb;have q3:=g1.ij;have ea:i64.wrap ((a:Int)+1)=((a+1:Nat):Int):=by rw[qI (by omega) (by omega)];omega
 have eb:i64.wrap ((b:Int)-1)=((b-1:Nat):Int):=by rw[qI (by omega) (by omega)];omega
 by_cases q:i'<=j1
 ·have c1:=k3 (by omega);have c2:=g3 q;obtain⟨i3,j3,y3,m1,m2,hl3⟩:=m84 n a b x (Sw (Sw x a p) i' j1) (i'+1) (j1-1) (x p) hn hb (g1.swap q c1 c2);have w1:=m1.ai;have w2:=m1.jb;obtain⟨z1,z2⟩:=m1.parted m2;refine⟨Sw y3 j3 a,j3,false,z1,z2,?_⟩;refine ToldRef.res ?_ (KX n y3 j3 a);have ei:i64.wrap ((i':Int)+1)=((i'+1:Nat):Int):=by rw[qI (by omega) (by omega)];omega
  have ej:i64.wrap ((j1:Int)-1)=((j1-1:Nat):Int):=by rw[qI (by omega) (by omega)];omega
  have s1:=KX n x a p;have s2:=KX n (Sw x a p) i' j1;clear k1 g1 k3 g3 c1 c2 m1 z1 z2;generalize Sw (Sw x a p) i' j1=y2 at *
  generalize Sw x a p=y1 at *
  refine Qu qv q9 qf (A:=A18) (m:=0) (by kernel_rfl) (zq hl1 (zq hl2 (qK hl3))) ?_;rw[(show ZN P18 G18 A18 qk 0 84 [(3,qE (v83 n a (a+1:Nat) (b-1:Nat)) [ub 0 n y1] (.exit 0) (v83 n a i' (b-1:Nat)) [ub 0 n y1]),(5,qE (v83 n a i' (b-1:Nat)) [ub 0 n y1] (.exit 2) (v83 n a i' j1) [ub 0 n y1]),(17,qE (v83 n a (i'+1:Nat) (j1-1:Nat)) [ub 0 n y2] (.exit 4) [.own 0 0 0 n none,iI a,iI j3] [ub 0 n y3])] [.own 0 0 0 n none,iI a,iI b,iI p] [ub 0 n x] =
( gD (decide (0<=ofNat p)&&decide (ofNat p<ofNat n))<|gD (((0:Nat)+p).blt n)<|gD (decide (0<=ofNat a)&&decide (ofNat a<ofNat n))<|gD (((0:Nat)+a).blt n)<|gD (decide (0<=ofNat a)&&decide (ofNat a<ofNat n))<|gD (((0:Nat)+a).blt n&&[uI (x ((0:Nat)+p))].length==(1:Nat)&&true&&true)<|gD (decide (0<=ofNat p)&&decide (ofNat p<ofNat n))<|gD (((0:Nat)+p).blt n&&[uI (x ((0:Nat)+a))].length==(1:Nat)&&true&&true)<|gD (qS (v83 n a (i64.wrap (ofNat a+1)) (i64.wrap (ofNat b-1))) [ub (0:Nat) n fun j =>
 bif j==0+p then x (0+a)
 else
 bif j==0+a then x (0+p)
 else x j] (Q9 n a (a+1) (ofNat (b-1))) [ub (0:Nat) n y1])<|gD (qS (Q9 n a i' (ofNat (b-1))) [ub (0:Nat) n y1] (Q9 n a i' (ofNat (b-1))) [ub (0:Nat) n y1])<|bif decide (ofNat j1<ofNat i') then gD (decide (0<=ofNat a)&&decide (ofNat a<ofNat n))<|gD (((0:Nat)+a).blt n)<|gD (decide (0<=ofNat j1)&&decide (ofNat j1<ofNat n))<|gD (((0:Nat)+j1).blt n)<|gD (decide (0<=ofNat j1)&&decide (ofNat j1<ofNat n))<|gD (((0:Nat)+j1).blt n&&[uI (y1 ((0:Nat)+a))].length==(1:Nat)&&true&&true)<|gD (decide (0<=ofNat a)&&decide (ofNat a<ofNat n))<|gD (((0:Nat)+a).blt n&&[uI (y1 ((0:Nat)+j1))].length==(1:Nat)&&true&&true)<|some ((.tup [iI (.ofNat j1),.bool true],[ub (0:Nat) n fun j =>
 bif j==0+a then y1 (0+j1)
 else
 bif j==0+j1 then y1 (0+a)
 else y1 j])) else
 gD (decide (0<=ofNat j1)&&decide (ofNat j1<ofNat n))<|gD (((0:Nat)+j1).blt n)<|gD (decide (0<=ofNat i')&&decide (ofNat i'<ofNat n))<|gD (((0:Nat)+i').blt n)<|gD (decide (0<=ofNat i')&&decide (ofNat i'<ofNat n))<|gD (((0:Nat)+i').blt n&&[uI (y1 ((0:Nat)+j1))].length==(1:Nat)&&true&&true)<|gD (decide (0<=ofNat j1)&&decide (ofNat j1<ofNat n))<|gD (((0:Nat)+j1).blt n&&[uI (y1 ((0:Nat)+i'))].length==(1:Nat)&&true&&true)<|gD (qS (v83 n a (i64.wrap (ofNat i'+1)) (i64.wrap (ofNat j1-1))) [ub (0:Nat) n fun j =>
 bif j==0+j1 then y1 (0+i')
 else
 bif j==0+i' then y1 (0+j1)
 else y1 j] (Q9 n a (i'+1) (ofNat (j1-1))) [ub (0:Nat) n y2])<|gD (decide (0<=ofNat a)&&decide (ofNat a<ofNat n))<|gD (((0:Nat)+a).blt n)<|gD (decide (0<=ofNat j3)&&decide (ofNat j3<ofNat n))<|gD (((0:Nat)+j3).blt n)<|gD (decide (0<=ofNat j3)&&decide (ofNat j3<ofNat n))<|gD (((0:Nat)+j3).blt n&&[uI (y3 ((0:Nat)+a))].length==(1:Nat)&&true&&true)<|gD (decide (0<=ofNat a)&&decide (ofNat a<ofNat n))<|gD (((0:Nat)+a).blt n&&[uI (y3 ((0:Nat)+j3))].length==(1:Nat)&&true&&true)<|some ((.tup [iI (.ofNat j3),.bool false],[ub (0:Nat) n fun j =>
 bif j==0+a then y3 (0+j3)
 else
 bif j==0+j3 then y3 (0+a)
 else y3 j]))) from by kernel_rfl)]
  rw[qn a,qn b,ea,eb,qn i',qn j1,ei,ej]
  (repeat (first|refine BT ?_|refine BG ?_))
  refine qm (qw ⟨rfl,s1⟩) ?_;refine qm (qw ⟨rfl,.refl _⟩) ?_
  (repeat (first|refine BT ?_|refine BG ?_))
  refine qm (qw ⟨rfl,s2⟩) ?_
  (repeat (first|refine BT ?_|refine BG ?_))
  rfl
 ·obtain⟨z1,z2⟩:=g1.parted (by omega);refine⟨Sw (Sw x a p) j1 a,j1,true,z1,z2,?_⟩;refine ToldRef.res ?_ (KX n (Sw x a p) j1 a);have s1:=KX n x a p;clear k1 g1 k3 g3 z1 z2;generalize Sw x a p=y1 at *
  refine Qu qv q9 qf (A:=A18) (m:=0) (by kernel_rfl) (zq hl1 (qK hl2)) ?_;rw[(show ZN P18 G18 A18 qk 0 84 [(3,qE (v83 n a (a+1:Nat) (b-1:Nat)) [ub 0 n y1] (.exit 0) (v83 n a i' (b-1:Nat)) [ub 0 n y1]),(5,qE (v83 n a i' (b-1:Nat)) [ub 0 n y1] (.exit 2) (v83 n a i' j1) [ub 0 n y1])] [.own 0 0 0 n none,iI a,iI b,iI p] [ub 0 n x] =
( gD (decide (0<=ofNat p)&&decide (ofNat p<ofNat n))<|gD (((0:Nat)+p).blt n)<|gD (decide (0<=ofNat a)&&decide (ofNat a<ofNat n))<|gD (((0:Nat)+a).blt n)<|gD (decide (0<=ofNat a)&&decide (ofNat a<ofNat n))<|gD (((0:Nat)+a).blt n&&[uI (x ((0:Nat)+p))].length==(1:Nat)&&true&&true)<|gD (decide (0<=ofNat p)&&decide (ofNat p<ofNat n))<|gD (((0:Nat)+p).blt n&&[uI (x ((0:Nat)+a))].length==(1:Nat)&&true&&true)<|gD (qS (v83 n a (i64.wrap (ofNat a+1)) (i64.wrap (ofNat b-1))) [ub (0:Nat) n fun j =>
 bif j==0+p then x (0+a)
 else
 bif j==0+a then x (0+p)
 else x j] (Q9 n a (a+1) (ofNat (b-1))) [ub (0:Nat) n y1])<|gD (qS (Q9 n a i' (ofNat (b-1))) [ub (0:Nat) n y1] (Q9 n a i' (ofNat (b-1))) [ub (0:Nat) n y1])<|bif decide (ofNat j1<ofNat i') then gD (decide (0<=ofNat a)&&decide (ofNat a<ofNat n))<|gD (((0:Nat)+a).blt n)<|gD (decide (0<=ofNat j1)&&decide (ofNat j1<ofNat n))<|gD (((0:Nat)+j1).blt n)<|gD (decide (0<=ofNat j1)&&decide (ofNat j1<ofNat n))<|gD (((0:Nat)+j1).blt n&&[uI (y1 ((0:Nat)+a))].length==(1:Nat)&&true&&true)<|gD (decide (0<=ofNat a)&&decide (ofNat a<ofNat n))<|gD (((0:Nat)+a).blt n&&[uI (y1 ((0:Nat)+j1))].length==(1:Nat)&&true&&true)<|some ((.tup [iI (.ofNat j1),.bool true],[ub (0:Nat) n fun j =>
 bif j==0+a then y1 (0+j1)
 else
 bif j==0+j1 then y1 (0+a)
 else y1 j])) else
 gD (decide (0<=ofNat j1)&&decide (ofNat j1<ofNat n))<|gD (((0:Nat)+j1).blt n)<|gD (decide (0<=ofNat i')&&decide (ofNat i'<ofNat n))<|gD (((0:Nat)+i').blt n)<|gD (decide (0<=ofNat i')&&decide (ofNat i'<ofNat n))<|gD (((0:Nat)+i').blt n&&[uI (y1 ((0:Nat)+j1))].length==(1:Nat)&&true&&true)<|gD (decide (0<=ofNat j1)&&decide (ofNat j1<ofNat n))<|gD (((0:Nat)+j1).blt n&&[uI (y1 ((0:Nat)+i'))].length==(1:Nat)&&true&&true) none) from by kernel_rfl)]
  rw[qn a,qn b,ea,eb,qn i',qn j1]
  (repeat (first|refine BT ?_|refine BG ?_))
  refine qm (qw ⟨rfl,s1⟩) ?_;refine qm (qw ⟨rfl,.refl _⟩) ?_
  (repeat (first|refine BT ?_|refine BG ?_))
  rfl
theorem qnU(n a b p:Nat)(x:Nat->Int)(hn:n<=1000)(hb:b<=n)(ha:a<=p)(hp:p<b)(h2:a+1<b)(hmin:∀e,a<=e->e<b->x p<=x e) :
 ∃z m,Pr x z a b/\a<m/\m<=b/\(∀e f,a<=e->e<m->a<=f->f<b->z e<=z f)/\ToldRef P18 G18 83 [.own 0 0 0 n none,iI a,iI b,iI p] [ub 0 n x] (iI (m:Nat)) [ub 0 n z]:=by
 obtain⟨i3,j3,z,m1,m2,hl3⟩:=m83 n a b x (Sw x a p) (a+1) (b-1) (x p) hn hb (PInv.start x ha hp h2);have ea:i64.wrap ((a:Int)+1)=((a+1:Nat):Int):=by rw[qI (by omega) (by omega)];omega
 have eb:i64.wrap ((b:Int)-1)=((b-1:Nat):Int):=by rw[qI (by omega) (by omega)];omega
 refine⟨z,i3,m1.pr,m1.ai,by have:=m1.jb;omega,fun e f g1 g2 g3 g4=>?_,?_⟩
 ·have hall:∀f,a<=f->f<b->x p<=z f:=fun f g3 g4=>by
   obtain⟨e',h1,h2,h3⟩:=(m1.pr.mem (z f)).1 ⟨f,g3,g4,rfl⟩;rw[←h3];exact hmin e' h1 h2
  have h1:z e<=z a:=by
   by_cases q:e=a
   ·rw[q];exact Int.le_refl _
   ·exact Int.not_lt.1 (m1.left e (by omega) g2)
  rw[m1.piv] at h1;exact Int.le_trans h1 (hall f g3 g4)
 ·have s1:=KX n x a p;clear m1 hmin;generalize Sw x a p=y1 at *
  refine Qu qv q9 qf (A:=A18) (m:=0) (by kernel_rfl) (qK hl3) ?_;rw[(show ZN P18 G18 A18 qk 0 83 [(7,qE (v83 n a (a+1:Nat) (b-1:Nat)) [ub 0 n y1] (.exit 0) [iI i3] [ub 0 n z])] [.own 0 0 0 n none,iI a,iI b,iI p] [ub 0 n x] =
( gD (decide (0<=ofNat p)&&decide (ofNat p<ofNat n))<|gD (((0:Nat)+p).blt n)<|gD (decide (0<=ofNat a)&&decide (ofNat a<ofNat n))<|gD (((0:Nat)+a).blt n)<|gD (decide (0<=ofNat a)&&decide (ofNat a<ofNat n))<|gD (((0:Nat)+a).blt n&&[uI (x ((0:Nat)+p))].length==(1:Nat)&&true&&true)<|gD (decide (0<=ofNat p)&&decide (ofNat p<ofNat n))<|gD (((0:Nat)+p).blt n&&[uI (x ((0:Nat)+a))].length==(1:Nat)&&true&&true)<|gD (qS (v83 n a (i64.wrap (ofNat a+1)) (i64.wrap (ofNat b-1))) [ub (0:Nat) n fun j =>
 bif j==0+p then x (0+a)
 else
 bif j==0+a then x (0+p)
 else x j] (Q9 n a (a+1) (ofNat (b-1))) [ub (0:Nat) n y1])<|some ((iI (.ofNat i3),[ub (0:Nat) n z]))) from by kernel_rfl)]
  rw[qn a,qn b,ea,eb]
  (repeat (first|refine BT ?_|refine BG ?_))
  refine qm (qw ⟨rfl,s1⟩) ?_;rfl
def rb(r:Int):Blk:=⟨0,1,1,fun _=>[.int .u64 r],true,false,none⟩
def v78(n a l:Nat)(m i:Int):List T:=[.own 0 0 0 n none,iI a,iI l,.ptr 1 0 0 0,.int .u64 m,iI i]
noncomputable def K78(p:List T->qg->T->qg->Prop)(n:Nat)(y:Nat->Int)(v r2:Int):Orc:=qk.addRef 91 (qa4 p fun _ _=>some (.int .u64 v,[ub 0 n y,rb r2]))
noncomputable def K90(p:List T->T->Prop)(l:Int):Orc:=qk.add 71 (qL p fun _=>some (iI l))
noncomputable def qmj(p:List T->T->Prop)(m:Int):Orc:=qk.add 90 (qL p fun _=>some (.int .u64 m))
def qmk(r:Int):Int:=Qb BinOp.xor IntKind.u64 r (IntKind.u64.wrap (r*8192))
def qml(r:Int):Int:=Qb BinOp.xor IntKind.u64 (qmk r) ((qmk r).fdiv 128)
def qmm(r:Int):Int:=Qb BinOp.xor IntKind.u64 (qml r) (IntKind.u64.wrap (qml r*131072))
theorem qlk(v:Int)(m:Nat)(h1:1<=m)(h2:m<=1000):∃o:Nat,i64.wrap (Qb BinOp.and IntKind.u64 v (IntKind.u64.wrap ((m:Int)-1)))=(o:Int)/\o<m:=by
 rw[qdK (x:=(m:Int)-1) (by omega) (by omega),show(m:Int)-1=((m-1:Nat):Int) by omega];unfold Qb;obtain⟨o,ho⟩:∃o:Nat,(BitVec.ofInt IntKind.u64.bits v &&& BitVec.ofInt IntKind.u64.bits ((m-1:Nat):Int)).toNat=o:=⟨_,rfl⟩;have hle:o<=m-1:=by
  rw[←ho];show(BitVec.ofInt 64 v &&& BitVec.ofInt 64 ((m-1:Nat):Int)).toNat<=m-1;rw[BitVec.toNat_and,BitVec.toNat_ofInt,BitVec.toNat_ofInt];refine Nat.le_trans Nat.and_le_right ?_;omega
 refine⟨o,?_,by omega⟩;show i64.wrap (IntKind.u64.wrap ((BitVec.ofInt IntKind.u64.bits v &&& BitVec.ofInt IntKind.u64.bits ((m-1:Nat):Int)).toNat:Int))=_;rw[ho,qdK (by omega) (by omega),qI (by omega) (by omega)]
theorem qnV(n:Nat)(y:Nat->Int)(r:Int):∃v r2,ToldRef P18 G18 91 [.ptr 1 0 0 0] [ub 0 n y,rb r] (.int .u64 v) [ub 0 n y,rb r2]:=by
 refine⟨qmm r,qmm r,ToldRef.res (Qu qv q9 qf (A:=A18) (m:=0) (by kernel_rfl) (l:=[]) qh (show ZN P18 G18 A18 qk 0 91 [] [.ptr 1 0 0 0] [ub 0 n y,rb r] =
( some ((.int .u64 (Qb BinOp.xor IntKind.u64 (Qb BinOp.xor IntKind.u64 (Qb BinOp.xor IntKind.u64 r (IntKind.u64.wrap (r*8192))) ((Qb BinOp.xor IntKind.u64 r (IntKind.u64.wrap (r*(8192:Int)))).fdiv (128:Int))) (IntKind.u64.wrap (Qb BinOp.xor IntKind.u64 (Qb BinOp.xor IntKind.u64 r (IntKind.u64.wrap (r*8192))) ((Qb BinOp.xor IntKind.u64 r (IntKind.u64.wrap (r*(8192:Int)))).fdiv (128:Int))*(131072:Int)))),[ub (0:Nat) n y,.mk 0 1 1 (fun e=>[.int .u64 (bif e==(0:Nat) then Qb BinOp.xor IntKind.u64 (Qb BinOp.xor IntKind.u64 (Qb BinOp.xor IntKind.u64 r (IntKind.u64.wrap (r*8192))) ((Qb BinOp.xor IntKind.u64 r (IntKind.u64.wrap (r*(8192:Int)))).fdiv (128:Int))) (IntKind.u64.wrap (Qb BinOp.xor IntKind.u64 (Qb BinOp.xor IntKind.u64 r (IntKind.u64.wrap (r*8192))) ((Qb BinOp.xor IntKind.u64 r (IntKind.u64.wrap (r*(8192:Int)))).fdiv (128:Int))*(131072:Int)))
 else
 bif e==(0:Nat) then Qb BinOp.xor IntKind.u64 (Qb BinOp.xor IntKind.u64 r (IntKind.u64.wrap (r*8192))) ((Qb BinOp.xor IntKind.u64 r (IntKind.u64.wrap (r*(8192:Int)))).fdiv (128:Int))
 else
 bif e==(0:Nat) then Qb BinOp.xor IntKind.u64 r (IntKind.u64.wrap (r*8192))
 else r)]) true false
 none]))) from by kernel_rfl)) (.cons ⟨rfl,rfl,rfl,id,fun _ _=>rfl⟩ (.cons ⟨rfl,rfl,rfl,id,fun j hj=>?_⟩ .nil))⟩
 obtain rfl:=Yb hj;rfl
theorem qmn(l:Nat)(h1:13<=l)(h2:l<=16):∃m:Nat,1<=m/\m<=2*l/\ToldOk P18 G18 90 [iI l] (.int .u64 (m:Nat)):=by
 obtain⟨q,hq⟩:=qD P18 G18 71;have e:IntKind.u64.wrap (ofNat l)=(l:Int):=qdK (x:=(l:Int)) (by omega) (by omega);have key:∀k:Nat,k<=5->2 ^ k<=2*l->ToldOk P18 G18 71 [.int .u64 l] (iI (k:Nat))->∃m:Nat,1<=m/\m<=2*l/\ToldOk P18 G18 90 [iI l] (.int .u64 (m:Nat)):=fun k hk hk2 t=>by
  refine⟨2 ^ k,Nat.one_le_two_pow,hk2,?_⟩;refine qP qv q9 (K:=K90 q (k:Nat)) (qq qf (qj hq)) (A:=A18) (m:=0) ?_;generalize hkk:((k:Nat):Int)=kk at *
  rw[(show QU P18 G18 A18 (K90 q kk) 0 90 [iI l] =
( gD (qF (q [.int .u64 (IntKind.u64.wrap (ofNat l))] (iI kk)))<|gD (decide (0<=kk))<|some (.int .u64 (IntKind.u64.wrap ((1:Int)*(2:Int) ^ min kk.toNat (64:Nat))))) from by kernel_rfl)]
  rw[e];refine qm (qp hq t) ?_;refine BT ?_;rw[←hkk,QJ,Nat.min_eq_left (by omega),Int.one_mul];have:((2:Int) ^ k)=((2 ^ k:Nat):Int):=by norm_cast
  have h32:2 ^ k<=1000:=by omega
  rw[this];clear this;generalize 2 ^ k=w at *
  rw[qdK (x:=(w:Int)) (by omega) (by omega)]
 have s:∀k:Nat,QU P18 G18 A18 K86 0 71 [.int .u64 l]=some (iI (k:Nat))->ToldOk P18 G18 71 [.int .u64 l] (iI (k:Nat)):=fun k h=>qP qv q9 (yt qv q9 qf qf) h;obtain rfl|rfl|rfl|rfl:l=13∨l=14∨l=15∨l=16:=by omega
 ·exact key 4 (by omega) (by omega) (s 4 (by kernel_rfl))
 ·exact key 4 (by omega) (by omega) (s 4 (by kernel_rfl))
 ·exact key 4 (by omega) (by omega) (s 4 (by kernel_rfl))
 ·exact key 5 (by omega) (by omega) (s 5 (by kernel_rfl))
theorem qhB(n a l i:Nat)(y:Nat->Int)(r v r2 mm:Int)(p91:List T->qg->T->qg->Prop):qA P18 G18 A18 (K78 p91 n y v r2) 0 78 [] 5 (v78 n a l mm i) [ub 0 n y,rb r] =
( bif decide (ofNat i<=i64.wrap (i64.wrap (ofNat a+i64.wrap (i64.wrap ((ofNat l).tdiv 4)*(2:Int)))+(1:Int))) then gD (qF (p91 [.ptr 1 0 0 0] [ub (0:Nat) n y,rb r] (.int .u64 v) [ub (0:Nat) n y,rb r2]))<|bif decide (ofNat l<=i64.wrap (Qb BinOp.and IntKind.u64 v (IntKind.u64.wrap (mm-1)))) then gD (decide (0<=i64.wrap (ofNat a+i64.wrap (i64.wrap (Qb BinOp.and IntKind.u64 v (IntKind.u64.wrap (mm-1)))-ofNat l)))&&decide (i64.wrap (ofNat a+i64.wrap (i64.wrap (Qb BinOp.and IntKind.u64 v (IntKind.u64.wrap (mm-1)))-ofNat l))<ofNat n))<|gD (((0:Nat)+(i64.wrap (ofNat a+i64.wrap (i64.wrap (Qb BinOp.and IntKind.u64 v (IntKind.u64.wrap (mm-(1:Int))))-ofNat l))).toNat).blt n)<|gD (decide (0<=ofNat i)&&decide (ofNat i<ofNat n))<|gD (((0:Nat)+i).blt n)<|gD (decide (0<=ofNat i)&&decide (ofNat i<ofNat n))<|gD (((0:Nat)+i).blt n&&true&&true&&true)<|gD (decide (0<=i64.wrap (ofNat a+i64.wrap (i64.wrap (Qb BinOp.and IntKind.u64 v (IntKind.u64.wrap (mm-1)))-ofNat l)))&&decide (i64.wrap (ofNat a+i64.wrap (i64.wrap (Qb BinOp.and IntKind.u64 v (IntKind.u64.wrap (mm-1)))-ofNat l))<ofNat n))<|gD (((0:Nat)+(i64.wrap (ofNat a+i64.wrap (i64.wrap (Qb BinOp.and IntKind.u64 v (IntKind.u64.wrap (mm-(1:Int))))-ofNat l))).toNat).blt n&&true&&true&&true)<|zN (v78 n a l mm (i64.wrap (ofNat i+1))) [ub (0:Nat) n fun j =>
 bif j==(0:Nat)+(i64.wrap (ofNat a+i64.wrap (i64.wrap (Qb BinOp.and IntKind.u64 v (IntKind.u64.wrap (mm-(1:Int))))-ofNat l))).toNat then y (0+i)
 else
 bif j==0+i then y ((0:Nat)+(i64.wrap (ofNat a+i64.wrap (i64.wrap (Qb BinOp.and IntKind.u64 v (IntKind.u64.wrap (mm-(1:Int))))-ofNat l))).toNat)
 else y j,rb r2] else
 gD (decide (0<=i64.wrap (ofNat a+i64.wrap (Qb BinOp.and IntKind.u64 v (IntKind.u64.wrap (mm-1)))))&&decide (i64.wrap (ofNat a+i64.wrap (Qb BinOp.and IntKind.u64 v (IntKind.u64.wrap (mm-1))))<ofNat n))<|gD (((0:Nat)+(i64.wrap (ofNat a+i64.wrap (Qb BinOp.and IntKind.u64 v (IntKind.u64.wrap (mm-(1:Int)))))).toNat).blt n)<|gD (decide (0<=ofNat i)&&decide (ofNat i<ofNat n))<|gD (((0:Nat)+i).blt n)<|gD (decide (0<=ofNat i)&&decide (ofNat i<ofNat n))<|gD (((0:Nat)+i).blt n&&true&&true&&true)<|gD (decide (0<=i64.wrap (ofNat a+i64.wrap (Qb BinOp.and IntKind.u64 v (IntKind.u64.wrap (mm-1)))))&&decide (i64.wrap (ofNat a+i64.wrap (Qb BinOp.and IntKind.u64 v (IntKind.u64.wrap (mm-1))))<ofNat n))<|gD (((0:Nat)+(i64.wrap (ofNat a+i64.wrap (Qb BinOp.and IntKind.u64 v (IntKind.u64.wrap (mm-(1:Int)))))).toNat).blt n&&true&&true&&true)<|zN (v78 n a l mm (i64.wrap (ofNat i+1))) [ub (0:Nat) n fun j =>
 bif j==(0:Nat)+(i64.wrap (ofNat a+i64.wrap (Qb BinOp.and IntKind.u64 v (IntKind.u64.wrap (mm-(1:Int)))))).toNat then y (0+i)
 else
 bif j==0+i then y ((0:Nat)+(i64.wrap (ofNat a+i64.wrap (Qb BinOp.and IntKind.u64 v (IntKind.u64.wrap (mm-(1:Int)))))).toNat)
 else y j,rb r2] else
 zX 0 [] [ub (0:Nat) n y,rb r]):=by kernel_rfl
theorem qnW(n a b:Nat)(x:Nat->Int)(hn:n<=1000)(hb:b<=n)(h13:a+13<=b)(h16:b<=a+16) :
 ∃z B,Pr x z a b/\ToldRef P18 G18 78 [.own 0 0 0 n none,iI a,iI b] [ub 0 n x] (.tup []) [ub 0 n z,B]:=by
 obtain⟨l,hl⟩:∃l,b=a+l:=⟨b-a,by omega⟩;obtain⟨q,hq⟩:∃q:Nat,l/4=q:=⟨_,rfl⟩;obtain⟨m,hm1,hm2,t90⟩:=qmn l (by omega) (by omega);obtain⟨p91,hp91⟩:=ZO P18 G18 91;obtain⟨p90,hp90⟩:=qD P18 G18 90;have eq0:i64.wrap ((ofNat l).tdiv 4)=(q:Int):=by
  have:(ofNat l).tdiv 4=(q:Int):=by rw[←hq];rfl
  rw[this,qI (by omega) (by omega)]
 have e2:i64.wrap ((q:Int)*2)=((2*q:Nat):Int):=by rw[qI (by omega) (by omega)];omega
 have p2:i64.wrap (ofNat a+((2*q:Nat):Int))=((a+2*q:Nat):Int):=by rw[qn,qI (by omega) (by omega)];omega
 have p3:i64.wrap (((a+2*q:Nat):Int)+1)=((a+2*q+1:Nat):Int):=by rw[qI (by omega) (by omega)];omega
 have p4:i64.wrap (((a+2*q:Nat):Int)-1)=((a+2*q-1:Nat):Int):=by rw[qI (by omega) (by omega)];omega
 have hL:∃z r2,Pr x z a b/\LoopOk P18 G18 (A18 78) 78 5 (qE (v78 n a l m (a+2*q-1:Nat)) [ub 0 n x,rb l] (.exit 0) [] [ub 0 n z,rb r2]):=by
  refine Exists.elim (Qv (P:=P18) (Gl:=G18) (f:=78) (r:=5) (an:=A18 78) (k:=2) qv (by kernel_rfl)
   (fun s vs h=>∃(i:Nat) (y:Nat->Int) (r:Int),s=a+2*q+2-i/\a<=i/\vs=v78 n a l m i/\h=[ub 0 n y,rb r]/\Pr x y a b)
   (fun e vs1 h1=>∃z r2,e = .exit 0/\vs1=[]/\h1=[ub 0 n z,rb r2]/\Pr x z a b)
   (fun s vs h ⟨i,y,r,hs,hi,hv,hh,hI⟩=>?_) (n:=a+2*q+2-(a+2*q-1)) (vs:=v78 n a l m (a+2*q-1:Nat)) (h:=[ub 0 n x,rb l]) rfl ⟨a+2*q-1,x,l,rfl,by omega,rfl,rfl,.refl _ _ _⟩) ?_
  ·subst hs hv hh;by_cases qi:i<=a+2*q+1
   ·obtain⟨v,r2,t91⟩:=qnV n y r;obtain⟨o,ho1,ho2⟩:=qlk v m hm1 (by omega);have ei:i64.wrap ((i:Int)+1)=((i+1:Nat):Int):=by rw[qI (by omega) (by omega)];omega
    have fin:∀w:Nat,w<l->Step P18 G18 (A18 78) 78 5 2 (v78 n a l m i) [ub 0 n y,rb r] (v78 n a l m (i+1:Nat)) [ub 0 n (swB y i (a+w)),rb r2]->(∃m' vs' h',m'<a+2*q+2-i/\Step P18 G18 (A18 78) 78 5 2 (v78 n a l m i) [ub 0 n y,rb r] vs' h'/\∃(i:Nat) (y:Nat->Int) (r:Int),m'=a+2*q+2-i/\a<=i/\vs'=v78 n a l m i/\h'=[ub 0 n y,rb r]/\Pr x y a b):=fun w hw hst =>
     ⟨a+2*q+2-(i+1),_,_,by omega,hst,i+1,_,r2,rfl,by omega,rfl,rfl,hI.trans (by
      have e:swB y i (a+w)=Sw y i (a+w):=by funext e;exact(JO y i (a+w) e).symm
      rw[e];exact Pr.swap y (i:=a+w) (j:=i) ⟨by omega,by omega⟩ ⟨hi,by omega⟩)⟩
    left;by_cases qo:l<=o
    ·refine fin (o-l) (by omega) ?_;refine Step.mk0 (A:=A18) (K:=K78 p91 n y v r2) (m:=0) (QL qf (zf hp91)) rfl rfl qh (h1:=[ub 0 n (swB y i (a+(o-l))),rb r2]) ?_ (.refl _);have ew:i64.wrap ((o:Int)-ofNat l)=((o-l:Nat):Int):=by rw[qn,qI (by omega) (by omega)];omega
     have ep:i64.wrap (ofNat a+((o-l:Nat):Int))=((a+(o-l):Nat):Int):=by rw[qn,qI (by omega) (by omega)];omega
     generalize hmm:(m:Int)=mm at *
     rw[(qhB n a l i y r v r2 mm p91)];rw[eq0,e2,p2,p3,ho1,ew,ep,qn i,ei,QJ];refine BT ?_;refine qm (Qe hp91 t91) ?_;clear hI t91
     (repeat (first|refine BT ?_|refine BG ?_))
     rfl
    ·refine fin o (by omega) ?_;refine Step.mk0 (A:=A18) (K:=K78 p91 n y v r2) (m:=0) (QL qf (zf hp91)) rfl rfl qh (h1:=[ub 0 n (swB y i (a+o)),rb r2]) ?_ (.refl _);have ep:i64.wrap (ofNat a+(o:Int))=((a+o:Nat):Int):=by rw[qn,qI (by omega) (by omega)];omega
     generalize hmm:(m:Int)=mm at *
     rw[(qhB n a l i y r v r2 mm p91)];rw[eq0,e2,p2,p3,ho1,ep,qn i,ei,QJ];refine BT ?_;refine qm (Qe hp91 t91) ?_;clear hI t91
     (repeat (first|refine BT ?_|refine BG ?_))
     rfl
   ·refine .inr ⟨_,_,_,?_,y,r,rfl,rfl,rfl,hI⟩;refine Last.mk0 (A:=A18) (m:=0) qf rfl rfl qh (h1:=[ub 0 n y,rb r]) (by simp) ?_ (.refl _);generalize (m:Int)=mm at *
    rw[(show qA P18 G18 A18 qk 0 78 [] 5 (v78 n a l mm i) [ub 0 n y,rb r] =
( bif decide (ofNat i<=i64.wrap (i64.wrap (ofNat a+i64.wrap (i64.wrap ((ofNat l).tdiv 4)*(2:Int)))+(1:Int))) then none else
 zX 0 [] [ub (0:Nat) n y,rb r]) from by kernel_rfl)]
    rw[eq0,e2,p2,p3];refine BF ?_;rfl
  ·rintro e ⟨vs1,h1,⟨z,r2,rfl,rfl,rfl,hz⟩,hl⟩;exact⟨z,r2,hz,hl⟩
 obtain⟨z,r2,hz,hl5⟩:=hL;refine⟨z,rb r2,hz,?_⟩;have eL:i64.wrap (ofNat b-ofNat a)=(l:Int):=by rw[qn,qn,qI (by omega) (by omega)];omega
 generalize hmm:(m:Int)=mm at *
 generalize hii:a+2*q-1=i at *
 refine Qu qv q9 (K:=qmj p90 mm) (qq qf (qj hp90)) (A:=A18) (m:=0) (by kernel_rfl) (qK hl5) ?_;rw[(show ZN P18 G18 A18 (qmj p90 mm) 0 78 [(5,qE (v78 n a l mm i) [ub 0 n x,rb l] (.exit 0) [] [ub 0 n z,rb r2])] [.own 0 0 0 n none,iI a,iI b] [ub 0 n x] =
( bif decide (8<=i64.wrap (ofNat b-ofNat a)) then gD (qF (p90 [iI (i64.wrap (ofNat b-ofNat a))] (.int .u64 mm)))<|gD (qS [.own 0 0 0 n
 none,iI (.ofNat a),iI (i64.wrap (ofNat b-ofNat a)),.ptr 1 0 0 0,.int .u64 mm,iI (i64.wrap (i64.wrap (ofNat a+i64.wrap (i64.wrap ((i64.wrap (ofNat b-ofNat a)).tdiv 4)*(2:Int)))-(1:Int)))] [ub (0:Nat) n x,.mk 0 1 1 (fun e=>[.int .u64 (bif e==(0:Nat) then IntKind.u64.wrap (i64.wrap (ofNat b-ofNat a))
 else(0:Int))]) true false
 none] (v78 n a l mm (ofNat i)) [ub (0:Nat) n x,rb (ofNat l)])<|some ((.tup [],[ub (0:Nat) n z,rb r2])) else
 some ((.tup [],[ub (0:Nat) n x]))) from by kernel_rfl)]
 rw[eL];refine BT ?_;refine qm (qp hp90 t90) ?_;rw[←qn l,eq0,e2,p2,p4];refine qm (qw ⟨rfl,.cons ⟨rfl,rfl,rfl,id,fun _ _=>rfl⟩ (.cons ⟨rfl,rfl,rfl,id,fun j hj=>?_⟩ .nil)⟩) ?_
 ·obtain rfl:=Yb hj;show [T.int .u64 (l:Int)]=[T.int .u64 (IntKind.u64.wrap (ofNat l))];rw[qn,qdK (by omega) (by omega)]
 ·rfl
end Go.Ab

