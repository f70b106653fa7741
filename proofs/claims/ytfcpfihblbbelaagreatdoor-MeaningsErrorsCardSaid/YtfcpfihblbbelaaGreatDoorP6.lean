/- A part of the proof: nothing is assumed. -/
import Derived.Test.YtfcpfihblbbelaaGreatDoorP4
import Derived.Test.YtfcpfihblbbelaaGreatDoorP3
import Derived.Test.YtfcpfihblbbelaaGreatDoorP5
set_option linter.all false
namespace Go.Ab
open IntKind(i64 u8)
open Int(ofNat)
open Go.Proofs
structure Sti where
 (k y a b:Int) (f:Bool)
def Sti.c(s:Sti):List T:=[uI s.k,uI s.y,iI s.a,iI s.b,.bool s.f]
def rwV(r:Nat->Sti)(n:Nat)(c:Option Nat):T:=.view 5 n (fun j=>(r j).c) c
def YJ(y:Int):T:=.fn 148 [.vp [uI y]]
def qfz(r:Nat->Sti)(n:Nat)(c:Option Nat)(y:Int)(i:Nat):List T:=[rwV r n c,YJ y,iI n,iI i]
noncomputable def qgK(p:List T->T->Prop)(s:Sti)(y:Int):Orc:=qy.add 148 (Qe p fun _=>some (.bool (decide (s.y=y))))
noncomputable def qhA(p:List T->T->Prop)(x:Int):Orc:=qy.add 173 (Qe p fun _=>some (iI x))
noncomputable def qhB(x:List T->qa->Ex->List T->qa->Prop)(b:Bool)(k:Nat):List (Nat×(List T->qa->LT)):=[(2,z4 x (.ite b (.ret .ret [iI k] []) (.ret (.exit 0) [.undef] [])))]
theorem qhi(s:Sti)(y:Int):ToldOk P17 G17 148 [.agg s.c,.vp [uI y]] (.bool (decide (s.y=y))):=by
 refine q9 qG Qm qh (K:=qy) (A:=A17) (m:=0) ?_;rw[(show Zf P17 G17 A17 qy 0 148 [.agg s.c,.vp [uI y]] =
(
 bif decide (s.y=y) then
 some (.bool true)
 else
 some (.bool false)) from by kernel_rfl)]
 cases decide (s.y=y)<;>rfl
theorem qhC(r:Nat->Sti)(n:Nat)(c:Option Nat)(y:Int)(i:Nat)(p:List T->T->Prop):qV P17 G17 A17 (qgK p (r i) y) 0 173 [] 2 (qfz r n c y i) [] =
(
 bif decide (ofNat i<ofNat n) then
 bif decide (0<=ofNat i)&&decide (ofNat i<ofNat n) then
 bif qF (p [.agg (r i).c,.vp [uI y]] (.bool (decide ((r i).y=y)))) then
 bif decide ((r i).y=y) then
 some ((.ret,[iI (.ofNat i)],[]))
 else
 some ((.normal,[rwV r n c,YJ y,iI (.ofNat n),iI (i64.wrap (ofNat i+1))],[]))
 else none else none else
 some ((.exit 0,[.undef],[]))):=by kernel_rfl
theorem qh0(r:Nat->Sti)(n:Nat)(c:Option Nat)(y:Int)(b:Bool)(k:Nat)(x:List T->qa->Ex->List T->qa->Prop):z3 P17 G17 A17 qy 0 173 (qhB x b k) [rwV r n c,YJ y] =
(
 bif b then
 bif qF (x (qfz r n c y (nat_lit 0)) [] .ret [iI (.ofNat k)] []) then
 some (iI (.ofNat k))
 else none else
 bif qF (x (qfz r n c y (nat_lit 0)) [] (.exit 0) [.undef] []) then
 some (iI (-1:Int))
 else
 none):=by kernel_rfl
theorem qh1(r:Nat->Sti)(n:Nat)(c:Option Nat)(y x:Int)(p:List T->T->Prop):Zf P17 G17 A17 (qhA p x) 0 149 [rwV r n c,YJ y] =
(
 bif qF (p [rwV r n c,YJ y] (iI x)) then
 bif decide (0<=x) then
 some (.bool true)
 else
 some (.bool false)
 else
 none):=by kernel_rfl
def usB(r:Nat->Sti)(n:Nat)(y:Int):Bool:=!(Qp (fun i=>!(decide ((r i).y=y))) n)
theorem qgL(r:Nat->Sti)(n:Nat)(c:Option Nat)(y:Int)(hn:n<=1000000):(usB r n y=false->LoopOk P17 G17 (A17 173) 173 2 (qZ (qfz r n c y 0) [] (.exit 0) [.undef] []))/\(usB r n y=true->∃e v h,(e = .ret/\h=[]/\∃k:Nat,v=[iI k])/\LoopOk P17 G17 (A17 173) 173 2 (qZ (qfz r n c y 0) [] e v h)):=by
 obtain⟨p,hp⟩:=qA P17 G17 148;have key:=qaS (P:=P17) (Gl:=G17) (e1:=.exit 0) (v1:=[.undef]) (h1:=[]) qG (f:=173) (r:=2) (by kernel_rfl) (an:=A17 173) (fun i=>qfz r n c y i) (fun _=>[]) (fun i=>!(decide ((r i).y=y))) (n:=n) (fun e v h=>e = .ret/\h=[]/\∃k:Nat,v=[iI k]) (fun i hi _ hg=>?_) (fun i hi _ hg=>?_) (fun _=>?_)
 ·unfold usB;exact⟨fun h=>key.1 (by simpa using h),fun h=>key.2 (by simpa using h)⟩
 ·have t1:=qhi (r i) y;refine Step.mk0 (A:=A17) (m:=0) (K:=qgK p (r i) y) (qj qh (qg hp)) rfl rfl qr (h1:=[]) ?_ .nil;rw[qhC,up1 (by omega)];have q:¬(r i).y=y:=by simpa using hg
  exact BT (BT (BS (BF rfl)))
 ·have t1:=qhi (r i) y;refine⟨_,_,_,⟨rfl,rfl,i,rfl⟩,?_⟩;refine Last.mk0 (A:=A17) (m:=0) (K:=qgK p (r i) y) (qj qh (qg hp)) rfl rfl qr (h1:=[]) (by simp) ?_ .nil;rw[qhC];have q:(r i).y=y:=by simpa using hg
  exact BT (BT (BS (BT rfl)))
 ·refine Last.mk0 (A:=A17) (m:=0) (K:=qgK p (r n) y) (qj qh (qg hp)) rfl rfl qr (h1:=[]) (by simp) ?_ .nil;rw[qhC];exact BF rfl
theorem qgM(r:Nat->Sti)(n:Nat)(c:Option Nat)(y:Int)(hn:n<=1000000):ToldOk P17 G17 149 [rwV r n c,YJ y] (.bool (usB r n y)):=by
 obtain⟨x,hx⟩:=ZN P17 G17 (A17 173) 173 2;obtain⟨p,hp⟩:=qA P17 G17 173;have sc:=qgL r n c y hn;cases hb:usB r n y
 ·have t1:=sc.1 hb;have t2:ToldOk P17 G17 173 [rwV r n c,YJ y] (iI (-1)):=by
   refine qY qG Qm (K:=qy) qh (A:=A17) (m:=0) (l:=qhB x false 0) (by kernel_rfl) (Qk (QE hx _)) ?_;rw[qh0];exact Q2 (by simp) (BS rfl)
  refine q9 qG Qm (K:=qhA p (-1)) (qj qh (qg hp)) (A:=A17) (m:=0) ?_;rw[qh1];exact BS (Q2 (by decide) rfl)
 ·obtain⟨e,v,h,⟨rfl,rfl,k,rfl⟩,t1⟩:=sc.2 hb;have t2:ToldOk P17 G17 173 [rwV r n c,YJ y] (iI k):=by
   refine qY qG Qm (K:=qy) qh (A:=A17) (m:=0) (l:=qhB x true k) (by kernel_rfl) (Qk (QE hx _)) ?_;rw[qh0];exact qt rfl (BS rfl)
  refine q9 qG Qm (K:=qhA p k) (qj qh (qg hp)) (A:=A17) (m:=0) ?_;rw[qh1];exact BS (qt (by simp) rfl)
def Sti.t(s:Sti):T:=.agg s.c
structure Sti.Ok(s:Sti):Prop where
 k:0<=s.k/\s.k<256
 y:0<=s.y/\s.y<256
 a:-9223372036854775808<=s.a/\s.a<=9223372036854775807
 b:-9223372036854775808<=s.b/\s.b<=9223372036854775807
def Sti.v(s:Sti):Bool:=bif decide (s.k<1) then false else bif decide (8<s.k) then false else bif decide (s.y<1) then false else bif decide (6<s.y) then false else
 bif !decide (s.k=8) then(bif !decide (s.a=0) then false else bif !decide (s.b=0) then false else bif s.f then false else true) else
 bif decide (s.a<1) then false else bif decide (4<s.a) then false else bif decide (s.b<1) then false else bif decide (i64.wrap (4-s.a)<s.b) then false else true
def stF(s:Sti):Bool:=s.v
def qfA(b:Bool):Int:=bif b then 0 else 1
noncomputable def K58(p:List T->T->Prop)(s:Sti):Orc:=qy.add 98 (Qe p fun _=>some (iI (qfA (stF s))))
def Sti.n(s:Sti):Int:=bif stF s then(bif decide (s.k=3) then 0 else bif decide (s.k=4) then 2 else bif decide (s.k=5) then 2 else bif decide (s.k=8) then i64.wrap (s.a+s.b) else 1) else 0
def Sti.m(s:Sti):Int:=bif stF s then(bif decide (s.k=8) then i64.wrap (s.a+s.b) else 1) else 0
theorem y6(s:Sti):ToldOk P17 G17 98 [s.t] (iI (qfA (stF s))):=by
 refine q9 qG Qm qh (K:=qy) (A:=A17) (m:=0) ?_;rw[(show Zf P17 G17 A17 qy 0 98 [s.t] =
( bif decide (s.k<1) then some (iI 1) else
 bif decide (8<s.k) then some (iI 1) else
 bif decide (s.y<1) then some (iI 1) else
 bif decide (6<s.y) then some (iI 1) else
 bif !decide (s.k=8) then bif !decide (s.a=0) then some (iI 1) else
 bif !decide (s.b=0) then some (iI 1) else
 bif s.f then some (iI 1) else
 some (iI 0) else
 bif decide (s.a<1) then some (iI 1) else
 bif decide (4<s.a) then some (iI 1) else
 bif decide (s.b<1) then some (iI 1) else
 bif decide (i64.wrap (4-s.a)<s.b) then some (iI 1) else
 some (iI 0)) from by kernel_rfl)]
 have key:∀(c x y:Bool),some (iI (qfA (bif c then x else y)))=bif c then some (iI (qfA x)) else some (iI (qfA y)):=fun c x y=>by cases c<;>rfl
 unfold stF Sti.v;simp only[key];rfl
theorem kO(s:Sti):ToldOk P17 G17 77 [s.t] (iI s.n):=by
 obtain⟨p,hp⟩:=qA P17 G17 98;refine q9 qG Qm (qj qh (qg hp)) (K:=K58 p s) (A:=A17) (m:=0) ?_;rw[(show Zf P17 G17 A17 (K58 p s) 0 77 [s.t] =
( gD (qF (p [s.t] (iI (bif stF s then(0:Int)
 else(1:Int)))))<|bif !decide ((bif stF s then(0:Int)
 else(1:Int))=(0:Int)) then some (iI 0) else
 bif decide (s.k=3) then some (iI 0) else
 bif decide (s.k=4) then some (iI 2) else
 bif decide (s.k=5) then some (iI 2) else
 bif decide (s.k=8) then some (iI (i64.wrap (s.a+s.b))) else
 some (iI 1)) from by kernel_rfl)]
 refine qt (qo hp (y6 s)) ?_;unfold Sti.n;cases stF s
 ·rfl
 ·have key:∀(c:Bool) (x y:Int),some (iI (bif c then x else y))=bif c then some (iI x) else some (iI y):=fun c x y=>by cases c<;>rfl
  simp only[cond_true,key];rfl
theorem qbT(s:Sti):ToldOk P17 G17 61 [s.t] (iI s.m):=by
 obtain⟨p,hp⟩:=qA P17 G17 98;refine q9 qG Qm (qj qh (qg hp)) (K:=K58 p s) (A:=A17) (m:=0) ?_;rw[(show Zf P17 G17 A17 (K58 p s) 0 61 [s.t] =
( gD (qF (p [s.t] (iI (bif stF s then(0:Int)
 else(1:Int)))))<|bif !decide ((bif stF s then(0:Int)
 else(1:Int))=(0:Int)) then some (iI 0) else
 bif decide (s.k=8) then some (iI (i64.wrap (s.a+s.b))) else
 some (iI 1)) from by kernel_rfl)]
 refine qt (qo hp (y6 s)) ?_;unfold Sti.m;cases stF s
 ·rfl
 ·have key:∀(c:Bool) (x y:Int),some (iI (bif c then x else y))=bif c then some (iI x) else some (iI y):=fun c x y=>by cases c<;>rfl
  simp only[cond_true,key];rfl
theorem Sti.v_iff(s:Sti)(h:s.Ok):stF s=true↔(1<=s.k/\s.k<=8/\1<=s.y/\s.y<=6/\((s.k≠8/\s.a=0/\s.b=0/\s.f=false)∨(s.k=8/\1<=s.a/\s.a<=4/\1<=s.b/\s.a+s.b<=4))):=by
 have:=h.a;unfold stF Sti.v;by_cases h1:s.k<1
 ·rw[dT h1];simp;omega
 rw[dF h1,cond_false];by_cases h2:8<s.k
 ·rw[dT h2];simp;omega
 rw[dF h2,cond_false];by_cases h3:s.y<1
 ·rw[dT h3];simp;omega
 rw[dF h3,cond_false];by_cases h4:6<s.y
 ·rw[dT h4];simp;omega
 rw[dF h4,cond_false];by_cases h5:s.k=8
 ·rw[dT h5,Bool.not_true,cond_false];by_cases h6:s.a<1
  ·rw[dT h6];simp;omega
  rw[dF h6,cond_false];by_cases h7:4<s.a
  ·rw[dT h7];simp;omega
  rw[dF h7,cond_false];by_cases h8:s.b<1
  ·rw[dT h8];simp;omega
  rw[dF h8,cond_false,Q1 (by omega) (by omega)];by_cases h9:4-s.a<s.b
  ·rw[dT h9];simp;omega
  rw[dF h9,cond_false];simp;omega
 ·rw[dF h5,Bool.not_false,cond_true];by_cases h6:s.a=0
  ·by_cases h7:s.b=0
   ·rw[dT h6,dT h7];cases hf:s.f
    ·simp;omega
    ·simp;omega
   ·rw[dT h6,dF h7];simp;omega
  ·rw[dF h6];simp;omega
theorem Sti.n_bd(s:Sti)(h:s.Ok):0<=s.n/\s.n<=4:=by
 have hv:=s.v_iff h;unfold Sti.n;cases q:stF s
 ·simp
 ·have hv:=hv.1 q;rw[cond_true];by_cases h1:s.k=3
  ·rw[dT h1];simp
  rw[dF h1,cond_false];by_cases h2:s.k=4
  ·rw[dT h2];simp
  rw[dF h2,cond_false];by_cases h3:s.k=5
  ·rw[dT h3];simp
  rw[dF h3,cond_false];by_cases h4:s.k=8
  ·rw[dT h4,cond_true,Q1 (by omega) (by omega)];omega
  rw[dF h4];simp
theorem Sti.m_bd(s:Sti)(h:s.Ok):0<=s.m/\s.m<=4:=by
 have hv:=s.v_iff h;unfold Sti.m;cases q:stF s
 ·simp
 ·have hv:=hv.1 q;rw[cond_true];by_cases h4:s.k=8
  ·rw[dT h4,cond_true,Q1 (by omega) (by omega)];omega
  rw[dF h4];simp
def QY(N:Nat->Int):Nat->Int
 |0=>0
 |i+1=>QY N i+N i
def srV(r:Nat->Sti)(n:Nat)(c:Option Nat):T:=.view 5 n (fun j=>(r j).c) c
def v67(r:Nat->Sti)(n:Nat)(c:Option Nat)(fn:Nat)(sum i:Int):List T:=[.fn fn [],iI sum,srV r n c,iI n,iI i]
noncomputable def K67(p:List T->T->Prop)(fn:Nat)(x:Int):Orc:=qy.add fn (Qe p fun _=>some (iI x))
def v66(r:Nat->Sti)(n:Nat)(c:Option Nat)(i:Int):List T:=[srV r n c,srV r n c,iI n,iI i]
noncomputable def qgN(p:List T->T->Prop)(x:Int):Orc:=qy.add 98 (Qe p fun _=>some (iI x))
noncomputable def K66(p q:List T->T->Prop)(x y:Int):Orc:=(qy.add 41 (Qe p fun _=>some (iI x))).add 60 (Qe q fun _=>some (iI y))
noncomputable def K56(p:List T->T->Prop)(x:Int):Orc:=qy.add 76 (Qe p fun _=>some (iI x))
def nR5(r:Nat->Sti)(n:Nat):Int:=QY (fun j=>(r j).n) n
def mR5(r:Nat->Sti)(n:Nat):Int:=QY (fun j=>(r j).m) n
def qcP(r:Nat->Sti):Nat->Bool
 |0=>true
 |k+1=>qcP r k&&stF (r k)
def wOk(x:Int):Bool:=decide (1<=x)&&decide (x<=16)
def rE(r:Nat->Sti)(n:Nat):Int:=if 16<n then 3 else if n=0 then 1 else if qcP r n=true then(if wOk (nR5 r n)=true/\wOk (mR5 r n)=true then 0 else 5) else 1
theorem kP{N:Nat->Int}{b:Int}(hN:∀i,0<=N i/\N i<=b):∀i:Nat,0<=QY N i/\QY N i<=b*i
 |0=>by unfold QY;omega
 |i+1=>by
  have h1:=kP hN i;have h2:=hN i;have e:b*((i+1:Nat):Int)=b*i+b:=by rw[show((i+1:Nat):Int)=(i:Int)+1 by omega,Int.mul_add,Int.mul_one]
  rw[e];unfold QY;omega
theorem Zq(p:Nat->Bool)(n:Nat):(∀i,i<n->p i=true)∨∃I,I<n/\p I=false/\∀i,i<I->p i=true:=by
 induction n with
 |zero=>exact .inl fun i h=>by omega
 |succ n ih =>
  rcases ih with h|⟨I,h1,h2,h3⟩
  ·cases q:p n
   ·exact .inr ⟨n,by omega,q,h⟩
   ·refine .inl fun i hi=>?_;by_cases e:i=n
    ·rw[e];exact q
    ·exact h i (by omega)
  ·exact .inr ⟨I,by omega,h2,h3⟩
theorem qa0(r:Nat->Sti):∀n,qcP r n=true↔∀i,i<n->stF (r i)=true
 |0=>⟨fun _ i h=>by omega,fun _=>rfl⟩
 |n+1=>by
  have ih:=qa0 r n;unfold qcP;rw[Bool.and_eq_true,ih];constructor
  ·intro ⟨h1,h2⟩ i hi;by_cases e:i=n
   ·rw[e];exact h2
   ·exact h1 i (by omega)
  ·exact fun h=>⟨fun i hi=>h i (by omega),h n (by omega)⟩
theorem qdL(r:Nat->Sti)(n:Nat)(c:Option Nat)(hn:n<=1000)(hr:∀j,(r j).Ok):ToldOk P17 G17 76 [srV r n c,.fn 77 []] (iI (QY (fun j=>(r j).n) n)):=by
 obtain⟨p,hp⟩:=qA P17 G17 77;have hb:∀j,0<=(r j).n/\(r j).n<=4:=fun j=>(r j).n_bd (hr j);have hl:LoopOk P17 G17 (A17 76) 76 3 (qZ (v67 r n c 77 0 0) [] (.exit 0) [iI (QY (fun j=>(r j).n) n)] []):=by
  refine qE qG (by kernel_rfl) (fun i=>v67 r n c 77 (QY (fun j=>(r j).n) i) i) (fun _=>[]) (n:=n) (fun i hi=>?_) ?_
  ·have t1:=kO (r i);have h1:=kP hb i;have h2:=hb i;have e:QY (fun j=>(r j).n) (i+1)=QY (fun j=>(r j).n) i+(r i).n:=rfl;rw[e];generalize QY (fun j=>(r j).n) i=sum at *
   generalize (r i).n=x at *
   refine Step.mk0 (A:=A17) (K:=K67 p 77 x) (m:=0) (qj qh (qg hp)) rfl rfl qr (h1:=[]) ?_ .nil;rw[(show qV P17 G17 A17 (K67 p 77 x) 0 76 [] 3 (v67 r n c 77 sum i) [] =
( bif decide (ofNat i<ofNat n) then gD (decide (0<=ofNat i)&&decide (ofNat i<ofNat n))<|gD (qF (p [(r i).t] (iI x)))<|zN (v67 r n c (77:Nat) (i64.wrap (sum+x)) (i64.wrap (ofNat i+1))) [] else
 zX 0 [iI sum] []) from by kernel_rfl)]
   have ei:i64.wrap ((i:Int)+1)=((i+1:Nat):Int):=by rw[Q1 (by omega) (by omega)];omega
   rw[qW i,ei,Q1 (x:=sum+x) (by omega) (by omega)];refine BT ?_;refine BT ?_;refine qt (qo hp t1) ?_;rfl
  ·generalize QY (fun j=>(r j).n) n=sum;refine Last.mk0 (A:=A17) (m:=0) qh rfl rfl qr (h1:=[]) (by simp) ?_ .nil;rw[(show qV P17 G17 A17 qy 0 76 [] 3 (v67 r n c 77 sum n) [] =
( bif decide (ofNat n<ofNat n) then gD (decide (0<=ofNat n)&&decide (ofNat n<ofNat n)) none else
 zX 0 [iI sum] []) from by kernel_rfl)]
   (repeat (first|refine BT ?_|refine BG ?_))
   rfl
 generalize QY (fun j=>(r j).n) n=sum at *
 refine qY qG Qm qh (A:=A17) (m:=0) (by kernel_rfl) (Qk hl) ?_;rw[(show z3 P17 G17 A17 qy 0 76 [(3,qZ (v67 r n c 77 0 0) [] (.exit 0) [iI sum] [])] [srV r n c,.fn 77 []] =
( gD (zq (v67 r n c (77:Nat) (0:Int) (0:Int)) [] (v67 r n c (77:Nat) (0:Int) (0:Int)) [])<|some (iI sum)) from by kernel_rfl)]
 exact qt (Qd ⟨rfl,.refl _⟩) rfl
theorem Jf(r:Nat->Sti)(n:Nat)(c:Option Nat)(hn:n<=1000)(hr:∀j,(r j).Ok):ToldOk P17 G17 41 [srV r n c] (iI (nR5 r n)):=by
 obtain⟨p,hp⟩:=qA P17 G17 76;have t1:=qdL r n c hn hr;unfold nR5;generalize QY (fun j=>(r j).n) n=x at *
 refine q9 qG Qm (qj qh (qg hp)) (K:=K56 p x) (A:=A17) (m:=0) ?_;rw[(show Zf P17 G17 A17 (K56 p x) 0 41 [srV r n c] =
( gD (qF (p [rwV r n c,.fn (77:Nat) []] (iI x)))<|some (iI x)) from by kernel_rfl)]
 exact qt (qo hp t1) rfl
theorem qdM(r:Nat->Sti)(n:Nat)(c:Option Nat)(hn:n<=1000)(hr:∀j,(r j).Ok):ToldOk P17 G17 76 [srV r n c,.fn 61 []] (iI (QY (fun j=>(r j).m) n)):=by
 obtain⟨p,hp⟩:=qA P17 G17 61;have hb:∀j,0<=(r j).m/\(r j).m<=4:=fun j=>(r j).m_bd (hr j);have hl:LoopOk P17 G17 (A17 76) 76 3 (qZ (v67 r n c 61 0 0) [] (.exit 0) [iI (QY (fun j=>(r j).m) n)] []):=by
  refine qE qG (by kernel_rfl) (fun i=>v67 r n c 61 (QY (fun j=>(r j).m) i) i) (fun _=>[]) (n:=n) (fun i hi=>?_) ?_
  ·have t1:=qbT (r i);have h1:=kP hb i;have h2:=hb i;have e:QY (fun j=>(r j).m) (i+1)=QY (fun j=>(r j).m) i+(r i).m:=rfl;rw[e];generalize QY (fun j=>(r j).m) i=sum at *
   generalize (r i).m=x at *
   refine Step.mk0 (A:=A17) (K:=K67 p 61 x) (m:=0) (qj qh (qg hp)) rfl rfl qr (h1:=[]) ?_ .nil;rw[(show qV P17 G17 A17 (K67 p 61 x) 0 76 [] 3 (v67 r n c 61 sum i) [] =
( bif decide (ofNat i<ofNat n) then gD (decide (0<=ofNat i)&&decide (ofNat i<ofNat n))<|gD (qF (p [(r i).t] (iI x)))<|zN (v67 r n c (61:Nat) (i64.wrap (sum+x)) (i64.wrap (ofNat i+1))) [] else
 zX 0 [iI sum] []) from by kernel_rfl)]
   have ei:i64.wrap ((i:Int)+1)=((i+1:Nat):Int):=by rw[Q1 (by omega) (by omega)];omega
   rw[qW i,ei,Q1 (x:=sum+x) (by omega) (by omega)];refine BT ?_;refine BT ?_;refine qt (qo hp t1) ?_;rfl
  ·generalize QY (fun j=>(r j).m) n=sum;refine Last.mk0 (A:=A17) (m:=0) qh rfl rfl qr (h1:=[]) (by simp) ?_ .nil;rw[(show qV P17 G17 A17 qy 0 76 [] 3 (v67 r n c 61 sum n) [] =
( bif decide (ofNat n<ofNat n) then gD (decide (0<=ofNat n)&&decide (ofNat n<ofNat n)) none else
 zX 0 [iI sum] []) from by kernel_rfl)]
   (repeat (first|refine BT ?_|refine BG ?_))
   rfl
 generalize QY (fun j=>(r j).m) n=sum at *
 refine qY qG Qm qh (A:=A17) (m:=0) (by kernel_rfl) (Qk hl) ?_;rw[(show z3 P17 G17 A17 qy 0 76 [(3,qZ (v67 r n c 61 0 0) [] (.exit 0) [iI sum] [])] [srV r n c,.fn 61 []] =
( gD (zq (v67 r n c (61:Nat) (0:Int) (0:Int)) [] (v67 r n c (61:Nat) (0:Int) (0:Int)) [])<|some (iI sum)) from by kernel_rfl)]
 exact qt (Qd ⟨rfl,.refl _⟩) rfl
theorem kQ(r:Nat->Sti)(n:Nat)(c:Option Nat)(hn:n<=1000)(hr:∀j,(r j).Ok):ToldOk P17 G17 60 [srV r n c] (iI (mR5 r n)):=by
 obtain⟨p,hp⟩:=qA P17 G17 76;have t1:=qdM r n c hn hr;unfold mR5;generalize QY (fun j=>(r j).m) n=x at *
 refine q9 qG Qm (qj qh (qg hp)) (K:=K56 p x) (A:=A17) (m:=0) ?_;rw[(show Zf P17 G17 A17 (K56 p x) 0 60 [srV r n c] =
( gD (qF (p [rwV r n c,.fn (61:Nat) []] (iI x)))<|some (iI x)) from by kernel_rfl)]
 exact qt (qo hp t1) rfl
theorem i66(r:Nat->Sti)(n:Nat)(c:Option Nat)(x:Int)(i:Nat)(p:List T->T->Prop):qV P17 G17 A17 (qgN p x) 0 138 [] 6 (v66 r n c i) [] =
( bif decide (ofNat i<ofNat n) then gD (decide (0<=ofNat i)&&decide (ofNat i<ofNat n))<|gD (qF (p [(r i).t] (iI x)))<|bif !decide (x=0) then zR [rwV r n c,iI 1] [] else
 zN (v66 r n c (i64.wrap (ofNat i+1))) [] else
 zX 0 [rwV r n c,.undef] []):=by kernel_rfl
theorem s66(r:Nat->Sti)(n:Nat)(c:Option Nat)(hn:n<=1000)(p:List T->T->Prop)(hp:p=ToldOk P17 G17 98)(i:Nat)(hi:i<n)(hv:stF (r i)=true):Step P17 G17 (A17 138) 138 6 0 (v66 r n c i) [] (v66 r n c (i+1:Nat)) []:=by
 have t1:=y6 (r i);rw[hv] at t1;refine Step.mk0 (A:=A17) (K:=qgN p 0) (m:=0) (qj qh (qg hp)) rfl rfl qr (h1:=[]) ?_ .nil;have ei:i64.wrap ((i:Int)+1)=((i+1:Nat):Int):=by rw[Q1 (by omega) (by omega)];omega
 rw[i66,qW i,ei];refine BT ?_;refine BT ?_;refine qt (qo hp t1) ?_;refine Q2 (by simp) ?_;rfl
theorem Jg(r:Nat->Sti)(n:Nat)(c:Option Nat)(hn:n<=1000)(hr:∀j,(r j).Ok):ToldOk P17 G17 138 [srV r n c] (iI (rE r n)):=by
 unfold rE;obtain⟨p,hp⟩:=qA P17 G17 98;rcases Zq (fun i=>stF (r i)) n with h|⟨I,hI,hb,hlt⟩
 ·rw[if_pos ((qa0 r n).2 h)];have hl:LoopOk P17 G17 (A17 138) 138 6 (qZ (v66 r n c 0) [] (.exit 0) [srV r n c,.undef] []):=by
   refine qE qG (by kernel_rfl) (fun i=>v66 r n c i) (fun _=>[]) (n:=n) (fun i hi=>s66 r n c hn p hp i hi (h i hi)) ?_;refine Last.mk0 (A:=A17) (K:=qgN p 0) (m:=0) (qj qh (qg hp)) rfl rfl qr (h1:=[]) (by simp) ?_ .nil;rw[i66];refine BF ?_;rfl
  obtain⟨p1,hp1⟩:=qA P17 G17 41;obtain⟨p2,hp2⟩:=qA P17 G17 60;have t1:=Jf r n c hn hr;have t2:=kQ r n c hn hr;generalize nR5 r n=x at *
  generalize mR5 r n=y at *
  refine qY qG Qm (qj (qj qh (qg hp1)) (qg hp2)) (K:=K66 p1 p2 x y) (A:=A17) (m:=0) (by kernel_rfl) (Qk hl) ?_;rw[(show z3 P17 G17 A17 (K66 p1 p2 x y) 0 138 [(6,qZ (v66 r n c 0) [] (.exit 0) [srV r n c,.undef] [])] [srV r n c] =
( bif decide (16<ofNat n) then some (iI 3) else
 bif decide (ofNat n=0) then some (iI 1) else
 gD (zq (v66 r n c (0:Int)) [] (v66 r n c (0:Int)) [])<|gD (qF (p1 [rwV r n c] (iI x)))<|gD (qF (p2 [rwV r n c] (iI y)))<|bif decide (x<1) then some (iI 5) else
 bif decide (16<x) then some (iI 5) else
 bif decide (y<1) then some (iI 5) else
 bif decide (16<y) then some (iI 5) else
 some (iI 0)) from by kernel_rfl)]
  by_cases q1:16<n
  ·rw[if_pos q1];exact BT rfl
  rw[if_neg q1];refine BF ?_;by_cases q2:n=0
  ·rw[if_pos q2];exact BT rfl
  rw[if_neg q2];refine BF ?_;refine qt (Qd ⟨rfl,.refl _⟩) ?_;refine qt (qo hp1 t1) ?_;refine qt (qo hp2 t2) ?_;unfold wOk;simp only[Bool.and_eq_true,decide_eq_true_eq];by_cases q3:x<1
  ·rw[dT q3,if_neg (by omega)];rfl
  rw[dF q3,cond_false];by_cases q4:16<x
  ·rw[dT q4,if_neg (by omega)];rfl
  rw[dF q4,cond_false];by_cases q5:y<1
  ·rw[dT q5,if_neg (by omega)];rfl
  rw[dF q5,cond_false];by_cases q6:16<y
  ·rw[dT q6,if_neg (by omega)];rfl
  rw[dF q6,if_pos (by omega)];rfl
 ·have hna:¬qcP r n=true:=fun h=>by
   have:=(qa0 r n).1 h I hI;rw[hb] at this;cases this
  rw[if_neg hna];have hl:LoopOk P17 G17 (A17 138) 138 6 (qZ (v66 r n c 0) [] .ret [srV r n c,iI 1] []):=by
   refine qE qG (by kernel_rfl) (fun i=>v66 r n c i) (fun _=>[]) (n:=I) (fun i hi=>s66 r n c hn p hp i (by omega) (hlt i hi)) ?_;have t1:=y6 (r I);rw[show stF (r I)=false from hb] at t1;refine Last.mk0 (A:=A17) (K:=qgN p 1) (m:=0) (qj qh (qg hp)) rfl rfl qr (h1:=[]) (by simp) ?_ .nil;rw[i66];refine BT ?_;refine BT ?_;refine qt (qo hp t1) ?_;refine qt (by simp) ?_;rfl
  refine qY qG Qm qh (A:=A17) (m:=0) (by kernel_rfl) (Qk hl) ?_;rw[(show z3 P17 G17 A17 qy 0 138 [(6,qZ (v66 r n c 0) [] .ret [srV r n c,iI 1] [])] [srV r n c] =
( bif decide (16<ofNat n) then some (iI 3) else
 bif decide (ofNat n=0) then some (iI 1) else
 gD (zq (v66 r n c (0:Int)) [] (v66 r n c (0:Int)) [])<|some (iI 1)) from by kernel_rfl)]
  by_cases q1:16<n
  ·rw[if_pos q1];exact BT rfl
  rw[if_neg q1];refine BF ?_;by_cases q2:n=0
  ·rw[if_pos q2];exact BT rfl
  rw[if_neg q2];refine BF ?_;exact qt (Qd ⟨rfl,.refl _⟩) rfl
def chV(C:Nat->Nat->Sti)(ln:Nat->Nat)(h:Nat):T:=.view 1 h (fun i=>[srV (C i) (ln i) none]) none
def v55(C:Nat->Nat->Sti)(ln:Nat->Nat)(h:Nat)(i:Int):List T:=[chV C ln h,chV C ln h,iI h,iI i]
def w55(C:Nat->Nat->Sti)(ln:Nat->Nat)(h:Nat)(i:Int):List T:=[chV C ln h,iI i]
noncomputable def qgO(p:List T->T->Prop)(x:Int):Orc:=qy.add 138 (Qe p fun _=>some (iI x))
def zJ(C:Nat->Nat->Sti)(ln:Nat->Nat):Nat->Int
 |0=>0
 |i+1=>if zJ C ln i≠0 then zJ C ln i else rE (C i) (ln i)
def YK(C:Nat->Nat->Sti)(ln:Nat->Nat)(i:Nat):Bool:=decide (nR5 (C (i+1)) (ln (i+1))=mR5 (C i) (ln i))
def Yz(C:Nat->Nat->Sti)(ln:Nat->Nat):Nat->Bool
 |0=>true
 |i+1=>Yz C ln i&&YK C ln i
def chE(C:Nat->Nat->Sti)(ln:Nat->Nat)(h:Nat):Int:=if 31<h then 3 else if h%2=0 then 1 else if zJ C ln h≠0 then zJ C ln h else if Yz C ln (h-1)=true then 0 else 14
theorem i55(C:Nat->Nat->Sti)(ln:Nat->Nat)(h:Nat)(i:Nat)(x:Int)(p:List T->T->Prop):qV P17 G17 A17 (qgO p x) 0 102 [] 6 (v55 C ln h i) [] =
( bif decide (ofNat i<ofNat h) then gD (decide (0<=ofNat i)&&decide (ofNat i<ofNat h))<|gD (qF (p [srV (C i) (ln i)
 none] (iI x)))<|bif !decide (x=0) then zR (w55 C ln h x) [] else
 zN (v55 C ln h (i64.wrap (ofNat i+1))) [] else
 zX 0 [chV C ln h,.undef] []):=by kernel_rfl
theorem j55(C:Nat->Nat->Sti)(ln:Nat->Nat)(h:Nat)(i:Nat)(x y:Int)(p q:List T->T->Prop):qV P17 G17 A17 (K66 p q x y) 0 102 [] 13 (w55 C ln h (i+1:Nat)) [] =
( bif decide (ofNat (i+1)<ofNat h) then gD (decide (0<=ofNat (i+1))&&decide (ofNat (i+1)<ofNat h))<|gD (qF (p [srV (C (i+1)) (ln (i+1))
 none] (iI x)))<|gD (decide (0<=i64.wrap (ofNat (i+1)-(1:Int)))&&decide (i64.wrap (ofNat (i+1)-(1:Int))<ofNat h))<|gD (qF (q [srV (C (i64.wrap (ofNat (i+(1:Nat))-(1:Int))).toNat) (ln (i64.wrap (ofNat (i+(1:Nat))-(1:Int))).toNat)
 none] (iI y)))<|bif !decide (x=y) then zR [iI 14] [] else
 zN (w55 C ln h (i64.wrap (ofNat (i+1)+(1:Int)))) [] else
 zX 2 [.undef] []):=by kernel_rfl
theorem k55(C:Nat->Nat->Sti)(ln:Nat->Nat)(h:Nat)(x:Int):z3 P17 G17 A17 qy 0 102 [(6,qZ (v55 C ln h 0) [] .ret [chV C ln h,iI x] [])] [chV C ln h] =
( bif decide (31<ofNat h) then some (iI 3) else
 bif decide ((ofNat h).tmod 2=0) then some (iI 1) else
 gD (zq (v55 C ln h (0:Int)) [] (v55 C ln h (0:Int)) [])<|some (iI x)):=by kernel_rfl
theorem qiM(C:Nat->Nat->Sti)(ln:Nat->Nat)(h:Nat):z3 P17 G17 A17 qy 0 102 [(6,qZ (v55 C ln h 0) [] (.exit 0) [chV C ln h,.undef] []),(13,qZ (w55 C ln h 1) [] (.exit 2) [.undef] [])] [chV C ln h] =
( bif decide (31<ofNat h) then some (iI 3) else
 bif decide ((ofNat h).tmod 2=0) then some (iI 1) else
 gD (zq (v55 C ln h (0:Int)) [] (v55 C ln h (0:Int)) [])<|gD (zq (w55 C ln h (1:Int)) [] (w55 C ln h (1:Int)) [])<|some (iI 0)):=by kernel_rfl
theorem qiN(C:Nat->Nat->Sti)(ln:Nat->Nat)(h:Nat):z3 P17 G17 A17 qy 0 102 [(6,qZ (v55 C ln h 0) [] (.exit 0) [chV C ln h,.undef] []),(13,qZ (w55 C ln h 1) [] .ret [iI 14] [])] [chV C ln h] =
( bif decide (31<ofNat h) then some (iI 3) else
 bif decide ((ofNat h).tmod 2=0) then some (iI 1) else
 gD (zq (v55 C ln h (0:Int)) [] (v55 C ln h (0:Int)) [])<|gD (zq (w55 C ln h (1:Int)) [] (w55 C ln h (1:Int)) [])<|some (iI 14)):=by kernel_rfl
theorem YA(C:Nat->Nat->Sti)(ln:Nat->Nat):∀h,(∀i,i<h->rE (C i) (ln i)=0)->zJ C ln h=0
 |0,_=>rfl
 |h+1,q=>by
  unfold zJ;rw[if_neg (by rw[YA C ln h fun i hi=>q i (by omega)];simp),q h (by omega)]
theorem jH(C:Nat->Nat->Sti)(ln:Nat->Nat)(I:Nat)(hb:rE (C I) (ln I)≠0)(hlt:∀i,i<I->rE (C i) (ln i)=0):∀h,I<h->zJ C ln h=rE (C I) (ln I)
 |h+1,hI=>by
  unfold zJ;by_cases q:h=I
  ·subst q;rw[if_neg (by rw[YA C ln h hlt];simp)]
  ·have ih:=jH C ln I hb hlt h (by omega);rw[if_pos (by rw[ih];exact hb),ih]
theorem YB(C:Nat->Nat->Sti)(ln:Nat->Nat):∀n,Yz C ln n=true↔∀i,i<n->YK C ln i=true
 |0=>⟨fun _ i h=>by omega,fun _=>rfl⟩
 |n+1=>by
  have ih:=YB C ln n;unfold Yz;rw[Bool.and_eq_true,ih];constructor
  ·intro ⟨h1,h2⟩ i hi;by_cases e:i=n
   ·rw[e];exact h2
   ·exact h1 i (by omega)
  ·exact fun h=>⟨fun i hi=>h i (by omega),h n (by omega)⟩
theorem s55(C:Nat->Nat->Sti)(ln:Nat->Nat)(h:Nat)(hh:h<=1000)(p:List T->T->Prop)(hp:p=ToldOk P17 G17 138)(i:Nat)(hi:i<h)(t1:ToldOk P17 G17 138 [srV (C i) (ln i) none] (iI 0)):Step P17 G17 (A17 102) 102 6 0 (v55 C ln h i) [] (v55 C ln h (i+1:Nat)) []:=by
 refine Step.mk0 (A:=A17) (K:=qgO p 0) (m:=0) (qj qh (qg hp)) rfl rfl qr (h1:=[]) ?_ .nil;have ei:i64.wrap ((i:Int)+1)=((i+1:Nat):Int):=by rw[Q1 (by omega) (by omega)];omega
 rw[i55,qW i,ei];refine BT ?_;refine BT ?_;refine qt (qo hp t1) ?_;refine Q2 (by simp) ?_;rfl
theorem ZC(h:Nat):decide ((ofNat h).tmod 2=0)=decide (h%2=0):=by
 rw[qW,Int.tmod_eq_emod_of_nonneg (by omega)];by_cases q:h%2=0
 ·rw[dT q,dT (by omega)]
 ·rw[dF q,dF (by omega)]
theorem qa1(C:Nat->Nat->Sti)(ln:Nat->Nat)(h:Nat)(hh:h<=1000)(hln:∀i,i<h->ln i<=1000)(hC:∀i j,(C i j).Ok):ToldOk P17 G17 102 [chV C ln h] (iI (chE C ln h)):=by
 unfold chE;obtain⟨p,hp⟩:=qA P17 G17 138;rcases Zq (fun i=>decide (rE (C i) (ln i)=0)) h with hg|⟨I,hI,hb,hlt⟩
 ·have hg:∀i,i<h->rE (C i) (ln i)=0:=fun i hi=>by simpa using hg i hi
  rw[YA C ln h hg];have hl:LoopOk P17 G17 (A17 102) 102 6 (qZ (v55 C ln h 0) [] (.exit 0) [chV C ln h,.undef] []):=by
   refine qE qG (by kernel_rfl) (fun i=>v55 C ln h i) (fun _=>[]) (n:=h) (fun i hi=>s55 C ln h hh p hp i hi (by have:=Jg (C i) (ln i) none (hln i hi) (hC i);rw[hg i hi] at this;exact this)) ?_;refine Last.mk0 (A:=A17) (K:=qgO p 0) (m:=0) (qj qh (qg hp)) rfl rfl qr (h1:=[]) (by simp) ?_ .nil;rw[i55];refine BF ?_;rfl
  obtain⟨p1,hp1⟩:=qA P17 G17 41;obtain⟨p2,hp2⟩:=qA P17 G17 60;have hK:∀x y,OrcOk P17 G17 (K66 p1 p2 x y):=fun x y=>qj (qj qh (qg hp1)) (qg hp2);have tr:∀i,i<h->i+1<h->∀vs e,(∀q,(bif !decide (nR5 (C (i+1)) (ln (i+1))=mR5 (C i) (ln i)) then some (Ex.ret,[iI 14],([]:qa)) else some (Ex.normal,w55 C ln h (i+1+1:Nat),[]))=q->q=some (e,vs,[]))->qV P17 G17 A17 (K66 p1 p2 (nR5 (C (i+1)) (ln (i+1))) (mR5 (C i) (ln i))) 0 102 [] 13 (w55 C ln h (i+1:Nat)) []=some (e,vs,[]):=fun i hi hi2 vs e hq=>by
   have t1:=Jf (C (i+1)) (ln (i+1)) none (hln (i+1) hi2) (hC (i+1));have t2:=kQ (C i) (ln i) none (hln i hi) (hC i);generalize nR5 (C (i+1)) (ln (i+1))=x at *
   generalize mR5 (C i) (ln i)=y at *
   have ei:i64.wrap (((i+1:Nat):Int)+1)=((i+1+1:Nat):Int):=by rw[Q1 (by omega) (by omega)];omega
   have ei2:(i64.wrap (((i+1:Nat):Int)-1)).toNat=i:=by rw[Q1 (by omega) (by omega)];omega
   have ei3:i64.wrap (((i+1:Nat):Int)-1)=(i:Int):=by rw[Q1 (by omega) (by omega)];omega
   rw[j55,qW (i+1),ei,ei2,ei3];refine BT ?_;refine BT ?_;refine qt (qo hp1 t1) ?_;refine BT ?_;refine qt (qo hp2 t2) ?_;exact hq _ rfl
  have st:∀i,i+1<h->YK C ln i=true->Step P17 G17 (A17 102) 102 13 0 (w55 C ln h (i+1:Nat)) [] (w55 C ln h (i+1+1:Nat)) []:=fun i hi hk=>by
   refine Step.mk0 (A:=A17) (K:=K66 p1 p2 (nR5 (C (i+1)) (ln (i+1))) (mR5 (C i) (ln i))) (m:=0) (hK _ _) rfl rfl qr (h1:=[]) (tr i (by omega) hi _ _ fun q hq=>?_) .nil;unfold YK at hk;rw[←hq,hk];rfl
  rcases Zq (YK C ln) (h-1) with hg2|⟨J,hJ,hb2,hlt2⟩
  ·rw[if_pos ((YB C ln (h-1)).2 hg2)];by_cases h0:h=0
   ·subst h0;refine qY qG Qm qh (A:=A17) (m:=0) (by kernel_rfl) (Qk hl) ?_;rw[(show z3 P17 G17 A17 qy 0 102 [(6,qZ (v55 C ln 0 0) [] (.exit 0) [chV C ln 0,.undef] [])] [chV C ln 0] =
( some (iI 1)) from by kernel_rfl)]
    rfl
   ·have hl2:LoopOk P17 G17 (A17 102) 102 13 (qZ (w55 C ln h 1) [] (.exit 2) [.undef] []):=by
     refine qE qG (by kernel_rfl) (fun i=>w55 C ln h (i+1:Nat)) (fun _=>[]) (n:=h-1) (fun i hi=>st i (by omega) (hg2 i hi)) ?_;refine Last.mk0 (A:=A17) (K:=K66 p1 p2 0 0) (m:=0) (hK _ _) rfl rfl qr (h1:=[]) (by simp) ?_ .nil;rw[j55];refine BF ?_;rfl
    refine qY qG Qm qh (A:=A17) (m:=0) (by kernel_rfl) (qcL hl (Qk hl2)) ?_;rw[qiM,ZC];by_cases q1:31<h
    ·rw[if_pos q1];exact BT rfl
    rw[if_neg q1];refine BF ?_;by_cases q2:h%2=0
    ·rw[if_pos q2];exact qt (dT q2) rfl
    rw[if_neg q2];refine Q2 (by simpa using q2) ?_;refine qt (Qd ⟨rfl,.refl _⟩) ?_;refine qt (Qd ⟨rfl,.refl _⟩) ?_;rfl
  ·have hne:¬Yz C ln (h-1)=true:=fun q=>by
    have:=(YB C ln (h-1)).1 q J hJ;rw[hb2] at this;cases this
   rw[if_neg hne];have hl2:LoopOk P17 G17 (A17 102) 102 13 (qZ (w55 C ln h 1) [] .ret [iI 14] []):=by
    refine qE qG (by kernel_rfl) (fun i=>w55 C ln h (i+1:Nat)) (fun _=>[]) (n:=J) (fun i hi=>st i (by omega) (hlt2 i hi)) ?_;refine Last.mk0 (A:=A17) (K:=K66 p1 p2 (nR5 (C (J+1)) (ln (J+1))) (mR5 (C J) (ln J))) (m:=0) (hK _ _) rfl rfl qr (h1:=[]) (by simp) (tr J (by omega) (by omega) _ _ fun q hq=>?_) .nil;unfold YK at hb2;rw[←hq,hb2];rfl
   refine qY qG Qm qh (A:=A17) (m:=0) (by kernel_rfl) (qcL hl (Qk hl2)) ?_;rw[qiN,ZC];by_cases q1:31<h
   ·rw[if_pos q1];exact BT rfl
   rw[if_neg q1];refine BF ?_;by_cases q2:h%2=0
   ·rw[if_pos q2];exact qt (dT q2) rfl
   rw[if_neg q2];refine Q2 (by simpa using q2) ?_;refine qt (Qd ⟨rfl,.refl _⟩) ?_;refine qt (Qd ⟨rfl,.refl _⟩) ?_;rfl
 ·have hb:rE (C I) (ln I)≠0:=by simpa using hb
  have hlt:∀i,i<I->rE (C i) (ln i)=0:=fun i hi=>by simpa using hlt i hi
  rw[jH C ln I hb hlt h hI,if_pos hb];have hl:LoopOk P17 G17 (A17 102) 102 6 (qZ (v55 C ln h 0) [] .ret [chV C ln h,iI (rE (C I) (ln I))] []):=by
   refine qE qG (by kernel_rfl) (fun i=>v55 C ln h i) (fun _=>[]) (n:=I) (fun i hi=>s55 C ln h hh p hp i (by omega) (by have:=Jg (C i) (ln i) none (hln i (by omega)) (hC i);rw[hlt i hi] at this;exact this)) ?_;have t1:=Jg (C I) (ln I) none (hln I hI) (hC I);generalize rE (C I) (ln I)=x at *
   refine Last.mk0 (A:=A17) (K:=qgO p x) (m:=0) (qj qh (qg hp)) rfl rfl qr (h1:=[]) (by simp) ?_ .nil;rw[i55];refine BT ?_;refine BT ?_;refine qt (qo hp t1) ?_;refine qt (by simp[hb]) ?_;rfl
  generalize rE (C I) (ln I)=x at *
  refine qY qG Qm qh (A:=A17) (m:=0) (by kernel_rfl) (Qk hl) ?_;rw[k55,ZC];by_cases q1:31<h
  ·rw[if_pos q1];exact BT rfl
  rw[if_neg q1];refine BF ?_;by_cases q2:h%2=0
  ·rw[if_pos q2];exact qt (dT q2) rfl
  rw[if_neg q2];refine Q2 (by simpa using q2) ?_;exact qt (Qd ⟨rfl,.refl _⟩) rfl
def nsV(B:Nat->Int)(n:Nat)(c:Option Nat):T:=.view 1 n (fun j=>[iI (B j)]) c
def QF(g:Nat->Int)(n:Nat):qa:=[⟨0,1,n,fun j=>[iI (g j)],true,false,none⟩]
def jI(s:Sti)(B:Nat->Int)(n:Nat)(c:Option Nat)(i:Int):List T:=[nsV B n c,.reg s.c,nsV B n c,iI n,iI i]
def qcQ(s:Sti)(B:Nat->Int)(n:Nat)(c:Option Nat)(m:Nat)(i:Int):List T:=[nsV B n c,.reg s.c,.own 0 0 0 m (some m),iI m,iI i]
noncomputable def K59(p q r:List T->T->Prop)(e:Bool)(x y:Int):Orc:=((qy.add 98 (Qe p fun _=>some (iI (qfA e)))).add 77 (Qe q fun _=>some (iI x))).add 61 (Qe r fun _=>some (iI y))
def y7(B:Nat->Int)(j:Nat):Bool:=decide (1<=B j)&&decide (B j<=3)
def yL(B:Nat->Int):Nat->Bool
 |0=>true
 |j+1=>yL B j&&y7 B j
def Sti.mN(s:Sti):Nat:=s.m.toNat
def Sti.nN(s:Sti):Nat:=s.n.toNat
def ldE(s:Sti)(B:Nat->Int)(n:Nat):Int:=if stF s=false then 1 else if n≠s.nN then 5 else if yL B n=false then 1 else if s.k=4∨s.k=5 then(if 4<B 0+B 1 then 9 else 0) else if s.k=6 then(if B 0=3 then 9 else 0) else 0
def ldG(s:Sti)(B:Nat->Int)(j:Nat):Int:=if s.k=6/\j=0 then B 0+1 else if s.k=7/\j=0 then B 0 else 1
def ldR(s:Sti)(B:Nat->Int)(n:Nat):T:=if ldE s B n=0 then .tup [.fresh true 1 s.mN (fun j=>[iI (ldG s B j)]) s.mN (some s.mN),iI 0] else .tup [.nils,iI (ldE s B n)]
theorem i59(s:Sti)(B:Nat->Int)(n:Nat)(c:Option Nat)(i:Nat):qV P17 G17 A17 qy 0 103 [] 6 (jI s B n c i) [] =
( bif decide (ofNat i<ofNat n) then gD (decide (0<=ofNat i)&&decide (ofNat i<ofNat n))<|bif decide (B i<1) then zR [nsV B n c,.reg s.c,.nils,iI 1] [] else
 bif decide ((3:Int)<B i) then zR [nsV B n c,.reg s.c,.nils,iI 1] [] else
 zN (jI s B n c (i64.wrap (ofNat i+1))) [] else
 zX 0 [nsV B n c,.reg s.c,.undef,.undef] []):=by kernel_rfl
theorem KK(B:Nat->Int):∀n,yL B n=true↔∀i,i<n->y7 B i=true
 |0=>⟨fun _ i h=>by omega,fun _=>rfl⟩
 |n+1=>by
  have ih:=KK B n;unfold yL;rw[Bool.and_eq_true,ih];constructor
  ·intro ⟨h1,h2⟩ i hi;by_cases e:i=n
   ·rw[e];exact h2
   ·exact h1 i (by omega)
  ·exact fun h=>⟨fun i hi=>h i (by omega),h n (by omega)⟩
theorem z5(B:Nat->Int)(j:Nat):y7 B j=true↔1<=B j/\B j<=3:=by
 unfold y7;rw[Bool.and_eq_true,decide_eq_true_eq,decide_eq_true_eq]
theorem s59(s:Sti)(B:Nat->Int)(n:Nat)(c:Option Nat)(hn:n<=1000)(i:Nat)(hi:i<n)(hb:y7 B i=true):Step P17 G17 (A17 103) 103 6 0 (jI s B n c i) [] (jI s B n c (i+1:Nat)) []:=by
 rw[z5] at hb;refine Step.mk0 (A:=A17) (m:=0) qh rfl rfl qr (h1:=[]) ?_ .nil;have ei:i64.wrap ((i:Int)+1)=((i+1:Nat):Int):=by rw[Q1 (by omega) (by omega)];omega
 rw[i59,qW i,ei];refine BT ?_;refine BT ?_;refine BF ?_;refine BF ?_;rfl
theorem qiO(s:Sti)(B:Nat->Int)(n:Nat)(c:Option Nat)(m:Nat)(hm:m<=1000):LoopOk P17 G17 (A17 103) 103 13 (qZ (qcQ s B n c m 0) (QF (fun _=>0) m) (.exit 2) [nsV B n c,.reg s.c,.own 0 0 0 m (some m)] (QF (fun _=>1) m)):=by
 refine qE qG (by kernel_rfl) (fun i=>qcQ s B n c m i) (fun i=>QF (fun e=>bif Nat.blt e i then 1 else 0) m) (n:=m) (fun i hi=>?_) ?_
 ·have e:(fun e=>bif Nat.blt e (i+1) then(1:Int) else 0)=fun e=>bif e==0+i then 1 else bif Nat.blt e i then 1 else 0:=by
   funext e;rw[Nat.zero_add];by_cases q:e=i
   ·subst q;rw[beq_self_eq_true,cond_true,yZ (by omega),cond_true]
   ·rw[show(e==i)=false by simpa using q,cond_false];by_cases q2:e<i
    ·rw[yZ q2,yZ (by omega)]
    ·rw[qcF (by omega),qcF (by omega)]
  rw[e];clear e;obtain⟨g,hg⟩:∃g:Nat->Int,g=fun e=>bif Nat.blt e i then(1:Int) else 0:=⟨_,rfl⟩;have e2:(fun e=>bif e==0+i then(1:Int) else bif Nat.blt e i then 1 else 0)=fun e=>bif e==0+i then 1 else g e:=by rw[hg]
  rw[e2,←hg];clear e2 hg;refine Step.mk0 (A:=A17) (m:=0) qh rfl rfl qr (h1:=QF (fun e=>bif e==0+i then 1 else g e) m) ?_ (.refl _);rw[(show qV P17 G17 A17 qy 0 103 [] 13 (qcQ s B n c m i) (QF g m) =
( bif decide (ofNat i<ofNat m) then gD (decide (0<=ofNat i)&&decide (ofNat i<ofNat m))<|gD (((0:Nat)+i).blt m&&true&&true&&true)<|zN (qcQ s B n c m (i64.wrap (ofNat i+1))) (QF (fun j=>bif j==0+i then(1:Int)
 else g j) m) else
 zX 2 [nsV B n c,.reg s.c,.own 0 0 0 m (some m)] (QF g m)) from by kernel_rfl)]
  have ei:i64.wrap ((i:Int)+1)=((i+1:Nat):Int):=by rw[Q1 (by omega) (by omega)];omega
  rw[qW i,ei];refine BT ?_;refine BT ?_;refine BT ?_;rfl
 ·refine Last.mk0 (A:=A17) (m:=0) qh rfl rfl qr (h1:=QF (fun e=>bif Nat.blt e m then 1 else 0) m) (by simp) ?_ (.cons ⟨rfl,rfl,rfl,id,fun j hj=>?_⟩ .nil)
  ·generalize (fun e=>bif Nat.blt e m then(1:Int) else 0)=g at *
   rw[(show qV P17 G17 A17 qy 0 103 [] 13 (qcQ s B n c m m) (QF g m) =
( bif decide (ofNat m<ofNat m) then gD (decide (0<=ofNat m)&&decide (ofNat m<ofNat m))<|gD (((0:Nat)+m).blt m&&true&&true&&true)<|zN (qcQ s B n c m (i64.wrap (ofNat m+1))) (QF (fun j=>bif j==0+m then(1:Int)
 else g j) m) else
 zX 2 [nsV B n c,.reg s.c,.own 0 0 0 m (some m)] (QF g m)) from by kernel_rfl)]
   (repeat (first|refine BT ?_|refine BG ?_))
   rfl
  ·show [iI 1]=[iI (bif Nat.blt j m then 1 else 0)];rw[yZ hj,cond_true]
theorem qe3{s:Sti}{B:Nat->Int}{n:Nat}(h:stF s=false):ldE s B n=1:=by simp[ldE,h]
theorem qga{s:Sti}{B:Nat->Int}{n:Nat}(h:stF s=true)(h2:n≠s.nN):ldE s B n=5:=by simp[ldE,h,h2]
theorem qhj{s:Sti}{B:Nat->Int}{n:Nat}(h:stF s=true)(h2:n=s.nN)(h3:yL B n=false):ldE s B n=1:=by simp[ldE,h,←h2,h3]
theorem qhk{s:Sti}{B:Nat->Int}{n:Nat}(h:stF s=true)(h2:n=s.nN)(h3:yL B n=true):ldE s B n=if s.k=4∨s.k=5 then(if 4<B 0+B 1 then 9 else 0) else if s.k=6 then(if B 0=3 then 9 else 0) else 0:=by simp[ldE,h,←h2,h3]
theorem qbU(s:Sti)(hs:s.Ok)(B:Nat->Int)(n:Nat)(c:Option Nat)(hn:n<=1000):ToldOk P17 G17 103 [s.t,nsV B n c] (ldR s B n):=by
 obtain⟨p,hp⟩:=qA P17 G17 98;obtain⟨q,hq⟩:=qA P17 G17 77;obtain⟨r,hr⟩:=qA P17 G17 61;have t1:=y6 s;have t2:=kO s;have t3:=qbT s;have hv:=s.v_iff hs;have hnb:=s.n_bd hs;have hmb:=s.m_bd hs;have hl2:=qiO s B n c s.mN (by unfold Sti.mN;omega);have emN:s.m=((s.mN:Nat):Int):=by unfold Sti.mN;omega
 have enN:s.n=((s.nN:Nat):Int):=by unfold Sti.nN;omega
 have hn4:stF s=true->s.k=4∨s.k=5->s.n=2:=fun h1 h2=>by
  unfold Sti.n;rw[h1,cond_true];rcases h2 with h2|h2
  ·rw[dF (by omega),dT h2];rfl
  ·rw[dF (by omega),dF (by omega),dT h2];rfl
 have hn6:stF s=true->s.k=6∨s.k=7->s.n=1/\s.m=1:=fun h1 h2=>by
  unfold Sti.n Sti.m;rw[h1,cond_true,dF (by omega),dF (by omega),dF (by omega),dF (by omega)];exact⟨rfl,rfl⟩
 rw[emN] at t3;rw[enN] at t2;unfold ldR;have hmN:s.mN<=4:=by unfold Sti.mN;omega
 generalize hm:s.mN=m at *
 generalize hx:s.nN=x at *
 have hok:OrcOk P17 G17 (K59 p q r (stF s) x m):=qj (qj (qj qh (qg hp)) (qg hq)) (qg hr);rcases Zq (y7 B) n with hg|⟨I,hI,hb,hlt⟩
 ·have hsl:=(KK B n).2 hg;have hB:∀i,i<n->1<=B i/\B i<=3:=fun i hi=>(z5 B i).1 (hg i hi);have hl:LoopOk P17 G17 (A17 103) 103 6 (qZ (jI s B n c 0) [] (.exit 0) [nsV B n c,.reg s.c,.undef,.undef] []):=by
   refine qE qG (by kernel_rfl) (fun i=>jI s B n c i) (fun _=>[]) (n:=n) (fun i hi=>s59 s B n c hn i hi (hg i hi)) ?_;refine Last.mk0 (A:=A17) (m:=0) qh rfl rfl qr (h1:=[]) (by simp) ?_ .nil;rw[i59];refine BF ?_;rfl
  refine qY qG Qm hok (A:=A17) (m:=0) (by kernel_rfl) (qcL hl (Qk hl2)) ?_;rw[show stF s=stF s from rfl];generalize hvv:stF s=e at *
  rw[(show z3 P17 G17 A17 (K59 p q r e x m) 0 103 [(6,qZ (jI s B n c 0) [] (.exit 0) [nsV B n c,.reg s.c,.undef,.undef] []),(13,qZ (qcQ s B n c m 0) (QF (fun _=>0) m) (.exit 2) [nsV B n c,.reg s.c,.own 0 0 0 m (some m)] (QF (fun _=>1) m))] [s.t,nsV B n c] =
( gD (qF (p [s.t] (iI (bif e then(0:Int)
 else(1:Int)))))<|bif !decide ((bif e then(0:Int)
 else(1:Int))=(0:Int)) then some (.tup [.nils,iI 1]) else
 gD (qF (q [s.t] (iI (.ofNat x))))<|bif !decide (ofNat n=ofNat x) then some (.tup [.nils,iI 5]) else
 gD (zq (jI s B n c (0:Int)) [] (jI s B n c (0:Int)) [])<|gD (qF (r [s.t] (iI (.ofNat m))))<|gD (decide (0<=ofNat m)&&decide (ofNat m<=ofNat m)&&decide (ofNat m*8<=140737488355328)&&decide (ofNat m<=9223372036854775807))<|gD (zq (qcQ s B n c m (0:Int)) (QF (fun j=>(0:Int)) m) (qcQ s B n c m (0:Int)) (QF (fun j=>(0:Int)) m))<|bif decide (s.k=4) then gD (decide (0<ofNat n))<|gD (decide (1<ofNat n))<|bif decide (4<i64.wrap (B (0:Nat)+B (1:Nat))) then some (.tup [.nils,iI 9]) else
 some (.tup [bif ((0:Nat)+m).ble m then .fresh true (1:Nat) m (fun j=>[iI 1]) m (some m)
 else .undef,iI 0]) else
 bif decide (s.k=5) then gD (decide (0<ofNat n))<|gD (decide (1<ofNat n))<|bif decide (4<i64.wrap (B (0:Nat)+B (1:Nat))) then some (.tup [.nils,iI 9]) else
 some (.tup [bif ((0:Nat)+m).ble m then .fresh true (1:Nat) m (fun j=>[iI 1]) m (some m)
 else .undef,iI 0]) else
 bif decide (s.k=6) then gD (decide (0<ofNat n))<|bif decide (B (0:Nat)=(3:Int)) then some (.tup [.nils,iI 9]) else
 gD (decide (0<ofNat n))<|gD (decide (0<ofNat m))<|gD (Nat.blt 0 m&&true&&true&&true)<|some (.tup [bif ((0:Nat)+m).ble m then .fresh true (1:Nat) m (fun j=>[iI (bif 0+j==(0:Nat) then i64.wrap (B (0:Nat)+(1:Int))
 else(1:Int))]) m (some m)
 else .undef,iI 0]) else
 bif decide (s.k=7) then gD (decide (0<ofNat n))<|gD (decide (0<ofNat m))<|gD (Nat.blt 0 m&&true&&true&&true)<|some (.tup [bif ((0:Nat)+m).ble m then .fresh true (1:Nat) m (fun j=>[iI (bif 0+j==(0:Nat) then B (0:Nat)
 else(1:Int))]) m (some m)
 else .undef,iI 0]) else
 some (.tup [bif ((0:Nat)+m).ble m then .fresh true (1:Nat) m (fun j=>[iI 1]) m (some m)
 else .undef,iI 0])) from by kernel_rfl)]
  refine qt (qo hp t1) ?_;cases e
  ·rw[qe3 hvv];rfl
  refine Q2 (by simp) ?_;refine qt (qo hq t2) ?_;by_cases h1:n=x
  case neg =>
   rw[qga hvv (by omega),if_neg (by omega)];refine BT ?_;rfl
  have hE:=qhk (B:=B) hvv (show n=s.nN by omega) hsl;refine Q2 (by simp[h1]) ?_;refine qt (Qd ⟨rfl,.refl _⟩) ?_;refine qt (qo hr t3) ?_;refine BT ?_;refine qt (Qd ⟨rfl,.refl _⟩) ?_;simp only[Nat.zero_add,Nat.sub_zero,KH (Nat.le_refl _),cond_true,Bool.and_true];have hv:=hv.1 rfl;have hn4:=hn4 rfl;have hn6:=hn6 rfl;by_cases k4:s.k=4
  ·have:=hn4 (.inl k4);have b0:=hB 0 (by omega);have b1:=hB 1 (by omega);rw[if_pos (.inl k4)] at hE;rw[Q1 (by omega) (by omega)];refine qt (dT k4) ?_;refine BT ?_;refine BT ?_;by_cases h9:4<B 0+B 1
   ·rw[if_pos h9] at hE;rw[hE];exact qt (dT h9) rfl
   ·rw[if_neg h9] at hE;refine Q2 (by simpa using h9) ?_;rw[hE,if_pos rfl,show(fun j=>[iI (ldG s B j)])=fun j=>[iI 1] by funext j;unfold ldG;rw[if_neg (by omega),if_neg (by omega)]]
  by_cases k5:s.k=5
  ·have:=hn4 (.inr k5);have b0:=hB 0 (by omega);have b1:=hB 1 (by omega);rw[if_pos (.inr k5)] at hE;rw[Q1 (by omega) (by omega)];refine Q2 (by simpa using k4) ?_;refine qt (dT k5) ?_;refine BT ?_;refine BT ?_;by_cases h9:4<B 0+B 1
   ·rw[if_pos h9] at hE;rw[hE];exact qt (dT h9) rfl
   ·rw[if_neg h9] at hE;refine Q2 (by simpa using h9) ?_;rw[hE,if_pos rfl,show(fun j=>[iI (ldG s B j)])=fun j=>[iI 1] by funext j;unfold ldG;rw[if_neg (by omega),if_neg (by omega)]]
  rw[if_neg (by omega)] at hE;refine Q2 (by simpa using k4) ?_;refine Q2 (by simpa using k5) ?_;by_cases k6:s.k=6
  ·have h61:=hn6 (.inl k6);have b0:=hB 0 (by omega);rw[if_pos k6] at hE;refine qt (dT k6) ?_;refine BT ?_;by_cases h9:B 0=3
   ·rw[if_pos h9] at hE;rw[hE];exact qt (dT h9) rfl
   ·rw[if_neg h9] at hE;refine Q2 (by simpa using h9) ?_;refine BT ?_;refine BT ?_;refine qt (by rw[yZ (by omega)]) ?_;rw[Q1 (by omega) (by omega),hE,if_pos rfl,show(fun j=>[iI (ldG s B j)])=fun j=>[iI (bif j==0 then B 0+1 else 1)] by
     funext j;unfold ldG;by_cases hj:j=0
     ·rw[if_pos ⟨k6,hj⟩,hj];rfl
     ·rw[if_neg (by omega),if_neg (by omega),show(j==0)=false by simpa using hj];rfl]
  rw[if_neg k6] at hE;refine Q2 (by simpa using k6) ?_;by_cases k7:s.k=7
  ·have h61:=hn6 (.inr k7);have b0:=hB 0 (by omega);refine qt (dT k7) ?_;refine BT ?_;refine BT ?_;refine qt (by rw[yZ (by omega)]) ?_;rw[hE,if_pos rfl,show(fun j=>[iI (ldG s B j)])=fun j=>[iI (bif j==0 then B 0 else 1)] by
    funext j;unfold ldG;by_cases hj:j=0
    ·rw[if_neg (by omega),if_pos ⟨k7,hj⟩,hj];rfl
    ·rw[if_neg (by omega),if_neg (by omega),show(j==0)=false by simpa using hj];rfl]
  refine Q2 (by simpa using k7) ?_;rw[hE,if_pos rfl,show(fun j=>[iI (ldG s B j)])=fun j=>[iI 1] by funext j;unfold ldG;rw[if_neg (by omega),if_neg (by omega)]]
 ·have hsl:yL B n=false:=by
   cases h:yL B n
   ·rfl
   ·have:=(KK B n).1 h I hI;rw[hb] at this;cases this
  have hl:LoopOk P17 G17 (A17 103) 103 6 (qZ (jI s B n c 0) [] .ret [nsV B n c,.reg s.c,.nils,iI 1] []):=by
   refine qE qG (by kernel_rfl) (fun i=>jI s B n c i) (fun _=>[]) (n:=I) (fun i hi=>s59 s B n c hn i (by omega) (hlt i hi)) ?_;refine Last.mk0 (A:=A17) (m:=0) qh rfl rfl qr (h1:=[]) (by simp) ?_ .nil;have hnb:¬(1<=B I/\B I<=3):=fun h=>by rw[(z5 B I).2 h] at hb;cases hb
   rw[i59];refine BT ?_;refine BT ?_;by_cases h1:B I<1
   ·exact qt (dT h1) rfl
   ·refine Q2 (by simpa using h1) ?_;exact BT rfl
  refine qY qG Qm hok (A:=A17) (m:=0) (by kernel_rfl) (Qk hl) ?_;generalize hvv:stF s=e at *
  rw[(show z3 P17 G17 A17 (K59 p q r e x m) 0 103 [(6,qZ (jI s B n c 0) [] .ret [nsV B n c,.reg s.c,.nils,iI 1] [])] [s.t,nsV B n c] =
( gD (qF (p [s.t] (iI (bif e then(0:Int)
 else(1:Int)))))<|bif !decide ((bif e then(0:Int)
 else(1:Int))=(0:Int)) then some (.tup [.nils,iI 1]) else
 gD (qF (q [s.t] (iI (.ofNat x))))<|bif !decide (ofNat n=ofNat x) then some (.tup [.nils,iI 5]) else
 gD (zq (jI s B n c (0:Int)) [] (jI s B n c (0:Int)) [])<|some (.tup [.nils,iI 1])) from by kernel_rfl)]
  refine qt (qo hp t1) ?_;cases e
  ·rw[qe3 hvv];rfl
  refine Q2 (by simp) ?_;refine qt (qo hq t2) ?_;by_cases h1:n=x
  case neg =>
   rw[qga hvv (by omega),if_neg (by omega)];refine BT ?_;rfl
  rw[qhj hvv (by omega) hsl,if_neg (by omega)];refine Q2 (by simp[h1]) ?_;exact qt (Qd ⟨rfl,.refl _⟩) rfl
def Qa(L:Nat->Nat->Int)(W:Nat->Nat)(h:Nat):Blk:=⟨0,1,1+h,fun e=>[nsV (L e) (W e) (some (W e))],false,false,none⟩
def QZ(g:Nat->Int)(m:Nat):Blk:=⟨0,1,m,fun e=>[iI (g e)],true,false,none⟩
def qeC(C:Nat->Nat->Sti)(ln:Nat->Nat)(h:Nat)(n:Nat)(i:Int):List T:=[.reg [chV C ln h],.own 0 0 0 n (some n),iI n,iI i]
def k8(C:Nat->Nat->Sti)(ln:Nat->Nat)(h i:Nat):List T:=[.own 0 0 0 (i+1) (some (1+h)),iI 0,chV C ln h,iI h,iI i]
def KL(C:Nat->Nat->Sti)(ln:Nat->Nat)(h i:Nat)(B:Nat->Int)(w:Nat)(o m:Nat)(k:Nat):List T:=[.own 0 0 0 (i+1) (some (1+h)),iI 0,nsV B w (some w),.own 1 0 0 o (some m),chV C ln h,iI h,iI i,srV (C i) (ln i) none,iI (ln i),iI k]
def x42(C:Nat->Nat->Sti)(ln:Nat->Nat)(h i m:Nat)(e:Int)(o:Nat):List T:=[.own 0 0 0 (i+1) (some (1+h)),iI e,.own 1 0 0 o (some m),chV C ln h,iI h,iI i]
noncomputable def qgb(p q:List T->T->Prop)(x:Nat)(r:T):Orc:=(qy.add 77 (Qe p fun _=>some (iI x))).add 103 (Qe q fun _=>some r)
noncomputable def qgP(p:List T->T->Prop)(m:Nat):Orc:=qy.add 60 (Qe p fun _=>some (iI m))
noncomputable def K42(p q:List T->T->Prop)(e:Int)(n:Nat):Orc:=(qy.add 102 (Qe p fun _=>some (iI e))).add 41 (Qe q fun _=>some (iI n))
def qL(r:Nat->Sti):Nat->Nat
 |0=>0
 |k+1=>qL r k+(r k).nN
def qN(r:Nat->Sti):Nat->Nat
 |0=>0
 |k+1=>qN r k+(r k).mN
def zV(r:Nat->Sti)(B:Nat->Int):Nat->Nat->Int
 |0=>fun _=>0
 |k+1=>fun j=>bif Nat.ble (qN r k) j&&Nat.blt j (qN r k+(r k).mN) then ldG (r k) (fun t=>B (qL r k+t)) (j-qN r k) else zV r B k j
def erK(r:Nat->Sti)(B:Nat->Int)(k:Nat):Int:=ldE (r k) (fun j=>B (qL r k+j)) (r k).nN
def QN(r:Nat->Sti)(B:Nat->Int):Nat->Int
 |0=>0
 |k+1=>if QN r B k≠0 then QN r B k else erK r B k
def LD(C:Nat->Nat->Sti)(ln:Nat->Nat):Nat->Nat->Int
 |0=>fun _=>1
 |i+1=>zV (C i) (LD C ln i) (ln i)
def WD(C:Nat->Nat->Sti)(ln:Nat->Nat):Nat->Nat
 |0=>qL (C 0) (ln 0)
 |i+1=>qN (C i) (ln i)
def kA(C:Nat->Nat->Sti)(ln:Nat->Nat):Nat->Int
 |0=>0
 |i+1=>if kA C ln i≠0 then kA C ln i else QN (C i) (LD C ln i) (ln i)
def W42(C:Nat->Nat->Sti)(ln:Nat->Nat)(i e:Nat):Nat:=bif Nat.ble e i then WD C ln e else 0
theorem qh2(C:Nat->Nat->Sti)(ln:Nat->Nat)(h n i:Nat)(g:Nat->Int):qV P17 G17 A17 qy 0 70 [] 6 (qeC C ln h n i) (QF g n) =
( bif decide (ofNat i<ofNat n) then gD (decide (0<=ofNat i)&&decide (ofNat i<ofNat n))<|gD (((0:Nat)+i).blt n&&true&&true&&true)<|zN (qeC C ln h n (i64.wrap (ofNat i+1))) (QF (fun j=>bif j==0+i then(1:Int)
 else g j) n) else
 zX 0 [.reg [chV C ln h],.own 0 0 0 n (some n)] (QF g n)):=by kernel_rfl
theorem ZP(r:Nat->Sti)(hr:∀j,(r j).Ok):∀n,nR5 r n=((qL r n:Nat):Int)/\mR5 r n=((qN r n:Nat):Int)
 |0=>⟨rfl,rfl⟩
 |n+1=>by
  obtain⟨h1,h2⟩:=ZP r hr n;have a1:=(r n).n_bd (hr n);have a2:=(r n).m_bd (hr n);have e1:nR5 r (n+1)=nR5 r n+(r n).n:=rfl;have e2:mR5 r (n+1)=mR5 r n+(r n).m:=rfl;have e3:qL r (n+1)=qL r n+(r n).n.toNat:=rfl;have e4:qN r (n+1)=qN r n+(r n).m.toNat:=rfl;rw[e1,e2,e3,e4,h1,h2];omega
theorem kR(r:Nat->Sti){k n:Nat}(h:k<=n):qL r k<=qL r n/\qN r k<=qN r n:=by
 induction h with
 |refl=>exact⟨Nat.le_refl _,Nat.le_refl _⟩
 |step _ ih =>
  have e3:∀n,qL r (n+1)=qL r n+(r n).nN:=fun _=>rfl;have e4:∀n,qN r (n+1)=qN r n+(r n).mN:=fun _=>rfl;rw[e3,e4];omega
theorem YC(r:Nat->Sti)(B:Nat->Int):∀n,(∀i,i<n->erK r B i=0)->QN r B n=0
 |0,_=>rfl
 |n+1,q=>by
  unfold QN;rw[if_neg (by rw[YC r B n fun i hi=>q i (by omega)];simp),q n (by omega)]
theorem kB(r:Nat->Sti)(B:Nat->Int)(I:Nat)(hb:erK r B I≠0)(hlt:∀i,i<I->erK r B i=0):∀n,I<n->QN r B n=erK r B I
 |n+1,hI=>by
  unfold QN;by_cases q:n=I
  ·subst q;rw[if_neg (by rw[YC r B n hlt];simp)]
  ·have ih:=kB r B I hb hlt n (by omega);rw[if_pos (by rw[ih];exact hb),ih]
theorem kS(C:Nat->Nat->Sti)(ln:Nat->Nat):∀n,(∀i,i<n->QN (C i) (LD C ln i) (ln i)=0)->kA C ln n=0
 |0,_=>rfl
 |n+1,q=>by
  unfold kA;rw[if_neg (by rw[kS C ln n fun i hi=>q i (by omega)];simp),q n (by omega)]
theorem J3(C:Nat->Nat->Sti)(ln:Nat->Nat)(I:Nat)(hb:QN (C I) (LD C ln I) (ln I)≠0)(hlt:∀i,i<I->QN (C i) (LD C ln i) (ln i)=0):∀n,I<n->kA C ln n=QN (C I) (LD C ln I) (ln I)
 |n+1,hI=>by
  unfold kA;by_cases q:n=I
  ·subst q;rw[if_neg (by rw[kS C ln n hlt];simp)]
  ·have ih:=J3 C ln I hb hlt n (by omega);rw[if_pos (by rw[ih];exact hb),ih]
theorem qhl{s:Sti}{B:Nat->Int}{n:Nat}(h:ldE s B n=0):stF s=true:=by
 cases q:stF s
 ·rw[qe3 q] at h;exact absurd h (by decide)
 ·rfl
theorem qiP(C:Nat->Nat->Sti)(ln:Nat->Nat)(h n:Nat)(hn:n<=1000):LoopOk P17 G17 (A17 70) 70 6 (qZ (qeC C ln h n 0) (QF (fun _=>0) n) (.exit 0) [.reg [chV C ln h],.own 0 0 0 n (some n)] (QF (fun _=>1) n)):=by
 refine qE qG (by kernel_rfl) (fun i=>qeC C ln h n i) (fun i=>QF (fun e=>bif Nat.blt e i then 1 else 0) n) (n:=n) (fun i hi=>?_) ?_
 ·have e:(fun e=>bif Nat.blt e (i+1) then(1:Int) else 0)=fun e=>bif e==0+i then 1 else bif Nat.blt e i then 1 else 0:=by
   funext e;rw[Nat.zero_add];by_cases q:e=i
   ·subst q;rw[beq_self_eq_true,cond_true,yZ (by omega),cond_true]
   ·rw[show(e==i)=false by simpa using q,cond_false];by_cases q2:e<i
    ·rw[yZ q2,yZ (by omega)]
    ·rw[qcF (by omega),qcF (by omega)]
  rw[e];clear e;obtain⟨g,hg⟩:∃g:Nat->Int,g=fun e=>bif Nat.blt e i then(1:Int) else 0:=⟨_,rfl⟩;have e2:(fun e=>bif e==0+i then(1:Int) else bif Nat.blt e i then 1 else 0)=fun e=>bif e==0+i then 1 else g e:=by rw[hg]
  rw[e2,←hg];clear e2 hg;refine Step.mk0 (A:=A17) (m:=0) qh rfl rfl qr (h1:=QF (fun e=>bif e==0+i then 1 else g e) n) ?_ (.refl _);have ei:i64.wrap ((i:Int)+1)=((i+1:Nat):Int):=by rw[Q1 (by omega) (by omega)];omega
  rw[qh2,qW i,ei];refine BT ?_;refine BT ?_;refine BT ?_;rfl
 ·refine Last.mk0 (A:=A17) (m:=0) qh rfl rfl qr (h1:=QF (fun e=>bif Nat.blt e n then 1 else 0) n) (by simp) ?_ (.cons ⟨rfl,rfl,rfl,id,fun j hj=>?_⟩ .nil)
  ·rw[qh2];refine BF ?_;rfl
  ·show [iI 1]=[iI (bif Nat.blt j n then 1 else 0)];rw[yZ hj,cond_true]
theorem qiQ(C:Nat->Nat->Sti)(ln:Nat->Nat)(h i:Nat)(B g:Nat->Int)(w o m k x y:Nat)(G:Nat->Int)(L:Nat->Nat->Int)(W:Nat->Nat)(p q:List T->T->Prop):qV P17 G17 A17 (qgb p q x (.tup [.new (nsV G y (some y)),iI 0])) 0 70 [] 19 (KL C ln h i B w o m k) [Qa L W h,QZ g m] =
( bif decide (ofNat k<ofNat (ln i)) then gD (decide (0<=ofNat k)&&decide (ofNat k<ofNat (ln i)))<|gD (qF (p [(C i k).t] (iI (.ofNat x))))<|gD (decide (0<=ofNat x)&&decide (ofNat x<=ofNat w))<|gD (x.ble w)<|gD (qF (q [(C i k).t,nsV (fun j=>B (0+j)) x (some w)] (.tup [(nsV G y (some y)).new,iI 0])))<|gD (decide (0<=ofNat x)&&decide (ofNat x<=ofNat w)&&decide (ofNat w<=ofNat w))<|gD (w.ble w)<|gD (((0:Nat)+o).ble m)<|bif y==(0:Nat) then zN [.own 0 0 0 (i+1) (some (1+h)),iI 0,nsV (fun j=>B (x+j)) (w-x) (some (w-x)),.own 1 0 0 o (some m),chV C ln h,iI (.ofNat h),iI (.ofNat i),srV (C i) (ln i)
 none,iI (.ofNat (ln i)),iI (i64.wrap (ofNat k+1))] (Qa L W h::QF g m) else
 gD (((o+y)*(9:Nat)).ble 70368744177664)<|bif (o+y).ble m then gD (((0:Nat)+o+y).ble m)<|zN [.own 0 0 0 (i+1) (some (1+h)),iI 0,nsV (fun j=>B (x+j)) (w-x) (some (w-x)),.own 1 0 0 (o+y) (some m),chV C ln h,iI (.ofNat h),iI (.ofNat i),srV (C i) (ln i)
 none,iI (.ofNat (ln i)),iI (i64.wrap (ofNat k+1))] [Qa L W h,.mk 0 1 m (fun j=>bif ((0:Nat)+o).ble j&&j.blt (0+o+y) then [iI (G (j-(0+o)))]
 else [iI (g j)]) true false
 none] else
 zN [.own 0 0 0 (i+1) (some (1+h)),iI 0,nsV (fun j=>B (x+j)) (w-x) (some (w-x)),.own 2 0 0 (o+y)
 none,chV C ln h,iI (.ofNat h),iI (.ofNat i),srV (C i) (ln i)
 none,iI (.ofNat (ln i)),iI (i64.wrap (ofNat k+1))] [Qa L W h,QZ g m,.mk 0 1 (o+y) (fun j=>bif j.blt o then [iI (g (0+j))]
 else [iI (G (j-o))]) true false
 none] else
 zX 4 (x42 C ln h i m (0:Int) o) (Qa L W h::QF g m)):=by kernel_rfl
theorem qh3(C:Nat->Nat->Sti)(ln:Nat->Nat)(h i:Nat)(B g:Nat->Int)(w o m k x:Nat)(e:Int)(L:Nat->Nat->Int)(W:Nat->Nat)(p q:List T->T->Prop):qV P17 G17 A17 (qgb p q x (.tup [.nils,iI e])) 0 70 [] 19 (KL C ln h i B w o m k) [Qa L W h,QZ g m] =
( bif decide (ofNat k<ofNat (ln i)) then gD (decide (0<=ofNat k)&&decide (ofNat k<ofNat (ln i)))<|gD (qF (p [(C i k).t] (iI (.ofNat x))))<|gD (decide (0<=ofNat x)&&decide (ofNat x<=ofNat w))<|gD (x.ble w)<|gD (qF (q [(C i k).t,nsV (fun j=>B (0+j)) x (some w)] (.tup [.nils,iI e])))<|bif !decide (e=0) then zX 2 (x42 C ln h i m e o) (Qa L W h::QF g m) else
 gD (decide (0<=ofNat x)&&decide (ofNat x<=ofNat w)&&decide (ofNat w<=ofNat w))<|gD (w.ble w)<|gD (((0:Nat)+o).ble m)<|zN [.own 0 0 0 (i+1) (some (1+h)),iI 0,nsV (fun j=>B (x+j)) (w-x) (some (w-x)),.own 1 0 0 o (some m),chV C ln h,iI (.ofNat h),iI (.ofNat i),srV (C i) (ln i)
 none,iI (.ofNat (ln i)),iI (i64.wrap (ofNat k+1))] (Qa L W h::QF g m) else
 zX 4 (x42 C ln h i m (0:Int) o) (Qa L W h::QF g m)):=by kernel_rfl
section
variable (C:Nat->Nat->Sti) (ln:Nat->Nat) (h i:Nat) (B:Nat->Int) (L:Nat->Nat->Int) (W:Nat->Nat)
theorem qh4(hC:∀i j,(C i j).Ok)(hln:ln i<=16)(hout:qN (C i) (ln i)<=16)(k:Nat)(hk:k<ln i)(he:erK (C i) B k=0):Step P17 G17 (A17 70) 70 19 2 (KL C ln h i (fun j=>B (qL (C i) k+j)) (qL (C i) (ln i)-qL (C i) k) (qN (C i) k) (qN (C i) (ln i)) k) [Qa L W h,QZ (zV (C i) B k) (qN (C i) (ln i))]
 (KL C ln h i (fun j=>B (qL (C i) (k+1)+j)) (qL (C i) (ln i)-qL (C i) (k+1)) (qN (C i) (k+1)) (qN (C i) (ln i)) (k+1)) [Qa L W h,QZ (zV (C i) B (k+1)) (qN (C i) (ln i))]:=by
 obtain⟨p,hp⟩:=qA P17 G17 77;obtain⟨q,hq⟩:=qA P17 G17 103;have t1:=kO (C i k);have hnb:=(C i k).n_bd (hC i k);have hmb:=(C i k).m_bd (hC i k);rw[show(C i k).n=(((C i k).nN:Nat):Int) by unfold Sti.nN;omega] at t1;have t2:=qbU (C i k) (hC i k) (fun j=>B (qL (C i) k+j)) (C i k).nN (some (qL (C i) (ln i)-qL (C i) k)) (by unfold Sti.nN;omega);have he2:=he;unfold erK at he2;have hm1:1<=(C i k).mN:=by
  have hv:=qhl he2;have hv2:=((C i k).v_iff (hC i k)).1 hv;unfold Sti.mN Sti.m;rw[hv,cond_true];by_cases h8:(C i k).k=8
  ·rw[dT h8,cond_true,Q1 (by omega) (by omega)];omega
  ·rw[dF h8,cond_false];decide
 unfold ldR at t2;rw[if_pos he2] at t2;have t2:=t2.frz;change ToldOk P17 G17 103 _ (.tup [.new (nsV (ldG (C i k) (fun j=>B (qL (C i) k+j))) (C i k).mN (some (C i k).mN)),iI 0]) at t2;have l1:=(kR (C i) (show k+1<=ln i from hk)).1;have l2:=(kR (C i) (show k+1<=ln i from hk)).2;have e1:qL (C i) (k+1)=qL (C i) k+(C i k).nN:=rfl;have e2:qN (C i) (k+1)=qN (C i) k+(C i k).mN:=rfl;rw[e1] at l1;rw[e2] at l2;have ec:zV (C i) B (k+1)=fun j=>bif Nat.ble (qN (C i) k) j&&Nat.blt j (qN (C i) k+(C i k).mN) then ldG (C i k) (fun t=>B (qL (C i) k+t)) (j-qN (C i) k) else zV (C i) B k j:=rfl;rw[ec,e1,e2,show(fun j=>B (qL (C i) k+(C i k).nN+j))=fun j=>B (qL (C i) k+((C i k).nN+j)) by funext j;rw[Nat.add_assoc],show qL (C i) (ln i)-(qL (C i) k+(C i k).nN)=qL (C i) (ln i)-qL (C i) k-(C i k).nN by omega];clear ec e1 e2 he he2;generalize ldG (C i k) (fun t=>B (qL (C i) k+t))=G at *
 generalize zV (C i) B k=g at *
 generalize (C i k).mN=y at *
 generalize (C i k).nN=x at *
 generalize qN (C i) (ln i)=m at *
 generalize qN (C i) k=o at *
 have hxw:x<=qL (C i) (ln i)-qL (C i) k:=by omega
 generalize qL (C i) (ln i)-qL (C i) k=w at *
 obtain⟨B2,hB2⟩:∃B2:Nat->Int,B2=fun j=>B (qL (C i) k+j):=⟨_,rfl⟩;rw[show(fun j=>B (qL (C i) k+(x+j)))=fun j=>B2 (x+j) by rw[hB2],←hB2];rw[←hB2] at t2;clear hB2 l1;refine Step.mk0 (A:=A17) (K:=qgb p q x (.tup [.new (nsV G y (some y)),iI 0])) (m:=0) (qj (qj qh (qg hp)) (qg hq)) rfl rfl qr (h1:=[Qa L W h,⟨0,1,m,fun j=>bif Nat.ble o j&&Nat.blt j (o+y) then [iI (G (j-o))] else [iI (g j)],true,false,none⟩]) ?_ (.cons ⟨rfl,rfl,rfl,id,fun _ _=>rfl⟩ (.cons ⟨rfl,rfl,rfl,id,fun j hj=>?_⟩ .nil))
 ·have ek:i64.wrap ((k:Int)+1)=((k+1:Nat):Int):=by rw[Q1 (by omega) (by omega)];omega
  rw[qiQ,qW k,ek];simp only[Nat.zero_add,Nat.sub_zero];refine BT ?_;refine BT ?_;refine qt (qo hp t1) ?_;refine BT ?_;refine BT ?_;refine qt (qo hq t2) ?_;refine BT ?_;refine BT ?_;refine BT ?_;refine BF ?_;refine BT ?_;refine BT ?_;refine BT ?_;rfl
 ·show [iI (bif Nat.ble o j&&Nat.blt j (o+y) then G (j-o) else g j)]=bif Nat.ble o j&&Nat.blt j (o+y) then [iI (G (j-o))] else [iI (g j)];cases Nat.ble o j&&Nat.blt j (o+y)<;>rfl
theorem qiR(hC:∀i j,(C i j).Ok)(hln:ln i<=16)(hout:qN (C i) (ln i)<=16)(k:Nat)(hk:k<ln i)(he:erK (C i) B k≠0):Last P17 G17 (A17 70) 70 19 2 (KL C ln h i (fun j=>B (qL (C i) k+j)) (qL (C i) (ln i)-qL (C i) k) (qN (C i) k) (qN (C i) (ln i)) k) [Qa L W h,QZ (zV (C i) B k) (qN (C i) (ln i))]
 (.exit 2) (x42 C ln h i (qN (C i) (ln i)) (erK (C i) B k) (qN (C i) k)) [Qa L W h,QZ (zV (C i) B k) (qN (C i) (ln i))]:=by
 obtain⟨p,hp⟩:=qA P17 G17 77;obtain⟨q,hq⟩:=qA P17 G17 103;have t1:=kO (C i k);have hnb:=(C i k).n_bd (hC i k);rw[show(C i k).n=(((C i k).nN:Nat):Int) by unfold Sti.nN;omega] at t1;have t2:=qbU (C i k) (hC i k) (fun j=>B (qL (C i) k+j)) (C i k).nN (some (qL (C i) (ln i)-qL (C i) k)) (by unfold Sti.nN;omega);unfold ldR at t2;rw[if_neg (show ¬ldE (C i k) (fun j=>B (qL (C i) k+j)) (C i k).nN=0 from he)] at t2;change ToldOk P17 G17 103 _ (.tup [.nils,iI (erK (C i) B k)]) at t2;generalize erK (C i) B k=e at *
 have l1:=(kR (C i) (show k+1<=ln i from hk)).1;have e1:qL (C i) (k+1)=qL (C i) k+(C i k).nN:=rfl;rw[e1] at l1;generalize zV (C i) B k=g at *
 generalize (C i k).nN=x at *
 generalize qN (C i) (ln i)=m at *
 generalize qN (C i) k=o at *
 have hxw:x<=qL (C i) (ln i)-qL (C i) k:=by omega
 generalize qL (C i) (ln i)-qL (C i) k=w at *
 generalize (fun j=>B (qL (C i) k+j))=B2 at *
 clear l1 e1;refine Last.mk0 (A:=A17) (K:=qgb p q x (.tup [.nils,iI e])) (m:=0) (qj (qj qh (qg hp)) (qg hq)) rfl rfl qr (h1:=[Qa L W h,QZ g m]) (by simp) ?_ (.refl _);rw[qh3];simp only[Nat.zero_add,Nat.sub_zero];refine BT ?_;refine BT ?_;refine qt (qo hp t1) ?_;refine BT ?_;refine BT ?_;refine qt (qo hq t2) ?_;refine qt (by simp[he]) ?_;rfl
end
def qeD(C:Nat->Nat->Sti)(ln:Nat->Nat)(h:Nat):T:=.tup [.fresh false 1 (1+h) (fun e=>[nsV (LD C ln e) (WD C ln e) (some (WD C ln e))]) (1+h) (some (1+h)),iI 0]
section
variable (C:Nat->Nat->Sti) (ln:Nat->Nat) (h i:Nat) (B:Nat->Int) (L:Nat->Nat->Int) (W:Nat->Nat)
theorem qiS(hC:∀i j,(C i j).Ok)(hln:ln i<=16)(hout:qN (C i) (ln i)<=16)(hg:∀k,k<ln i->erK (C i) B k=0):LoopOk P17 G17 (A17 70) 70 19 (qZ (KL C ln h i B (qL (C i) (ln i)) 0 (qN (C i) (ln i)) 0) [Qa L W h,QZ (fun _=>0) (qN (C i) (ln i))] (.exit 4) (x42 C ln h i (qN (C i) (ln i)) 0 (qN (C i) (ln i))) [Qa L W h,QZ (zV (C i) B (ln i)) (qN (C i) (ln i))]):=by
 have key:=qE (P:=P17) (Gl:=G17) (f:=70) (r:=19) qG (by kernel_rfl) (an:=A17 70) (fun k=>KL C ln h i (fun j=>B (qL (C i) k+j)) (qL (C i) (ln i)-qL (C i) k) (qN (C i) k) (qN (C i) (ln i)) k) (fun k=>[Qa L W h,QZ (zV (C i) B k) (qN (C i) (ln i))]) (n:=ln i) (e1:=.exit 4) (vs1:=x42 C ln h i (qN (C i) (ln i)) 0 (qN (C i) (ln i))) (h1:=[Qa L W h,QZ (zV (C i) B (ln i)) (qN (C i) (ln i))]) (fun k hk=>qh4 C ln h i B L W hC hln hout k hk (hg k hk)) ?_
 ·rw[show(fun j=>B (qL (C i) 0+j))=B by funext j;rw[show qL (C i) 0=0 from rfl,Nat.zero_add]] at key;exact key
 ·refine Last.mk0 (A:=A17) (K:=qgb (ToldOk P17 G17 77) (ToldOk P17 G17 103) 0 (.tup [.nils,iI 0])) (m:=0) (qj (qj qh (qg rfl)) (qg rfl)) rfl rfl qr (h1:=[Qa L W h,QZ (zV (C i) B (ln i)) (qN (C i) (ln i))]) (by simp) ?_ (.refl _);rw[qh3];refine BF ?_;rfl
theorem qiT(hC:∀i j,(C i j).Ok)(hln:ln i<=16)(hout:qN (C i) (ln i)<=16)(I:Nat)(hI:I<ln i)(hb:erK (C i) B I≠0)(hg:∀k,k<I->erK (C i) B k=0):LoopOk P17 G17 (A17 70) 70 19 (qZ (KL C ln h i B (qL (C i) (ln i)) 0 (qN (C i) (ln i)) 0) [Qa L W h,QZ (fun _=>0) (qN (C i) (ln i))] (.exit 2) (x42 C ln h i (qN (C i) (ln i)) (erK (C i) B I) (qN (C i) I)) [Qa L W h,QZ (zV (C i) B I) (qN (C i) (ln i))]):=by
 have key:=qE (P:=P17) (Gl:=G17) (f:=70) (r:=19) qG (by kernel_rfl) (an:=A17 70) (fun k=>KL C ln h i (fun j=>B (qL (C i) k+j)) (qL (C i) (ln i)-qL (C i) k) (qN (C i) k) (qN (C i) (ln i)) k) (fun k=>[Qa L W h,QZ (zV (C i) B k) (qN (C i) (ln i))]) (n:=I) (e1:=.exit 2) (vs1:=x42 C ln h i (qN (C i) (ln i)) (erK (C i) B I) (qN (C i) I)) (h1:=[Qa L W h,QZ (zV (C i) B I) (qN (C i) (ln i))]) (fun k hk=>qh4 C ln h i B L W hC hln hout k (by omega) (hg k hk)) (qiR C ln h i B L W hC hln hout I hI hb);rw[show(fun j=>B (qL (C i) 0+j))=B by funext j;rw[show qL (C i) 0=0 from rfl,Nat.zero_add]] at key;exact key
end
theorem j42(C:Nat->Nat->Sti)(ln:Nat->Nat)(h i:Nat)(g:Nat->Int)(m:Nat)(L:Nat->Nat->Int)(W:Nat->Nat)(p:List T->T->Prop):qV P17 G17 A17 (qgP p m) 0 70 [(19,qZ (KL C ln h i (L i) (W i) 0 m 0) [Qa L W h,QZ (fun _=>0) m] (.exit 4) (x42 C ln h i m 0 m) [Qa L W h,QZ g m])] 14 (k8 C ln h i) [Qa L W h] =
( bif decide (ofNat i<ofNat h) then gD (decide (0<=ofNat i)&&decide (ofNat i<ofNat h))<|gD (decide (0<=ofNat i)&&decide (ofNat i<ofNat (i+1)))<|gD (((0:Nat)+i).blt (1+h))<|gD (qF (p [srV (C i) (ln i)
 none] (iI (.ofNat m))))<|gD (decide (0<=ofNat m)&&decide (ofNat m*8<=140737488355328)&&decide (ofNat m<=9223372036854775807))<|gD (zq (KL C ln h i (L (0+i)) (W (0+i)) (0:Nat) m (nat_lit 0)) (Qa L W h::QF (fun j=>(0:Int)) m) (KL C ln h i (L i) (W i) (0:Nat) m (nat_lit 0)) (Qa L W h::QF (fun j=>(0:Int)) m))<|gD (((0:Nat)+(i+(1:Nat))).ble (1+h))<|gD (((i+(1:Nat)+(1:Nat))*(25:Nat)).ble 70368744177664)<|bif (i+(1:Nat)+(1:Nat)).ble (1+h) then gD (((0:Nat)+(i+(1:Nat))+(1:Nat)).ble (1+h))<|zN [.own 0 0 0 (i+1+(1:Nat)) (some (1+h)),iI 0,chV C ln h,iI (.ofNat h),iI (i64.wrap (ofNat i+1))] [.mk 0 1 (1+h) (fun j=>bif ((0:Nat)+(i+(1:Nat))).ble j&&j.blt ((0:Nat)+(i+1)+(1:Nat)) then [[T.own 1 0 0 m (some m)]].getD ((0:Nat)+(j-((0:Nat)+(i+1)))) []
 else [nsV (L j) (W j) (some (W j))]) false false
 none,QZ g m,.mk 0 1 1 (fun j=>[[T.own 1 0 0 m (some m)]].getD j []) false true
 none] else
 zN [.own 3 0 0 (i+1+(1:Nat))
 none,iI 0,chV C ln h,iI (.ofNat h),iI (i64.wrap (ofNat i+1))] [Qa L W h,QZ g m,.mk 0 1 1 (fun j=>[[T.own 1 0 0 m (some m)]].getD j []) false true
 none,.mk 0 1 (i+1+(1:Nat)) (fun j=>bif j.blt (i+1) then [nsV (L (0+j)) (W (0+j)) (some (W (0+j)))]
 else [[T.own 1 0 0 m (some m)]].getD ((0:Nat)+(j-(i+1))) []) false false
 none] else
 zX 2 [.own 0 0 0 (i+1) (some (1+h)),iI 0] [Qa L W h]):=by kernel_rfl
theorem qiU(C:Nat->Nat->Sti)(ln:Nat->Nat)(h i o:Nat)(e:Int)(g:Nat->Int)(m:Nat)(L:Nat->Nat->Int)(W:Nat->Nat)(p:List T->T->Prop):qV P17 G17 A17 (qgP p m) 0 70 [(19,qZ (KL C ln h i (L i) (W i) 0 m 0) [Qa L W h,QZ (fun _=>0) m] (.exit 2) (x42 C ln h i m e o) [Qa L W h,QZ g m])] 14 (k8 C ln h i) [Qa L W h] =
( bif decide (ofNat i<ofNat h) then gD (decide (0<=ofNat i)&&decide (ofNat i<ofNat h))<|gD (decide (0<=ofNat i)&&decide (ofNat i<ofNat (i+1)))<|gD (((0:Nat)+i).blt (1+h))<|gD (qF (p [srV (C i) (ln i)
 none] (iI (.ofNat m))))<|gD (decide (0<=ofNat m)&&decide (ofNat m*8<=140737488355328)&&decide (ofNat m<=9223372036854775807))<|gD (zq (KL C ln h i (L (0+i)) (W (0+i)) (0:Nat) m (nat_lit 0)) (Qa L W h::QF (fun j=>(0:Int)) m) (KL C ln h i (L i) (W i) (0:Nat) m (nat_lit 0)) (Qa L W h::QF (fun j=>(0:Int)) m))<|zX 2 [.own 0 0 0 (i+1) (some (1+h)),iI e] (Qa L W h::QF g m) else
 zX 2 [.own 0 0 0 (i+1) (some (1+h)),iI 0] [Qa L W h]):=by kernel_rfl
theorem qiV(C:Nat->Nat->Sti)(ln:Nat->Nat)(h:Nat)(L:Nat->Nat->Int)(W:Nat->Nat):qV P17 G17 A17 qy 0 70 [] 14 (k8 C ln h h) [Qa L W h]=some (.exit 2,[.own 0 0 0 (h+1) (some (1+h)),iI 0],[Qa L W h]):=by
 rw[(show qV P17 G17 A17 qy 0 70 [] 14 (k8 C ln h h) [Qa L W h] =
( bif decide (ofNat h<ofNat h) then gD (decide (0<=ofNat h)&&decide (ofNat h<ofNat h))<|gD (decide (0<=ofNat h)&&decide (ofNat h<ofNat (h+1)))<|gD (((0:Nat)+h).blt (1+h)) none else
 zX 2 [.own 0 0 0 (h+1) (some (1+h)),iI 0] [Qa L W h]) from by kernel_rfl)]
 refine BF ?_;rfl
theorem qeE(C:Nat->Nat->Sti)(ln:Nat->Nat)(h:Nat)(hh:h<=1000)(hln:∀i,i<h->ln i<=1000)(hC:∀i j,(C i j).Ok)(hb:chE C ln h≠0):ToldOk P17 G17 70 [.agg [chV C ln h]] (.tup [.nils,iI (chE C ln h)]):=by
 obtain⟨p,hp⟩:=qA P17 G17 102;obtain⟨q,hq⟩:=qA P17 G17 41;have t1:=qa1 C ln h hh hln hC;generalize chE C ln h=e at *
 refine qY qG Qm (K:=K42 p q e 0) (qj (qj qh (qg hp)) (qg hq)) (A:=A17) (m:=0) (by kernel_rfl) qr ?_;rw[(show z3 P17 G17 A17 (K42 p q e 0) 0 70 [] [.agg [chV C ln h]] =
( gD (qF (p [chV C ln h] (iI e)))<|bif !decide (e=0) then some (.tup [.nils,iI e]) else
 gD (decide (0<ofNat h))<|gD (qF (q [srV (C (0:Nat)) (ln (0:Nat))
 none] (iI 0))) none) from by kernel_rfl)]
 refine qt (qo hp t1) ?_;exact qt (by simp[hb]) rfl
noncomputable def c42:Code:=match P17.funcs[70]? with|some fn=>fn.body.getD .skip|none=>.skip
def qa2(k:Nat)(c:Code):Code:=match k with
 |0=>inB (sq2 c)
 |k+1=>sq2 (qa2 k c)
def qa3(k:Nat)(c:Code):Code:=sq1 (qa2 k c)
def y42(C:Nat->Nat->Sti)(ln:Nat->Nat)(h i:Nat):List T:=[.reg [chV C ln h],.own 0 0 0 (i+1) (some (1+h)),iI 0]
theorem g0(C:Nat->Nat->Sti)(ln:Nat->Nat)(h:Nat):zC P17 G17 A17 qy 0 70 [] sq1 [0] [.agg [chV C ln h]] [] [1] =
( zN [.reg [chV C ln h]] []):=by kernel_rfl
theorem g1(C:Nat->Nat->Sti)(ln:Nat->Nat)(h:Nat)(n:Nat)(p q:List T->T->Prop):zC P17 G17 A17 (K42 p q 0 n) 0 70 [] (qa3 0) [1] [.reg [chV C ln h]] [] [1] =
( gD (qF (p [chV C ln h] (iI 0)))<|zN [.reg [chV C ln h]] []):=by kernel_rfl
theorem g2(C:Nat->Nat->Sti)(ln:Nat->Nat)(h:Nat)(n:Nat)(p q:List T->T->Prop):zC P17 G17 A17 (K42 p q 0 n) 0 70 [] (qa3 1) [1] [.reg [chV C ln h]] [] [1,5] =
( gD (decide (0<ofNat h))<|gD (qF (q [srV (C (0:Nat)) (ln (0:Nat))
 none] (iI (.ofNat n))))<|gD (decide (0<=ofNat n)&&decide (ofNat n<=ofNat n)&&decide (ofNat n*8<=140737488355328)&&decide (ofNat n<=9223372036854775807))<|zN [.reg [chV C ln h],.own 0 0 0 n (some n)] (QF (fun j=>(0:Int)) n)):=by kernel_rfl
theorem g3(C:Nat->Nat->Sti)(ln:Nat->Nat)(h:Nat)(n:Nat):zC P17 G17 A17 qy 0 70 [(6,qZ (qeC C ln h n 0) (QF (fun _=>0) n) (.exit 0) [.reg [chV C ln h],.own 0 0 0 n (some n)] (QF (fun _=>1) n))] (qa3 2) [1,5] [.reg [chV C ln h],.own 0 0 0 n (some n)] (QF (fun _=>0) n) [1,5] =
( gD (zq (qeC C ln h n (0:Int)) (QF (fun j=>(0:Int)) n) (qeC C ln h n (0:Int)) (QF (fun j=>(0:Int)) n))<|zN [.reg [chV C ln h],.own 0 0 0 n (some n)] (QF (fun j=>(1:Int)) n)):=by kernel_rfl
theorem g4(C:Nat->Nat->Sti)(ln:Nat->Nat)(h:Nat)(n:Nat):zC P17 G17 A17 qy 0 70 [] (qa3 3) [1,5] [.reg [chV C ln h],.own 0 0 0 n (some n)] (QF (fun _=>1) n) [1,5,7] =
( gD (decide (1<=i64.wrap (1+ofNat h))&&decide (i64.wrap (1+ofNat h)*(24:Int)<=(140737488355328:Int))&&decide (i64.wrap (1+ofNat h)<=(9223372036854775807:Int)))<|zN [.reg [chV C ln h],.own 0 0 0 n (some n),.own 1 0 0 1 (some (i64.wrap ((1:Int)+ofNat h)).toNat)] [QZ (fun e=>(1:Int)) n,.mk 0 1 (i64.wrap ((1:Int)+ofNat h)).toNat (fun x=>[.nils]) false false
 none]):=by kernel_rfl
theorem g5(C:Nat->Nat->Sti)(ln:Nat->Nat)(h:Nat)(n m:Nat):zC P17 G17 A17 qy 0 70 [] (qa3 4) [1,5,7] [.reg [chV C ln h],.own 0 0 0 n (some n),.own 1 0 0 1 (some m)] [QZ (fun _=>1) n,⟨0,1,m,fun _=>[.nils],false,false,none⟩] [1,7] =
( gD (Nat.blt 0 m&&true&&true&&true)<|zN [.reg [chV C ln h],.own 1 0 0 1 (some m)] [QZ (fun e=>(1:Int)) n,.mk 0 1 m (fun e=>[bif e==(0:Nat) then .own 0 0 0 n (some n)
 else .nils]) false false
 none]):=by kernel_rfl
theorem g6(C:Nat->Nat->Sti)(ln:Nat->Nat)(h:Nat)(n m:Nat):zC P17 G17 A17 qy 0 70 [] (qa3 5) [1,7] [.reg [chV C ln h],.own 1 0 0 1 (some m)] [QZ (fun _=>1) n,⟨0,1,m,fun e=>[bif e==0 then .own 0 0 0 n (some n) else .nils],false,false,none⟩] [1,7,8] =
( zN [.reg [chV C ln h],.own 1 0 0 1 (some m),iI 0] [QZ (fun e=>(1:Int)) n,.mk 0 1 m (fun e=>[bif e==(0:Nat) then .own 0 0 0 n (some n)
 else .nils]) false false
 none]):=by kernel_rfl
theorem g7(C:Nat->Nat->Sti)(ln:Nat->Nat)(h i:Nat)(e:Int)(L L2:Nat->Nat->Int)(W W2:Nat->Nat):zC P17 G17 A17 qy 0 70 [(14,qZ (k8 C ln h 0) [Qa L W h] (.exit 2) [.own 0 0 0 (i+1) (some (1+h)),iI e] [Qa L2 W2 h])] (qa2 6) [1,7,8] (y42 C ln h 0) [Qa L W h] [2,3] =
( gD (zq (k8 C ln h (0:Nat)) [Qa L W h] (k8 C ln h (0:Nat)) [Qa L W h])<|bif !decide (e=0) then zR [.nils,iI e] [Qa L2 W2 h] else
 zR [.own 0 0 0 (i+1) (some (1+h)),iI 0] [Qa L2 W2 h]):=by kernel_rfl
theorem kT{r:Nat->Sti}{n:Nat}(h:rE r n=0):1<=n/\n<=16/\qcP r n=true/\(1<=nR5 r n/\nR5 r n<=16)/\1<=mR5 r n/\mR5 r n<=16:=by
 unfold rE at h;by_cases h1:16<n
 ·rw[if_pos h1] at h;omega
 rw[if_neg h1] at h;by_cases h2:n=0
 ·rw[if_pos h2] at h;omega
 rw[if_neg h2] at h;by_cases h3:qcP r n=true
 ·rw[if_pos h3] at h;by_cases h4:wOk (nR5 r n)=true/\wOk (mR5 r n)=true
  ·unfold wOk at h4;simp only[Bool.and_eq_true,decide_eq_true_eq] at h4;exact⟨by omega,by omega,h3,h4.1,h4.2⟩
  ·rw[if_neg h4] at h;omega
 ·rw[if_neg h3] at h;omega
theorem qbV(C:Nat->Nat->Sti)(ln:Nat->Nat):∀h,zJ C ln h=0->∀i,i<h->rE (C i) (ln i)=0
 |0,_=>fun i h=>by omega
 |h+1,q=>by
  unfold zJ at q;by_cases q1:zJ C ln h≠0
  ·rw[if_pos q1] at q;exact absurd q q1
  ·rw[if_neg q1] at q;have q1:zJ C ln h=0:=by omega
   intro i hi;by_cases e:i=h
   ·rw[e];exact q
   ·exact qbV C ln h q1 i (by omega)
structure ChOk(C:Nat->Nat->Sti)(ln:Nat->Nat)(h:Nat):Prop where
 h1:1<=h
 h31:h<=31
 odd:h%2=1
 row:∀i,i<h->rE (C i) (ln i)=0
 link:∀i,i+1<h->nR5 (C (i+1)) (ln (i+1))=mR5 (C i) (ln i)
theorem qa4{C:Nat->Nat->Sti}{ln:Nat->Nat}{h:Nat}(q:chE C ln h=0):ChOk C ln h:=by
 unfold chE at q;by_cases h1:31<h
 ·rw[if_pos h1] at q;omega
 rw[if_neg h1] at q;by_cases h2:h%2=0
 ·rw[if_pos h2] at q;omega
 rw[if_neg h2] at q;by_cases h3:zJ C ln h≠0
 ·rw[if_pos h3] at q;exact absurd q h3
 rw[if_neg h3] at q;by_cases h4:Yz C ln (h-1)=true
 ·refine⟨by omega,by omega,by omega,qbV C ln h (by omega),fun i hi=>?_⟩;have:=(YB C ln (h-1)).1 h4 i (by omega);unfold YK at this;simpa using this
 ·rw[if_neg h4] at q;omega
theorem ChOk.wd{C:Nat->Nat->Sti}{ln:Nat->Nat}{h:Nat}(ok:ChOk C ln h)(hC:∀i j,(C i j).Ok):∀i,i<h->WD C ln i=qL (C i) (ln i)
 |0,_=>rfl
 |i+1,hi=>by
  have:=ok.link i hi;have h1:=(ZP (C (i+1)) (hC (i+1)) (ln (i+1))).1;have h2:=(ZP (C i) (hC i) (ln i)).2;show qN (C i) (ln i)=_;omega
theorem ChOk.out{C:Nat->Nat->Sti}{ln:Nat->Nat}{h:Nat}(ok:ChOk C ln h)(hC:∀i j,(C i j).Ok){i:Nat}(hi:i<h):qN (C i) (ln i)<=16/\1<=qN (C i) (ln i)/\qL (C i) (ln i)<=16/\1<=qL (C i) (ln i):=by
 obtain⟨_,_,_,h3,h4⟩:=kT (ok.row i hi);have h1:=ZP (C i) (hC i) (ln i);omega
theorem qe4{σ:List Nat}{h:qa}{ix m:Nat}{g:Nat->Int}(hp:zf σ ix=none)(hc:σ.contains ix=false)(hi:h[ix]?=some (QZ g m)):QO σ h (.own ix 0 0 m (some m))=nsV g m (some m):=by
 unfold QZ at hi;simp only[QO,hp,resolve,hc,cond_false,hi,beq_self_eq_true,Bool.true_and,Option.isNone_none];rw[show Nat.ble (0+m) m=true from KH (by omega)];simp only[cond_true,Nat.zero_add];rfl
section
variable (C:Nat->Nat->Sti) (ln:Nat->Nat) (h:Nat)
theorem KM{i j:Nat}(hj:j<=i):W42 C ln i j=WD C ln j:=by unfold W42;rw[KH hj];rfl
theorem qeF{i j:Nat}(hj:i<j):W42 C ln i j=0:=by unfold W42;rw[qgy (by omega)];rfl
theorem s42(ok:ChOk C ln h)(hC:∀i j,(C i j).Ok)(i:Nat)(hi:i<h)(hg:QN (C i) (LD C ln i) (ln i)=0):Step P17 G17 (A17 70) 70 14 1 (k8 C ln h i) [Qa (LD C ln) (W42 C ln i) h] (k8 C ln h (i+1)) [Qa (LD C ln) (W42 C ln (i+1)) h]:=by
 obtain⟨p,hp⟩:=qA P17 G17 60;obtain⟨o1,o2,o3,o4⟩:=ok.out hC hi;obtain⟨r1,r2,_,_,_⟩:=kT (ok.row i hi);have h31:=ok.h31;have hg2:∀k,k<ln i->erK (C i) (LD C ln i) k=0:=fun k hk=>by
  rcases Zq (fun k=>decide (erK (C i) (LD C ln i) k=0)) (ln i) with q|⟨I,q1,q2,q3⟩
  ·simpa using q k hk
  ·exfalso;have:=kB (C i) (LD C ln i) I (by simpa using q2) (fun j hj=>by simpa using q3 j hj) (ln i) q1;rw[hg] at this;have q2:¬erK (C i) (LD C ln i) I=0:=by simpa using q2
   exact q2 this.symm
 have hl:=qiS C ln h i (LD C ln i) (LD C ln) (W42 C ln i) hC r2 o1 hg2;have t1:=kQ (C i) (ln i) none (by omega) (hC i);rw[(ZP (C i) (hC i) (ln i)).2] at t1;have ew:W42 C ln i i=qL (C i) (ln i):=by rw[KM C ln (Nat.le_refl i),ok.wd hC i hi]
 rw[←ew] at hl;have eW:∀j,j≠i+1->W42 C ln (i+1) j=W42 C ln i j:=fun j hj=>by
  by_cases q:j<=i
  ·rw[KM C ln q,KM C ln (by omega)]
  ·rw[qeF C ln (by omega),qeF C ln (by omega)]
 have em:W42 C ln (i+1) (i+1)=qN (C i) (ln i):=KM C ln (Nat.le_refl _);have eg:LD C ln (i+1)=zV (C i) (LD C ln i) (ln i):=rfl;generalize zV (C i) (LD C ln i) (ln i)=g at *
 generalize qN (C i) (ln i)=m at *
 generalize W42 C ln (i+1)=W' at *
 generalize W42 C ln i=W at *
 generalize LD C ln=L at *
 refine Step.mkC (A:=A17) (K:=qgP p m) (m:=0) (qj qh (qg hp)) rfl rfl (Qk hl) [0] (v1:=k8 C ln h (i+1)) (h1:=[⟨0,1,1+h,fun j=>bif Nat.ble (0+(i+1)) j&&Nat.blt j (0+(i+1)+1) then [[T.own 1 0 0 m (some m)]].getD (0+(j-(0+(i+1)))) [] else [nsV (L j) (W j) (some (W j))],false,false,none⟩,QZ g m,⟨0,1,1,fun j=>[[T.own 1 0 0 m (some m)]].getD j [],false,true,none⟩]) ?_ (by kernel_rfl) (v2:=k8 C ln h (i+1)) (by rfl) rfl fun nt=>.same (.cons ⟨rfl,rfl,rfl,id,fun j hj=>?_⟩ .nil)
 ·have ei:i64.wrap ((i:Int)+1)=((i+1:Nat):Int):=by rw[Q1 (by omega) (by omega)];omega
  rw[j42,qW i,ei];rw[Nat.zero_add i];refine qt (dT (by rw[qW];omega)) ?_;refine qt (by rw[dT (by omega),dT (by rw[qW];omega)];rfl) ?_;refine qt (by rw[dT (by omega),dT (by rw[qW];omega)];rfl) ?_;refine qt (yZ (by omega)) ?_;refine qt (qo hp t1) ?_;refine qt (by rw[qW,dT (by omega),dT (by omega),dT (by omega)];rfl) ?_;refine qt (Qd ⟨rfl,.refl _⟩) ?_;refine qt (KH (by omega)) ?_;refine qt (KH (by omega)) ?_;refine qt (KH (by omega)) ?_;refine qt (KH (by omega)) ?_;rfl
 ·show [nsV (L j) (W' j) (some (W' j))]=List.map (QO [0] _) (bif Nat.ble (0+(i+1)) j&&Nat.blt j (0+(i+1)+1) then [[T.own 1 0 0 m (some m)]].getD (0+(j-(0+(i+1)))) [] else [nsV (L j) (W j) (some (W j))]);by_cases q:j=i+1
  ·subst q;rw[Nat.zero_add,KH (Nat.le_refl _),yZ (by omega),Nat.sub_self];show _=[QO [0] _ (T.own 1 0 0 m (some m))];rw[qe4 (g:=g) rfl rfl rfl,em,eg]
  ·rw[Nat.zero_add,show(Nat.ble (i+1) j&&Nat.blt j (i+1+1))=false by
    by_cases q2:i+1<=j
    ·rw[qcF (by omega),Bool.and_false]
    ·rw[qgy (by omega),Bool.false_and],cond_false,eW j q]
   rfl
theorem e42(ok:ChOk C ln h)(hC:∀i j,(C i j).Ok)(i:Nat)(hi:i<h)(hg:QN (C i) (LD C ln i) (ln i)≠0):Last P17 G17 (A17 70) 70 14 1 (k8 C ln h i) [Qa (LD C ln) (W42 C ln i) h] (.exit 2) [.own 0 0 0 (i+1) (some (1+h)),iI (QN (C i) (LD C ln i) (ln i))] [Qa (LD C ln) (W42 C ln i) h]:=by
 obtain⟨p,hp⟩:=qA P17 G17 60;obtain⟨o1,o2,o3,o4⟩:=ok.out hC hi;obtain⟨r1,r2,_,_,_⟩:=kT (ok.row i hi);have h31:=ok.h31;obtain⟨I,q1,q2,q3⟩:∃I,I<ln i/\erK (C i) (LD C ln i) I≠0/\∀k,k<I->erK (C i) (LD C ln i) k=0:=by
  rcases Zq (fun k=>decide (erK (C i) (LD C ln i) k=0)) (ln i) with q|⟨I,q1,q2,q3⟩
  ·exact absurd (YC (C i) (LD C ln i) (ln i) fun k hk=>by simpa using q k hk) hg
  ·exact⟨I,q1,by simpa using q2,fun j hj=>by simpa using q3 j hj⟩
 rw[kB (C i) (LD C ln i) I q2 q3 (ln i) q1];have hl:=qiT C ln h i (LD C ln i) (LD C ln) (W42 C ln i) hC r2 o1 I q1 q2 q3;have t1:=kQ (C i) (ln i) none (by omega) (hC i);rw[(ZP (C i) (hC i) (ln i)).2] at t1;have ew:W42 C ln i i=qL (C i) (ln i):=by rw[KM C ln (Nat.le_refl i),ok.wd hC i hi]
 rw[←ew] at hl;generalize zV (C i) (LD C ln i) I=g at *
 generalize qN (C i) (ln i)=m at *
 generalize qN (C i) I=o at *
 generalize erK (C i) (LD C ln i) I=e at *
 generalize W42 C ln i=W at *
 generalize LD C ln=L at *
 refine Last.mkC (A:=A17) (K:=qgP p m) (m:=0) (qj qh (qg hp)) rfl rfl (Qk hl) (by simp) [0] (v1:=[.own 0 0 0 (i+1) (some (1+h)),iI e]) (h1:=[Qa L W h,QZ g m]) ?_ (by kernel_rfl) (v2:=[.own 0 0 0 (i+1) (some (1+h)),iI e]) (by rfl) rfl fun nt=>.same (.cons ⟨rfl,rfl,rfl,id,fun j hj=>rfl⟩ .nil);rw[qiU];rw[Nat.zero_add i];refine qt (dT (by rw[qW,qW];omega)) ?_;refine qt (by rw[qW,dT (by omega),dT (by rw[qW];omega)];rfl) ?_;refine qt (by rw[qW,dT (by omega),dT (by rw[qW];omega)];rfl) ?_;refine qt (yZ (by omega)) ?_;refine qt (qo hp t1) ?_;refine qt (by rw[qW,dT (by omega),dT (by omega),dT (by omega)];rfl) ?_;refine qt (Qd ⟨rfl,.refl _⟩) ?_;rfl
end
theorem qiW(C:Nat->Nat->Sti)(ln:Nat->Nat)(h n:Nat)(hn:n=WD C ln 0)(Gl:Nat->Option (List T))(prom:List Nat)(nt:Nat)(l:List Nat):WeakTo Gl prom nt l 0 [.reg [chV C ln h],.own 1 0 0 1 (some (1+h)),iI 0] [QZ (fun _=>1) n,⟨0,1,1+h,fun e=>[bif e==0 then .own 0 0 0 n (some n) else .nils],false,false,none⟩] (y42 C ln h 0) [Qa (LD C ln) (W42 C ln 0) h]:=by
 refine .trans (.canon [1] (by kernel_rfl)) ?_;show WeakTo Gl prom nt l 0 (y42 C ln h 0) [⟨0,1,1+h,fun e=>[QO [1] [QZ (fun _=>1) n,⟨0,1,1+h,fun e=>[bif e==0 then .own 0 0 0 n (some n) else .nils],false,false,none⟩] (bif e==0 then .own 0 0 0 n (some n) else .nils)],false,false,none⟩] _ _;refine .simAll rfl (fun i x y h1 h2=>by rw[h1] at h2;cases h2;exact .refl _) (.cons ⟨rfl,rfl,rfl⟩ (fun h=>by cases h) (fun j hj=>?_) .nil);by_cases q:j=0
 ·subst q;show SimL [QO [1] _ (.own 0 0 0 n (some n))] [nsV (LD C ln 0) (W42 C ln 0 0) (some (W42 C ln 0 0))];rw[qe4 (g:=fun _=>1) rfl rfl rfl,KM C ln (Nat.le_refl 0),←hn];exact .refl _
 ·show SimL [QO [1] _ (bif j==0 then .own 0 0 0 n (some n) else .nils)] [nsV (LD C ln j) (W42 C ln 0 j) (some (W42 C ln 0 j))];rw[show(j==0)=false by simpa using q,cond_false,qeF C ln (by omega)];exact .cons (.inr ⟨rfl,.nilv _ _ (.inr rfl),rfl⟩) .nil
theorem b42:Tryz.f70.body=some c42:=by kernel_rfl
theorem KN(c:Code):∀k,∀b∈qn (qa2 k c),b∈qn c
 |0=>fun b hb=>Jc _ _ (qbO _ _ hb)
 |k+1=>fun b hb=>KN c k b (Jc _ _ hb)
theorem qfB{K:Orc}(hK:OrcOk P17 G17 K){lo:List (Nat×(List T->qa->LT))}(hL:∀p∈lo,LoopOk P17 G17 (A17 70) 70 p.1 p.2)(k:Nat){l l':List Nat}{vs vs':List T}{h h':qa}{e:Ex}(hk:zC P17 G17 A17 K 0 70 lo (qa3 k) l vs h l'=some (e,vs',h')):CodeGoes P17 G17 (A17 70).prom Tryz.f70.ntmps (qa3 k c42) (qx l vs h) e (qx l' vs' h') :=
 Yw qG hK Tryz.func70 b42 (Nat.le_of_ble_eq_true (by kernel_rfl)) (by kernel_rfl) hL (qa3 k) rfl (fun b hb=>KN _ k b (Jb _ _ hb)) hk
theorem qgc:c42 = .seq (sq1 c42) (.scope (qa2 0 c42)):=by kernel_rfl
theorem qhD:∀k,k<6->qa2 k c42 = .seq (qa3 k c42) (qa2 (k+1) c42):=by
 intro k hk;obtain rfl|rfl|rfl|rfl|rfl|rfl:k=0∨k=1∨k=2∨k=3∨k=4∨k=5:=by omega
 all_goals kernel_rfl
theorem Jh{k:Nat}(hk:k<6){s s1 s':St}(h1:CodeGoes P17 G17 (A17 70).prom Tryz.f70.ntmps (qa3 k c42) s .normal s1)(h2:qJ P17 G17 (A17 70).prom Tryz.f70.ntmps [] (qa2 (k+1) c42) s1 .ret s'):qJ P17 G17 (A17 70).prom Tryz.f70.ntmps [] (qa2 k c42) s .ret s':=by
 rw[qhD k hk];exact qdG h1 h2
theorem qhE(C:Nat->Nat->Sti)(ln:Nat->Nat)(h:Nat)(hC:∀i j,(C i j).Ok)(hg:chE C ln h=0){vs':List T}{h':qa}(hy:CodeGoes P17 G17 (A17 70).prom Tryz.f70.ntmps (qa2 6 c42) (qx [1,7,8] (y42 C ln h 0) [Qa (LD C ln) (W42 C ln 0) h]) .ret (qx [2,3] vs' h')){r:T}(hr:Yh P17 G17 (A17 70).prom Tryz.f70 (qx [2,3] vs' h') (fun v=>some (yP h' v))=some r):ToldOk P17 G17 70 [.agg [chV C ln h]] r:=by
 have ok:=qa4 hg;have h31:=ok.h31;have h1:=ok.h1;obtain⟨p,hp⟩:=qA P17 G17 102;obtain⟨q,hq⟩:=qA P17 G17 41;have hln:∀i,i<h->ln i<=1000:=fun i hi=>by have:=kT (ok.row i hi);omega
 have t1:=qa1 C ln h (by omega) hln hC;rw[hg] at t1;have t2:=Jf (C 0) (ln 0) none (hln 0 (by omega)) (hC 0);rw[(ZP (C 0) (hC 0) (ln 0)).1,show qL (C 0) (ln 0)=WD C ln 0 from rfl] at t2;have hn16:=(ok.out hC (show 0<h by omega)).2.2.1;change WD C ln 0<=16 at hn16;have hl1:=qiP C ln h (WD C ln 0) (by omega);have hin:=qiW C ln h (WD C ln 0) rfl;generalize WD C ln 0=n at *
 have ei:(i64.wrap (1+(h:Int))).toNat=1+h:=by rw[Q1 (by omega) (by omega)];omega
 have ew:i64.wrap (1+(h:Int))=((1+h:Nat):Int):=by rw[Q1 (by omega) (by omega)];omega
 have hK:OrcOk P17 G17 (K42 p q 0 n):=qj (qj qh (qg hp)) (qg hq);have a0:CodeGoes P17 G17 (A17 70).prom Tryz.f70.ntmps (sq1 c42) (qx [0] [.agg [chV C ln h]] []) .normal (qx [1] [.reg [chV C ln h]] []):=Yw qG qh Tryz.func70 b42 (Nat.le_of_ble_eq_true (by kernel_rfl)) (by kernel_rfl) qr sq1 rfl (fun b hb=>Jb _ _ hb) (g0 C ln h);have a1:=qfB hK qr 0 (l:=[1]) (l':=[1]) (vs:=[.reg [chV C ln h]]) (h:=[]) (vs':=[.reg [chV C ln h]]) (h':=[]) (e:=.normal) (by
  rw[g1];exact qt (qo hp t1) rfl)
 have a2:=qfB hK qr 1 (l:=[1]) (l':=[1,5]) (vs:=[.reg [chV C ln h]]) (h:=[]) (vs':=[.reg [chV C ln h],.own 0 0 0 n (some n)]) (h':=QF (fun _=>0) n) (e:=.normal) (by
  rw[g2];refine qt (dT (by rw[qW];omega)) ?_;refine qt (qo hq t2) ?_;refine qt (by rw[qW,dT (by omega),dT (by omega),dT (by omega),dT (by omega)];rfl) ?_;rfl)
 have a3:=qfB (K:=qy) qh (Qk hl1) 2 (l:=[1,5]) (l':=[1,5]) (vs:=[.reg [chV C ln h],.own 0 0 0 n (some n)]) (h:=QF (fun _=>0) n) (vs':=[.reg [chV C ln h],.own 0 0 0 n (some n)]) (h':=QF (fun _=>1) n) (e:=.normal) (by
  rw[g3];exact qt (Qd ⟨rfl,.refl _⟩) rfl)
 have a4:=qfB (K:=qy) qh qr 3 (l:=[1,5]) (l':=[1,5,7]) (vs:=[.reg [chV C ln h],.own 0 0 0 n (some n)]) (h:=QF (fun _=>1) n) (vs':=[.reg [chV C ln h],.own 0 0 0 n (some n),.own 1 0 0 1 (some (1+h))]) (h':=[QZ (fun _=>1) n,⟨0,1,1+h,fun _=>[.nils],false,false,none⟩]) (e:=.normal) (by
  rw[g4,qW h,ei,ew];exact qt (by rw[dT (by omega),dT (by omega),dT (by omega)];rfl) rfl)
 have a5:=qfB (K:=qy) qh qr 4 (l:=[1,5,7]) (l':=[1,7]) (vs:=[.reg [chV C ln h],.own 0 0 0 n (some n),.own 1 0 0 1 (some (1+h))]) (h:=[QZ (fun _=>1) n,⟨0,1,1+h,fun _=>[.nils],false,false,none⟩]) (vs':=[.reg [chV C ln h],.own 1 0 0 1 (some (1+h))]) (h':=[QZ (fun _=>1) n,⟨0,1,1+h,fun e=>[bif e==0 then .own 0 0 0 n (some n) else .nils],false,false,none⟩]) (e:=.normal) (by
  rw[g5];exact qt (by rw[yZ (by omega)];rfl) rfl)
 have a6:=qfB (K:=qy) qh qr 5 (l:=[1,7]) (l':=[1,7,8]) (vs:=[.reg [chV C ln h],.own 1 0 0 1 (some (1+h))]) (h:=[QZ (fun _=>1) n,⟨0,1,1+h,fun e=>[bif e==0 then .own 0 0 0 n (some n) else .nils],false,false,none⟩]) (vs':=[.reg [chV C ln h],.own 1 0 0 1 (some (1+h)),iI 0]) (h':=[QZ (fun _=>1) n,⟨0,1,1+h,fun e=>[bif e==0 then .own 0 0 0 n (some n) else .nils],false,false,none⟩]) (e:=.normal) (g6 C ln h n (1+h));have all:qJ P17 G17 (A17 70).prom Tryz.f70.ntmps [] c42 (qx [0] [.agg [chV C ln h]] []) .ret (qx [2,3] vs' h'):=by
  rw[qgc];exact qdG a0 (qaT (Jh (by omega) a1 (Jh (by omega) a2 (Jh (by omega) a3 (Jh (by omega) a4 (Jh (by omega) a5 (Jh (by omega) a6 (qbP (hin G17 (A17 70).prom Tryz.f70.ntmps [1,7,8]) (kr hy)))))))))
 exact Je Qm Tryz.func70 b42 (by kernel_rfl) (Jd all) hr
theorem qhF(C:Nat->Nat->Sti)(ln:Nat->Nat)(h:Nat)(hC:∀i j,(C i j).Ok)(hg:chE C ln h=0):ToldOk P17 G17 70 [.agg [chV C ln h]] (if kA C ln h=0 then qeD C ln h else .tup [.nils,iI (kA C ln h)]):=by
 have ok:=qa4 hg
 have key:∀{i:Nat} {e:Int} {L2:Nat->Nat->Int} {W2:Nat->Nat} {vs':List T} {h':qa} {r:T},LoopOk P17 G17 (A17 70) 70 14 (qZ (k8 C ln h 0) [Qa (LD C ln) (W42 C ln 0) h] (.exit 2) [.own 0 0 0 (i+1) (some (1+h)),iI e] [Qa L2 W2 h]) →
  (bif !decide (e=(0:Int)) then some (Ex.ret,[T.nils,iI e],[Qa L2 W2 h]) else some (Ex.ret,[T.own 0 0 0 (i+1) (some (1+h)),iI 0],[Qa L2 W2 h]))=some (.ret,vs',h')->Yh P17 G17 (A17 70).prom Tryz.f70 (qx [2,3] vs' h') (fun v=>some (yP h' v))=some r->ToldOk P17 G17 70 [.agg [chV C ln h]] r:=fun {i e L2 W2 vs' h' r} hl hx hr =>
  qhE C ln h hC hg (Yw qG qh Tryz.func70 b42 (Nat.le_of_ble_eq_true (by kernel_rfl)) (by kernel_rfl) (Qk hl) (qa2 6) rfl (fun b hb=>KN _ 6 b hb) (by
   rw[g7];exact qt (Qd ⟨rfl,.refl _⟩) hx)) hr
 rcases Zq (fun i=>decide (QN (C i) (LD C ln i) (ln i)=0)) h with hgood|⟨I,hI,hb,hlt⟩
 ·have hgood:∀i,i<h->QN (C i) (LD C ln i) (ln i)=0:=fun i hi=>by simpa using hgood i hi
  rw[if_pos (kS C ln h hgood)];have hl2:LoopOk P17 G17 (A17 70) 70 14 (qZ (k8 C ln h 0) [Qa (LD C ln) (W42 C ln 0) h] (.exit 2) [.own 0 0 0 (h+1) (some (1+h)),iI 0] [Qa (LD C ln) (WD C ln) h]):=by
   refine qE qG (by kernel_rfl) (fun i=>k8 C ln h i) (fun i=>[Qa (LD C ln) (W42 C ln i) h]) (n:=h) (fun i hi=>s42 C ln h ok hC i hi (hgood i hi)) ?_;refine Last.mk0 (A:=A17) (m:=0) qh rfl rfl qr (h1:=[Qa (LD C ln) (W42 C ln h) h]) (by simp) ?_ (.cons ⟨rfl,rfl,rfl,id,fun j hj=>?_⟩ .nil)
   ·exact qiV C ln h (LD C ln) (W42 C ln h)
   ·have hj:j<1+h:=hj;show [nsV (LD C ln j) (WD C ln j) (some (WD C ln j))]=[nsV (LD C ln j) (W42 C ln h j) (some (W42 C ln h j))];rw[KM C ln (by omega)]
  refine key hl2 rfl ?_;have e:(show List T×qa->Option T from fun x=>Yh P17 G17 (A17 70).prom Tryz.f70 (qx [2,3] x.1 x.2) (fun v=>some (yP x.2 v))) ([.own 0 0 0 (h+1) (some (1+h)),iI 0],[Qa (LD C ln) (WD C ln) h])=some (.tup [bif Nat.ble (0+(h+1)) (1+h) then .fresh false 1 (1+h-0) (fun j=>[nsV (LD C ln (0+j)) (WD C ln (0+j)) (some (WD C ln (0+j)))]) (h+1) (some (1+h)) else .undef,iI 0]):=by kernel_rfl
  refine e.trans ?_;unfold qeD;simp only[Nat.zero_add,Nat.sub_zero];rw[KH (by omega),Nat.add_comm h 1];rfl
 ·have hb:QN (C I) (LD C ln I) (ln I)≠0:=by simpa using hb
  have hlt:∀i,i<I->QN (C i) (LD C ln i) (ln i)=0:=fun i hi=>by simpa using hlt i hi
  rw[J3 C ln I hb hlt h hI,if_neg hb];have hl2:=qE (P:=P17) (Gl:=G17) (f:=70) (r:=14) qG (by kernel_rfl) (an:=A17 70) (fun i=>k8 C ln h i) (fun i=>[Qa (LD C ln) (W42 C ln i) h]) (n:=I) (fun i hi=>s42 C ln h ok hC i (by omega) (hlt i hi)) (e42 C ln h ok hC I hI hb);refine key hl2 (qt (by simp[hb]) rfl) ?_
  kernel_rfl
noncomputable def K40(p:List T->T->Prop)(b:Bool):Orc:=qy.add 99 (Qe p fun _=>some (iI (bif b then 1 else 0)))
def v38(r:Nat->Sti)(n:Nat)(c:Option Nat)(x:Int)(i:Nat):List T:=[srV r n c,iI x,iI i]
noncomputable def K38(p:List T->T->Prop)(f:Nat)(x:Int):Orc:=qy.add f (Qe p fun _=>some (iI x))
def v37(r:Nat->Sti)(n:Nat)(c:Option Nat)(i:Nat):List T:=[srV r n c,iI i]
noncomputable def K37(p38 p39:List T->T->Prop)(x y:Int):Orc:=(qy.add 29 (Qe p38 fun _=>some (iI x))).add 63 (Qe p39 fun _=>some (iI y))
def qdN(s:Sti)(a b:Nat):List T:=[.reg s.c,iI a,iI b]
def v53(s:Sti)(a:Nat):List T:=[.reg s.c,iI a]
def JS(s:Sti)(a k:Nat):Bool:=!(decide (s.a=(a:Int))&&decide (s.b=((1+k:Nat):Int)))
def g53(s:Sti)(k:Nat):Bool:=Qp (JS s (1+k)) (4-(1+k))
noncomputable def qgQ(x:List T->qa->Ex->List T->qa->Prop)(s:Sti)(a:Nat):List (Nat×(List T->qa->LT)):=[(8,z4 x (.ite (Qp (JS s a) (4-a)) (.ret (.exit 2) [.reg s.c,.undef,iI a] []) (.ret .ret [.reg s.c,iI 1,iI a] [])))]
noncomputable def l53(x:List T->qa->Ex->List T->qa->Prop)(s:Sti)(b:Bool):List (Nat×(List T->qa->LT)):=[(5,z4 x (.ite b (.ret (.exit 0) [.undef] []) (.ret .ret [iI 1] [])))]
theorem qhG(s:Sti)(a b:Nat):qV P17 G17 A17 qy 0 99 [] 8 (qdN s a b) [] =
( bif decide (i64.wrap (ofNat a+ofNat b)<=(4:Int)) then bif decide (s.a=ofNat a) then bif decide (s.b=ofNat b) then zR (qdN s (nat_lit 1) a) [] else
 zN [.reg s.c,iI (.ofNat a),iI (i64.wrap (ofNat b+1))] [] else
 zN [.reg s.c,iI (.ofNat a),iI (i64.wrap (ofNat b+1))] [] else
 zX 2 [.reg s.c,.undef,iI (.ofNat a)] []):=by kernel_rfl
theorem i53(s:Sti)(a:Nat)(x:List T->qa->Ex->List T->qa->Prop):qV P17 G17 A17 qy 0 99 (qgQ x s a) 5 (v53 s a) [] =
( bif decide (ofNat a<4) then bif Qp (JS s a) (4-a) then gD (qF (x (qdN s a (nat_lit 1)) [] (.exit 2) [.reg s.c,.undef,iI (.ofNat a)] []))<|zN [.reg s.c,iI (i64.wrap (ofNat a+1))] [] else
 gD (qF (x (qdN s a (nat_lit 1)) [] .ret (qdN s (nat_lit 1) a) []))<|zR [iI 1] [] else
 zX 0 [.undef] []):=by kernel_rfl
theorem k53(s:Sti)(b:Bool)(x:List T->qa->Ex->List T->qa->Prop):z3 P17 G17 A17 qy 0 99 (l53 x s b) [s.t] =
( bif decide (s.y=0) then some (iI 0) else
 bif decide (6<s.y) then some (iI 0) else
 bif decide (s.k=0) then some (iI 0) else
 bif decide (8<s.k) then some (iI 0) else
 bif decide (s.k=8) then bif b then gD (qF (x (v53 s (nat_lit 1)) [] (.exit 0) [.undef] []))<|some (iI 0) else
 gD (qF (x (v53 s (nat_lit 1)) [] .ret [iI 1] []))<|some (iI 1) else
 bif !decide (s.a=0) then some (iI 0) else
 bif !decide (s.b=0) then some (iI 0) else
 bif s.f then some (iI 0) else
 some (iI 1)):=by kernel_rfl
theorem qh5(s:Sti){a:Nat}(ha:a<=4):(Qp (JS s a) (4-a)=true->LoopOk P17 G17 (A17 99) 99 8 (qZ (qdN s a 1) [] (.exit 2) [.reg s.c,.undef,iI a] []))/\(Qp (JS s a) (4-a)=false->LoopOk P17 G17 (A17 99) 99 8 (qZ (qdN s a 1) [] .ret [.reg s.c,iI 1,iI a] [])):=by
 refine ZY qG (by kernel_rfl) (fun k=>qdN s a (1+k)) (fun _=>[]) (JS s a) (n:=4-a) (fun k hk _ hg=>?_) (fun k hk _ hg=>?_) (fun _=>?_)
 ·refine Step.mk0 (A:=A17) (m:=0) qh rfl rfl qr (h1:=[]) ?_ .nil;have e:i64.wrap (ofNat a+ofNat (1+k))=((a+1+k:Nat):Int):=by rw[qW,qW,Q1 (by omega) (by omega)];omega
  rw[qhG,up1 (by omega),e];unfold JS at hg;by_cases q:s.a=a
  ·have q2:¬s.b=((1+k:Nat):Int):=by rw[dT q] at hg;simpa using hg
   (repeat (first|refine BS ?_|refine BF ?_))
   rfl
  ·(repeat (first|refine BS ?_|refine BF ?_))
   rfl
 ·refine Last.mk0 (A:=A17) (m:=0) qh rfl rfl qr (h1:=[]) (by simp) ?_ .nil;have e:i64.wrap (ofNat a+ofNat (1+k))=((a+1+k:Nat):Int):=by rw[qW,qW,Q1 (by omega) (by omega)];omega
  rw[qhG,e];simp only[JS,Bool.not_eq_false',Bool.and_eq_true,decide_eq_true_eq] at hg;obtain⟨q1,q2⟩:=hg
  (repeat (first|refine BS ?_|refine BF ?_))
  rfl
 ·refine Last.mk0 (A:=A17) (m:=0) qh rfl rfl qr (h1:=[]) (by simp) ?_ .nil;have e:i64.wrap (ofNat a+ofNat (1+(4-a)))=5:=by rw[qW,qW,Q1 (by omega) (by omega)];omega
  rw[qhG,e]
  (repeat (first|refine BS ?_|refine BF ?_))
  rfl
theorem qh6(s:Sti):(Qp (g53 s) 3=true->LoopOk P17 G17 (A17 99) 99 5 (qZ (v53 s 1) [] (.exit 0) [.undef] []))/\(Qp (g53 s) 3=false->LoopOk P17 G17 (A17 99) 99 5 (qZ (v53 s 1) [] .ret [iI 1] [])):=by
 obtain⟨x,hx⟩:=ZN P17 G17 (A17 99) 99 8;refine ZY qG (by kernel_rfl) (fun k=>v53 s (1+k)) (fun _=>[]) (g53 s) (n:=3) (fun k hk _ hg=>?_) (fun k hk _ hg=>?_) (fun _=>?_)
 ·refine Step.mk0 (A:=A17) (m:=0) qh rfl rfl (l:=qgQ x s (1+k)) (Qk (QE hx _)) (h1:=[]) ?_ .nil;have hl:=(qh5 s (a:=1+k) (by omega)).1 hg;rw[i53,up1 (by omega)];refine BS ?_;rw[show Qp (JS s (1+k)) (4-(1+k))=true from hg]
  (repeat (first|refine BS ?_|refine BF ?_))
  rfl
 ·refine Last.mk0 (A:=A17) (m:=0) qh rfl rfl (l:=qgQ x s (1+k)) (Qk (QE hx _)) (h1:=[]) (by simp) ?_ .nil;have hl:=(qh5 s (a:=1+k) (by omega)).2 hg;rw[i53];refine BS ?_;rw[show Qp (JS s (1+k)) (4-(1+k))=false from hg]
  (repeat (first|refine BS ?_|refine BF ?_))
  rfl
 ·refine Last.mk0 (A:=A17) (m:=0) qh rfl rfl (l:=qgQ x s (1+3)) (Qk (QE hx _)) (h1:=[]) (by simp) ?_ .nil;rw[i53];refine BF ?_;rfl
theorem y8(s:Sti)(hs:s.Ok):ToldOk P17 G17 99 [s.t] (iI (bif stF s then 1 else 0)):=by
 obtain⟨x,hx⟩:=ZN P17 G17 (A17 99) 99 5;refine qY qG Qm qh (A:=A17) (m:=0) (l:=l53 x s (Qp (g53 s) 3)) (by kernel_rfl) (Qk (QE hx _)) ?_;rw[k53];have hv:=s.v_iff hs;have:=hs.k;have:=hs.y;have ho:=qh6 s;have hg:Qp (g53 s) 3=false↔(1<=s.a/\s.a<=4/\1<=s.b/\s.a+s.b<=4):=by
  rw[zU];constructor
  ·rintro⟨k,hk,h⟩;obtain⟨j,hj,h⟩:=(zU _ _).1 h;simp only[JS,Bool.not_eq_false',Bool.and_eq_true,decide_eq_true_eq] at h;omega
  ·intro h;refine⟨s.a.toNat-1,by omega,(zU _ _).2 ⟨s.b.toNat-1,by omega,?_⟩⟩;simp only[JS,Bool.not_eq_false',Bool.and_eq_true,decide_eq_true_eq];omega
 by_cases h1:s.y=0
 ·rw[show stF s=false by rw[←Bool.not_eq_true,hv];omega];refine BS ?_;rfl
 refine BF ?_;by_cases h2:6<s.y
 ·rw[show stF s=false by rw[←Bool.not_eq_true,hv];omega];refine BS ?_;rfl
 refine BF ?_;by_cases h3:s.k=0
 ·rw[show stF s=false by rw[←Bool.not_eq_true,hv];omega];refine BS ?_;rfl
 refine BF ?_;by_cases h4:8<s.k
 ·rw[show stF s=false by rw[←Bool.not_eq_true,hv];omega];refine BS ?_;rfl
 refine BF ?_;by_cases h5:s.k=8
 ·refine BS ?_;cases hb:Qp (g53 s) 3
  ·rw[show stF s=true from hv.2 (by have:=hg.1 hb;omega)];have hl:=ho.2 hb
   (repeat (first|refine BS ?_|refine BF ?_))
   rfl
  ·rw[show stF s=false by rw[←Bool.not_eq_true,hv,←hg,hb];simp;omega];have hl:=ho.1 hb
   (repeat (first|refine BS ?_|refine BF ?_))
   rfl
 refine BF ?_;by_cases h6:s.a=0
 ·by_cases h7:s.b=0
  ·cases h8:s.f
   ·rw[show stF s=true from hv.2 ⟨by omega,by omega,by omega,by omega,.inl ⟨h5,h6,h7,h8⟩⟩]
    (repeat (first|refine BS ?_|refine BF ?_))
    rfl
   ·rw[show stF s=false by rw[←Bool.not_eq_true,hv,h8];simp;omega]
    (repeat (first|refine BS ?_|refine BF ?_))
    rfl
  ·rw[show stF s=false by rw[←Bool.not_eq_true,hv];omega]
   (repeat (first|refine BS ?_|refine BF ?_))
   rfl
 ·rw[show stF s=false by rw[←Bool.not_eq_true,hv];omega]
  (repeat (first|refine BS ?_|refine BF ?_))
  rfl
theorem kU(s:Sti)(hs:s.Ok):ToldOk P17 G17 64 [s.t] (iI s.n):=by
 obtain⟨p,hp⟩:=qA P17 G17 99;have t:=y8 s hs;refine q9 qG Qm (qj qh (qg hp)) (K:=K40 p (stF s)) (A:=A17) (m:=0) ?_;unfold Sti.n;generalize stF s=b at *
 rw[(show Zf P17 G17 A17 (K40 p b) 0 64 [s.t] =
( gD (qF (p [s.t] (iI (bif b then(1:Int)
 else(0:Int)))))<|bif decide ((bif b then(1:Int)
 else(0:Int))=(0:Int)) then some (iI 0) else
 bif decide (s.k=3) then some (iI 0) else
 bif decide (s.k=8) then some (iI (i64.wrap (s.a+s.b))) else
 bif decide (s.k=4) then some (iI 2) else
 bif decide (s.k=5) then some (iI 2) else
 some (iI 1)) from by kernel_rfl)]
 refine BS ?_;cases b
 ·rfl
 by_cases h3:s.k=3
 ·rw[dT h3];rfl
 rw[dF h3];by_cases h8:s.k=8
 ·rw[dT h8,dF (show ¬s.k=4 by omega),dF (show ¬s.k=5 by omega)];rfl
 rw[dF h8];by_cases h4:s.k=4
 ·rw[dT h4];rfl
 rw[dF h4];by_cases h5:s.k=5
 ·rw[dT h5];rfl
 rw[dF h5];rfl
theorem qbW(s:Sti)(hs:s.Ok):ToldOk P17 G17 100 [s.t] (iI s.m):=by
 obtain⟨p,hp⟩:=qA P17 G17 99;have t:=y8 s hs;refine q9 qG Qm (qj qh (qg hp)) (K:=K40 p (stF s)) (A:=A17) (m:=0) ?_;unfold Sti.m;generalize stF s=b at *
 rw[(show Zf P17 G17 A17 (K40 p b) 0 100 [s.t] =
( gD (qF (p [s.t] (iI (bif b then(1:Int)
 else(0:Int)))))<|bif decide ((bif b then(1:Int)
 else(0:Int))=(0:Int)) then some (iI 0) else
 bif decide (s.k=8) then some (iI (i64.wrap (s.a+s.b))) else
 some (iI 1)) from by kernel_rfl)]
 refine BS ?_;cases b
 ·rfl
 by_cases h8:s.k=8
 ·rw[dT h8];rfl
 rw[dF h8];rfl
theorem i38(r:Nat->Sti)(n:Nat)(c:Option Nat)(a x:Int)(i:Nat)(p:List T->T->Prop):qV P17 G17 A17 (K38 p 64 x) 0 29 [] 3 (v38 r n c a i) [] =
( bif decide (ofNat i<ofNat n) then gD (decide (0<=ofNat i)&&decide (ofNat i<ofNat n))<|gD (qF (p [(r i).t] (iI x)))<|zN [srV r n c,iI (i64.wrap (a+x)),iI (i64.wrap (ofNat i+1))] [] else
 zX 0 [iI a] []):=by kernel_rfl
theorem i39(r:Nat->Sti)(n:Nat)(c:Option Nat)(a x:Int)(i:Nat)(p:List T->T->Prop):qV P17 G17 A17 (K38 p 100 x) 0 63 [] 3 (v38 r n c a i) [] =
( bif decide (ofNat i<ofNat n) then gD (decide (0<=ofNat i)&&decide (ofNat i<ofNat n))<|gD (qF (p [(r i).t] (iI x)))<|zN [srV r n c,iI (i64.wrap (a+x)),iI (i64.wrap (ofNat i+1))] [] else
 zX 0 [iI a] []):=by kernel_rfl
section
variable (r:Nat->Sti) (n:Nat) (c:Option Nat)
theorem ZQ(hn:n<=1000)(hr:∀j,(r j).Ok):ToldOk P17 G17 29 [srV r n c] (iI (nR5 r n)):=by
 obtain⟨p,hp⟩:=qA P17 G17 64;have hK:∀x,OrcOk P17 G17 (K38 p 64 x):=fun x=>qj qh (qg hp);unfold nR5;have hb:=kP (N:=fun j=>(r j).n) (b:=4) fun i=>(r i).n_bd (hr i);have hl:LoopOk P17 G17 (A17 29) 29 3 (qZ (v38 r n c 0 0) [] (.exit 0) [iI (QY (fun j=>(r j).n) n)] []):=by
  refine qE qG (by kernel_rfl) (fun i=>v38 r n c (QY (fun j=>(r j).n) i) i) (fun _=>[]) (n:=n) (fun i hi=>?_) ?_
  ·have e:QY (fun j=>(r j).n) (i+1)=QY (fun j=>(r j).n) i+(r i).n:=rfl;have t:=kU (r i) (hr i);have h1:=hb i;have h2:=(r i).n_bd (hr i);rw[e];clear e hb hr;generalize QY (fun j=>(r j).n) i=a at *
   generalize (r i).n=x at *
   refine Step.mk0 (A:=A17) (m:=0) (hK x) rfl rfl qr (h1:=[]) ?_ .nil;rw[i38,up1 (by omega),Q1 (x:=a+x) (by omega) (by omega)]
   (repeat (first|refine BS ?_|refine BF ?_))
   rfl
  ·clear hb hr;generalize QY (fun j=>(r j).n) n=a at *
   refine Last.mk0 (A:=A17) (m:=0) (hK 0) rfl rfl qr (h1:=[]) (by simp) ?_ .nil;rw[i38]
   (repeat (first|refine BS ?_|refine BF ?_))
   rfl
 clear hb hr;generalize QY (fun j=>(r j).n) n=a at *
 refine qY qG Qm qh (A:=A17) (m:=0) (by kernel_rfl) (Qk hl) ?_;rw[(show z3 P17 G17 A17 qy 0 29 [(3,qZ (v38 r n c 0 0) [] (.exit 0) [iI a] [])] [srV r n c] =
( gD (zq (v38 r n c (0:Int) (nat_lit 0)) [] (v38 r n c (0:Int) (nat_lit 0)) [])<|some (iI a)) from by kernel_rfl)]
 (repeat (first|refine BS ?_|refine BF ?_))
 rfl
theorem YD(hn:n<=1000)(hr:∀j,(r j).Ok):ToldOk P17 G17 63 [srV r n c] (iI (mR5 r n)):=by
 obtain⟨p,hp⟩:=qA P17 G17 100;have hK:∀x,OrcOk P17 G17 (K38 p 100 x):=fun x=>qj qh (qg hp);unfold mR5;have hb:=kP (N:=fun j=>(r j).m) (b:=4) fun i=>(r i).m_bd (hr i);have hl:LoopOk P17 G17 (A17 63) 63 3 (qZ (v38 r n c 0 0) [] (.exit 0) [iI (QY (fun j=>(r j).m) n)] []):=by
  refine qE qG (by kernel_rfl) (fun i=>v38 r n c (QY (fun j=>(r j).m) i) i) (fun _=>[]) (n:=n) (fun i hi=>?_) ?_
  ·have e:QY (fun j=>(r j).m) (i+1)=QY (fun j=>(r j).m) i+(r i).m:=rfl;have t:=qbW (r i) (hr i);have h1:=hb i;have h2:=(r i).m_bd (hr i);rw[e];clear e hb hr;generalize QY (fun j=>(r j).m) i=a at *
   generalize (r i).m=x at *
   refine Step.mk0 (A:=A17) (m:=0) (hK x) rfl rfl qr (h1:=[]) ?_ .nil;rw[i39,up1 (by omega),Q1 (x:=a+x) (by omega) (by omega)]
   (repeat (first|refine BS ?_|refine BF ?_))
   rfl
  ·clear hb hr;generalize QY (fun j=>(r j).m) n=a at *
   refine Last.mk0 (A:=A17) (m:=0) (hK 0) rfl rfl qr (h1:=[]) (by simp) ?_ .nil;rw[i39]
   (repeat (first|refine BS ?_|refine BF ?_))
   rfl
 clear hb hr;generalize QY (fun j=>(r j).m) n=a at *
 refine qY qG Qm qh (A:=A17) (m:=0) (by kernel_rfl) (Qk hl) ?_;rw[(show z3 P17 G17 A17 qy 0 63 [(3,qZ (v38 r n c 0 0) [] (.exit 0) [iI a] [])] [srV r n c] =
( gD (zq (v38 r n c (0:Int) (nat_lit 0)) [] (v38 r n c (0:Int) (nat_lit 0)) [])<|some (iI a)) from by kernel_rfl)]
 (repeat (first|refine BS ?_|refine BF ?_))
 rfl
end
noncomputable def l37(x:List T->qa->Ex->List T->qa->Prop)(r:Nat->Sti)(n:Nat)(c:Option Nat)(b:Bool):List (Nat×(List T->qa->LT)):=[(6,z4 x (.ite b (.ret (.exit 0) [srV r n c,.undef] []) (.ret .ret [srV r n c,iI 1] [])))]
def v41(s:Sti)(B:Nat->Int)(n:Nat)(c:Option Nat)(i:Nat):List T:=[nsV B n c,.reg s.c,iI i]
def o41:Nat->T
 |0=>.nils
 |j+1=>.own 0 j 0 (j+1) none
def JT(j:Nat):Blk:=⟨j,1,j+1,fun _=>[iI 1],true,false,none⟩
def k9:Nat->qa
 |0=>[]
 |j+1=>[JT j]
def w41(s:Sti)(j:Nat):List T:=[.reg s.c,o41 j,iI j]
theorem k37(r:Nat->Sti)(n:Nat)(c:Option Nat)(b:Bool)(a d:Int)(x:List T->qa->Ex->List T->qa->Prop)(p q:List T->T->Prop):z3 P17 G17 A17 (K37 p q a d) 0 62 (l37 x r n c b) [srV r n c] =
( bif decide (16<ofNat n) then some (iI 3) else
 bif decide (ofNat n=0) then some (iI 1) else
 bif b then gD (qF (x (v37 r n c (nat_lit 0)) [] (.exit 0) [srV r n c,.undef] []))<|gD (qF (p [srV r n c] (iI a)))<|bif decide (a<1) then some (iI 5) else
 gD (qF (p [srV r n c] (iI a)))<|bif decide (16<a) then some (iI 5) else
 gD (qF (q [srV r n c] (iI d)))<|bif decide (d<1) then some (iI 5) else
 gD (qF (q [srV r n c] (iI d)))<|bif decide (16<d) then some (iI 5) else
 some (iI 0) else
 gD (qF (x (v37 r n c (nat_lit 0)) [] .ret (v37 r n c (nat_lit 1)) []))<|some (iI 1)):=by kernel_rfl
theorem i37(r:Nat->Sti)(n:Nat)(c:Option Nat)(i:Nat)(b:Bool)(p:List T->T->Prop):qV P17 G17 A17 (K40 p b) 0 62 [] 6 (v37 r n c i) [] =
( bif decide (ofNat i<ofNat n) then gD (decide (0<=ofNat i)&&decide (ofNat i<ofNat n))<|gD (qF (p [(r i).t] (iI (bif b then(1:Int)
 else(0:Int)))))<|bif decide ((bif b then(1:Int)
 else(0:Int))=(0:Int)) then zR (v37 r n c (nat_lit 1)) [] else
 zN [srV r n c,iI (i64.wrap (ofNat i+1))] [] else
 zX 0 [srV r n c,.undef] []):=by kernel_rfl
theorem qiX(s:Sti)(x:Int)(p:List T->T->Prop):qV P17 G17 A17 (K38 p 100 x) 0 65 [] 22 (w41 s 0) (k9 0) =
( gD (qF (p [s.t] (iI x)))<|bif decide (0<x) then zN [.reg s.c,.own 1 0 0 1
 none,iI 1] [.mk 0 1 1 (fun j=>[[iI (1:Int)]].getD j []) true true
 none,.mk 0 1 1 (fun j=>[[iI (1:Int)]].getD (0+j) []) true false
 none] else
 zX 2 [.nils] []):=by kernel_rfl
theorem qh7(s:Sti)(j:Nat)(x:Int)(p:List T->T->Prop):qV P17 G17 A17 (K38 p 100 x) 0 65 [] 22 (w41 s (j+1)) (k9 (j+1)) =
( gD (qF (p [s.t] (iI x)))<|bif decide (ofNat (j+1)<x) then gD (j==j&&true)<|gD (((0:Nat)+(j+(1:Nat))).ble (j+1))<|gD (((j+(1:Nat)+(1:Nat))*(9:Nat)).ble 70368744177664)<|bif ((0:Nat)+(j+(1:Nat))+(1:Nat)).ble (j+1) then zN [.reg s.c,.own 0 j 0 (j+1+(1:Nat))
 none,iI (i64.wrap (ofNat (j+1)+(1:Int)))] [.mk j 1 (j+1) (fun j_1=>bif ((0:Nat)+(j+(1:Nat))).ble j_1&&j_1.blt ((0:Nat)+(j+1)+(1:Nat)) then [[iI (1:Int)]].getD ((0:Nat)+(j_1-((0:Nat)+(j+1)))) []
 else [iI 1]) true false
 none,.mk 0 1 1 (fun j=>[[iI (1:Int)]].getD j []) true true
 none] else
 zN [.reg s.c,.own 0 (j+1) (0:Nat) (j+1+(1:Nat))
 none,iI (i64.wrap (ofNat (j+1)+(1:Int)))] [.mk (j+1) (1:Nat) (j+1+(1:Nat)) (fun j_1=>bif j_1.blt (j+1) then [iI 1]
 else [[iI (1:Int)]].getD ((0:Nat)+(j_1-(j+1))) []) true false
 none,.mk 0 1 1 (fun j=>[[iI (1:Int)]].getD j []) true true
 none] else
 zX 2 [.own 0 j 0 (j+1)
 none] [JT j]):=by kernel_rfl
theorem i41(s:Sti)(B:Nat->Int)(n:Nat)(c:Option Nat)(i:Nat):qV P17 G17 A17 qy 0 65 [] 6 (v41 s B n c i) [] =
( bif decide (ofNat i<ofNat n) then gD (decide (0<=ofNat i)&&decide (ofNat i<ofNat n))<|bif !decide (B i=1) then gD (decide (0<=ofNat i)&&decide (ofNat i<ofNat n))<|bif !decide (B i=2) then gD (decide (0<=ofNat i)&&decide (ofNat i<ofNat n))<|bif !decide (B i=3) then zR [nsV B n c,.reg s.c,.nils,iI 1] [] else
 zN [nsV B n c,.reg s.c,iI (i64.wrap (ofNat i+1))] [] else
 zN [nsV B n c,.reg s.c,iI (i64.wrap (ofNat i+1))] [] else
 zN [nsV B n c,.reg s.c,iI (i64.wrap (ofNat i+1))] [] else
 zX 0 [nsV B n c,.reg s.c,.undef,.undef] []):=by kernel_rfl
theorem qgd(r:Nat->Sti):∀n,qcP r n=Qp (fun i=>stF (r i)) n
 |0=>rfl
 |n+1=>by unfold qcP Qp;rw[qgd r n]
theorem qe5(r:Nat->Sti)(n:Nat)(c:Option Nat)(hn:n<=1000)(hr:∀j,(r j).Ok):ToldOk P17 G17 62 [srV r n c] (iI (rE r n)):=by
 obtain⟨x,hx⟩:=ZN P17 G17 (A17 62) 62 6;obtain⟨p,hp⟩:=qA P17 G17 29;obtain⟨q,hq⟩:=qA P17 G17 63;obtain⟨p53,hp53⟩:=qA P17 G17 99;have t1:=ZQ r n c hn hr;have t2:=YD r n c hn hr;have hl:(Qp (fun i=>stF (r i)) n=true->LoopOk P17 G17 (A17 62) 62 6 (qZ (v37 r n c 0) [] (.exit 0) [srV r n c,.undef] []))/\(Qp (fun i=>stF (r i)) n=false->LoopOk P17 G17 (A17 62) 62 6 (qZ (v37 r n c 0) [] .ret [srV r n c,iI 1] [])):=by
  refine ZY qG (by kernel_rfl) (fun i=>v37 r n c i) (fun _=>[]) (fun i=>stF (r i)) (n:=n) (fun i hi _ hg=>?_) (fun i hi _ hg=>?_) (fun _=>?_)
  ·have t:=y8 (r i) (hr i);rw[hg] at t;clear t1 t2 hr;refine Step.mk0 (A:=A17) (K:=K40 p53 true) (m:=0) (qj qh (qg hp53)) rfl rfl qr (h1:=[]) ?_ .nil;rw[i37,up1 (by omega)];refine BS ?_;refine BS ?_;refine qt (qo hp53 t) ?_
   (repeat (first|refine BS ?_|refine BF ?_))
   rfl
  ·have t:=y8 (r i) (hr i);rw[hg] at t;clear t1 t2 hr;refine Last.mk0 (A:=A17) (K:=K40 p53 false) (m:=0) (qj qh (qg hp53)) rfl rfl qr (h1:=[]) (by simp) ?_ .nil;rw[i37];refine BS ?_;refine BS ?_;refine qt (qo hp53 t) ?_
   (repeat (first|refine BS ?_|refine BF ?_))
   rfl
  ·refine Last.mk0 (A:=A17) (K:=K40 p53 false) (m:=0) (qj qh (qg hp53)) rfl rfl qr (h1:=[]) (by simp) ?_ .nil;rw[i37];clear t1 t2 hr
   (repeat (first|refine BS ?_|refine BF ?_))
   rfl
 unfold rE wOk;rw[qgd];generalize nR5 r n=a at *
 generalize mR5 r n=d at *
 generalize Qp (fun i=>stF (r i)) n=b at *
 refine qY qG Qm (K:=K37 p q a d) (qj (qj qh (qg hp)) (qg hq)) (A:=A17) (m:=0) (l:=l37 x r n c b) (by kernel_rfl) (Qk (QE hx _)) ?_;rw[k37];clear hr;by_cases h1:16<n
 ·rw[if_pos h1]
  (repeat (first|refine BS ?_|refine BF ?_))
  rfl
 rw[if_neg h1];refine BF ?_;by_cases h2:n=0
 ·rw[if_pos h2]
  (repeat (first|refine BS ?_|refine BF ?_))
  rfl
 rw[if_neg h2];refine BF ?_;cases b
 ·have hl:=hl.2 rfl;rw[if_neg (by simp)]
  (repeat (first|refine BS ?_|refine BF ?_))
  rfl
 have hl:=hl.1 rfl;rw[if_pos rfl];simp only[Bool.and_eq_true,decide_eq_true_eq];by_cases h3:a<1
 ·rw[if_neg (by omega)]
  (repeat (first|refine BS ?_|refine BF ?_))
  rfl
 by_cases h4:16<a
 ·rw[if_neg (by omega)]
  (repeat (first|refine BS ?_|refine BF ?_))
  rfl
 by_cases h5:d<1
 ·rw[if_neg (by omega)]
  (repeat (first|refine BS ?_|refine BF ?_))
  rfl
 by_cases h6:16<d
 ·rw[if_neg (by omega)]
  (repeat (first|refine BS ?_|refine BF ?_))
  rfl
 rw[if_pos (by omega)]
 (repeat (first|refine BS ?_|refine BF ?_))
 rfl
noncomputable def K41(p53 p40:List T->T->Prop)(b:Bool)(x:Int):Orc:=(qy.add 99 (Qe p53 fun _=>some (iI (bif b then 1 else 0)))).add 64 (Qe p40 fun _=>some (iI x))
noncomputable def qhH(x y:List T->qa->Ex->List T->qa->Prop)(s:Sti)(B:Nat->Int)(n:Nat)(c:Option Nat)(b:Bool)(j:Nat):List (Nat×(List T->qa->LT)) :=
 [(6,z4 x (.ite b (.ret (.exit 0) [nsV B n c,.reg s.c,.undef,.undef] []) (.ret .ret [nsV B n c,.reg s.c,.nils,iI 1] []))),(22,z4 y (.ret (.exit 2) [o41 (j+1)] (k9 (j+1))))]
def qgR(s:Sti)(B:Nat->Int)(n:Nat):T:=if ldE s B n=0 then .tup [.new (.view 1 s.mN (fun j=>[iI (ldG s B j)]) none),iI 0] else .tup [.nils,iI (ldE s B n)]
theorem k41(s:Sti)(B:Nat->Int)(n:Nat)(c:Option Nat)(b d:Bool)(j:Nat)(z:Int)(x y:List T->qa->Ex->List T->qa->Prop)(p q:List T->T->Prop):z3 P17 G17 A17 (K41 p q d z) 0 65 (qhH x y s B n c b j) [s.t,nsV B n c] =
( gD (qF (p [s.t] (iI (bif d then(1:Int)
 else(0:Int)))))<|bif decide ((bif d then(1:Int)
 else(0:Int))=(0:Int)) then some (.tup [.nils,iI 1]) else
 gD (qF (q [s.t] (iI z)))<|bif !decide (ofNat n=z) then some (.tup [.nils,iI 5]) else
 bif b then gD (qF (x (v41 s B n c (nat_lit 0)) [] (.exit 0) [nsV B n c,.reg s.c,.undef,.undef] []))<|bif decide (s.k=4) then gD (decide (0<ofNat n))<|gD (decide (1<ofNat n))<|bif decide (4<i64.wrap (B (0:Nat)+B (1:Nat))) then some (.tup [.nils,iI 9]) else
 some (.tup [.fresh true (1:Nat) (1:Nat) (fun j=>[[iI (1:Int)]].getD (0+j) []) (1:Nat) (some 1),iI 0]) else
 bif decide (s.k=5) then gD (decide (0<ofNat n))<|gD (decide (1<ofNat n))<|bif decide (4<i64.wrap (B (0:Nat)+B (1:Nat))) then some (.tup [.nils,iI 9]) else
 some (.tup [.fresh true (1:Nat) (1:Nat) (fun j=>[[iI (1:Int)]].getD (0+j) []) (1:Nat) (some 1),iI 0]) else
 bif decide (s.k=6) then gD (decide (0<ofNat n))<|bif decide (B (0:Nat)=(3:Int)) then some (.tup [.nils,iI 9]) else
 gD (decide (0<ofNat n))<|some (.tup [.fresh true (1:Nat) (1:Nat) (fun j=>[[iI (i64.wrap (B (0:Nat)+(1:Int)))]].getD (0+j) []) (1:Nat) (some 1),iI 0]) else
 bif decide (s.k=7) then gD (decide (0<ofNat n))<|some (.tup [.fresh true (1:Nat) (1:Nat) (fun j=>[[iI (B (0:Nat))]].getD (0+j) []) (1:Nat) (some 1),iI 0]) else
 gD (qF (y [.reg s.c,.nils,iI 0] [] (.exit 2) [.own 0 j 0 (j+1)
 none] [JT j]))<|some (.tup [bif j==j&&((0:Nat)+(j+(1:Nat))).ble (j+1) then .fresh true (1:Nat) (j+1) (fun j=>[iI 1]) (j+1) none else .undef,iI 0]) else
 gD (qF (x (v41 s B n c (nat_lit 0)) [] .ret [nsV B n c,.reg s.c,.nils,iI 1] []))<|some (.tup [.nils,iI 1])):=by kernel_rfl
theorem qhI(s:Sti)(B:Nat->Int)(n:Nat)(c:Option Nat)(hn:n<=1000):(Qp (y7 B) n=true->LoopOk P17 G17 (A17 65) 65 6 (qZ (v41 s B n c 0) [] (.exit 0) [nsV B n c,.reg s.c,.undef,.undef] []))/\(Qp (y7 B) n=false->LoopOk P17 G17 (A17 65) 65 6 (qZ (v41 s B n c 0) [] .ret [nsV B n c,.reg s.c,.nils,iI 1] [])):=by
 refine ZY qG (by kernel_rfl) (fun i=>v41 s B n c i) (fun _=>[]) (y7 B) (n:=n) (fun i hi _ hg=>?_) (fun i hi _ hg=>?_) (fun _=>?_)
 ·rw[z5] at hg;refine Step.mk0 (A:=A17) (m:=0) qh rfl rfl qr (h1:=[]) ?_ .nil;rw[i41,up1 (by omega)];by_cases q1:B i=1
  ·(repeat (first|refine BS ?_|refine BF ?_))
   rfl
  by_cases q2:B i=2
  ·(repeat (first|refine BS ?_|refine BF ?_))
   rfl
  have q3:B i=3:=by omega
  (repeat (first|refine BS ?_|refine BF ?_))
  rfl
 ·have hg:¬(1<=B i/\B i<=3):=by rw[←z5,hg];simp
  have q1:¬B i=1:=by omega
  have q2:¬B i=2:=by omega
  have q3:¬B i=3:=by omega
  refine Last.mk0 (A:=A17) (m:=0) qh rfl rfl qr (h1:=[]) (by simp) ?_ .nil;rw[i41]
  (repeat (first|refine BS ?_|refine BF ?_))
  rfl
 ·refine Last.mk0 (A:=A17) (m:=0) qh rfl rfl qr (h1:=[]) (by simp) ?_ .nil;rw[i41]
  (repeat (first|refine BS ?_|refine BF ?_))
  rfl
theorem KO(B:Nat->Int):∀n,yL B n=Qp (y7 B) n
 |0=>rfl
 |n+1=>by unfold yL Qp;rw[KO B n]
theorem qcR(j:Nat)(hj:j<1):([[iI 1]]:List (List T)).getD (0+j) []=[iI 1]:=by
 obtain rfl:j=0:=by omega
 rfl
theorem qhJ(s:Sti)(hs:s.Ok){j:Nat}(hj:s.m=((j+1:Nat):Int)):LoopOk P17 G17 (A17 65) 65 22 (qZ (w41 s 0) (k9 0) (.exit 2) [o41 (j+1)] (k9 (j+1))):=by
 obtain⟨p,hp⟩:=qA P17 G17 100;have t:=qbW s hs;have hb:=s.m_bd hs;rw[hj] at t hb;have hK:OrcOk P17 G17 (K38 p 100 ((j+1:Nat):Int)):=qj qh (qg hp);refine qE qG (by kernel_rfl) (fun i=>w41 s i) (fun i=>k9 i) (n:=j+1) (fun i hi=>?_) ?_
 ·cases i with
  |zero =>
   refine Step.mkC (A:=A17) (m:=0) hK rfl rfl qr [1] (v1:=[.reg s.c,.own 1 0 0 1 none,iI 1]) (h1:=[⟨0,1,1,fun j=>[[iI 1]].getD j [],true,true,none⟩,⟨0,1,1,fun j=>[[iI 1]].getD (0+j) [],true,false,none⟩]) ?_ (by kernel_rfl) (v2:=w41 s 1) rfl rfl fun nt=>.same (.cons ⟨rfl,rfl,rfl,id,fun k hk=>(qcR k hk).symm⟩ .nil);rw[qiX]
   (repeat (first|refine BS ?_|refine BF ?_))
   rfl
  |succ i =>
   refine Step.mk (A:=A17) (m:=0) hK rfl rfl qr 1 (by simp[k9]) (h1:=[⟨i+1,1,i+1+1,fun k=>bif Nat.blt k (i+1) then [iI 1] else [[iI 1]].getD (0+(k-(i+1))) [],true,false,none⟩,⟨0,1,1,fun j=>[[iI 1]].getD j [],true,true,none⟩]) (vs':=w41 s (i+1+1)) ?_ (by rfl) (.cons ⟨rfl,rfl,rfl,id,fun k hk=>?_⟩ .nil)
   ·rw[qh7,up1 (by omega)]
    (repeat (first|refine BS ?_|refine BF ?_))
    rfl
   ·show [iI 1]=bif Nat.blt k (i+1) then [iI 1] else [[iI 1]].getD (0+(k-(i+1))) [];have hk:k<i+2:=hk;by_cases q:k<i+1
    ·rw[yZ q];rfl
    ·rw[qcF (by omega),show k-(i+1)=0 by omega];rfl
 ·refine Last.mk0 (A:=A17) (m:=0) hK rfl rfl qr (h1:=k9 (j+1)) (by simp) ?_ (.refl _);rw[qh7]
  (repeat (first|refine BS ?_|refine BF ?_))
  rfl
theorem qbX(s:Sti)(hs:s.Ok)(B:Nat->Int)(n:Nat)(c:Option Nat)(hn:n<=1000):ToldOk P17 G17 65 [s.t,nsV B n c] (qgR s B n):=by
 obtain⟨p,hp⟩:=qA P17 G17 99;obtain⟨q,hq⟩:=qA P17 G17 64;obtain⟨x,hx⟩:=ZN P17 G17 (A17 65) 65 6;obtain⟨y,hy⟩:=ZN P17 G17 (A17 65) 65 22;have t1:=y8 s hs;have t2:=kU s hs;have hl:=qhI s B n c hn;have hmk:=fun j=>qhJ s hs (j:=j);have hv:=s.v_iff hs;have hnb:=s.n_bd hs;have hmb:=s.m_bd hs;have em:s.m=bif stF s then(bif decide (s.k=8) then i64.wrap (s.a+s.b) else 1) else 0:=rfl;have en:s.n=bif stF s then(bif decide (s.k=3) then 0 else bif decide (s.k=4) then 2 else bif decide (s.k=5) then 2 else bif decide (s.k=8) then i64.wrap (s.a+s.b) else 1) else 0:=rfl;unfold qgR;have key:∀(d b:Bool) (j:Nat) (r:T),d=stF s->b=Qp (y7 B) n->z3 P17 G17 A17 (K41 p q d s.n) 0 65 (qhH x y s B n c b j) [s.t,nsV B n c]=some r->ToldOk P17 G17 65 [s.t,nsV B n c] r:=fun d b j r _ _ h =>
  qY qG Qm (qj (qj qh (qg hp)) (qg hq)) (A:=A17) (m:=0) (by kernel_rfl) (qcL (QE hx _) (Qk (QE hy _))) h
 have bad:∀e,(∃j,z3 P17 G17 A17 (K41 p q (stF s) s.n) 0 65 (qhH x y s B n c (Qp (y7 B) n) j) [s.t,nsV B n c]=some (.tup [.nils,iI e]))->ldE s B n=e->e≠0->ToldOk P17 G17 65 [s.t,nsV B n c] (if ldE s B n=0 then .tup [.new (.view 1 s.mN (fun j=>[iI (ldG s B j)]) none),iI 0] else .tup [.nils,iI (ldE s B n)]):=fun e ⟨j,h⟩ he hne=>by
  rw[he,if_neg hne];exact key _ _ _ _ rfl rfl h
 cases h1:stF s
 ·refine bad 1 ⟨0,?_⟩ (qe3 h1) (by decide);rw[h1] at t1 ⊢;rw[k41];clear bad key hv em en hl hmk
  (repeat (first|refine BS ?_|refine BF ?_))
  rfl
 have hk:=hv.1 h1;rw[h1] at t1 em en;have en2:((s.nN:Nat):Int)=s.n:=by unfold Sti.nN;omega
 have em2:((s.mN:Nat):Int)=s.m:=by unfold Sti.mN;omega
 by_cases h2:n=s.nN
 rotate_left
 ·refine bad 5 ⟨0,?_⟩ (qga h1 h2) (by decide);rw[h1,k41];clear bad key hv em en hl hmk;have h3:¬(n:Int)=s.n:=by omega
  (repeat (first|refine BS ?_|refine BF ?_))
  rfl
 have h3:(n:Int)=s.n:=by omega
 rw[cond_true] at em en;cases h4:Qp (y7 B) n
 ·refine bad 1 ⟨0,?_⟩ (qhj h1 h2 (by rw[KO];exact h4)) (by decide);have hl:=hl.2 h4;rw[h1,h4,k41];clear bad key hv em en hmk
  (repeat (first|refine BS ?_|refine BF ?_))
  rfl
 have hl:=hl.1 h4;have hB:=(Q3 _ _).1 h4;have hle:=qhk h1 h2 (by rw[KO];exact h4);rw[h1,h4] at bad;by_cases h5:s.k=4∨s.k=5
 ·have e2:n=2:=by
   rcases h5 with q|q
   ·rw[dF (by omega),dT q] at en;simp only[cond_true,cond_false] at en;omega
   ·rw[dF (by omega),dF (by omega),dT q] at en;simp only[cond_true,cond_false] at en;omega
  have b0:=(z5 _ _).1 (hB 0 (by omega));have b1:=(z5 _ _).1 (hB 1 (by omega));rw[if_pos h5] at hle;by_cases h6:4<B 0+B 1
  ·rw[if_pos h6] at hle;refine bad 9 ⟨0,?_⟩ hle (by decide);rw[k41,Q1 (x:=B 0+B 1) (by omega) (by omega)];clear bad key hv em en hmk hB hle h1 h4;rcases h5 with q|q
   ·(repeat (first|refine BS ?_|refine BF ?_))
    rfl
   ·(repeat (first|refine BS ?_|refine BF ?_))
    rfl
  ·rw[if_neg h6] at hle;rw[hle,if_pos rfl];have e3:s.mN=1:=by
    rw[dF (by omega)] at em;simp only[cond_false] at em;omega
   rw[e3];refine(ToldOk.frz (key true true 0 (.tup [.fresh true 1 1 (fun j=>[[iI 1]].getD (0+j) []) 1 (some 1),iI 0]) h1.symm h4.symm ?_)).tupTo (.cons (.new (.view (.inr rfl) fun j hj=>?_)) (.cons (.refl _) .nil))
   ·rw[k41,Q1 (x:=B 0+B 1) (by omega) (by omega)];clear bad key hv em en hmk hB hle h1 h4;rcases h5 with q|q
    ·(repeat (first|refine BS ?_|refine BF ?_))
     rfl
    ·(repeat (first|refine BS ?_|refine BF ?_))
     rfl
   ·rw[qcR j hj];unfold ldG;rw[if_neg (by omega),if_neg (by omega)];exact .refl _
 rw[if_neg h5] at hle;by_cases h6:s.k=6
 ·have e2:n=1:=by
   rw[dF (by omega),dF (by omega),dF (by omega),dF (by omega)] at en;simp only[cond_false] at en;omega
  have b0:=(z5 _ _).1 (hB 0 (by omega));rw[if_pos h6] at hle;by_cases h7:B 0=3
  ·rw[if_pos h7] at hle;refine bad 9 ⟨0,?_⟩ hle (by decide);rw[k41];clear bad key hv em en hmk hB hle h1 h4
   (repeat (first|refine BS ?_|refine BF ?_))
   rfl
  ·rw[if_neg h7] at hle;rw[hle,if_pos rfl];have e3:s.mN=1:=by
    rw[dF (by omega)] at em;simp only[cond_false] at em;omega
   rw[e3];refine(ToldOk.frz (key true true 0 (.tup [.fresh true 1 1 (fun j=>[[iI (B 0+1)]].getD (0+j) []) 1 (some 1),iI 0]) h1.symm h4.symm ?_)).tupTo (.cons (.new (.view (.inr rfl) fun j hj=>?_)) (.cons (.refl _) .nil))
   ·rw[k41,Q1 (x:=B 0+1) (by omega) (by omega)];clear bad key hv em en hmk hB hle h1 h4
    (repeat (first|refine BS ?_|refine BF ?_))
    rfl
   ·obtain rfl:j=0:=by omega
    unfold ldG;rw[if_pos ⟨h6,rfl⟩];exact .refl _
 rw[if_neg h6] at hle;rw[hle,if_pos rfl];by_cases h7:s.k=7
 ·have e2:n=1:=by
   rw[dF (by omega),dF (by omega),dF (by omega),dF (by omega)] at en;simp only[cond_false] at en;omega
  have e3:s.mN=1:=by
   rw[dF (by omega)] at em;simp only[cond_false] at em;omega
  rw[e3];refine(ToldOk.frz (key true true 0 (.tup [.fresh true 1 1 (fun j=>[[iI (B 0)]].getD (0+j) []) 1 (some 1),iI 0]) h1.symm h4.symm ?_)).tupTo (.cons (.new (.view (.inr rfl) fun j hj=>?_)) (.cons (.refl _) .nil))
  ·rw[k41];clear bad key hv em en hmk hB hle h1 h4
   (repeat (first|refine BS ?_|refine BF ?_))
   rfl
  ·obtain rfl:j=0:=by omega
   unfold ldG;rw[if_neg (by omega),if_pos ⟨h7,rfl⟩];exact .refl _
 have e3:1<=s.mN/\s.mN<=4:=by
  by_cases q:s.k=8
  ·rw[dT q,cond_true,Q1 (by omega) (by omega)] at em;omega
  ·rw[dF q,cond_false] at em;omega
 obtain⟨j,hj⟩:∃j,s.mN=j+1:=⟨s.mN-1,by omega⟩;have hmk:=hmk j (by omega);rw[hj];refine(ToldOk.frz (key true true j (.tup [.fresh true 1 (j+1) (fun _=>[iI 1]) (j+1) none,iI 0]) h1.symm h4.symm ?_)).tupTo (.cons (.new (.view (.inl rfl) fun i hi=>?_)) (.cons (.refl _) .nil))
 ·rw[k41];clear bad key hv em en hB hle h1 h4
  (repeat (first|refine BS ?_|refine BF ?_))
  rw[Nat.zero_add,KH (Nat.le_refl _),beq_self_eq_true];rfl
 ·unfold ldG;rw[if_neg (by omega),if_neg (by omega)];exact .refl _
def oL:Nat->T
 |0=>.own 0 0 0 1 (some 1)
 |j+1=>.own 0 j 0 (j+2) none
def oB(L:Nat->Nat->Int)(W:Nat->Nat):Nat->Blk
 |0=>⟨0,1,1,fun e=>[nsV (L e) (W e) none],false,false,none⟩
 |j+1=>⟨j,1,j+2,fun e=>[nsV (L e) (W e) none],false,false,none⟩
def nX(m:Nat):Nat->T
 |0=>.nils
 |j+1=>.own 1 j 0 m none
def nB(g:Nat->Int)(m:Nat):Nat->qa
 |0=>[]
 |j+1=>[⟨j,1,m,fun e=>[iI (g e)],true,false,none⟩]
def Ka(C:Nat->Nat->Sti)(ln:Nat->Nat)(h:Nat)(B:Nat->Int)(w:Nat)(ol:T)(i at_:Nat)(nx:T)(k:Nat):List T:=[.reg [chV C ln h],nsV B w none,ol,iI i,iI at_,nx,iI k]
def v23(C:Nat->Nat->Sti)(ln:Nat->Nat)(h:Nat)(B:Nat->Int)(w:Nat)(ol:T)(i:Nat):List T:=[.reg [chV C ln h],nsV B w none,ol,iI i]
noncomputable def K23(p q:List T->T->Prop)(n m:Nat)(g:Nat->Int)(e:Int):Orc:=(qy.add 64 (Qe p fun _=>some (iI n))).add 65 (Qe q fun _=>some (bif decide (e=0) then .tup [.new (.view 1 m (fun j=>[iI (g j)]) none),iI 0] else .tup [.nils,iI e]))
noncomputable def qgS(p q:List T->T->Prop)(n:Nat)(e:Int):Orc:=(qy.add 64 (Qe p fun _=>some (iI n))).add 65 (Qe q fun _=>some (.tup [.nils,iI e]))
def x23(C:Nat->Nat->Sti)(ln:Nat->Nat)(h:Nat)(ol:T)(i:Nat)(nx:T):List T:=[.reg [chV C ln h],.undef,.undef,ol,iI i,nx]
def z23(C:Nat->Nat->Sti)(ln:Nat->Nat)(h:Nat)(ol:T)(i:Nat)(nx:T)(e:Int):List T:=[.reg [chV C ln h],.nils,iI e,ol,iI i,nx]
noncomputable def l23(x:List T->qa->Ex->List T->qa->Prop)(C:Nat->Nat->Sti)(ln:Nat->Nat)(h:Nat)(ol:T)(ob:Blk)(i o k:Nat)(y:Nat->Int):List (Nat×(List T->qa->LT)) :=
 [(28,z4 x (.ret (.exit 8) (x23 C ln h ol i (nX o (k+1))) (ob::nB y o (k+1))))]
noncomputable def qhK(x:List T->qa->Ex->List T->qa->Prop)(v:List T)(hp:qa):List (Nat×(List T->qa->LT)):=[(28,z4 x (.ret .ret v hp))]
theorem qiY(C:Nat->Nat->Sti)(ln:Nat->Nat)(h:Nat)(B:Nat->Int)(w i at_ n m:Nat)(g:Nat->Int)(ob:Blk)(ol:T)(p q:List T->T->Prop):qV P17 G17 A17 (K23 p q n m g 0) 0 26 [] 28 (Ka C ln h B w ol i at_ .nils 0) [ob] =
( gD (decide (0<=ofNat i)&&decide (ofNat i<ofNat h))<|bif decide (0<ofNat (ln i)) then gD (decide (0<=ofNat i)&&decide (ofNat i<ofNat h))<|gD (decide (0<ofNat (ln i)))<|gD (qF (p [(C i (0:Nat)).t] (iI (.ofNat n))))<|gD (decide (0<=ofNat at_)&&decide (ofNat at_<=i64.wrap (ofNat at_+ofNat n))&&decide (i64.wrap (ofNat at_+ofNat n)<=ofNat w))<|gD ((i64.wrap (ofNat at_+ofNat n)).toNat.ble w)<|gD (qF (q [(C i (0:Nat)).t,nsV (fun j=>B (at_+j)) ((i64.wrap (ofNat at_+ofNat n)).toNat-at_)
 none] (.tup [(nsV g m
 none).new,iI 0])))<|bif m==(0:Nat) then zN [.reg [chV C ln h],nsV B w
 none,ol,iI (.ofNat i),iI (i64.wrap (ofNat at_+ofNat n)),.nils,iI 1] [ob] else
 gD ((m*(9:Nat)).ble 70368744177664)<|zN [.reg [chV C ln h],nsV B w
 none,ol,iI (.ofNat i),iI (i64.wrap (ofNat at_+ofNat n)),.own 1 0 0 m
 none,iI 1] (ob::QF g m) else
 zX 8 (x23 C ln h ol i .nils) [ob]):=by kernel_rfl
theorem qiZ(C:Nat->Nat->Sti)(ln:Nat->Nat)(h:Nat)(B:Nat->Int)(w i at_ n m o k:Nat)(g x:Nat->Int)(ob:Blk)(ol:T)(p q:List T->T->Prop):qV P17 G17 A17 (K23 p q n m g 0) 0 26 [] 28 (Ka C ln h B w ol i at_ (nX o (k+1)) (k+1)) (ob::nB x o (k+1)) =
( gD (decide (0<=ofNat i)&&decide (ofNat i<ofNat h))<|bif decide (ofNat (k+1)<ofNat (ln i)) then gD (decide (0<=ofNat i)&&decide (ofNat i<ofNat h))<|gD (decide (0<=ofNat (k+1))&&decide (ofNat (k+1)<ofNat (ln i)))<|gD (qF (p [(C i (k+(1:Nat))).t] (iI (.ofNat n))))<|gD (decide (0<=ofNat at_)&&decide (ofNat at_<=i64.wrap (ofNat at_+ofNat n))&&decide (i64.wrap (ofNat at_+ofNat n)<=ofNat w))<|gD ((i64.wrap (ofNat at_+ofNat n)).toNat.ble w)<|gD (qF (q [(C i (k+(1:Nat))).t,nsV (fun j=>B (at_+j)) ((i64.wrap (ofNat at_+ofNat n)).toNat-at_)
 none] (.tup [(nsV g m
 none).new,iI 0])))<|gD (k==k&&true)<|gD (((0:Nat)+o).ble o)<|bif m==(0:Nat) then zN [.reg [chV C ln h],nsV B w
 none,ol,iI (.ofNat i),iI (i64.wrap (ofNat at_+ofNat n)),.own 1 k 0 o
 none,iI (i64.wrap (ofNat (k+1)+(1:Int)))] [ob,.mk k 1 o (fun e=>[iI (x e)]) true false
 none] else
 gD (((o+m)*(9:Nat)).ble 70368744177664)<|bif ((0:Nat)+o+m).ble o then zN [.reg [chV C ln h],nsV B w
 none,ol,iI (.ofNat i),iI (i64.wrap (ofNat at_+ofNat n)),.own 1 k 0 (o+m)
 none,iI (i64.wrap (ofNat (k+1)+(1:Int)))] [ob,.mk k 1 o (fun j=>bif ((0:Nat)+o).ble j&&j.blt (0+o+m) then [iI (g (j-(0+o)))]
 else [iI (x j)]) true false
 none] else
 zN [.reg [chV C ln h],nsV B w
 none,ol,iI (.ofNat i),iI (i64.wrap (ofNat at_+ofNat n)),.own 1 (k+1) (0:Nat) (o+m)
 none,iI (i64.wrap (ofNat (k+1)+(1:Int)))] [ob,.mk (k+1) (1:Nat) (o+m) (fun j=>bif j.blt o then [iI (x (0+j))]
 else [iI (g (j-o))]) true false
 none] else
 zX 8 (x23 C ln h ol i (.own 1 k 0 o
 none)) [ob,.mk k 1 o (fun e=>[iI (x e)]) true false
 none]):=by kernel_rfl
theorem qh8(C:Nat->Nat->Sti)(ln:Nat->Nat)(h:Nat)(B:Nat->Int)(w i at_ n k:Nat)(e:Int)(o:Nat)(ol:T)(ob:Blk)(x:Nat->Int)(p q:List T->T->Prop):qV P17 G17 A17 (qgS p q n e) 0 26 [] 28 (Ka C ln h B w ol i at_ .nils k) [ob] =
( gD (decide (0<=ofNat i)&&decide (ofNat i<ofNat h))<|bif decide (ofNat k<ofNat (ln i)) then gD (decide (0<=ofNat i)&&decide (ofNat i<ofNat h))<|gD (decide (0<=ofNat k)&&decide (ofNat k<ofNat (ln i)))<|gD (qF (p [(C i k).t] (iI (.ofNat n))))<|gD (decide (0<=ofNat at_)&&decide (ofNat at_<=i64.wrap (ofNat at_+ofNat n))&&decide (i64.wrap (ofNat at_+ofNat n)<=ofNat w))<|gD ((i64.wrap (ofNat at_+ofNat n)).toNat.ble w)<|gD (qF (q [(C i k).t,nsV (fun j=>B (at_+j)) ((i64.wrap (ofNat at_+ofNat n)).toNat-at_)
 none] (.tup [.nils,iI e])))<|bif !decide (e=0) then zR (z23 C ln h ol i .nils e) [ob] else
 zN [.reg [chV C ln h],nsV B w
 none,ol,iI (.ofNat i),iI (i64.wrap (ofNat at_+ofNat n)),.nils,iI (i64.wrap (ofNat k+1))] [ob] else
 zX 8 (x23 C ln h ol i .nils) [ob]):=by kernel_rfl
theorem qh9(C:Nat->Nat->Sti)(ln:Nat->Nat)(h:Nat)(B:Nat->Int)(w i at_ n k:Nat)(e:Int)(o:Nat)(ol:T)(ob:Blk)(x:Nat->Int)(p q:List T->T->Prop):qV P17 G17 A17 (qgS p q n e) 0 26 [] 28 (Ka C ln h B w ol i at_ (nX o (k+1)) (k+1)) (ob::nB x o (k+1)) =
( gD (decide (0<=ofNat i)&&decide (ofNat i<ofNat h))<|bif decide (ofNat (k+1)<ofNat (ln i)) then gD (decide (0<=ofNat i)&&decide (ofNat i<ofNat h))<|gD (decide (0<=ofNat (k+1))&&decide (ofNat (k+1)<ofNat (ln i)))<|gD (qF (p [(C i (k+(1:Nat))).t] (iI (.ofNat n))))<|gD (decide (0<=ofNat at_)&&decide (ofNat at_<=i64.wrap (ofNat at_+ofNat n))&&decide (i64.wrap (ofNat at_+ofNat n)<=ofNat w))<|gD ((i64.wrap (ofNat at_+ofNat n)).toNat.ble w)<|gD (qF (q [(C i (k+(1:Nat))).t,nsV (fun j=>B (at_+j)) ((i64.wrap (ofNat at_+ofNat n)).toNat-at_)
 none] (.tup [.nils,iI e])))<|bif !decide (e=0) then zR (z23 C ln h ol i (.own 1 k 0 o
 none) e) [ob,.mk k 1 o (fun e=>[iI (x e)]) true false
 none] else
 gD (k==k&&true)<|gD (((0:Nat)+o).ble o)<|zN [.reg [chV C ln h],nsV B w
 none,ol,iI (.ofNat i),iI (i64.wrap (ofNat at_+ofNat n)),.own 1 k 0 o
 none,iI (i64.wrap (ofNat (k+1)+(1:Int)))] [ob,.mk k 1 o (fun e=>[iI (x e)]) true false
 none] else
 zX 8 (x23 C ln h ol i (.own 1 k 0 o
 none)) [ob,.mk k 1 o (fun e=>[iI (x e)]) true false
 none]):=by kernel_rfl
theorem qi0(C:Nat->Nat->Sti)(ln:Nat->Nat)(h:Nat)(L:Nat->Nat->Int)(W:Nat->Nat)(o k:Nat)(y:Nat->Int)(x:List T->qa->Ex->List T->qa->Prop):qV P17 G17 A17 qy 0 26 (l23 x C ln h (oL 0) (oB L W 0) 0 o k y) 23 (v23 C ln h (L 0) (W 0) (oL 0) 0) [oB L W 0] =
( bif decide (0<ofNat h) then gD (qF (x (Ka C ln h (L (0:Nat)) (W (0:Nat)) (.own 0 0 0 1 (some 1)) (nat_lit 0) (nat_lit 0) .nils (nat_lit 0)) [.mk 0 1 1 (fun e=>[nsV (L e) (W e)
 none]) false false
 none] (.exit 8) (x23 C ln h (.own 0 0 0 1 (some 1)) (nat_lit 0) (.own 1 k 0 o
 none)) [.mk 0 1 1 (fun e=>[nsV (L e) (W e)
 none]) false false
 none,.mk k 1 o (fun e=>[iI (y e)]) true false
 none]))<|zN [.reg [chV C ln h],.own 1 k 0 o
 none,.own 3 0 0 2
 none,iI 1] [.mk 0 1 1 (fun e=>[nsV (L e) (W e)
 none]) false false
 none,.mk k 1 o (fun e=>[iI (y e)]) true false
 none,.mk 0 1 1 (fun j=>[[T.own 1 k 0 o
 none]].getD j []) false true
 none,.mk 0 1 2 (fun j=>bif j.blt 1 then [nsV (L (0+j)) (W (0+j))
 none]
 else [[T.own 1 k 0 o
 none]].getD ((0:Nat)+(j-1)) []) false false
 none] else
 zX 6 [.undef,.undef,.own 0 0 0 1 (some 1)] [.mk 0 1 1 (fun e=>[nsV (L e) (W e)
 none]) false false
 none]):=by kernel_rfl
theorem qi1(C:Nat->Nat->Sti)(ln:Nat->Nat)(h i:Nat)(L:Nat->Nat->Int)(W:Nat->Nat)(o k:Nat)(y:Nat->Int)(x:List T->qa->Ex->List T->qa->Prop):qV P17 G17 A17 qy 0 26 (l23 x C ln h (oL (i+1)) (oB L W (i+1)) (i+1) o k y) 23 (v23 C ln h (L (i+1)) (W (i+1)) (oL (i+1)) (i+1)) [oB L W (i+1)] =
( bif decide (ofNat (i+1)<ofNat h) then gD (qF (x (Ka C ln h (L (i+1)) (W (i+1)) (.own 0 i 0 (i+2)
 none) (i+1) (nat_lit 0) .nils (nat_lit 0)) [.mk i 1 (i+2) (fun e=>[nsV (L e) (W e)
 none]) false false
 none] (.exit 8) (x23 C ln h (.own 0 i 0 (i+2)
 none) (i+1) (.own 1 k 0 o
 none)) [.mk i 1 (i+2) (fun e=>[nsV (L e) (W e)
 none]) false false
 none,.mk k 1 o (fun e=>[iI (y e)]) true false
 none]))<|gD (i==i&&true)<|gD (((0:Nat)+(i+(2:Nat))).ble (i+2))<|gD (((i+(2:Nat)+(1:Nat))*(25:Nat)).ble 70368744177664)<|bif ((0:Nat)+(i+(2:Nat))+(1:Nat)).ble (i+2) then zN [.reg [chV C ln h],.own 1 k 0 o
 none,.own 0 i 0 (i+2+(1:Nat))
 none,iI (i64.wrap (ofNat (i+1)+(1:Int)))] [.mk i 1 (i+2) (fun j=>bif ((0:Nat)+(i+(2:Nat))).ble j&&j.blt ((0:Nat)+(i+2)+(1:Nat)) then [[T.own 1 k 0 o
 none]].getD ((0:Nat)+(j-((0:Nat)+(i+2)))) []
 else [nsV (L j) (W j)
 none]) false false
 none,.mk k 1 o (fun e=>[iI (y e)]) true false
 none,.mk 0 1 1 (fun j=>[[T.own 1 k 0 o
 none]].getD j []) false true
 none] else
 zN [.reg [chV C ln h],.own 1 k 0 o
 none,.own 0 (i+1) (0:Nat) (i+2+(1:Nat))
 none,iI (i64.wrap (ofNat (i+1)+(1:Int)))] [.mk (i+1) (1:Nat) (i+2+(1:Nat)) (fun j=>bif j.blt (i+2) then [nsV (L (0+j)) (W (0+j))
 none]
 else [[T.own 1 k 0 o
 none]].getD ((0:Nat)+(j-(i+2))) []) false false
 none,.mk k 1 o (fun e=>[iI (y e)]) true false
 none,.mk 0 1 1 (fun j=>[[T.own 1 k 0 o
 none]].getD j []) false true
 none] else
 zX 6 [.undef,.undef,.own 0 i 0 (i+2)
 none] [.mk i 1 (i+2) (fun e=>[nsV (L e) (W e)
 none]) false false
 none]):=by kernel_rfl
theorem qia(C:Nat->Nat->Sti)(ln:Nat->Nat)(h i w:Nat)(B:Nat->Int)(ol a:T)(e:Int)(ob:Blk)(hp:qa)(x:List T->qa->Ex->List T->qa->Prop):qV P17 G17 A17 qy 0 26 (qhK x (z23 C ln h ol i a e) hp) 23 (v23 C ln h B w ol i) [ob] =
( bif decide (ofNat i<ofNat h) then gD (qF (x (Ka C ln h B w ol i (nat_lit 0) .nils (nat_lit 0)) [ob] .ret (z23 C ln h ol i a e) hp))<|zR [.nils,iI e,ol] hp else
 zX 6 [.undef,.undef,ol] [ob]):=by kernel_rfl
theorem qhL{s:Sti}(hs:s.Ok)(hv:stF s=true):1<=s.mN/\s.mN<=4:=by
 have hk:=(s.v_iff hs).1 hv;have em:s.m=bif stF s then(bif decide (s.k=8) then i64.wrap (s.a+s.b) else 1) else 0:=rfl;rw[hv,cond_true] at em;unfold Sti.mN;by_cases q:s.k=8
 ·rw[dT q,cond_true,Q1 (by omega) (by omega)] at em;omega
 ·rw[dF q,cond_false] at em;omega
theorem wrN{a n:Nat}(h:a+n<=1000000):i64.wrap (ofNat a+ofNat n)=ofNat (a+n):=by rw[Q1 (by show(-9223372036854775808:Int)<=(a:Int)+n;omega) (by show(a:Int)+n<=9223372036854775807;omega)];rfl
section
variable {C:Nat->Nat->Sti} {ln:Nat->Nat} {h i:Nat} {B:Nat->Int} {w:Nat} {ol:T} {ob:Blk}
theorem qib(hC:∀i j,(C i j).Ok)(hi:i<h)(hh:h<=1000)(hln:ln i<=1000)(hw:w=qL (C i) (ln i))(hw2:w<=1000)(hout:qN (C i) (ln i)<=1000) :
 (Qp (fun k=>decide (erK (C i) B k=0)) (ln i)=true->LoopOk P17 G17 (A17 26) 26 28 (qZ (Ka C ln h B w ol i 0 .nils 0) [ob] (.exit 8) (x23 C ln h ol i (nX (qN (C i) (ln i)) (ln i))) (ob::nB (zV (C i) B (ln i)) (qN (C i) (ln i)) (ln i)))) ∧
 (Qp (fun k=>decide (erK (C i) B k=0)) (ln i)=false->∃e v H,(e = .ret/\∃a,v=z23 C ln h ol i a (QN (C i) B (ln i)))/\LoopOk P17 G17 (A17 26) 26 28 (qZ (Ka C ln h B w ol i 0 .nils 0) [ob] e v H)):=by
 obtain⟨p,hp⟩:=qA P17 G17 64;obtain⟨q,hq⟩:=qA P17 G17 65;have hK:∀n m g e,OrcOk P17 G17 (K23 p q n m g e):=fun n m g e=>qj (qj qh (qg hp)) (qg hq);have hKb:∀n e,OrcOk P17 G17 (qgS p q n e):=fun n e=>qj (qj qh (qg hp)) (qg hq);refine qaS qG (by kernel_rfl) (fun k=>Ka C ln h B w ol i (qL (C i) k) (nX (qN (C i) k) k) k) (fun k=>ob::nB (zV (C i) B k) (qN (C i) k) k) (fun k=>decide (erK (C i) B k=0)) (n:=ln i) _ (fun k hk _ hg=>?_) (fun k hk hlt hg=>?_) (fun _=>?_)
 ·have hg:erK (C i) B k=0:=of_decide_eq_true hg;have hv:stF (C i k)=true:=qhl hg;have hm:=qhL (hC i k) hv;have t40:=kU (C i k) (hC i k);have hnb:=(C i k).n_bd (hC i k);rw[show(C i k).n=(((C i k).nN:Nat):Int) by unfold Sti.nN;omega] at t40;have t41:=qbX (C i k) (hC i k) (fun j=>B (qL (C i) k+j)) (C i k).nN none (by unfold Sti.nN;omega);unfold qgR at t41;rw[if_pos (show ldE (C i k) (fun j=>B (qL (C i) k+j)) (C i k).nN=0 from hg)] at t41;have eo:qL (C i) (k+1)=qL (C i) k+(C i k).nN:=rfl;have eu:qN (C i) (k+1)=qN (C i) k+(C i k).mN:=rfl;have hle1:=(kR (C i) (show k+1<=ln i from hk)).1;have hle2:=(kR (C i) (show k+1<=ln i from hk)).2;have ec:∀j,zV (C i) B (k+1) j=bif Nat.ble (qN (C i) k) j&&Nat.blt j (qN (C i) k+(C i k).mN) then ldG (C i k) (fun t=>B (qL (C i) k+t)) (j-qN (C i) k) else zV (C i) B k j:=fun j=>rfl;rw[eo] at hle1 ⊢;rw[eu] at hle2 ⊢;generalize zV (C i) B (k+1)=y2 at *
  generalize ldG (C i k) (fun t=>B (qL (C i) k+t))=g at *
  change ToldOk P17 G17 65 _ (.tup [.new (nsV g (C i k).mN none),iI 0]) at t41;cases k with
  |zero =>
   change ∀j,y2 j=bif Nat.ble 0 j&&Nat.blt j (0+(C i 0).mN) then g (j-0) else 0 at ec;change 0+(C i 0).nN<=_ at hle1;change 0+(C i 0).mN<=_ at hle2;show Step P17 G17 (A17 26) 26 28 _ (Ka C ln h B w ol i 0 .nils 0) [ob] (Ka C ln h B w ol i (0+(C i 0).nN) (nX (0+(C i 0).mN) 1) 1) (ob::nB y2 (0+(C i 0).mN) 1);change ToldOk P17 G17 65 [(C i 0).t,nsV (fun j=>B (0+j)) (C i 0).nN none] _ at t41;generalize (C i 0).nN=n at *
   generalize (C i 0).mN=m at *
   refine Step.mk0 (A:=A17) (m:=0) (hK n m g 0) rfl rfl qr (h1:=ob::QF g m) ?_ (.cons ⟨rfl,rfl,rfl,id,fun j hj=>rfl⟩ (.cons ⟨rfl,rfl,by show 0+m=m;omega,id,fun j hj=>?_⟩ .nil))
   ·rw[qiY,wrN (by omega),show(ofNat (0+n)).toNat=0+n from rfl,Nat.add_sub_cancel_left];clear ec hC hg hv
    (repeat (first|refine BS ?_|refine BF ?_))
    rw[Nat.zero_add,Nat.zero_add];rfl
   ·show [iI (y2 j)]=[iI (g j)];have hj:j<m:=hj;rw[ec,KH (Nat.zero_le _),yZ (by omega)];rfl
  |succ k =>
   generalize (C i (k+1)).nN=n at *
   generalize (C i (k+1)).mN=m at *
   generalize zV (C i) B (k+1)=y1 at *
   generalize qL (C i) (k+1)=a at *
   generalize qN (C i) (k+1)=o at *
   refine Step.mk0 (A:=A17) (m:=0) (hK n m g 0) rfl rfl qr (h1:=[ob,⟨k+1,1,o+m,fun j=>bif Nat.blt j o then [iI (y1 (0+j))] else [iI (g (j-o))],true,false,none⟩]) ?_ (.cons ⟨rfl,rfl,rfl,id,fun j hj=>rfl⟩ (.cons ⟨rfl,rfl,rfl,id,fun j hj=>?_⟩ .nil))
   ·rw[qiZ,wrN (by omega),show(ofNat (a+n)).toNat=a+n from rfl,Nat.add_sub_cancel_left,up1 (by omega)];clear ec hC hg hv
    (repeat (first|refine BS ?_|refine BF ?_))
    rfl
   ·show [iI (y2 j)]=bif Nat.blt j o then [iI (y1 (0+j))] else [iI (g (j-o))];have hj:j<o+m:=hj;rw[ec,Nat.zero_add];by_cases q:j<o
    ·rw[yZ q,qgy q];rfl
    ·rw[qcF (show o<=j by omega),KH (show o<=j by omega),yZ hj];rfl
 ·have hg:erK (C i) B k≠0:=of_decide_eq_false hg;have er:=kB (C i) B k hg (fun j hj=>of_decide_eq_true (hlt j hj)) (ln i) hk;have t40:=kU (C i k) (hC i k);have hnb:=(C i k).n_bd (hC i k);rw[show(C i k).n=(((C i k).nN:Nat):Int) by unfold Sti.nN;omega] at t40;have t41:=qbX (C i k) (hC i k) (fun j=>B (qL (C i) k+j)) (C i k).nN none (by unfold Sti.nN;omega);unfold qgR at t41;rw[if_neg (show ¬ldE (C i k) (fun j=>B (qL (C i) k+j)) (C i k).nN=0 from hg)] at t41;have eo:qL (C i) (k+1)=qL (C i) k+(C i k).nN:=rfl;have hle1:=(kR (C i) (show k+1<=ln i from hk)).1;rw[eo] at hle1;change ToldOk P17 G17 65 _ (.tup [.nils,iI (erK (C i) B k)]) at t41;refine⟨.ret,z23 C ln h ol i (nX (qN (C i) k) k) (QN (C i) B (ln i)),ob::nB (zV (C i) B k) (qN (C i) k) k,⟨rfl,_,rfl⟩,?_⟩;rw[er];clear er hlt eo;generalize erK (C i) B k=e at *
  cases k with
  |zero =>
   show Last P17 G17 (A17 26) 26 28 _ (Ka C ln h B w ol i 0 .nils 0) [ob] .ret (z23 C ln h ol i .nils e) [ob];change 0+(C i 0).nN<=_ at hle1;change ToldOk P17 G17 65 [(C i 0).t,nsV (fun j=>B (0+j)) (C i 0).nN none] _ at t41;generalize (C i 0).nN=n at *
   refine Last.mk0 (A:=A17) (m:=0) (hKb n e) rfl rfl qr (h1:=[ob]) (by simp) ?_ (.refl _);rw[qh8 (o:=0) (x:=fun _=>0),wrN (by omega),show(ofNat (0+n)).toNat=0+n from rfl,Nat.add_sub_cancel_left];clear hC
   (repeat (first|refine BS ?_|refine BF ?_))
   rfl
  |succ k =>
   generalize (C i (k+1)).nN=n at *
   generalize zV (C i) B (k+1)=y1 at *
   generalize qL (C i) (k+1)=a at *
   generalize qN (C i) (k+1)=o at *
   refine Last.mk0 (A:=A17) (m:=0) (hKb n e) rfl rfl qr (h1:=ob::nB y1 o (k+1)) (by simp) ?_ (.refl _);rw[qh9,wrN (by omega),show(ofNat (a+n)).toNat=a+n from rfl,Nat.add_sub_cancel_left];clear hC
   (repeat (first|refine BS ?_|refine BF ?_))
   rfl
 ·generalize zV (C i) B (ln i)=y1 at *
  generalize qL (C i) (ln i)=a at *
  generalize qN (C i) (ln i)=o at *
  have e0:∀k,ln i=k->Last P17 G17 (A17 26) 26 28 (ob::nB (zV (C i) B 0) (qN (C i) 0) 0).length (Ka C ln h B w ol i a (nX o k) k) (ob::nB y1 o k) (.exit 8) (x23 C ln h ol i (nX o k)) (ob::nB y1 o k):=fun k hk=>by
   cases k with
   |zero =>
    refine Last.mk0 (A:=A17) (m:=0) (hKb 0 0) rfl rfl qr (h1:=[ob]) (by simp) ?_ (.refl _);show qV P17 G17 A17 (qgS p q 0 0) 0 26 [] 28 (Ka C ln h B w ol i a .nils 0) [ob]=_;rw[qh8 (o:=0) (x:=fun _=>0)];clear hC;refine BS ?_;refine BF ?_;rfl
   |succ k =>
    refine Last.mk0 (A:=A17) (m:=0) (hKb 0 0) rfl rfl qr (h1:=ob::nB y1 o (k+1)) (by simp) ?_ (.refl _);rw[qh9];clear hC;refine BS ?_;refine BF ?_;rfl
  exact e0 _ rfl
end
theorem kV{σ:List Nat}{h:qa}{ix k m:Nat}{g:Nat->Int}(hp:zf σ ix=none)(hc:σ.contains ix=false)(hi:h[ix]?=some ⟨k,1,m,fun e=>[iI (g e)],true,false,none⟩):QO σ h (.own ix k 0 m none)=nsV g m none:=by
 simp only[QO,hp,resolve,hc,cond_false,hi,beq_self_eq_true,Bool.true_and,Option.isNone_none];rw[show Nat.ble (0+m) m=true from KH (by omega)];simp only[cond_true,Nat.zero_add];rfl
theorem qbY{r:Nat->Sti}{B:Nat->Int}{n:Nat}:(QN r B n=0)=(Qp (fun k=>decide (erK r B k=0)) n=true):=by
 rcases zr (fun k=>decide (erK r B k=0)) n with q|⟨I,hI,hb,hlt⟩
 ·rw[q,YC r B n fun i hi=>of_decide_eq_true ((Q3 _ _).1 q i hi)];simp
 ·rw[(zU _ _).2 ⟨I,hI,hb⟩,kB r B I (of_decide_eq_false hb) (fun i hi=>of_decide_eq_true (hlt i hi)) n hI];simpa using of_decide_eq_false hb
section
variable {C:Nat->Nat->Sti} {ln:Nat->Nat} {h:Nat}
theorem qge(ok:ChOk C ln h)(hC:∀i j,(C i j).Ok){i:Nat}(hi:i<h)(hg:QN (C i) (LD C ln i) (ln i)=0) :
 Step P17 G17 (A17 26) 26 23 0 (v23 C ln h (LD C ln i) (WD C ln i) (oL i) i) [oB (LD C ln) (WD C ln) i] (v23 C ln h (LD C ln (i+1)) (WD C ln (i+1)) (oL (i+1)) (i+1)) [oB (LD C ln) (WD C ln) (i+1)]:=by
 obtain⟨x,hx⟩:=ZN P17 G17 (A17 26) 26 28;obtain⟨r1,r2,_⟩:=kT (ok.row i hi);obtain⟨o1,o2,o3,o4⟩:=ok.out hC hi;have hh:=ok.h31;have hw:=ok.wd hC i hi;have hl:=(qib (ol:=oL i) (ob:=oB (LD C ln) (WD C ln) i) hC hi (by omega) (by omega) hw (by omega) (by omega)).1 (by rw[←qbY];exact hg);obtain⟨k,hk⟩:∃k,ln i=k+1:=⟨ln i-1,by omega⟩;have eL:LD C ln (i+1)=zV (C i) (LD C ln i) (ln i):=rfl;have eW:WD C ln (i+1)=qN (C i) (ln i):=rfl;rw[←eL,←eW] at hl;rw[←eW] at o1 o2;have hk':∀n,n=ln i->LoopOk P17 G17 (A17 26) 26 28 (qZ (Ka C ln h (LD C ln i) (WD C ln i) (oL i) i 0 .nils 0) [oB (LD C ln) (WD C ln) i] (.exit 8) (x23 C ln h (oL i) i (nX (WD C ln (i+1)) n)) (oB (LD C ln) (WD C ln) i::nB (LD C ln (i+1)) (WD C ln (i+1)) n)):=fun n hn=>by rw[hn];exact hl
 have hl:=hk' (k+1) hk.symm;clear eL eW ok hC hg hw hk' hk r1 r2;generalize LD C ln=L at *
 generalize WD C ln=W at *
 cases i with
 |zero =>
  refine Step.mkC (A:=A17) (m:=0) qh rfl rfl (l:=l23 x C ln h (oL 0) (oB L W 0) 0 (W 1) k (L 1)) (Qk (QE hx _)) [3]
   (v1:=[.reg [chV C ln h],.own 1 k 0 (W 1) none,.own 3 0 0 2 none,iI 1]) (h1:=[oB L W 0,⟨k,1,W 1,fun e=>[iI (L 1 e)],true,false,none⟩,⟨0,1,1,fun j=>[[T.own 1 k 0 (W 1) none]].getD j [],false,true,none⟩,⟨0,1,2,fun j=>bif Nat.blt j 1 then [nsV (L (0+j)) (W (0+j)) none] else [[T.own 1 k 0 (W 1) none]].getD (0+(j-1)) [],false,false,none⟩]) ?_ (by kernel_rfl)
   (v2:=v23 C ln h (L 1) (W 1) (oL 1) 1) ?_ rfl fun nt=>.same (.cons ⟨rfl,rfl,rfl,id,fun j hj=>?_⟩ .nil)
  ·rw[qi0]
   (repeat (first|refine BS ?_|refine BF ?_))
   rfl
  ·simp only[List.map,ren];rw[kV rfl rfl rfl];rfl
  ·have hj:j<2:=hj;rcases (by omega:j=0∨j=1) with rfl|rfl
   ·rfl
   ·show [nsV (L 1) (W 1) none]=[QO [3] _ (.own 1 k 0 (W 1) none)];rw[kV rfl rfl rfl]
 |succ i =>
  refine Step.mkC (A:=A17) (m:=0) qh rfl rfl (l:=l23 x C ln h (oL (i+1)) (oB L W (i+1)) (i+1) (W (i+1+1)) k (L (i+1+1))) (Qk (QE hx _)) [0]
   (v1:=[.reg [chV C ln h],.own 1 k 0 (W (i+1+1)) none,.own 0 (i+1) 0 (i+2+1) none,iI (i+1+1:Nat)]) (h1:=[⟨i+1,1,i+2+1,fun j=>bif Nat.blt j (i+2) then [nsV (L (0+j)) (W (0+j)) none] else [[T.own 1 k 0 (W (i+1+1)) none]].getD (0+(j-(i+2))) [],false,false,none⟩,⟨k,1,W (i+1+1),fun e=>[iI (L (i+1+1) e)],true,false,none⟩,⟨0,1,1,fun j=>[[T.own 1 k 0 (W (i+1+1)) none]].getD j [],false,true,none⟩]) ?_ (by kernel_rfl)
   (v2:=v23 C ln h (L (i+1+1)) (W (i+1+1)) (oL (i+1+1)) (i+1+1)) ?_ rfl fun nt=>.same (.cons ⟨rfl,rfl,rfl,id,fun j hj=>?_⟩ .nil)
  ·rw[qi1,up1 (by omega)]
   (repeat (first|refine BS ?_|refine BF ?_))
   rfl
  ·simp only[List.map,ren];rw[kV rfl rfl rfl];rfl
  ·have hj:j<i+3:=hj;show [nsV (L j) (W j) none]=(bif Nat.blt j (i+2) then [nsV (L (0+j)) (W (0+j)) none] else [[T.own 1 k 0 (W (i+1+1)) none]].getD (0+(j-(i+2))) []).map (QO [0] _);by_cases q:j<i+2
   ·rw[yZ q,Nat.zero_add];rfl
   ·obtain rfl:j=i+2:=by omega
    rw[qcF (Nat.le_refl _),Nat.sub_self];show _=[QO [0] _ (.own 1 k 0 (W (i+1+1)) none)];rw[kV rfl rfl rfl]
theorem qic(ok:ChOk C ln h)(hC:∀i j,(C i j).Ok){i:Nat}(hi:i<h)(hg:QN (C i) (LD C ln i) (ln i)≠0) :
 ∃hp,Last P17 G17 (A17 26) 26 23 0 (v23 C ln h (LD C ln i) (WD C ln i) (oL i) i) [oB (LD C ln) (WD C ln) i] .ret [.nils,iI (QN (C i) (LD C ln i) (ln i)),oL i] hp:=by
 obtain⟨x,hx⟩:=ZN P17 G17 (A17 26) 26 28;obtain⟨r1,r2,_⟩:=kT (ok.row i hi);obtain⟨o1,o2,o3,o4⟩:=ok.out hC hi;have hh:=ok.h31;have hw:=ok.wd hC i hi;obtain⟨_,_,hp,⟨rfl,a,rfl⟩,hl⟩:=(qib (ol:=oL i) (ob:=oB (LD C ln) (WD C ln) i) hC hi (by omega) (by omega) hw (by omega) (by omega)).2 (by
  cases q:Qp (fun k=>decide (erK (C i) (LD C ln i) k=0)) (ln i)
  ·rfl
  ·rw[←qbY] at q;exact absurd q hg)
 refine⟨hp,?_⟩;clear hg ok hC hw;generalize QN (C i) (LD C ln i) (ln i)=e at *
 refine Last.mk0 (A:=A17) (m:=0) qh rfl rfl (l:=qhK x (z23 C ln h (oL i) i a e) hp) (Qk (QE hx _)) (h1:=hp) (by simp) ?_ (.refl _);rw[qia]
 (repeat (first|refine BS ?_|refine BF ?_))
 rfl
end
def KP(C:Nat->Nat->Sti)(ln:Nat->Nat)(h:Nat)(i:Nat):List T:=[.reg [chV C ln h],iI i]
def qfC(C:Nat->Nat->Sti)(ln:Nat->Nat)(h:Nat)(j:Nat):List T:=[.reg [chV C ln h],o41 j,iI j]
def qeG(j:Nat):Blk:=⟨0,1,1,fun k=>[[T.own 0 j 0 (j+1) none]].getD k [],false,true,none⟩
noncomputable def qid(p q:List T->T->Prop)(x y:Int):Orc:=(qy.add 29 (Qe p fun _=>some (iI x))).add 63 (Qe q fun _=>some (iI y))
noncomputable def qie(x y z t:List T->qa->Ex->List T->qa->Prop)(C:Nat->Nat->Sti)(ln:Nat->Nat)(h:Nat)(b1 b2 b3:Bool)(e1 e3:Int)(j j2:Nat)(B:Nat->Blk)(hp:qa)(ol:T):List (Nat×(List T->qa->LT)) :=
 [(6,z4 x (.ite b1 (.ret (.exit 0) [.reg [chV C ln h],.undef,.undef] []) (.ret .ret [.reg [chV C ln h],.nils,iI e1] []))),
  (12,z4 y (.ite b2 (.ret (.exit 2) [.reg [chV C ln h],.undef,.undef] []) (.ret .ret [.reg [chV C ln h],.nils,iI 14] []))),
  (18,z4 z (.ret (.exit 4) [.reg [chV C ln h],o41 (j+1)] (k9 (j+1)))),
  (23,z4 t (.ite b3 (.ret (.exit 6) [.undef,.undef,oL (j2+1)] [B (j2+1)]) (.ret .ret [.nils,iI e3,ol] hp)))]
theorem qhM(C:Nat->Nat->Sti)(ln:Nat->Nat)(h i:Nat)(x:Int)(p:List T->T->Prop):qV P17 G17 A17 (K38 p 62 x) 0 26 [] 6 (KP C ln h i) [] =
( bif decide (ofNat i<ofNat h) then gD (decide (0<=ofNat i)&&decide (ofNat i<ofNat h))<|gD (qF (p [rwV (C i) (ln i)
 none] (iI x)))<|bif !decide (x=0) then zR [.reg [chV C ln h],.nils,iI x] [] else
 zN [.reg [chV C ln h],iI (i64.wrap (ofNat i+1))] [] else
 zX 0 [.reg [chV C ln h],.undef,.undef] []):=by kernel_rfl
theorem qhN(C:Nat->Nat->Sti)(ln:Nat->Nat)(h i:Nat)(x y:Int)(p q:List T->T->Prop):qV P17 G17 A17 (qid p q x y) 0 26 [] 12 (KP C ln h (i+1)) [] =
( bif decide (ofNat (i+1)<ofNat h) then gD (decide (0<=ofNat (i+1))&&decide (ofNat (i+1)<ofNat h))<|gD (qF (p [rwV (C (i+1)) (ln (i+1))
 none] (iI x)))<|gD (decide (0<=i64.wrap (ofNat (i+1)-(1:Int)))&&decide (i64.wrap (ofNat (i+1)-(1:Int))<ofNat h))<|gD (qF (q [rwV (C (i64.wrap (ofNat (i+(1:Nat))-(1:Int))).toNat) (ln (i64.wrap (ofNat (i+(1:Nat))-(1:Int))).toNat)
 none] (iI y)))<|bif !decide (x=y) then zR [.reg [chV C ln h],.nils,iI 14] [] else
 zN [.reg [chV C ln h],iI (i64.wrap (ofNat (i+1)+(1:Int)))] [] else
 zX 2 [.reg [chV C ln h],.undef,.undef] []):=by kernel_rfl
theorem qi2(C:Nat->Nat->Sti)(ln:Nat->Nat)(h:Nat)(x:Int)(p:List T->T->Prop):qV P17 G17 A17 (K38 p 29 x) 0 26 [] 18 (qfC C ln h 0) (k9 0) =
( gD (decide (0<ofNat h))<|gD (qF (p [rwV (C (0:Nat)) (ln (0:Nat))
 none] (iI x)))<|bif decide (0<x) then zN [.reg [chV C ln h],.own 1 0 0 1
 none,iI 1] [.mk 0 1 1 (fun j=>[[iI (1:Int)]].getD j []) true true
 none,.mk 0 1 1 (fun j=>[[iI (1:Int)]].getD (0+j) []) true false
 none] else
 zX 4 [.reg [chV C ln h],.nils] []):=by kernel_rfl
theorem qif(C:Nat->Nat->Sti)(ln:Nat->Nat)(h j:Nat)(x:Int)(p:List T->T->Prop):qV P17 G17 A17 (K38 p 29 x) 0 26 [] 18 (qfC C ln h (j+1)) (k9 (j+1)) =
( gD (decide (0<ofNat h))<|gD (qF (p [rwV (C (0:Nat)) (ln (0:Nat))
 none] (iI x)))<|bif decide (ofNat (j+1)<x) then gD (j==j&&true)<|gD (((0:Nat)+(j+(1:Nat))).ble (j+1))<|gD (((j+(1:Nat)+(1:Nat))*(9:Nat)).ble 70368744177664)<|bif ((0:Nat)+(j+(1:Nat))+(1:Nat)).ble (j+1) then zN [.reg [chV C ln h],.own 0 j 0 (j+1+(1:Nat))
 none,iI (i64.wrap (ofNat (j+1)+(1:Int)))] [.mk j 1 (j+1) (fun j_1=>bif ((0:Nat)+(j+(1:Nat))).ble j_1&&j_1.blt ((0:Nat)+(j+1)+(1:Nat)) then [[iI (1:Int)]].getD ((0:Nat)+(j_1-((0:Nat)+(j+1)))) []
 else [iI 1]) true false
 none,.mk 0 1 1 (fun j=>[[iI (1:Int)]].getD j []) true true
 none] else
 zN [.reg [chV C ln h],.own 0 (j+1) (0:Nat) (j+1+(1:Nat))
 none,iI (i64.wrap (ofNat (j+1)+(1:Int)))] [.mk (j+1) (1:Nat) (j+1+(1:Nat)) (fun j_1=>bif j_1.blt (j+1) then [iI 1]
 else [[iI (1:Int)]].getD ((0:Nat)+(j_1-(j+1))) []) true false
 none,.mk 0 1 1 (fun j=>[[iI (1:Int)]].getD j []) true true
 none] else
 zX 4 [.reg [chV C ln h],.own 0 j 0 (j+1)
 none] [JT j]):=by kernel_rfl
theorem k23(x y z t:List T->qa->Ex->List T->qa->Prop)(C:Nat->Nat->Sti)(ln:Nat->Nat)(h:Nat)(b1 b2 b3:Bool)(e1 e3:Int)(j j2:Nat)(L:Nat->Nat->Int)(W:Nat->Nat)(hp:qa)(ol:T):qeZ P17 G17 A17 qy 0 26 (qie x y z t C ln h b1 b2 b3 e1 e3 j j2 (oB L W) hp ol) [.agg [chV C ln h]] =
( bif decide (31<ofNat h) then some (.tup [.nils,iI 3]) else
 bif decide ((ofNat h).tmod 2=0) then some (.tup [.nils,iI 1]) else
 bif b1 then gD (qF (x (KP C ln h (nat_lit 0)) [] (.exit 0) [.reg [chV C ln h],.undef,.undef] []))<|bif b2 then gD (qF (y (KP C ln h (nat_lit 1)) [] (.exit 2) [.reg [chV C ln h],.undef,.undef] []))<|gD (qF (z [.reg [chV C ln h],.nils,iI 0] [] (.exit 4) [.reg [chV C ln h],.own 0 j 0 (j+1)
 none] [JT j]))<|bif b3 then gD (qF (t [.reg [chV C ln h],.own 0 j 0 (j+1)
 none,.own 1 0 0 1 (some 1),iI 0] [JT j,qeG j] (.exit 6) [.undef,.undef,.own 0 j2 0 (j2+2)
 none] [.mk j2 1 (j2+2) (fun e=>[nsV (L e) (W e)
 none]) false false
 none]))<|some (.tup [bif j2==j2&&((0:Nat)+(j2+(2:Nat))).ble (j2+2) then .fresh false (1:Nat) (j2+2) (fun j=>[nsV (L (0+j)) (W (0+j))
 none]) (j2+2) none else .undef,iI 0]) else
 gD (qF (t [.reg [chV C ln h],.own 0 j 0 (j+1)
 none,.own 1 0 0 1 (some 1),iI 0] [JT j,qeG j] .ret [.nils,iI e3,ol] hp))<|some (.tup [.nils,iI e3]) else
 gD (qF (y (KP C ln h (nat_lit 1)) [] .ret [.reg [chV C ln h],.nils,iI 14] []))<|some (.tup [.nils,iI 14]) else
 gD (qF (x (KP C ln h (nat_lit 0)) [] .ret [.reg [chV C ln h],.nils,iI e1] []))<|some (.tup [.nils,iI e1])):=by kernel_rfl
section
variable {C:Nat->Nat->Sti} {ln:Nat->Nat} {h:Nat}
theorem qhO(hC:∀i j,(C i j).Ok)(hh:h<=1000)(hln:∀i,i<h->ln i<=1000):(Qp (fun i=>decide (rE (C i) (ln i)=0)) h=true->LoopOk P17 G17 (A17 26) 26 6 (qZ (KP C ln h 0) [] (.exit 0) [.reg [chV C ln h],.undef,.undef] [])) ∧
 (Qp (fun i=>decide (rE (C i) (ln i)=0)) h=false->LoopOk P17 G17 (A17 26) 26 6 (qZ (KP C ln h 0) [] .ret [.reg [chV C ln h],.nils,iI (zJ C ln h)] [])):=by
 obtain⟨p,hp⟩:=qA P17 G17 62;have hK:∀x,OrcOk P17 G17 (K38 p 62 x):=fun x=>qj qh (qg hp);refine ZY qG (by kernel_rfl) (fun i=>KP C ln h i) (fun _=>[]) (fun i=>decide (rE (C i) (ln i)=0)) (n:=h) (fun i hi _ hg=>?_) (fun i hi hlt hg=>?_) (fun _=>?_)
 ·have hg:rE (C i) (ln i)=0:=of_decide_eq_true hg;have t:=qe5 (C i) (ln i) none (hln i hi) (hC i);rw[hg] at t;clear hln hC;refine Step.mk0 (A:=A17) (m:=0) (hK 0) rfl rfl qr (h1:=[]) ?_ .nil;rw[qhM,up1 (by omega)]
  (repeat (first|refine BS ?_|refine BF ?_))
  rfl
 ·have hg:¬rE (C i) (ln i)=0:=of_decide_eq_false hg;have t:=qe5 (C i) (ln i) none (hln i hi) (hC i);rw[jH C ln i hg (fun j hj=>of_decide_eq_true (hlt j hj)) h hi];clear hln hC hlt;generalize rE (C i) (ln i)=x at *
  refine Last.mk0 (A:=A17) (m:=0) (hK x) rfl rfl qr (h1:=[]) (by simp) ?_ .nil;rw[qhM]
  (repeat (first|refine BS ?_|refine BF ?_))
  rfl
 ·refine Last.mk0 (A:=A17) (m:=0) (hK 0) rfl rfl qr (h1:=[]) (by simp) ?_ .nil;rw[qhM];clear hln hC
  (repeat (first|refine BS ?_|refine BF ?_))
  rfl
theorem qgT(hC:∀i j,(C i j).Ok)(h1:1<=h)(hh:h<=1000)(hln:∀i,i<h->ln i<=1000):(Qp (YK C ln) (h-1)=true->LoopOk P17 G17 (A17 26) 26 12 (qZ (KP C ln h 1) [] (.exit 2) [.reg [chV C ln h],.undef,.undef] [])) ∧
 (Qp (YK C ln) (h-1)=false->LoopOk P17 G17 (A17 26) 26 12 (qZ (KP C ln h 1) [] .ret [.reg [chV C ln h],.nils,iI 14] [])):=by
 obtain⟨p,hp⟩:=qA P17 G17 29;obtain⟨q,hq⟩:=qA P17 G17 63;have hK:∀x y,OrcOk P17 G17 (qid p q x y):=fun x y=>qj (qj qh (qg hp)) (qg hq);have key:∀i,i+1<h->(i64.wrap (ofNat (i+1)-1))=ofNat i:=fun i hi=>by rw[Q1 (by show(-9223372036854775808:Int)<=((i+1:Nat):Int)-1;omega) (by show((i+1:Nat):Int)-1<=_;omega)];show((i+1:Nat):Int)-1=(i:Int);omega
 refine ZY qG (by kernel_rfl) (fun i=>KP C ln h (i+1)) (fun _=>[]) (YK C ln) (n:=h-1) (fun i hi _ hg=>?_) (fun i hi _ hg=>?_) (fun _=>?_)
 ·have t1:=ZQ (C (i+1)) (ln (i+1)) none (hln _ (by omega)) (hC _);have t2:=YD (C i) (ln i) none (hln _ (by omega)) (hC _);have hg:nR5 (C (i+1)) (ln (i+1))=mR5 (C i) (ln i):=of_decide_eq_true hg;rw[hg] at t1;clear hln hC hg;generalize mR5 (C i) (ln i)=y at *
  refine Step.mk0 (A:=A17) (m:=0) (hK y y) rfl rfl qr (h1:=[]) ?_ .nil;rw[qhN,up1 (by omega),key i (by omega),show(ofNat i).toNat=i from rfl];clear key
  (repeat (first|refine BS ?_|refine BF ?_))
  rfl
 ·have t1:=ZQ (C (i+1)) (ln (i+1)) none (hln _ (by omega)) (hC _);have t2:=YD (C i) (ln i) none (hln _ (by omega)) (hC _);have hg:¬nR5 (C (i+1)) (ln (i+1))=mR5 (C i) (ln i):=of_decide_eq_false hg;clear hln hC;generalize nR5 (C (i+1)) (ln (i+1))=x at *
  generalize mR5 (C i) (ln i)=y at *
  refine Last.mk0 (A:=A17) (m:=0) (hK x y) rfl rfl qr (h1:=[]) (by simp) ?_ .nil;rw[qhN,key i (by omega),show(ofNat i).toNat=i from rfl];clear key
  (repeat (first|refine BS ?_|refine BF ?_))
  rfl
 ·refine Last.mk0 (A:=A17) (m:=0) (hK 0 0) rfl rfl qr (h1:=[]) (by simp) ?_ .nil;rw[qhN];clear hln hC key
  (repeat (first|refine BS ?_|refine BF ?_))
  rfl
theorem qhP(hC:∀i j,(C i j).Ok)(h1:1<=h)(hln:ln 0<=1000){j:Nat}(hj:qL (C 0) (ln 0)=j+1):LoopOk P17 G17 (A17 26) 26 18 (qZ (qfC C ln h 0) (k9 0) (.exit 4) [.reg [chV C ln h],o41 (j+1)] (k9 (j+1))):=by
 obtain⟨p,hp⟩:=qA P17 G17 29;have t:=ZQ (C 0) (ln 0) none hln (hC 0);rw[(ZP (C 0) (hC 0) (ln 0)).1,hj] at t;have hb:((j+1:Nat):Int)<=4000:=by
  have q1:=(ZP (C 0) (hC 0) (ln 0)).1;have q2:=kP (N:=fun j=>(C 0 j).n) (b:=4) (fun i=>(C 0 i).n_bd (hC 0 i)) (ln 0);unfold nR5 at q1;omega
 clear hj hC;have hK:OrcOk P17 G17 (K38 p 29 ((j+1:Nat):Int)):=qj qh (qg hp);refine qE qG (by kernel_rfl) (fun i=>qfC C ln h i) (fun i=>k9 i) (n:=j+1) (fun i hi=>?_) ?_
 ·cases i with
  |zero =>
   refine Step.mkC (A:=A17) (m:=0) hK rfl rfl qr [1] (v1:=[.reg [chV C ln h],.own 1 0 0 1 none,iI 1]) (h1:=[⟨0,1,1,fun j=>[[iI 1]].getD j [],true,true,none⟩,⟨0,1,1,fun j=>[[iI 1]].getD (0+j) [],true,false,none⟩]) ?_ (by kernel_rfl) (v2:=qfC C ln h 1) rfl rfl fun nt=>.same (.cons ⟨rfl,rfl,rfl,id,fun k hk=>(qcR k hk).symm⟩ .nil);rw[qi2]
   (repeat (first|refine BS ?_|refine BF ?_))
   rfl
  |succ i =>
   refine Step.mk (A:=A17) (m:=0) hK rfl rfl qr 1 (by simp[k9]) (h1:=[⟨i+1,1,i+1+1,fun k=>bif Nat.blt k (i+1) then [iI 1] else [[iI 1]].getD (0+(k-(i+1))) [],true,false,none⟩,⟨0,1,1,fun j=>[[iI 1]].getD j [],true,true,none⟩]) (vs':=qfC C ln h (i+1+1)) ?_ (by rfl) (.cons ⟨rfl,rfl,rfl,id,fun k hk=>?_⟩ .nil)
   ·rw[qif,up1 (by omega)]
    (repeat (first|refine BS ?_|refine BF ?_))
    rfl
   ·show [iI 1]=bif Nat.blt k (i+1) then [iI 1] else [[iI 1]].getD (0+(k-(i+1))) [];have hk:k<i+2:=hk;by_cases q:k<i+1
    ·rw[yZ q];rfl
    ·rw[qcF (by omega),show k-(i+1)=0 by omega];rfl
 ·refine Last.mk0 (A:=A17) (m:=0) hK rfl rfl qr (h1:=k9 (j+1)) (by simp) ?_ (.refl _);rw[qif]
  (repeat (first|refine BS ?_|refine BF ?_))
  rfl
theorem qdO:(kA C ln h=0)=(Qp (fun i=>decide (QN (C i) (LD C ln i) (ln i)=0)) h=true):=by
 rcases zr (fun i=>decide (QN (C i) (LD C ln i) (ln i)=0)) h with q|⟨I,hI,hb,hlt⟩
 ·rw[q,kS C ln h fun i hi=>of_decide_eq_true ((Q3 _ _).1 q i hi)];simp
 ·rw[(zU _ _).2 ⟨I,hI,hb⟩,J3 C ln I (of_decide_eq_false hb) (fun i hi=>of_decide_eq_true (hlt i hi)) h hI];simpa using of_decide_eq_false hb
theorem qhQ(ok:ChOk C ln h)(hC:∀i j,(C i j).Ok):(kA C ln h=0->BaseOk P17 G17 (A17 26) 26 0 23 (YM 0 (v23 C ln h (LD C ln 0) (WD C ln 0) (oL 0) 0) [oB (LD C ln) (WD C ln) 0] (.exit 6) [.undef,.undef,oL h] [oB (LD C ln) (WD C ln) h])) ∧
 (kA C ln h≠0->∃ol hp,BaseOk P17 G17 (A17 26) 26 0 23 (YM 0 (v23 C ln h (LD C ln 0) (WD C ln 0) (oL 0) 0) [oB (LD C ln) (WD C ln) 0] .ret [.nils,iI (kA C ln h),ol] hp)):=by
 constructor
 ·intro hg;rw[qdO,Q3] at hg;refine qaV qG (by kernel_rfl) (fun i=>v23 C ln h (LD C ln i) (WD C ln i) (oL i) i) (fun i=>[oB (LD C ln) (WD C ln) i]) (n:=h) (fun i hi=>(qge ok hC hi (of_decide_eq_true (hg i hi))).base) ?_;obtain⟨x,hx⟩:=ZN P17 G17 (A17 26) 26 28;refine Last.base (Last.mk0 (A:=A17) (m:=0) qh rfl rfl (l:=qhK x (z23 C ln h (oL h) h .nils 0) []) (Qk (QE hx _)) (h1:=[oB (LD C ln) (WD C ln) h]) (by simp) ?_ (.refl _));rw[qia];clear hg ok hC;refine BF ?_;rfl
 ·intro hg;rcases zr (fun i=>decide (QN (C i) (LD C ln i) (ln i)=0)) h with q|⟨I,hI,hb,hlt⟩
  ·rw[←qdO] at q;exact absurd q hg
  ·obtain⟨hp,hl⟩:=qic ok hC hI (of_decide_eq_false hb);rw[←J3 C ln I (of_decide_eq_false hb) (fun i hi=>of_decide_eq_true (hlt i hi)) h hI] at hl;exact⟨oL I,hp,qaV qG (by kernel_rfl) (fun i=>v23 C ln h (LD C ln i) (WD C ln i) (oL i) i) (fun i=>[oB (LD C ln) (WD C ln) i]) (n:=I) (fun i hi=>(qge ok hC (by omega) (of_decide_eq_true (hlt i hi))).base) hl.base⟩
theorem qeH{n:Nat}:Yz C ln n=Qp (YK C ln) n:=by
 induction n with
 |zero=>rfl
 |succ n ih=>unfold Yz Qp;rw[ih]
theorem qbZ:(zJ C ln h=0)=(Qp (fun i=>decide (rE (C i) (ln i)=0)) h=true):=by
 rcases zr (fun i=>decide (rE (C i) (ln i)=0)) h with q|⟨I,hI,hb,hlt⟩
 ·rw[q,YA C ln h fun i hi=>of_decide_eq_true ((Q3 _ _).1 q i hi)];simp
 ·rw[(zU _ _).2 ⟨I,hI,hb⟩,jH C ln I (of_decide_eq_false hb) (fun i hi=>of_decide_eq_true (hlt i hi)) h hI];simpa using of_decide_eq_false hb
end
def qcS(C:Nat->Nat->Sti)(ln:Nat->Nat)(h:Nat):Int:=if chE C ln h≠0 then chE C ln h else kA C ln h
noncomputable def K25(p:List T->T->Prop)(r:T):Orc:=qy.add 70 (Qe p fun _=>some r)
theorem qdP(C:Nat->Nat->Sti)(ln:Nat->Nat)(h:Nat)(hh:h<=1000)(hln:∀i,i<h->ln i<=1000)(hC:∀i j,(C i j).Ok):ToldOk P17 G17 39 [.agg [chV C ln h]] (iI (qcS C ln h)):=by
 obtain⟨p,hp⟩:=qA P17 G17 70;have bad:∀e,ToldOk P17 G17 70 [.agg [chV C ln h]] (.tup [.nils,iI e])->ToldOk P17 G17 39 [.agg [chV C ln h]] (iI e):=fun e t1=>by
  refine q9 qG Qm (qj qh (qg hp)) (K:=K25 p (.tup [.nils,iI e])) (A:=A17) (m:=0) ?_;rw[(show Zf P17 G17 A17 (K25 p (.tup [.nils,iI e])) 0 39 [.agg [chV C ln h]] =
( gD (qF (p [.agg [chV C ln h]] (.tup [.nils,iI e])))<|some (iI e)) from by kernel_rfl)]
  exact qt (qo hp t1) rfl
 unfold qcS;by_cases h1:chE C ln h=0
 ·rw[if_neg (by omega)];have t1:=qhF C ln h hC h1;by_cases h2:kA C ln h=0
  ·rw[if_pos h2] at t1;rw[h2];unfold qeD at t1;generalize LD C ln=L at *
   generalize WD C ln=W at *
   refine q9 qG Qm (qj qh (qg hp)) (K:=K25 p (.tup [.fresh false 1 (1+h) (fun e=>[nsV (L e) (W e) (some (W e))]) (1+h) (some (1+h)),iI 0])) (A:=A17) (m:=0) ?_;rw[(show Zf P17 G17 A17 (K25 p (.tup [.fresh false 1 (1+h) (fun e=>[nsV (L e) (W e) (some (W e))]) (1+h) (some (1+h)),iI 0])) 0 39 [.agg [chV C ln h]] =
( gD (qF (p [.agg [chV C ln h]] (.tup [.fresh false (1:Nat) (1+h) (fun e=>[nsV (L e) (W e) (some (W e))]) (1+h) (some (1+h)),iI 0])))<|some (iI 0)) from by kernel_rfl)]
   exact qt (qo hp t1) rfl
  ·rw[if_neg h2] at t1;exact bad _ t1
 ·rw[if_pos h1];exact bad _ (qeE C ln h hh hln hC h1)
def lvT(C:Nat->Nat->Sti)(ln:Nat->Nat)(h:Nat):T:=.view 1 (h+1) (fun e=>[nsV (LD C ln e) (WD C ln e) none]) none
theorem qfD(C:Nat->Nat->Sti)(ln:Nat->Nat)(h:Nat)(hh:h<=1000)(hln:∀i,i<h->ln i<=1000)(hC:∀i j,(C i j).Ok):ToldOk P17 G17 26 [.agg [chV C ln h]] (if qcS C ln h=0 then .tup [lvT C ln h,iI 0] else .tup [.nils,iI (qcS C ln h)]):=by
 obtain⟨x,hx⟩:=J0 P17 G17 (A17 26) 26 0 6;obtain⟨y,hy⟩:=J0 P17 G17 (A17 26) 26 0 12;obtain⟨z,hz⟩:=J0 P17 G17 (A17 26) 26 0 18;obtain⟨t,ht⟩:=J0 P17 G17 (A17 26) 26 0 23;have told:∀b1 b2 b3 e1 e3 j j2 L W hp ol r,qeZ P17 G17 A17 qy 0 26 (qie x y z t C ln h b1 b2 b3 e1 e3 j j2 (oB L W) hp ol) [.agg [chV C ln h]]=some r->ToldOk P17 G17 26 [.agg [chV C ln h]] r:=fun b1 b2 b3 e1 e3 j j2 L W hp ol r hr =>
  qew qG Qm qh (A:=A17) (m:=0) (by kernel_rfl) (qex (y4 hx _) (qex (y4 hy _) (qex (y4 hz _) (qhy (y4 ht _))))) hr
 have l6:=qhO (C:=C) (ln:=ln) hC hh hln;have bad:∀e,qcS C ln h=e->e≠0->ToldOk P17 G17 26 [.agg [chV C ln h]] (.tup [.nils,iI e])->ToldOk P17 G17 26 [.agg [chV C ln h]] (if qcS C ln h=0 then .tup [lvT C ln h,iI 0] else .tup [.nils,iI (qcS C ln h)]):=fun e he hne t=>by rw[he,if_neg hne];exact t
 have eC:qcS C ln h=if chE C ln h≠0 then chE C ln h else kA C ln h:=rfl;have eh:chE C ln h=if 31<h then 3 else if h%2=0 then 1 else if zJ C ln h≠0 then zJ C ln h else if Yz C ln (h-1)=true then 0 else 14:=rfl;by_cases h1:31<h
 ·rw[if_pos h1] at eh;rw[eh,if_pos (by omega)] at eC;refine bad 3 eC (by omega) (told true true true 0 0 0 0 (fun _ _=>0) (fun _=>0) [] .nils _ ?_);rw[k23];exact qt (by rw[qW];exact dT (by omega)) rfl
 rw[if_neg h1] at eh;by_cases h2:h%2=0
 ·rw[if_pos h2] at eh;rw[eh,if_pos (by omega)] at eC;refine bad 1 eC (by omega) (told true true true 0 0 0 0 (fun _ _=>0) (fun _=>0) [] .nils _ ?_);rw[k23,ZC];refine Q2 (by rw[qW,dF (by omega)];simp) ?_;exact qt (dT h2) rfl
 rw[if_neg h2] at eh;cases q1:Qp (fun i=>decide (rE (C i) (ln i)=0)) h
 ·have hr:¬zJ C ln h=0:=by rw[qbZ,q1];simp
  rw[if_pos hr] at eh;rw[eh,if_pos hr] at eC;refine bad _ eC hr (told false true true (zJ C ln h) 0 0 0 (fun _ _=>0) (fun _=>0) [] .nils _ ?_);rw[k23,ZC];refine Q2 (by rw[qW,dF (by omega)];simp) ?_;refine Q2 (by rw[dF h2];simp) ?_;refine Q2 (by simp) ?_;exact qt (QS hx (LoopOk.lit_base (l6.2 q1))) rfl
 have hr:zJ C ln h=0:=by rw[qbZ];exact q1
 rw[if_neg (by omega:¬zJ C ln h≠0),qeH] at eh;have l12:=qgT (C:=C) (ln:=ln) hC (by omega:1<=h) hh hln;cases q2:Qp (YK C ln) (h-1)
 ·rw[q2] at eh;rw[eh] at eC;refine bad 14 eC (by omega) (told true false true 0 0 0 0 (fun _ _=>0) (fun _=>0) [] .nils _ ?_);rw[k23,ZC];refine Q2 (by rw[qW,dF (by omega)];simp) ?_;refine Q2 (by rw[dF h2];simp) ?_;refine qt rfl ?_;refine qt (QS hx (LoopOk.lit_base (l6.1 q1))) ?_;refine Q2 (by simp) ?_;exact qt (QS hy (LoopOk.lit_base (l12.2 q2))) rfl
 rw[q2,if_pos rfl] at eh;rw[eh,if_neg (by simp)] at eC;have ok:ChOk C ln h:=qa4 eh;have hl0:=hln 0 (by omega);obtain⟨_,_,o3,o4⟩:=ok.out hC (show 0<h by omega);obtain⟨j,hj⟩:∃j,qL (C 0) (ln 0)=j+1:=⟨qL (C 0) (ln 0)-1,by omega⟩;have l18:=qhP hC (by omega:1<=h) hl0 hj;obtain⟨b1,b2⟩:=qhQ ok hC;have hw:qaU 0 [.reg [chV C ln h],o41 (j+1),.own 1 0 0 1 (some 1),iI 0] [JT j,qeG j] (v23 C ln h (LD C ln 0) (WD C ln 0) (oL 0) 0) [oB (LD C ln) (WD C ln) 0]=true:=by
  refine qdH [1] (by kernel_rfl) (h2:=[⟨0,1,1,fun k=>([[T.own 0 j 0 (j+1) none]].getD k []).map (QO [1] [JT j,qeG j]),false,true,none⟩]) ?_ rfl ?_
  ·simp only[List.map,ren];show [T.reg [chV C ln h],QO [1] [JT j,qeG j] (.own 0 j 0 (j+1) none),.own 0 0 0 1 (some 1),iI 0]=_;rw[kV (g:=fun _=>1) rfl rfl rfl];rw[←hj];rfl
  ·refine .cons ⟨rfl,rfl,rfl,id,fun k hk=>?_⟩ .nil;have hk:k<1:=hk;obtain rfl:k=0:=by omega
   show [nsV (LD C ln 0) (WD C ln 0) none]=[QO [1] [JT j,qeG j] (.own 0 j 0 (j+1) none)];rw[kV (g:=fun _=>1) rfl rfl rfl,←hj];rfl
 by_cases q3:kA C ln h=0
 ·obtain⟨k,hk⟩:∃k,h=k+1:=⟨h-1,by omega⟩;have b1:=(b1 q3).less hw;rw[if_pos (eC.trans q3)];have eo:∀n,n=h->BaseOk P17 G17 (A17 26) 26 0 23 (YM 0 [.reg [chV C ln h],o41 (j+1),.own 1 0 0 1 (some 1),iI 0] [JT j,qeG j] (.exit 6) [.undef,.undef,oL n] [oB (LD C ln) (WD C ln) n]):=fun n hn=>by rw[hn];exact b1
  have b1:=eo (k+1) hk.symm;refine ToldOk.frz (r:=.tup [.fresh false 1 (h+1) (fun e=>[nsV (LD C ln e) (WD C ln e) none]) (h+1) none,iI 0]) (told true true true 0 0 j k (LD C ln) (WD C ln) [] .nils _ ?_);rw[k23,ZC];refine Q2 (by rw[qW,dF (by omega)];simp) ?_;refine Q2 (by rw[dF h2];simp) ?_;refine qt rfl ?_;refine qt (QS hx (LoopOk.lit_base (l6.1 q1))) ?_;refine qt rfl ?_;refine qt (QS hy (LoopOk.lit_base (l12.1 q2))) ?_;refine qt (QS hz (LoopOk.lit_base l18)) ?_;refine qt rfl ?_;refine qt (QS ht b1) ?_;simp only[Nat.zero_add,Nat.sub_zero,beq_self_eq_true,Bool.true_and];rw[KH (Nat.le_refl _),hk];rfl
 ·obtain⟨ol,hp,b2⟩:=b2 q3;have b2:=b2.less hw;refine bad _ eC q3 (told true true false 0 (kA C ln h) j 0 (LD C ln) (WD C ln) hp ol _ ?_);rw[k23,ZC];refine Q2 (by rw[qW,dF (by omega)];simp) ?_;refine Q2 (by rw[dF h2];simp) ?_;refine qt rfl ?_;refine qt (QS hx (LoopOk.lit_base (l6.1 q1))) ?_;refine qt rfl ?_;refine qt (QS hy (LoopOk.lit_base (l12.1 q2))) ?_;refine qt (QS hz (LoopOk.lit_base l18)) ?_;refine Q2 (by simp) ?_;exact qt (QS ht b2) rfl
def jJ:List T->Sti
 |[.int .u8 k,.int .u8 y,.int .i64 a,.int .i64 b,.bool f]=>⟨k,y,a,b,f⟩
 |_=>⟨0,0,0,0,false⟩
def qfE:List T->Bool
 |[.int .u8 _,.int .u8 _,.int .i64 _,.int .i64 _,.bool _]=>true
 |_=>false
theorem qhR{l:List T}(h:qfE l=true):l=(jJ l).c:=by
 unfold qfE at h;split at h
 ·rfl
 ·cases h
theorem qgf(g:Nat->List T)(n:Nat)(c:Option Nat)(y:Int)(hn:n<=1000000)(hg:∀j,j<n->qfE (g j)=true):ToldOk P17 G17 149 [.view 5 n g c,YJ y] (.bool (usB (fun j=>jJ (g j)) n y)) :=
 (qgM (fun j=>jJ (g j)) n c y hn).sim (.cons (.view (.inl rfl) fun j hj=>by rw[←qhR (hg j hj)];exact .refl _) (.refl _))
def lu(us:Int->Bool)(k:Nat):List Int:=((List.range k).map fun (i:Nat)=>(i:Int)+1).filter us
theorem J4(us:Int->Bool)(k:Nat):lu us (k+1)=if us ((k:Int)+1)=true then lu us k++[(k:Int)+1] else lu us k:=by
 unfold lu;rw[List.range_succ,List.map_append,List.filter_append];by_cases h:us ((k:Int)+1)=true
 ·rw[if_pos h];simp[h]
 ·rw[if_neg h];simp[h]
theorem qdQ(us:Int->Bool){k:Nat}(hu:us ((k:Int)+1)=true):∀m,k<m->∃r,lu us m=lu us k++((k:Int)+1)::r
 |0,h=>by omega
 |m+1,h=>by
  rcases Nat.lt_or_ge k m with q|q
  ·obtain⟨r,hr⟩:=qdQ us hu m q;rw[J4];split
   ·exact⟨r++[(m:Int)+1],by rw[hr];simp⟩
   ·exact⟨r,hr⟩
  ·obtain rfl:k=m:=by omega
   rw[J4,if_pos hu];exact⟨[],rfl⟩
def bx:Nat->Nat->List T
 |0,e=>[uI (bif e==0 then 1 else 0)]
 |k+1,e=>[uI (bif e==0 then ofNat (k+2) else bif e==0 then ofNat (k+1) else 0)]
def QV(k:Nat):qa:=(List.range (k+1)).map fun i=>⟨0,1,1,bx i,true,false,none⟩
def ZR(l:Nat)(row:T)(k:Nat):List T:=[.yld l,.vp [row],.ptr k 0 0 0]
noncomputable def qhS(p:List T->T->Prop)(b:Bool):Orc:=qy.add 149 (Qe p fun _=>some (.bool b))
theorem qhT(g:Nat->List T)(n:Nat)(c:Option Nat)(us:Int->Bool)(hus:∀y,ToldOk P17 G17 149 [.view 5 n g c,YJ y] (.bool (us y))):SeqTold P17 G17 147 [.vp [.view 5 n g c]] (lu us 6).length (fun i=>[uI ((lu us 6).getD i 0)]):=by
 obtain⟨p,hp⟩:=qA P17 G17 149;have hK:∀b,OrcOk P17 G17 (qhS p b):=fun b=>qj qh (qg hp);refine qf6 (prom:=[]) Tryz.func147 rfl (by kernel_rfl) (by kernel_rfl) (by decide +kernel) (Nat.le_of_ble_eq_true (by kernel_rfl)) fun l R J Jx hJ hJx hy X g0 w W hi=>?_;refine wpIn_seq ?_;refine It.exk (m:=0) (l:=[0,1]) (vs:=[.yld l,.vp [.view 5 n g c]]) (h:=[]) (l':=[0,1,3]) (vs':=ZR l (.view 5 n g c) 0) (h':=QV 0) (e:=.normal) qG qh (by decide +kernel) (by kernel_rfl) (by kernel_rfl) (hJ 0) (hi.only _) fun X1 g1 a1 W1 hi1=>?_;refine wpIn_block ?_;refine zI (fun m a' W=>∃(k:Nat) (X:Nat->Prop) (gg:Gh),k<=6/\m=6-k/\It G17 [] Tryz.f147.ntmps R (J (lu us k).length) X gg (qx [0,1,3] (ZR l (.view 5 n g c) k) (QV k)) a' W) (fun m a' W hI=>?_) 6 a1 W1 ⟨0,X1,g1,by omega,by omega,hi1⟩;obtain⟨k,X5,g5,hkn,rfl,hi5⟩:=hI;refine wpIn_seq ?_;rcases Nat.lt_or_ge k 6 with hk6|hk6
 ·have hkey:=hus ((k:Int)+1);have six:k=0∨k=1∨k=2∨k=3∨k=4∨k=5:=by omega
  refine It.exk (m:=0) (l:=[0,1,3]) (vs:=ZR l (.view 5 n g c) k) (h:=QV k) (l':=[0,1,3]) (vs':=ZR l (.view 5 n g c) k) (h':=QV k) (e:=.normal) qG qh (by decide +kernel) (by rcases six with rfl|rfl|rfl|rfl|rfl|rfl<;>kernel_rfl) (by kernel_rfl) (hJ _) hi5 fun X6 g6 a6 W6 hi6=>?_;refine wpIn_seq ?_;refine wpIn_block ?_;refine wpIn_seq ?_;refine It.exk (m:=0) (l:=[0,1,3]) (vs:=ZR l (.view 5 n g c) k) (h:=QV k) (l':=[0,1,3,4]) (vs':=ZR l (.view 5 n g c) k++[.fn 148 [.ptr k 0 0 0]]) (h':=QV k) (e:=.normal) qG qh (by decide +kernel) (by rcases six with rfl|rfl|rfl|rfl|rfl|rfl<;>kernel_rfl) (by kernel_rfl) (hJ _) hi6 fun X7 g7 a7 W7 hi7=>?_;refine wpIn_seq ?_;cases hu:us ((k:Int)+1) with
  |false =>
   rw[hu] at hkey;have eq:lu us (k+1)=lu us k:=by rw[J4,if_neg (by rw[hu];simp)]
   refine It.exk (m:=0) (K:=qhS p false) (l:=[0,1,3,4]) (vs:=ZR l (.view 5 n g c) k++[.fn 148 [.ptr k 0 0 0]]) (h:=QV k) (l':=[0,1,3,18]) (vs':=ZR l (.view 5 n g c) k++[.bool false]) (h':=QV k) (e:=.normal) qG (hK false) (by decide +kernel) (Eq.trans (b:=bif qF (p [(.view 5 n g c),YJ ((k:Int)+1)] (.bool false)) then some (.normal,ZR l (.view 5 n g c) k++[.bool false],QV k) else none) (by rcases six with rfl|rfl|rfl|rfl|rfl|rfl<;>kernel_rfl) (qt (qo hp hkey) rfl)) (by kernel_rfl) (hJ _) hi7 fun X8 g8 a8 W8 hi8=>?_;refine It.exk (m:=0) (l:=[0,1,3,18]) (vs:=ZR l (.view 5 n g c) k++[.bool false]) (h:=QV k) (l':=[0,1,3]) (vs':=ZR l (.view 5 n g c) k) (h':=QV k) (e:=.normal) qG qh (by decide +kernel) (by rcases six with rfl|rfl|rfl|rfl|rfl|rfl<;>kernel_rfl) (by kernel_rfl) (hJ _) hi8 fun X9 g9 a9 W9 hi9=>?_;refine It.exk (m:=0) (l:=[0,1,3]) (vs:=ZR l (.view 5 n g c) k) (h:=QV k) (l':=[0,1,3]) (vs':=ZR l (.view 5 n g c) (k+1)) (h':=QV (k+1)) (e:=.normal) qG qh (by decide +kernel) (by rcases six with rfl|rfl|rfl|rfl|rfl|rfl<;>kernel_rfl) (by kernel_rfl) (hJ _) hi9 fun X10 g10 a10 W10 hi10=>?_;exact⟨6-(k+1),by omega,k+1,X10,g10,by omega,rfl,by rw[eq];exact hi10⟩
  |true =>
   rw[hu] at hkey;obtain⟨r,hr⟩:=qdQ us hu 6 hk6;have eq:(lu us (k+1)).length=(lu us k).length+1:=by rw[J4,if_pos hu];simp
   have hlen:(lu us k).length<(lu us 6).length:=by rw[hr];simp
   have hget:(lu us 6).getD (lu us k).length 0=(k:Int)+1:=by rw[hr];simp
   refine It.yield (K:=qhS p true) (k:=6) (l:=[0,1,3,4]) (l':=[0,1,3,18]) (vs:=ZR l (.view 5 n g c) k++[.fn 148 [.ptr k 0 0 0]]) (h:=QV k) (hT:=QV k) (hF:=QV k)
    (vsT:=ZR l (.view 5 n g c) k++[.bool false]) (vsF:=ZR l (.view 5 n g c) k++[.bool true]) (hK true) (l0:=l) (xs:=[uI ((k:Int)+1)]) (Eq.trans (b:=bif qF (p [(.view 5 n g c),YJ ((k:Int)+1)] (.bool true)) then some (l,[uI ((k:Int)+1)],(ZR l (.view 5 n g c) k++[.bool false],QV k),(ZR l (.view 5 n g c) k++[.bool true],QV k)) else none) (by rcases six with rfl|rfl|rfl|rfl|rfl|rfl<;>kernel_rfl) (qt (qo hp hkey) rfl)) rfl (hJ _) (hJ ((lu us k).length+1)) (hJx (lu us k).length) hi7 (fun X W args hj hpp=>hy (lu us k).length X W args hlen hj (by rw[hget];exact hpp)) (fun X8 g8 a8 W8 hi8=>?_) (fun X8 g8 a8 W8 hi8=>?_)
   ·refine It.exk (m:=0) (l:=[0,1,3,18]) (vs:=ZR l (.view 5 n g c) k++[.bool false]) (h:=QV k) (l':=[0,1,3]) (vs':=ZR l (.view 5 n g c) k) (h':=QV k) (e:=.normal) qG qh (by decide +kernel) (by rcases six with rfl|rfl|rfl|rfl|rfl|rfl<;>kernel_rfl) (by kernel_rfl) (hJ _) hi8 fun X9 g9 a9 W9 hi9=>?_;refine It.exk (m:=0) (l:=[0,1,3]) (vs:=ZR l (.view 5 n g c) k) (h:=QV k) (l':=[0,1,3]) (vs':=ZR l (.view 5 n g c) (k+1)) (h':=QV (k+1)) (e:=.normal) qG qh (by decide +kernel) (by rcases six with rfl|rfl|rfl|rfl|rfl|rfl<;>kernel_rfl) (by kernel_rfl) (hJ _) hi9 fun X10 g10 a10 W10 hi10=>?_;exact⟨6-(k+1),by omega,k+1,X10,g10,by omega,rfl,by rw[eq];exact hi10⟩
   ·refine It.exk (m:=0) (l:=[0,1,3,18]) (vs:=ZR l (.view 5 n g c) k++[.bool true]) (h:=QV k) (l':=[]) (vs':=[]) (h':=QV k) (e:=.ret) qG qh (by decide +kernel) (by rcases six with rfl|rfl|rfl|rfl|rfl|rfl<;>kernel_rfl) (by kernel_rfl) (hJx _) hi8 fun X10 g10 a10 W10 hi10=>?_;exact⟨.inr rfl,X10,g10,_,.inr ⟨_,hlen,hi10⟩⟩
 ·obtain rfl:k=6:=by omega
  refine It.exk (m:=0) (l:=[0,1,3]) (vs:=ZR l (.view 5 n g c) 6) (h:=QV 6) (l':=[]) (vs':=[]) (h':=QV 6) (e:=.exit 0) qG qh (by decide +kernel) (by kernel_rfl) (by kernel_rfl) (hJ _) hi5 fun X6 g6 a6 W6 hi6=>?_;exact⟨.inl rfl,X6,g6,_,.inl hi6⟩
def jK:FuncId->List T->Option (List (List T)):=fun f caps=>bif f==147 then match caps with
 |[.vp [.view 5 n g _]]=>bif Nat.ble n 1000&&(List.range n).all (fun j=>qfE (g j)) then some ((lu (usB (fun j=>jJ (g j)) n) 6).map fun y=>[uI y]) else none
 |_=>none else none
theorem zg:KJ P17 G17 jK:=fun gf caps l h=>by
 unfold jK at h;obtain⟨hf,h3⟩:=qc h;obtain rfl:gf=147:=by simpa using hf
 split at h3
 ·rename_i n g c;obtain⟨hc,h4⟩:=qc h3;have hc2:Nat.ble n 1000=true/\(List.range n).all (fun j=>qfE (g j))=true:=by simpa only[Bool.and_eq_true] using hc
  have h1:=hc2.1;have h2:∀j,j<n->qfE (g j)=true:=fun j hj=>List.all_eq_true.1 hc2.2 j (List.mem_range.2 hj);obtain rfl:=Option.some.inj h4;have key:=qhT g n c (usB (fun j=>jJ (g j)) n) fun y=>qgf g n c y (by have:=qT h1;omega) h2;rw[List.length_map];have e:(fun i=>(List.map (fun y=>[uI y]) (lu (usB (fun j=>jJ (g j)) n) 6)).getD i [])=fun i=>(if i<(lu (usB (fun j=>jJ (g j)) n) 6).length then [uI ((lu (usB (fun j=>jJ (g j)) n) 6).getD i 0)] else []):=by
   funext i;rw[List.getD_eq_getElem?_getD,List.getElem?_map,List.getD_eq_getElem?_getD];by_cases q:i<(lu (usB (fun j=>jJ (g j)) n) 6).length
   ·rw[if_pos q,List.getElem?_eq_getElem q];rfl
   ·rw[if_neg q,List.getElem?_eq_none (by omega)];rfl
  rw[e];refine⟨key.enters,fun w U lb hU hgl ha=>?_⟩;have hit:=key.it w U lb hU hgl ha;exact fun l J Jx hJ hJx hy W a b c=>hit l J Jx hJ hJx (fun i X W args hi hj hp=>hy i X W args hi hj (by dsimp only;rw[if_pos hi];exact hp)) W a b c
 ·cases h3
end Go.Ab

