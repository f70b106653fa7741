/- A part of the proof: nothing is assumed. -/
import Derived.Test.YtifccdcnhibceaaGreatDoorP5
import Derived.Test.YtifccdcnhibceaaGreatDoorP6
import Derived.Test.YtifccdcnhibceaaGreatDoorP4
set_option linter.all false
namespace Go.Ab
open IntKind(i64 u8)
open Int(ofNat)
open Go.Proofs
structure Crs where
 (ay an cy cn n:Int)
def Crs.c(x:Crs):List T:=[uI x.ay,iI x.an,uI x.cy,iI x.cn,iI x.n]
theorem qhI{a b:Nat}(h:a+b<=4000000):i64.wrap (ofNat a+ofNat b)=ofNat (a+b):=by
 rw[Y8 (by simp only[Int.ofNat_eq_natCast];omega) (by simp only[Int.ofNat_eq_natCast];omega)];rfl
noncomputable def KC(p q r:List T->T->Prop)(a b c:Int):Orc:=((qp.add 128 (qI p fun _=>some (iI a))).add 129 (qI q fun _=>some (iI b))).add 96 (qI r fun _=>some (iI c))
noncomputable def KN:Orc:=(qp.inl P16 G16 A16 qp 0 145).inl P16 G16 A16 qp 0 146
theorem qjv:OrcOk P16 G16 KN:=qbb qu qX (qbb qu qX qa qa) qa
def orF(x y:Int):Int:=if x=0 then y else x
def qai(x y:Int):Int:=if x<y then -1 else if y<x then 1 else 0
def qfh(a b:Idd):Int:=orF (qai a.y b.y) (qai a.n b.n)
def zw(a b c d:Int):Int:=qfh ⟨a,b⟩ ⟨c,d⟩
def qfi:List T->Option T
 |[.agg [.int _ a,.int _ b],.agg [.int _ c,.int _ d]]=>some (iI (zw a b c d))
 |_=>none
theorem qk2(x y:Int):ToldOk P16 G16 128 [uI x,uI y] (iI (qai x y)):=by
 refine qD qu qX qjv (K:=KN) (A:=A16) (m:=0) ?_;rw[(show Qz P16 G16 A16 KN 0 128 [uI x,uI y] =
(
 bif !decide (x=x) then
 bif !decide (y=y) then
 some (iI 0)
 else
 some (iI (-1:Int))
 else
 bif !decide (y=y) then
 some (iI 1)
 else
 bif decide (x<y) then
 some (iI (-1:Int))
 else
 bif decide (y<x) then
 some (iI 1)
 else
 some (iI 0)) from by kernel_rfl)]
 refine qK (by simp) (qK (by simp) ?_);unfold qai;by_cases h:x<y
 ·rw[dT h,if_pos h];rfl
 ·rw[dF h,if_neg h];by_cases h2:y<x
  ·rw[dT h2,if_pos h2];rfl
  ·rw[dF h2,if_neg h2];rfl
theorem qk3(x y:Int):ToldOk P16 G16 129 [iI x,iI y] (iI (qai x y)):=by
 refine qD qu qX qjv (K:=KN) (A:=A16) (m:=0) ?_;rw[(show Qz P16 G16 A16 KN 0 129 [iI x,iI y] =
(
 bif !decide (x=x) then
 bif !decide (y=y) then
 some (iI 0)
 else
 some (iI (-1:Int))
 else
 bif !decide (y=y) then
 some (iI 1)
 else
 bif decide (x<y) then
 some (iI (-1:Int))
 else
 bif decide (y<x) then
 some (iI 1)
 else
 some (iI 0)) from by kernel_rfl)]
 refine qK (by simp) (qK (by simp) ?_);unfold qai;by_cases h:x<y
 ·rw[dT h,if_pos h];rfl
 ·rw[dF h,if_neg h];by_cases h2:y<x
  ·rw[dT h2,if_pos h2];rfl
  ·rw[dF h2,if_neg h2];rfl
theorem qjw(x y:Int):ToldOk P16 G16 96 [.view 1 2 (fun j=>[[iI x],[iI y]].getD j []) (some 2)] (iI (orF x y)):=by
 refine qD qu qX qa (K:=qp) (A:=A16) (m:=3) ?_;rw[(show Qz P16 G16 A16 qp 3 96 [.view 1 2 (fun j=>[[iI x],[iI y]].getD j []) (some 2)] =
(
 bif !decide (x=0) then
 some (iI x)
 else
 bif !decide (y=0) then
 some (iI y)
 else
 some (iI 0)) from by kernel_rfl)]
 unfold orF;by_cases h:x=0
 ·rw[dT h,if_pos h];by_cases h2:y=0
  ·rw[dT h2,h2];rfl
  ·rw[dF h2];rfl
 ·rw[dF h,if_neg h];rfl
theorem k28(x y:Idd)(p q r:List T->T->Prop)(a b c:Int):Qz P16 G16 A16 (KC p q r a b c) 0 95 [.agg x.c,.agg y.c] =
(
 bif qC (p [uI x.y,uI y.y] (iI a)) then
 bif qC (q [iI x.n,iI y.n] (iI b)) then
 bif qC (r [.view 1 2 (fun j=>[[iI a],[iI b]].getD j []) (some 2)] (iI c)) then
 some (iI c)
 else none else none else
 none):=by kernel_rfl
theorem qfU(x y:Idd):ToldOk P16 G16 95 [.agg x.c,.agg y.c] (iI (qfh x y)):=by
 obtain⟨p,hp⟩:=qE P16 G16 128;obtain⟨q,hq⟩:=qE P16 G16 129;obtain⟨r,hr⟩:=qE P16 G16 96;have t1:=qk2 x.y y.y;have t2:=qk3 x.n y.n;have t3:=qjw (qai x.y y.y) (qai x.n y.n);unfold qfh;generalize orF (qai x.y y.y) (qai x.n y.n)=c at *
 generalize qai x.y y.y=a at *
 generalize qai x.n y.n=b at *
 refine qD qu qX (K:=KC p q r a b c) (qv (qv (qv qa (qr hp)) (qr hq)) (qr hr)) (A:=A16) (m:=0) ?_;rw[k28];exact BS (BS (BS rfl))
structure Fab where
 (t:Tbl) (cr:Nat->Crs) (nc:Nat) (he:Nat->Idd) (nh:Nat) (fa:Nat->Idd) (nf:Nat)
def crV(g:Nat->Crs)(n:Nat)(c:Option Nat):T:=.view 5 n (fun j=>(g j).c) c
def Fab.c(F:Fab):List T:=[F.t.v,crV F.cr F.nc none,idV F.he F.nh none,idV F.fa F.nf none]
structure Crs.Ok(x:Crs):Prop where
 a:(Idd.mk x.ay x.an).Ok
 b:(Idd.mk x.cy x.cn).Ok
def thF(t:Tbl)(y n:Int):Bool:=t.has ⟨y,n⟩
def qgM(t:Tbl):List T->Option T
 |[_,.agg [.int _ a,.int _ b]]=>some (.bool (thF t a b))
 |_=>none
def KL(a b c d e f g h:Int):Int:=orF (zw a b e f) (zw c d g h)
def qhJ:List T->Option T
 |[.agg [.int _ a,.int _ b,.int _ c,.int _ d,_],.agg [.int _ e,.int _ f,.int _ g,.int _ h,_]]=>some (iI (KL a b c d e f g h))
 |_=>none
def kOr(a:Int)(_:List T):Option T:=some (iI a)
def c78(F:Fab)(i:Nat):List T:=[.reg F.c,crV F.cr F.nc none,iI (ofNat F.nc),iI (ofNat i)]
theorem qmH(F:Fab):qw P16 G16 A16 qp 0 78 [] (nav [1]) [0] [.agg F.c] [] [1] =
(
 some ((.normal,[.reg F.c],[]))):=by kernel_rfl
theorem qmI(F:Fab):qw P16 G16 A16 qp 0 78 [] (nav [1,1,2]) [1] [.reg F.c] [] [1,6,7,8] =
(
 some ((.normal,c78 F (nat_lit 0),[]))):=by kernel_rfl
theorem qk4(p q r:List T->T->Prop)(F:Fab)(i:Nat):qw P16 G16 A16 (((qp.add 108 (qI p (qgM F.t))).add 95 (qI q qfi)).add 60 (qI r qhJ)) 0 78 [] (nav [0,0,2,1,2]) [1,6,7,8] (c78 F i) [] [1,6,7,8] =
(
 bif decide (ofNat i<ofNat F.nc) then
 bif decide (0<=ofNat i)&&decide (ofNat i<ofNat F.nc) then
 bif qC (p [F.t.v,.agg [uI (F.cr i).ay,iI (F.cr i).an]] (.bool (thF F.t (F.cr i).ay (F.cr i).an))) then
 bif thF F.t (F.cr i).ay (F.cr i).an then
 bif qC (p [F.t.v,.agg [uI (F.cr i).cy,iI (F.cr i).cn]] (.bool (thF F.t (F.cr i).cy (F.cr i).cn))) then
 bif thF F.t (F.cr i).cy (F.cr i).cn then
 bif qC (q [.agg [uI (F.cr i).ay,iI (F.cr i).an],.agg [uI (F.cr i).cy,iI (F.cr i).cn]] (iI (zw (F.cr i).ay (F.cr i).an (F.cr i).cy (F.cr i).cn))) then
 bif decide (0<=zw (F.cr i).ay (F.cr i).an (F.cr i).cy (F.cr i).cn) then
 some ((.ret,c78 F i,[]))
 else
 bif decide ((F.cr i).n<(-1048576:Int)) then
 some ((.ret,c78 F i,[]))
 else
 bif decide ((1048576:Int)<(F.cr i).n) then
 some ((.ret,c78 F i,[]))
 else
 bif decide ((F.cr i).n=0) then
 some ((.ret,c78 F i,[]))
 else
 bif decide (0<ofNat i) then
 bif decide (0<=i64.wrap (ofNat i-1))&&decide (i64.wrap (ofNat i-1)<ofNat F.nc) then
 bif qC (r [.agg (F.cr (i64.wrap (ofNat i-(1:Int))).toNat).c,.agg (F.cr i).c] (iI (KL (F.cr (i64.wrap (ofNat i-(1:Int))).toNat).ay (F.cr (i64.wrap (ofNat i-(1:Int))).toNat).an (F.cr (i64.wrap (ofNat i-(1:Int))).toNat).cy (F.cr (i64.wrap (ofNat i-(1:Int))).toNat).cn (F.cr i).ay (F.cr i).an (F.cr i).cy (F.cr i).cn))) then
 bif decide (0<=KL (F.cr (i64.wrap (ofNat i-(1:Int))).toNat).ay (F.cr (i64.wrap (ofNat i-(1:Int))).toNat).an (F.cr (i64.wrap (ofNat i-(1:Int))).toNat).cy (F.cr (i64.wrap (ofNat i-(1:Int))).toNat).cn (F.cr i).ay (F.cr i).an (F.cr i).cy (F.cr i).cn) then
 some ((.ret,c78 F i,[]))
 else
 some ((.normal,[.reg F.c,crV F.cr F.nc
 none,iI (.ofNat F.nc),iI (i64.wrap (ofNat i+1))],[]))
 else none else none else
 some ((.normal,[.reg F.c,crV F.cr F.nc
 none,iI (.ofNat F.nc),iI (i64.wrap (ofNat i+1))],[]))
 else none else
 some ((.ret,c78 F i,[]))
 else none else
 some ((.ret,c78 F i,[]))
 else none else none else
 some ((.exit 0,c78 F i,[]))):=by kernel_rfl
theorem qmJ(p q r:List T->T->Prop)(F:Fab)(i:Nat):qw P16 G16 A16 (((qp.add 108 (qI p (qgM F.t))).add 95 (qI q qfi)).add 60 (qI r qhJ)) 0 78 [] (nav [0,0,2,1,2]) [1,6,7,8] (c78 F i) [] [2] =
(
 bif decide (ofNat i<ofNat F.nc) then
 bif decide (0<=ofNat i)&&decide (ofNat i<ofNat F.nc) then
 bif qC (p [F.t.v,.agg [uI (F.cr i).ay,iI (F.cr i).an]] (.bool (thF F.t (F.cr i).ay (F.cr i).an))) then
 bif thF F.t (F.cr i).ay (F.cr i).an then
 bif qC (p [F.t.v,.agg [uI (F.cr i).cy,iI (F.cr i).cn]] (.bool (thF F.t (F.cr i).cy (F.cr i).cn))) then
 bif thF F.t (F.cr i).cy (F.cr i).cn then
 bif qC (q [.agg [uI (F.cr i).ay,iI (F.cr i).an],.agg [uI (F.cr i).cy,iI (F.cr i).cn]] (iI (zw (F.cr i).ay (F.cr i).an (F.cr i).cy (F.cr i).cn))) then
 bif decide (0<=zw (F.cr i).ay (F.cr i).an (F.cr i).cy (F.cr i).cn) then
 some ((.ret,[iI 1],[]))
 else
 bif decide ((F.cr i).n<(-1048576:Int)) then
 some ((.ret,[iI 1],[]))
 else
 bif decide ((1048576:Int)<(F.cr i).n) then
 some ((.ret,[iI 1],[]))
 else
 bif decide ((F.cr i).n=0) then
 some ((.ret,[iI 1],[]))
 else
 bif decide (0<ofNat i) then
 bif decide (0<=i64.wrap (ofNat i-1))&&decide (i64.wrap (ofNat i-1)<ofNat F.nc) then
 bif qC (r [.agg (F.cr (i64.wrap (ofNat i-(1:Int))).toNat).c,.agg (F.cr i).c] (iI (KL (F.cr (i64.wrap (ofNat i-(1:Int))).toNat).ay (F.cr (i64.wrap (ofNat i-(1:Int))).toNat).an (F.cr (i64.wrap (ofNat i-(1:Int))).toNat).cy (F.cr (i64.wrap (ofNat i-(1:Int))).toNat).cn (F.cr i).ay (F.cr i).an (F.cr i).cy (F.cr i).cn))) then
 bif decide (0<=KL (F.cr (i64.wrap (ofNat i-(1:Int))).toNat).ay (F.cr (i64.wrap (ofNat i-(1:Int))).toNat).an (F.cr (i64.wrap (ofNat i-(1:Int))).toNat).cy (F.cr (i64.wrap (ofNat i-(1:Int))).toNat).cn (F.cr i).ay (F.cr i).an (F.cr i).cy (F.cr i).cn) then
 some ((.ret,[iI 1],[]))
 else
 some ((.normal,[.undef],[]))
 else none else none else
 some ((.normal,[.undef],[]))
 else none else
 some ((.ret,[iI 1],[]))
 else none else
 some ((.ret,[iI 1],[]))
 else none else none else
 some ((.exit 0,[.undef],[]))):=by kernel_rfl
theorem qmK :qw P16 G16 A16 qp 0 78 [] (nav [2,2]) [] [] [] [2] =
(
 some ((.ret,[iI 0],[]))):=by kernel_rfl
theorem k60(p q:List T->T->Prop)(a b:Int)(x y:Crs):Qz P16 G16 A16 ((qp.add 95 (qI p qfi)).add 96 (qI q (kOr a))) 0 60 [.agg x.c,.agg y.c] =
(
 bif qC (p [.agg [uI x.ay,iI x.an],.agg [uI y.ay,iI y.an]] (iI (zw x.ay x.an y.ay y.an))) then
 bif qC (p [.agg [uI x.cy,iI x.cn],.agg [uI y.cy,iI y.cn]] (iI (zw x.cy x.cn y.cy y.cn))) then
 bif qC (q [.view 1 2 (fun j=>[[iI (zw x.ay x.an y.ay y.an)],[iI (zw x.cy x.cn y.cy y.cn)]].getD j []) (some 2)] (iI a)) then
 some (iI a)
 else none else none else
 none):=by kernel_rfl
theorem qhK(t:Tbl)(ht:t.Ok)(a:Idd)(ha:a.Ok):ToldOk P16 G16 108 [t.v,.agg a.c] (.bool (t.has a)):=by
 refine qD qu qX qa (K:=qp) (A:=A16) (m:=0) ?_;rw[(show Qz P16 G16 A16 qp 0 108 [t.v,.agg a.c] =
(
 bif decide (1<=a.y) then
 bif decide (i64.wrap a.y<=ofNat t.h) then
 bif decide (0<=a.n) then
 bif decide (0<=u8.wrap (a.y-1))&&decide (u8.wrap (a.y-1)<ofNat t.h) then
 bif decide (a.n<ofNat (t.ln (u8.wrap (a.y-(1:Int))).toNat)) then
 some (.bool true)
 else
 some (.bool false)
 else none else
 some (.bool false)
 else
 some (.bool false)
 else
 some (.bool false)) from by kernel_rfl)]
 unfold Tbl.has;have:=ha.y;have:=ht.h;clear ht ha;by_cases h1:1<=a.y
 ·have e1:i64.wrap a.y=a.y:=Y8 (by omega) (by omega);have e2:u8.wrap (a.y-1)=a.y-1:=wr8 (by omega) (by omega);rw[e1,e2,dT h1];by_cases h2:a.y<=t.h
  ·rw[dT h2];by_cases h3:0<=a.n
   ·rw[dT h3];generalize t.ln (a.y-1).toNat=k;by_cases h4:a.n<(k:Int)
    ·rw[dT h4]
     (repeat (first|refine BS ?_|refine BF ?_))
     rfl
    ·rw[dF h4]
     (repeat (first|refine BS ?_|refine BF ?_))
     rfl
   ·rw[dF h3]
    (repeat (first|refine BS ?_|refine BF ?_))
    rfl
  ·rw[dF h2]
   (repeat (first|refine BS ?_|refine BF ?_))
   rfl
 ·rw[dF h1]
  (repeat (first|refine BS ?_|refine BF ?_))
  rfl
theorem qgN{j:Nat}(h:1<=j)(h2:j<=4000000):i64.wrap (ofNat j-1)=ofNat (j-1):=by
 rw[Y8 (by simp only[Int.ofNat_eq_natCast];omega) (by simp only[Int.ofNat_eq_natCast];omega)];simp only[Int.ofNat_eq_natCast];omega
theorem inR{j n:Nat}(h:j<n):(decide ((0:Int)<=ofNat j)&&decide (ofNat j<ofNat n))=true:=by simp;omega
theorem vv(v:Nat):(v==v&&true)=true:=by simp
theorem qka(x y:Crs):ToldOk P16 G16 60 [.agg x.c,.agg y.c] (iI (KL x.ay x.an x.cy x.cn y.ay y.an y.cy y.cn)):=by
 obtain⟨p,hp⟩:=qE P16 G16 95;obtain⟨q,hq⟩:=qE P16 G16 96;have t1:=qfU ⟨x.ay,x.an⟩ ⟨y.ay,y.an⟩;have t2:=qfU ⟨x.cy,x.cn⟩ ⟨y.cy,y.cn⟩;have t3:=qjw (zw x.ay x.an y.ay y.an) (zw x.cy x.cn y.cy y.cn);exact qD qu qX (qv (qv qa (qr hp)) (qr hq)) (A:=A16) (m:=0) ((k60 p q (orF (zw x.ay x.an y.ay y.an) (zw x.cy x.cn y.cy y.cn)) 0 x y).trans (qt (Qy hp t1) (qt (Qy hp t2) (qt (Qy hq t3) rfl))))
theorem yO{g:Nat->Bool}:∀{n:Nat},qY g n=false->∃i,i<n/\g i=false/\∀j,j<i->g j=true
 |0,h=>by cases h
 |n+1,h=>by
  cases e:qY g n with
  |false =>
   obtain⟨i,h1,h2,h3⟩:=yO e;exact⟨i,by omega,h2,h3⟩
  |true =>
   refine⟨n,by omega,?_,(qP _ _).1 e⟩;have h:(qY g n&&g n)=false:=h;rw[e,Bool.true_and] at h;exact h
structure Fab.Ok(F:Fab):Prop where
 t:F.t.Ok
 cr:∀i,(F.cr i).Ok
 nc:F.nc<=1000000
 he:∀i,(F.he i).Ok
 nh:F.nh<=1000000
 fa:∀i,(F.fa i).Ok
 nf:F.nf<=1000000
def crK(F:Fab)(i:Nat):Bool:=thF F.t (F.cr i).ay (F.cr i).an&&(thF F.t (F.cr i).cy (F.cr i).cn&&(!decide (0<=zw (F.cr i).ay (F.cr i).an (F.cr i).cy (F.cr i).cn)&&(!decide ((F.cr i).n < -1048576)&&(!decide (1048576<(F.cr i).n)&&(!decide ((F.cr i).n=0)&&!(decide (0<i)&&decide (0<=KL (F.cr (i-1)).ay (F.cr (i-1)).an (F.cr (i-1)).cy (F.cr (i-1)).cn (F.cr i).ay (F.cr i).an (F.cr i).cy (F.cr i).cn)))))))
theorem qkb(F:Fab)(hF:F.Ok):ToldOk P16 G16 78 [.agg F.c] (iI (bif qY (crK F) F.nc then 0 else 1)):=by
 obtain⟨p,hp⟩:=qE P16 G16 108;obtain⟨q,hq⟩:=qE P16 G16 95;obtain⟨r,hr⟩:=qE P16 G16 60;have hK:=qv (qv (qv (P:=P16) (Gl:=G16) qa (qr hp (F:=qgM F.t))) (qr hq (F:=qfi))) (qr hr (F:=qhJ));have hnc:=hF.nc;have ta:∀i,p [F.t.v,.agg [uI (F.cr i).ay,iI (F.cr i).an]] (.bool (thF F.t (F.cr i).ay (F.cr i).an)):=fun i=>qH hp (qhK F.t hF.t ⟨_,_⟩ (hF.cr i).a);have tb:∀i,p [F.t.v,.agg [uI (F.cr i).cy,iI (F.cr i).cn]] (.bool (thF F.t (F.cr i).cy (F.cr i).cn)):=fun i=>qH hp (qhK F.t hF.t ⟨_,_⟩ (hF.cr i).b);have tq:∀i,q [.agg [uI (F.cr i).ay,iI (F.cr i).an],.agg [uI (F.cr i).cy,iI (F.cr i).cn]] (iI (zw (F.cr i).ay (F.cr i).an (F.cr i).cy (F.cr i).cn)):=fun i=>qH hq (qfU ⟨_,_⟩ ⟨_,_⟩);have tr:∀i j,r [.agg (F.cr i).c,.agg (F.cr j).c] (iI (KL (F.cr i).ay (F.cr i).an (F.cr i).cy (F.cr i).cn (F.cr j).ay (F.cr j).an (F.cr j).cy (F.cr j).cn)):=fun i j=>qH hr (qka _ _);have good:∀i,i<F.nc->crK F i=true->Pz P16 G16 A16 78 [] [0,0,2,1,2] [1,6,7,8] (c78 F i) [] .normal [1,6,7,8] (c78 F (i+1)) []:=by
  intro i hi hk;refine Pz.run qu hK (m:=0) (by kernel_rfl) ql ((qk4 p q r F i).trans ?_);rw[up1 (by omega)];simp only[crK,Bool.and_eq_true,Bool.not_eq_true',decide_eq_false_iff_not] at hk;obtain⟨k1,k2,k3,k4,k5,k6,k7⟩:=hk;refine qt (by simpa using hi) (qt (inR hi) (qt (qz.2 (ta i)) (qt k1 (qt (qz.2 (tb i)) (qt k2 (qt (qz.2 (tq i)) (qK (by simpa using k3) (qK (by simpa using k4) (qK (by simpa using k5) (qK (by simpa using k6) ?_))))))))));by_cases c:0<i
  ·rw[qgN (j:=i) (by omega) (by omega),show(ofNat (i-1)).toNat=i-1 from rfl];rw[decide_eq_true c,Bool.true_and,decide_eq_false_iff_not] at k7;exact qt (by simpa using c) (qt (inR (by omega)) (qt (qz.2 (tr (i-1) i)) (qK (by simpa using k7) rfl)))
  ·exact qK (by simpa using c) rfl
 have bad:∀i,i<F.nc->crK F i=false->Pz P16 G16 A16 78 [] [0,0,2,1,2] [1,6,7,8] (c78 F i) [] .ret [2] [iI 1] []:=by
  intro i hi hk;refine Pz.run qu hK (m:=0) (by kernel_rfl) ql ((qmJ p q r F i).trans ?_);refine qt (by simpa using hi) (qt (inR hi) (qt (qz.2 (ta i)) ?_));unfold crK at hk;cases k1:thF F.t (F.cr i).ay (F.cr i).an with
  |false=>rfl
  |true =>
   rw[k1,Bool.true_and] at hk;rw[cond_true];refine qt (qz.2 (tb i)) ?_;cases k2:thF F.t (F.cr i).cy (F.cr i).cn with
   |false=>rfl
   |true =>
    rw[k2,Bool.true_and] at hk;rw[cond_true];refine qt (qz.2 (tq i)) ?_;cases k3:decide (0<=zw (F.cr i).ay (F.cr i).an (F.cr i).cy (F.cr i).cn) with
    |true=>rfl
    |false =>
     rw[k3,Bool.not_false,Bool.true_and] at hk;rw[cond_false];cases k4:decide ((F.cr i).n < -1048576) with
     |true=>rfl
     |false =>
      rw[k4,Bool.not_false,Bool.true_and] at hk;rw[cond_false];cases k5:decide (1048576<(F.cr i).n) with
      |true=>rfl
      |false =>
       rw[k5,Bool.not_false,Bool.true_and] at hk;rw[cond_false];cases k6:decide ((F.cr i).n=0) with
       |true=>rfl
       |false =>
        rw[k6,Bool.not_false,Bool.true_and,Bool.not_eq_false',Bool.and_eq_true,decide_eq_true_eq] at hk;rw[cond_false,qgN (j:=i) (by omega) (by omega),show(ofNat (i-1)).toNat=i-1 from rfl];exact qt (by simpa using hk.1) (qt (inR (by omega)) (qt (qz.2 (tr (i-1) i)) (qt hk.2 rfl)))
 have ext:Pz P16 G16 A16 78 [] [0,0,2,1,2] [1,6,7,8] (c78 F F.nc) [] (.exit 0) [1,6,7,8] (c78 F F.nc) []:=Pz.run qu hK (m:=0) (by kernel_rfl) ql ((qk4 p q r F F.nc).trans (qK (by simp) rfl));have pa:=Pz.run qu qa (m:=0) (p:=[1]) (A:=A16) (f:=78) (h0:=[]) (by kernel_rfl) ql (qmH F);have pb:=Pz.run qu qa (m:=0) (p:=[1,1,2]) (A:=A16) (f:=78) (h0:=[]) (by kernel_rfl) ql (qmI F);cases hall:qY (crK F) F.nc with
 |true =>
  have hall:=(qP _ _).1 hall;have pl:=Pz.count (P:=P16) (G:=G16) (A:=A16) (f:=78) (h0:=[]) (p:=[0,2,1,2]) (e:=.exit 0) (by kernel_rfl) (fun i=>c78 F i) (fun _=>[]) (n:=F.nc) (by simp) (fun i hi=>good i hi (hall i hi)) ext;exact Pz.told (A:=A16) qX Tryz.func78 (by kernel_rfl) (by kernel_rfl) (l:=[0]) rfl (Pz.seq (by kernel_rfl) pa (Pz.seq (by kernel_rfl) (Pz.seq (by kernel_rfl) pb (Pz.blk (id:=0) (e:=.exit 0) (by kernel_rfl) rfl (Pz.only pl (l2:=[]) rfl))) (Pz.run qu qa (m:=0) (by kernel_rfl) ql qmK))) rfl
 |false =>
  obtain⟨i,hi,hk,hlt⟩:∃i,i<F.nc/\crK F i=false/\∀j,j<i->crK F j=true:=yO hall;have pl:=Pz.count (P:=P16) (G:=G16) (A:=A16) (f:=78) (h0:=[]) (p:=[0,2,1,2]) (e:=.ret) (by kernel_rfl) (fun i=>c78 F i) (fun _=>[]) (n:=i) (by simp) (fun j hj=>good j (by have hj:j<i:=hj;omega) (hlt j hj)) (bad i hi hk);exact Pz.told (A:=A16) qX Tryz.func78 (by kernel_rfl) (by kernel_rfl) (l:=[0]) rfl (Pz.seq (by kernel_rfl) pa (Pz.seqX (by kernel_rfl) (by simp) (Pz.seq (by kernel_rfl) pb (Pz.blk (id:=0) (e:=.ret) (by kernel_rfl) rfl pl)))) rfl
structure Yrn where
 (i:Bool) (pl ct:Int) (w:Bool) (pe:Nat->Pss) (np:Nat)
def Yrn.c(y:Yrn):List T:=[.bool y.i,iI y.pl,iI y.ct,.bool y.w,psV y.pe y.np none]
def kBo(b:Bool)(_:List T):Option T:=some (.bool b)
def Y9(y n d:Int):Bool:=decide (1<=y)&&(decide (y<=6)&&(decide (0<=n)&&(decide (n<2048)&&(decide (d=0) || decide (d=1)))))
def qiP:List T->Option T
 |[.agg [.int _ y,.int _ n,.bool _,.int _ d]]=>some (.bool (Y9 y n d))
 |_=>none
def qfj(y n:Int)(f:Bool)(d y2 n2:Int)(f2:Bool)(d2:Int):Bool:=cnc ⟨y,n,f,d⟩ ⟨y2,n2,f2,d2⟩
def qkc:List T->Option T
 |[.agg [.int _ y,.int _ n,.bool f,.int _ d],.agg [.int _ y2,.int _ n2,.bool f2,.int _ d2]]=>some (.bool (qfj y n f d y2 n2 f2 d2))
 |_=>none
def c75(y:Yrn)(i:Nat):List T:=[.reg y.c,psV y.pe y.np none,iI (ofNat y.np),iI (ofNat i)]
theorem k76(a:Idd):Qz P16 G16 A16 qp 0 76 [.agg a.c] =
(
 bif decide (1<=a.y) then
 bif decide (a.y<=6) then
 bif decide (0<=a.n) then
 bif decide (a.n<2048) then
 some (.bool true)
 else
 some (.bool false)
 else
 some (.bool false)
 else
 some (.bool false)
 else
 some (.bool false)):=by kernel_rfl
theorem qmL(x:Int):Qz P16 G16 A16 qp 0 103 [iI x] =
(
 bif !decide (x.tmod 2=0) then
 bif decide ((-13:Int)<=x) then
 bif decide (x<=179) then
 some (.bool true)
 else
 some (.bool false)
 else
 some (.bool false)
 else
 some (.bool false)):=by kernel_rfl
theorem qmM(p q:List T->T->Prop)(a:Pss)(b c:Bool):Qz P16 G16 A16 ((qp.add 76 (qI p (kBo b))).add 101 (qI q (kBo c))) 0 104 [.agg a.c] =
(
 bif qC (p [.agg [uI a.y,iI a.n]] (.bool b)) then
 bif b then
 bif qC (q [uI a.d] (.bool c)) then
 bif c then
 some (.bool true)
 else
 some (.bool false)
 else none else
 some (.bool false)
 else
 none):=by kernel_rfl
theorem qmN(y:Yrn):qw P16 G16 A16 qp 0 75 [] (nav [1]) [0] [.agg y.c] [] [1] =
(
 some ((.normal,[.reg y.c],[]))):=by kernel_rfl
theorem qmO(y:Yrn):qw P16 G16 A16 qp 0 75 [] (nav [1,2]) [1] [.reg y.c] [] [1] =
(
 bif decide (y.ct<0) then
 some ((.ret,[.reg y.c],[]))
 else
 bif decide (2048<y.ct) then
 some ((.ret,[.reg y.c],[]))
 else
 some ((.normal,[.reg y.c],[]))):=by kernel_rfl
theorem qk5(y:Yrn):qw P16 G16 A16 qp 0 75 [] (nav [1,2]) [1] [.reg y.c] [] [2] =
(
 bif decide (y.ct<0) then
 some ((.ret,[iI 1],[]))
 else
 bif decide (2048<y.ct) then
 some ((.ret,[iI 1],[]))
 else
 some ((.normal,[.undef],[]))):=by kernel_rfl
theorem qmP(y:Yrn):qw P16 G16 A16 qp 0 75 [] (nav [1,2,2]) [1] [.reg y.c] [] [1] =
(
 bif y.i then
 some ((.normal,[.reg y.c],[]))
 else
 bif !decide (y.pl=0) then
 some ((.ret,[.reg y.c],[]))
 else
 bif y.w then
 some ((.ret,[.reg y.c],[]))
 else
 bif decide (0<ofNat y.np) then
 some ((.ret,[.reg y.c],[]))
 else
 some ((.ret,[.reg y.c],[]))):=by kernel_rfl
theorem qk6(y:Yrn):qw P16 G16 A16 qp 0 75 [] (nav [1,2,2]) [1] [.reg y.c] [] [2] =
(
 bif y.i then
 some ((.normal,[.undef],[]))
 else
 bif !decide (y.pl=0) then
 some ((.ret,[iI 1],[]))
 else
 bif y.w then
 some ((.ret,[iI 1],[]))
 else
 bif decide (0<ofNat y.np) then
 some ((.ret,[iI 1],[]))
 else
 some ((.ret,[iI 0],[]))):=by kernel_rfl
theorem qmQ(p:List T->T->Prop)(b:Bool)(y:Yrn):qw P16 G16 A16 (qp.add 103 (qI p (kBo b))) 0 75 [] (nav [1,2,2,2]) [1] [.reg y.c] [] [1] =
(
 bif qC (p [iI y.pl] (.bool b)) then
 bif b then
 bif decide (4096<ofNat y.np) then
 some ((.ret,[.reg y.c],[]))
 else
 some ((.normal,[.reg y.c],[]))
 else
 some ((.ret,[.reg y.c],[]))
 else
 none):=by kernel_rfl
theorem qjx(p:List T->T->Prop)(b:Bool)(y:Yrn):qw P16 G16 A16 (qp.add 103 (qI p (kBo b))) 0 75 [] (nav [1,2,2,2]) [1] [.reg y.c] [] [2] =
(
 bif qC (p [iI y.pl] (.bool b)) then
 bif b then
 bif decide (4096<ofNat y.np) then
 some ((.ret,[iI 1],[]))
 else
 some ((.normal,[.undef],[]))
 else
 some ((.ret,[iI 1],[]))
 else
 none):=by kernel_rfl
theorem qmR(y:Yrn):qw P16 G16 A16 qp 0 75 [] (nav [1,1,2,2,2,2]) [1] [.reg y.c] [] [1,40,41,42] =
(
 some ((.normal,c75 y (nat_lit 0),[]))):=by kernel_rfl
theorem qk7(p q:List T->T->Prop)(y:Yrn)(i:Nat):qw P16 G16 A16 ((qp.add 104 (qI p qiP)).add 106 (qI q qkc)) 0 75 [] (nav [0,0,2,1,2,2,2,2]) [1,40,41,42] (c75 y i) [] [1,40,41,42] =
(
 bif decide (ofNat i<ofNat y.np) then
 bif decide (0<=ofNat i)&&decide (ofNat i<ofNat y.np) then
 bif qC (p [.agg (y.pe i).c] (.bool (Y9 (y.pe i).y (y.pe i).n (y.pe i).d))) then
 bif Y9 (y.pe i).y (y.pe i).n (y.pe i).d then
 bif decide (0<ofNat i) then
 bif decide (0<=i64.wrap (ofNat i-1))&&decide (i64.wrap (ofNat i-1)<ofNat y.np) then
 bif qC (q [.agg (y.pe (i64.wrap (ofNat i-(1:Int))).toNat).c,.agg (y.pe i).c] (.bool (qfj (y.pe (i64.wrap (ofNat i-(1:Int))).toNat).y (y.pe (i64.wrap (ofNat i-(1:Int))).toNat).n (y.pe (i64.wrap (ofNat i-(1:Int))).toNat).f (y.pe (i64.wrap (ofNat i-(1:Int))).toNat).d (y.pe i).y (y.pe i).n (y.pe i).f (y.pe i).d))) then
 bif qfj (y.pe (i64.wrap (ofNat i-(1:Int))).toNat).y (y.pe (i64.wrap (ofNat i-(1:Int))).toNat).n (y.pe (i64.wrap (ofNat i-(1:Int))).toNat).f (y.pe (i64.wrap (ofNat i-(1:Int))).toNat).d (y.pe i).y (y.pe i).n (y.pe i).f (y.pe i).d then
 some ((.ret,c75 y i,[]))
 else
 some ((.normal,[.reg y.c,psV y.pe y.np
 none,iI (.ofNat y.np),iI (i64.wrap (ofNat i+1))],[]))
 else none else none else
 some ((.normal,[.reg y.c,psV y.pe y.np
 none,iI (.ofNat y.np),iI (i64.wrap (ofNat i+1))],[]))
 else
 some ((.ret,c75 y i,[]))
 else none else none else
 some ((.exit 0,c75 y i,[]))):=by kernel_rfl
theorem qk8(p q:List T->T->Prop)(y:Yrn)(i:Nat):qw P16 G16 A16 ((qp.add 104 (qI p qiP)).add 106 (qI q qkc)) 0 75 [] (nav [0,0,2,1,2,2,2,2]) [1,40,41,42] (c75 y i) [] [2] =
(
 bif decide (ofNat i<ofNat y.np) then
 bif decide (0<=ofNat i)&&decide (ofNat i<ofNat y.np) then
 bif qC (p [.agg (y.pe i).c] (.bool (Y9 (y.pe i).y (y.pe i).n (y.pe i).d))) then
 bif Y9 (y.pe i).y (y.pe i).n (y.pe i).d then
 bif decide (0<ofNat i) then
 bif decide (0<=i64.wrap (ofNat i-1))&&decide (i64.wrap (ofNat i-1)<ofNat y.np) then
 bif qC (q [.agg (y.pe (i64.wrap (ofNat i-(1:Int))).toNat).c,.agg (y.pe i).c] (.bool (qfj (y.pe (i64.wrap (ofNat i-(1:Int))).toNat).y (y.pe (i64.wrap (ofNat i-(1:Int))).toNat).n (y.pe (i64.wrap (ofNat i-(1:Int))).toNat).f (y.pe (i64.wrap (ofNat i-(1:Int))).toNat).d (y.pe i).y (y.pe i).n (y.pe i).f (y.pe i).d))) then
 bif qfj (y.pe (i64.wrap (ofNat i-(1:Int))).toNat).y (y.pe (i64.wrap (ofNat i-(1:Int))).toNat).n (y.pe (i64.wrap (ofNat i-(1:Int))).toNat).f (y.pe (i64.wrap (ofNat i-(1:Int))).toNat).d (y.pe i).y (y.pe i).n (y.pe i).f (y.pe i).d then
 some ((.ret,[iI 1],[]))
 else
 some ((.normal,[.undef],[]))
 else none else none else
 some ((.normal,[.undef],[]))
 else
 some ((.ret,[iI 1],[]))
 else none else none else
 some ((.exit 0,[.undef],[]))):=by kernel_rfl
def nmB(a:Idd):Bool:=decide (1<=a.y)&&(decide (a.y<=6)&&(decide (0<=a.n)&&decide (a.n<2048)))
theorem qhL(a:Idd):ToldOk P16 G16 76 [.agg a.c] (.bool (nmB a)):=by
 refine qD qu qX qa (A:=A16) (m:=0) ((k76 a).trans ?_);unfold nmB;cases decide (1<=a.y) with
 |false=>rfl
 |true =>
  cases decide (a.y<=6) with
  |false=>rfl
  |true =>
   cases decide (0<=a.n) with
   |false=>rfl
   |true=>cases decide (a.n<2048)<;>rfl
def qdi(x:Int):Bool:=!decide (x.tmod 2=0)&&(decide (-13<=x)&&decide (x<=179))
theorem qed(x:Int):ToldOk P16 G16 103 [iI x] (.bool (qdi x)):=by
 refine qD qu qX qa (A:=A16) (m:=0) ((qmL x).trans ?_);unfold qdi;cases (!decide (x.tmod 2=0)) with
 |false=>rfl
 |true =>
  cases decide (-13<=x) with
  |false=>rfl
  |true=>cases decide (x<=179)<;>rfl
theorem qhM(a:Pss):ToldOk P16 G16 104 [.agg a.c] (.bool (Y9 a.y a.n a.d)):=by
 obtain⟨p,hp⟩:=qE P16 G16 76;obtain⟨q,hq⟩:=qE P16 G16 101;have t1:=qhL ⟨a.y,a.n⟩;have t2:=qfb a.d;refine qD qu qX (qv (qv qa (qr hp)) (qr hq)) (A:=A16) (m:=0) ((qmM p q a (nmB ⟨a.y,a.n⟩) (decide (a.d=0) || decide (a.d=1))).trans (qt (Qy hp t1) ?_));have e:Y9 a.y a.n a.d=(nmB ⟨a.y,a.n⟩&&(decide (a.d=0) || decide (a.d=1))):=by
  unfold Y9 nmB;simp only[Bool.and_assoc]
 rw[e];cases nmB ⟨a.y,a.n⟩ with
 |false=>rfl
 |true =>
  rw[cond_true,Qy hq t2,cond_true];cases (decide (a.d=0) || decide (a.d=1))<;>rfl
def pnK(y:Yrn)(i:Nat):Bool:=Y9 (y.pe i).y (y.pe i).n (y.pe i).d&&!(decide (0<i)&&qfj (y.pe (i-1)).y (y.pe (i-1)).n (y.pe (i-1)).f (y.pe (i-1)).d (y.pe i).y (y.pe i).n (y.pe i).f (y.pe i).d)
def yrE(y:Yrn):Int:=bif decide (y.ct<0) || decide (2048<y.ct) then 1 else bif y.i then(bif qdi y.pl&&decide (y.np<=4096) then(bif qY (pnK y) y.np then 0 else 1) else 1) else(bif decide (y.pl=0)&&(!y.w&&decide (y.np=0)) then 0 else 1)
theorem qfV(y:Yrn)(hn:y.np<=1000000):ToldOk P16 G16 75 [.agg y.c] (iI (yrE y)):=by
 obtain⟨p3,hp3⟩:=qE P16 G16 103;obtain⟨p,hp⟩:=qE P16 G16 104;obtain⟨q,hq⟩:=qE P16 G16 106;have t3:=qed y.pl;have tp:∀i,p [.agg (y.pe i).c] (.bool (Y9 (y.pe i).y (y.pe i).n (y.pe i).d)):=fun i=>qH hp (qhM (y.pe i));have tq:∀i j,q [.agg (y.pe i).c,.agg (y.pe j).c] (.bool (qfj (y.pe i).y (y.pe i).n (y.pe i).f (y.pe i).d (y.pe j).y (y.pe j).n (y.pe j).f (y.pe j).d)):=fun i j=>qH hq (qdb _ _);have hK:=qv (qv (P:=P16) (Gl:=G16) qa (qr hp (F:=qiP))) (qr hq (F:=qkc));have pa:=Pz.run qu qa (m:=0) (p:=[1]) (A:=A16) (f:=75) (h0:=[]) (by kernel_rfl) ql (qmN y);have fin:∀r,Pz P16 G16 A16 75 [] [2] [1] [.reg y.c] [] .ret [2] [iI r] []->ToldOk P16 G16 75 [.agg y.c] (iI r):=fun r h=>Pz.told (A:=A16) qX Tryz.func75 (by kernel_rfl) (by kernel_rfl) (l:=[0]) rfl (Pz.seq (by kernel_rfl) pa h) rfl;have qb:=qmO y;have qb2:=qk5 y;unfold yrE;cases c1:decide (y.ct<0) with
 |true =>
  rw[c1] at qb2;exact fin 1 (Pz.seqX (by kernel_rfl) (by simp) (Pz.run qu qa (m:=0) (by kernel_rfl) ql qb2))
 |false =>
  cases c2:decide (2048<y.ct) with
  |true =>
   rw[c1,c2] at qb2;exact fin 1 (Pz.seqX (by kernel_rfl) (by simp) (Pz.run qu qa (m:=0) (by kernel_rfl) ql qb2))
  |false =>
   rw[c1,c2] at qb;have pb:=Pz.run qu qa (m:=0) (p:=[1,2]) (A:=A16) (f:=75) (h0:=[]) (by kernel_rfl) ql qb;rw[Bool.false_or,cond_false];cases ci:y.i with
   |false =>
    have qc:=qk6 y;rw[ci,cond_false] at qc;rw[cond_false];by_cases d1:y.pl=0
    ·have qc:=qc.trans (qK (by simpa using d1) rfl);rw[decide_eq_true d1,Bool.true_and];cases d2:y.w with
     |true =>
      rw[d2,cond_true] at qc;exact fin 1 (Pz.seq (by kernel_rfl) pb (Pz.seqX (by kernel_rfl) (by simp) (Pz.run qu qa (m:=0) (by kernel_rfl) ql qc)))
     |false =>
      rw[d2,cond_false] at qc;rw[Bool.not_false,Bool.true_and];by_cases d3:y.np=0
      ·rw[decide_eq_true d3];exact fin 0 (Pz.seq (by kernel_rfl) pb (Pz.seqX (by kernel_rfl) (by simp) (Pz.run qu qa (m:=0) (by kernel_rfl) ql (qc.trans (qK (by simp only[Int.ofNat_eq_natCast,decide_eq_true_eq];omega) rfl)))))
      ·rw[decide_eq_false d3];exact fin 1 (Pz.seq (by kernel_rfl) pb (Pz.seqX (by kernel_rfl) (by simp) (Pz.run qu qa (m:=0) (by kernel_rfl) ql (qc.trans (qt (by simp only[Int.ofNat_eq_natCast,decide_eq_true_eq];omega) rfl)))))
    ·rw[decide_eq_false d1];exact fin 1 (Pz.seq (by kernel_rfl) pb (Pz.seqX (by kernel_rfl) (by simp) (Pz.run qu qa (m:=0) (by kernel_rfl) ql (qc.trans (qt (by simpa using d1) rfl)))))
   |true =>
    have qc:=qmP y;rw[ci,cond_true] at qc;rw[cond_true];have pc:=Pz.run qu qa (m:=0) (p:=[1,2,2]) (A:=A16) (f:=75) (h0:=[]) (by kernel_rfl) ql qc;cases cp:qdi y.pl with
    |false =>
     rw[cp] at t3;exact fin 1 (Pz.seq (by kernel_rfl) pb (Pz.seq (by kernel_rfl) pc (Pz.seqX (by kernel_rfl) (by simp) (Pz.run qu (qv qa (qr hp3)) (m:=0) (by kernel_rfl) ql ((qjx p3 false y).trans (qt (Qy hp3 t3) rfl))))))
    |true =>
     rw[cp] at t3;rw[Bool.true_and];by_cases d1:y.np<=4096
     ·rw[decide_eq_true d1,cond_true];have pd:=Pz.run qu (qv qa (qr hp3)) (m:=0) (p:=[1,2,2,2]) (A:=A16) (f:=75) (h0:=[]) (by kernel_rfl) ql ((qmQ p3 true y).trans (qt (Qy hp3 t3) (qt rfl (qK (by simp only[Int.ofNat_eq_natCast,decide_eq_true_eq];omega) rfl))));have pe:=Pz.run qu qa (m:=0) (p:=[1,1,2,2,2,2]) (A:=A16) (f:=75) (h0:=[]) (by kernel_rfl) ql (qmR y);have good:∀i,i<y.np->pnK y i=true->Pz P16 G16 A16 75 [] [0,0,2,1,2,2,2,2] [1,40,41,42] (c75 y i) [] .normal [1,40,41,42] (c75 y (i+1)) []:=by
       intro i hi hk;have qf:=qk7 p q y i;rw[up1 (by omega)] at qf;simp only[pnK,Bool.and_eq_true,Bool.not_eq_true'] at hk;obtain⟨k1,k2⟩:=hk;have qf:=qf.trans (qt (by simpa using hi) (qt (inR hi) (qt (qz.2 (tp i)) (qt k1 rfl))));by_cases c:0<i
       ·rw[qgN (j:=i) (by omega) (by omega),show(ofNat (i-1)).toNat=i-1 from rfl] at qf;rw[decide_eq_true c,Bool.true_and] at k2;exact Pz.run qu hK (m:=0) (by kernel_rfl) ql (qf.trans (qt (by simpa using c) (qt (inR (by omega)) (qt (qz.2 (tq (i-1) i)) (qK (by rw[k2];simp) rfl)))))
       ·exact Pz.run qu hK (m:=0) (by kernel_rfl) ql (qf.trans (qK (by simpa using c) rfl))
      cases hall:qY (pnK y) y.np with
      |true =>
       have hall:=(qP _ _).1 hall;have pl:=Pz.count (P:=P16) (G:=G16) (A:=A16) (f:=75) (h0:=[]) (p:=[0,2,1,2,2,2,2]) (e:=.exit 0) (by kernel_rfl) (fun i=>c75 y i) (fun _=>[]) (n:=y.np) (by simp) (fun i hi=>good i hi (hall i hi)) (Pz.run qu hK (m:=0) (by kernel_rfl) ql ((qk7 p q y y.np).trans (qK (by simp) rfl)));exact fin 0 (Pz.seq (by kernel_rfl) pb (Pz.seq (by kernel_rfl) pc (Pz.seq (by kernel_rfl) pd (Pz.seq (by kernel_rfl) (Pz.seq (by kernel_rfl) pe (Pz.blk (id:=0) (e:=.exit 0) (by kernel_rfl) rfl (Pz.only pl (l2:=[]) rfl))) (Pz.run qu qa (m:=0) (by kernel_rfl) ql (show qw P16 G16 A16 qp 0 75 [] (nav [2,2,2,2,2]) [] [] [] [2]=some (.ret,[iI 0],[]) by kernel_rfl))))))
      |false =>
       obtain⟨i,hi,hk,hlt⟩:=yO hall;have bad:Pz P16 G16 A16 75 [] [0,0,2,1,2,2,2,2] [1,40,41,42] (c75 y i) [] .ret [2] [iI 1] []:=by
        have qf:=qk8 p q y i;have qf:=qf.trans (qt (by simpa using hi) (qt (inR hi) (qt (qz.2 (tp i)) rfl)));unfold pnK at hk;cases k1:Y9 (y.pe i).y (y.pe i).n (y.pe i).d with
        |false =>
         rw[k1,cond_false] at qf;exact Pz.run qu hK (m:=0) (by kernel_rfl) ql qf
        |true =>
         rw[k1,cond_true] at qf;rw[k1,Bool.true_and,Bool.not_eq_false',Bool.and_eq_true,decide_eq_true_eq] at hk;rw[qgN (j:=i) (by omega) (by omega),show(ofNat (i-1)).toNat=i-1 from rfl] at qf;exact Pz.run qu hK (m:=0) (by kernel_rfl) ql (qf.trans (qt (by simpa using hk.1) (qt (inR (by omega)) (qt (qz.2 (tq (i-1) i)) (qt hk.2 rfl)))))
       have pl:=Pz.count (P:=P16) (G:=G16) (A:=A16) (f:=75) (h0:=[]) (p:=[0,2,1,2,2,2,2]) (e:=.ret) (by kernel_rfl) (fun i=>c75 y i) (fun _=>[]) (n:=i) (by simp) (fun j hj=>good j (by have hj:j<i:=hj;omega) (hlt j hj)) bad;exact fin 1 (Pz.seq (by kernel_rfl) pb (Pz.seq (by kernel_rfl) pc (Pz.seq (by kernel_rfl) pd (Pz.seqX (by kernel_rfl) (by simp) (Pz.seq (by kernel_rfl) pe (Pz.blk (id:=0) (e:=.ret) (by kernel_rfl) rfl pl))))))
     ·rw[decide_eq_false d1,cond_false];exact fin 1 (Pz.seq (by kernel_rfl) pb (Pz.seq (by kernel_rfl) pc (Pz.seqX (by kernel_rfl) (by simp) (Pz.run qu (qv qa (qr hp3)) (m:=0) (by kernel_rfl) ql ((qjx p3 true y).trans (qt (Qy hp3 t3) (qt rfl (qt (by simp only[Int.ofNat_eq_natCast,decide_eq_true_eq];omega) rfl))))))))
def v45(a b:Nat->Idd)(n m:Nat)(c d:Option Nat)(i:Nat):List T:=[idV a n c,idV b m d,iI (ofNat n),iI (ofNat i)]
theorem qmS(a b:Nat->Idd)(n m:Nat)(c d:Option Nat):qw P16 G16 A16 qp 0 45 [] (nav [1]) [0,1] [idV a n c,idV b m d] [] [0,1] =
(
 some ((.normal,[idV a n c,idV b m d],[]))):=by kernel_rfl
theorem qmT(a b:Nat->Idd)(n m:Nat)(c d:Option Nat):qw P16 G16 A16 qp 0 45 [] (nav [1,2]) [0,1] [idV a n c,idV b m d] [] [0,1] =
(
 bif !decide (ofNat n=ofNat m) then
 some ((.ret,[idV a n c,idV b m d],[]))
 else
 some ((.normal,[idV a n c,idV b m d],[]))):=by kernel_rfl
theorem qk9(a b:Nat->Idd)(n m:Nat)(c d:Option Nat):qw P16 G16 A16 qp 0 45 [] (nav [1,2]) [0,1] [idV a n c,idV b m d] [] [4] =
(
 bif !decide (ofNat n=ofNat m) then
 some ((.ret,[.bool false],[]))
 else
 some ((.normal,[.undef],[]))):=by kernel_rfl
theorem qmU(a b:Nat->Idd)(n m:Nat)(c d:Option Nat):qw P16 G16 A16 qp 0 45 [] (nav [1,1,2,2]) [0,1] [idV a n c,idV b m d] [] [0,1,12,13] =
(
 some ((.normal,v45 a b n m c d (nat_lit 0),[]))):=by kernel_rfl
theorem qmV(a b:Nat->Idd)(n m:Nat)(c d:Option Nat)(i:Nat):qw P16 G16 A16 qp 0 45 [] (nav [0,0,2,1,2,2]) [0,1,12,13] (v45 a b n m c d i) [] [0,1,12,13] =
(
 bif decide (ofNat i<ofNat n) then
 bif decide (0<=ofNat i)&&decide (ofNat i<ofNat n) then
 bif decide (0<=ofNat i)&&decide (ofNat i<ofNat m) then
 bif decide ((a i).y=(b i).y) then
 bif decide ((a i).n=(b i).n) then
 some ((.normal,[idV a n c,idV b m d,iI (.ofNat n),iI (i64.wrap (ofNat i+1))],[]))
 else
 some ((.ret,v45 a b n m c d i,[]))
 else
 some ((.ret,v45 a b n m c d i,[]))
 else none else none else
 some ((.exit 0,v45 a b n m c d i,[]))):=by kernel_rfl
theorem qla(a b:Nat->Idd)(n m:Nat)(c d:Option Nat)(i:Nat):qw P16 G16 A16 qp 0 45 [] (nav [0,0,2,1,2,2]) [0,1,12,13] (v45 a b n m c d i) [] [4] =
(
 bif decide (ofNat i<ofNat n) then
 bif decide (0<=ofNat i)&&decide (ofNat i<ofNat n) then
 bif decide (0<=ofNat i)&&decide (ofNat i<ofNat m) then
 bif decide ((a i).y=(b i).y) then
 bif decide ((a i).n=(b i).n) then
 some ((.normal,[.undef],[]))
 else
 some ((.ret,[.bool false],[]))
 else
 some ((.ret,[.bool false],[]))
 else none else none else
 some ((.exit 0,[.undef],[]))):=by kernel_rfl
theorem qmW(a b:Nat->Idd)(n m:Nat)(c d:Option Nat)(i:Nat):qw P16 G16 A16 qp 0 45 [] (nav [0,0,2,1,2,2]) [0,1,12,13] (v45 a b n m c d i) [] [] =
(
 bif decide (ofNat i<ofNat n) then
 bif decide (0<=ofNat i)&&decide (ofNat i<ofNat n) then
 bif decide (0<=ofNat i)&&decide (ofNat i<ofNat m) then
 bif decide ((a i).y=(b i).y) then
 bif decide ((a i).n=(b i).n) then
 some ((.normal,[],[]))
 else
 some ((.ret,[],[]))
 else
 some ((.ret,[],[]))
 else none else none else
 some ((.exit 0,[],[]))):=by kernel_rfl
def idE(a b:Nat->Idd)(i:Nat):Bool:=decide ((a i).y=(b i).y)&&decide ((a i).n=(b i).n)
def eqI(a b:Nat->Idd)(n m:Nat):Bool:=decide (n=m)&&qY (idE a b) n
set_option maxHeartbeats 0
set_option maxRecDepth 100000
theorem qkd(a b:Nat->Idd)(n m:Nat)(c d:Option Nat)(hn:n<=1000000):ToldOk P16 G16 45 [idV a n c,idV b m d] (.bool (eqI a b n m)):=by
 have fin:∀v,Pz P16 G16 A16 45 [] [] [0,1] [idV a n c,idV b m d] [] .ret [4] [.bool v] []->ToldOk P16 G16 45 [idV a n c,idV b m d] (.bool v):=fun v h =>
  Pz.told (A:=A16) qX Tryz.func45 (by kernel_rfl) (by kernel_rfl) (l:=[0,1]) rfl h rfl
 have pa:=Pz.run qu qa (m:=0) (p:=[1]) (A:=A16) (f:=45) (h0:=[]) (by kernel_rfl) ql (qmS a b n m c d);unfold eqI;by_cases e:n=m
 ·subst e;rw[decide_eq_true rfl,Bool.true_and];have pb:=Pz.run qu qa (m:=0) (p:=[1,2]) (A:=A16) (f:=45) (h0:=[]) (by kernel_rfl) ql ((qmT a b n n c d).trans (qK (by simp) rfl));have pc:=Pz.run qu qa (m:=0) (p:=[1,1,2,2]) (A:=A16) (f:=45) (h0:=[]) (by kernel_rfl) ql (qmU a b n n c d);have good:∀i,i<n->idE a b i=true->Pz P16 G16 A16 45 [] [0,0,2,1,2,2] [0,1,12,13] (v45 a b n n c d i) [] .normal [0,1,12,13] (v45 a b n n c d (i+1)) []:=by
   intro i hi hk;have qf:=qmV a b n n c d i;rw[up1 (by omega)] at qf;simp only[idE,Bool.and_eq_true] at hk;exact Pz.run qu qa (m:=0) (by kernel_rfl) ql (qf.trans (qt (by simpa using hi) (qt (inR hi) (qt (inR hi) (qt hk.1 (qt hk.2 rfl))))))
  cases hall:qY (idE a b) n with
  |true =>
   have hall:=(qP _ _).1 hall;have pl:=Pz.count (P:=P16) (G:=G16) (A:=A16) (f:=45) (h0:=[]) (p:=[0,2,1,2,2]) (e:=.exit 0) (by kernel_rfl) (fun i=>v45 a b n n c d i) (fun _=>[]) (n:=n) (by simp[v45]) (fun i hi=>good i hi (hall i hi)) (Pz.run qu qa (m:=0) (by kernel_rfl) ql ((qmW a b n n c d n).trans (qK (by simp) rfl)));exact fin true (Pz.seq (by kernel_rfl) pa (Pz.seq (by kernel_rfl) pb (Pz.seq (by kernel_rfl) (Pz.seq (by kernel_rfl) pc (Pz.blk (id:=0) (e:=.exit 0) (by kernel_rfl) rfl pl)) (Pz.run qu qa (m:=0) (by kernel_rfl) ql (show qw P16 G16 A16 qp 0 45 [] (nav [2,2,2]) [] [] [] [4]=some (.ret,[.bool true],[]) by kernel_rfl)))))
  |false =>
   obtain⟨i,hi,hk,hlt⟩:=yO hall;have bad:Pz P16 G16 A16 45 [] [0,0,2,1,2,2] [0,1,12,13] (v45 a b n n c d i) [] .ret [4] [.bool false] []:=by
    have qf:=qla a b n n c d i;refine Pz.run qu qa (m:=0) (by kernel_rfl) ql (qf.trans (qt (by simpa using hi) (qt (inR hi) (qt (inR hi) ?_))));unfold idE at hk;cases k1:decide ((a i).y=(b i).y) with
    |false=>rfl
    |true =>
     rw[k1,Bool.true_and] at hk;rw[cond_true,hk];rfl
   have pl:=Pz.count (P:=P16) (G:=G16) (A:=A16) (f:=45) (h0:=[]) (p:=[0,2,1,2,2]) (e:=.ret) (by kernel_rfl) (fun i=>v45 a b n n c d i) (fun _=>[]) (n:=i) (by simp[v45]) (fun j hj=>good j (by have hj:j<i:=hj;omega) (hlt j hj)) bad;exact fin false (Pz.seq (by kernel_rfl) pa (Pz.seq (by kernel_rfl) pb (Pz.seqX (by kernel_rfl) (by simp) (Pz.seq (by kernel_rfl) pc (Pz.blk (id:=0) (e:=.ret) (by kernel_rfl) rfl pl)))))
 ·rw[decide_eq_false e,Bool.false_and];exact fin false (Pz.seq (by kernel_rfl) pa (Pz.seqX (by kernel_rfl) (by simp) (Pz.run qu qa (m:=0) (by kernel_rfl) ql ((qk9 a b n m c d).trans (qt (by simp only[Int.ofNat_eq_natCast,Bool.not_eq_true',decide_eq_false_iff_not];omega) rfl)))))
theorem e64 :Qz P16 G16 A16 qp 0 64 [] =
(
 some (.fresh false (1:Nat) (6:Nat) (fun j=>[.nils]) (6:Nat) (some 6))):=by kernel_rfl
theorem k65(x:Int):Qz P16 G16 A16 qp 0 65 [uI x] =
(
 bif decide (x=0) then
 some (uI 1)
 else
 some (uI 0)):=by kernel_rfl
theorem qee:ToldOk P16 G16 64 [] (.fresh false 1 6 (fun _=>[.nils]) 6 (some 6)) :=
 qD qu qX qa (A:=A16) (m:=0) e64
def ZW(x:Int):Int:=bif decide (x=0) then 1 else 0
theorem qfW(x:Int):ToldOk P16 G16 65 [uI x] (uI (ZW x)):=by
 refine qD qu qX qa (A:=A16) (m:=0) ((k65 x).trans ?_);unfold ZW;cases decide (x=0)<;>rfl
def Ks(e:Int)(_:List T):Option T:=some (iI e)
theorem k44(p q r:List T->T->Prop)(a b c:Int)(F:Fab):Qz P16 G16 A16 (((qp.add 77 (qI p (Ks a))).add 78 (qI q (Ks b))).add 79 (qI r (Ks c))) 0 44 [.agg F.c] =
(
 bif qC (p [F.t.v] (iI a)) then
 bif !decide (a=0) then
 some (iI a)
 else
 bif qC (q [.agg F.c] (iI b)) then
 bif !decide (b=0) then
 some (iI b)
 else
 bif qC (r [.agg F.c] (iI c)) then
 some (iI c)
 else none else none else
 none):=by kernel_rfl
def qfk(F:Fab):Int:=bif qY (crK F) F.nc then 0 else 1
def qbQ(F:Fab)(c:Int):Int:=bif !decide (ZV F.t=0) then ZV F.t else bif !decide (qfk F=0) then qfk F else c
theorem qgO(F:Fab)(hF:F.Ok)(c:Int)(h:ToldOk P16 G16 79 [.agg F.c] (iI c)):ToldOk P16 G16 44 [.agg F.c] (iI (qbQ F c)):=by
 obtain⟨p,hp⟩:=qE P16 G16 77;obtain⟨q,hq⟩:=qE P16 G16 78;obtain⟨r,hr⟩:=qE P16 G16 79;have hK:=qv (qv (qv (P:=P16) (Gl:=G16) qa (qr hp (F:=Ks (ZV F.t)))) (qr hq (F:=Ks (qfk F)))) (qr hr (F:=Ks c));refine qD qu qX hK (A:=A16) (m:=0) ((k44 p q r (ZV F.t) (qfk F) c F).trans ?_);refine qt (qz.2 (qH hp (qj9 F.t hF.t))) ?_;unfold qbQ;cases decide (ZV F.t=0) with
 |false=>rfl
 |true =>
  rw[Bool.not_true,cond_false,cond_false];refine qt (qz.2 (qH hq (qkb F hF))) ?_;cases decide (qfk F=0) with
  |false=>rfl
  |true =>
   rw[Bool.not_true,cond_false,cond_false];exact qt (qz.2 (qH hr h)) rfl
end Go.Ab

