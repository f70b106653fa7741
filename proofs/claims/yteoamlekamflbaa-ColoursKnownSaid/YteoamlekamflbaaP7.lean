/- A part of the proof: nothing is assumed. -/
import Derived.Test.YteoamlekamflbaaP5
import Derived.Test.YteoamlekamflbaaP6
set_option linter.all false
namespace Go.Ab
open IntKind(i64 u8)
open Int(ofNat)
open Go.Proofs
def qB(r:Nat->Int)(n:Nat)(c:Option Nat):T:=.view 1 n (fun j=>[uI (r j)]) c
def Ya(r:Nat->Int)(y:Int):Nat->Nat->Nat
 |0,j=>j
 |m+1,j=>if r j=y then j else Ya r y m (j+1)
def Yv(r:Nat->Int)(n i:Nat)(e:Int):Int:=if Ya r e (n-i) i<n then(Ya r e (n-i) i:Int)+1 else 0
def Zh(r:Nat->Int)(n i:Nat):Int:=Yv r n (i+1) (r i)-1
def v44(l:Nat)(r:Nat->Int)(n:Nat)(c:Option Nat)(i:Int):List T:=[.yld l,.vp [qB r n c],.ptr 0 0 0 0,.own 1 0 0 n (some n),iI i]
def h44(n:Nat)(near nx:Nat->Int):qg:=[⟨0,1,256,fun e=>[iI (near e)],true,false,none⟩,⟨0,1,n,fun e=>[iI (nx e)],true,false,none⟩]
def yx(r:Nat->Int)(n i:Nat)(e:Nat):Int:=Yv r n i e
def nxS(r:Nat->Int)(n i:Nat)(e:Nat):Int:=if i<=e then Zh r n e else 0
theorem KW(r:Nat->Int)(y:Int):∀m j,j<=Ya r y m j/\Ya r y m j<=j+m:=by
 intro m
 induction m with
 |zero=>intro j;exact⟨Nat.le_refl _,Nat.le_refl _⟩
 |succ m ih =>
  intro j;have:=ih (j+1);unfold Ya;split
  ·omega
  ·omega
theorem qfR(r:Nat->Int)(n i:Nat)(e:Int)(hi:i<=n):0<=Yv r n i e/\Yv r n i e<=n:=by
 have:=KW r e (n-i) i;unfold Yv;split<;>omega
theorem qgR(r:Nat->Int)(n i:Nat)(e:Int)(hi:i<n):Yv r n i e=if r i=e then(i:Int)+1 else Yv r n (i+1) e:=by
 unfold Yv;rw[show n-i=(n-(i+1))+1 by omega,Ya];by_cases q:r i=e
 ·rw[if_pos q,if_pos hi,if_pos q]
 ·rw[if_neg q,if_neg q]
theorem qid(r:Nat->Int)(n:Nat)(e:Int):Yv r n n e=0:=by
 unfold Yv;rw[Nat.sub_self];unfold Ya;rw[if_neg (Nat.lt_irrefl _)]
theorem qfS{n:Nat}{a b a2 b2:Nat->Int}(h1:∀j,j<256->a j=a2 j)(h2:∀j,j<n->b j=b2 j):SameBlks (h44 n a b) (h44 n a2 b2) :=
 .cons ⟨rfl,rfl,rfl,id,fun j hj=>by show [iI (a2 j)]=[iI (a j)];rw[h1 j hj]⟩ (.cons ⟨rfl,rfl,rfl,id,fun j hj=>by show [iI (b2 j)]=[iI (b j)];rw[h2 j hj]⟩ .nil)
theorem qnF(l:Nat)(r:Nat->Int)(n:Nat)(c:Option Nat)(hn:n<=1000)(hr:∀j,j<n->0<=r j/\r j<256) :
 LoopOk P18 G18 (A18 44) 44 3 (qE (v44 l r n c ((n:Int)-1)) (h44 n (yx r n n) (nxS r n n)) (.exit 0) [.yld l,.vp [qB r n c],.own 1 0 0 n (some n)] (h44 n (yx r n 0) (nxS r n 0))):=by
 rw[show(n:Int)-1=(n:Int)-1-((0:Nat):Int) by omega];refine qz qv (by kernel_rfl) (fun k=>v44 l r n c ((n:Int)-1-k)) (fun k=>h44 n (yx r n (n-k)) (nxS r n (n-k))) (n:=n) (fun k hk=>?_) ?_
 ·obtain⟨i,rfl⟩:∃i,n=i+1+k:=⟨n-1-k,by omega⟩;rw[show((i+1+k:Nat):Int)-1-(k:Int)=(i:Int) by omega,show((i+1+k:Nat):Int)-1-((k+1:Nat):Int)=(i:Int)-1 by omega,show i+1+k-k=i+1 by omega,show i+1+k-(k+1)=i by omega];generalize hn':i+1+k=n at *
  have hi:i<n:=by omega
  have h1:=hr i hi;have hnb:=qfR r n (i+1) (r i) (by omega);have e1:((r i).toNat:Int)=r i:=by omega
  have hnb2:yx r n (i+1) (r i).toNat=Yv r n (i+1) (r i):=by unfold yx;rw[e1]
  refine Step.mk0 (A:=A18) (m:=0) qf rfl rfl qh (h1:=h44 n (fun e=>bif e==(r i).toNat then(i:Int)+1 else yx r n (i+1) e) (fun e=>bif e==i then Yv r n (i+1) (r i)-1 else nxS r n (i+1) e)) ?_ (qfS (fun j hj=>?_) fun j hj=>?_)
  ·generalize yx r n (i+1)=near at *
   generalize nxS r n (i+1)=nx at *
   refine Eq.trans (show qA P18 G18 A18 qk 0 44 [] 3 (v44 l r n c i) (h44 n near nx) =
( gD (decide (0<=ofNat i)&&decide (ofNat i<ofNat n))<|gD (decide (0<=r i)&&decide (r i<256))<|gD (((0:Nat)+(r i).toNat).blt 256)<|gD (decide (0<=ofNat i)&&decide (ofNat i<ofNat n))<|gD (((0:Nat)+i).blt n&&[iI (i64.wrap (near ((0:Nat)+(r i).toNat)-(1:Int)))].length==(1:Nat)&&true&&true)<|gD (decide (0<=ofNat i)&&decide (ofNat i<ofNat n))<|gD (decide (0<=r i)&&decide (r i<256))<|gD (((0:Nat)+(r i).toNat).blt 256&&[iI (i64.wrap (ofNat i+(1:Int)))].length==(1:Nat)&&true&&true)<|zN [T.yld l,.vp [qB r n c],.ptr 0 0 0 0,.own 1 0 0 n (some n),iI (i64.wrap (ofNat i-1))] [.mk 0 1 256 (fun e=>[iI (bif e==(0:Nat)+(r i).toNat then i64.wrap (ofNat i+1)
 else near e)]) true false
 none,.mk 0 1 n (fun e=>[iI (bif e==0+i then i64.wrap (near ((0:Nat)+(r i).toNat)-(1:Int))
 else nx e)]) true false
 none]) from by kernel_rfl) ?_
   rw[Nat.zero_add,Nat.zero_add,hnb2]
   (repeat (first|refine BT ?_|refine BG ?_))
   rw[qn,qI (x:=(i:Int)-1) (by omega) (by omega),qI (x:=(i:Int)+1) (by omega) (by omega),qI (x:=Yv r n (i+1) (r i)-1) (by omega) (by omega)];rfl
  ·have hs:=qgR r n i j hi;show _=yx r n i j;unfold yx;rw[hs];by_cases q:j=(r i).toNat
   ·subst q;rw[beq_self_eq_true,cond_true,if_pos e1.symm]
   ·rw[show(j==(r i).toNat)=false by simpa using q,cond_false,if_neg (by omega)]
  ·show _=nxS r n i j;unfold nxS;by_cases q:j=i
   ·subst q;rw[beq_self_eq_true,cond_true,if_pos (Nat.le_refl _)];rfl
   ·rw[show(j==i)=false by simpa using q,cond_false];by_cases q2:i+1<=j
    ·rw[if_pos q2,if_pos (by omega)]
    ·rw[if_neg q2,if_neg (by omega)]
 ·rw[show(n:Int)-1-(n:Int) = -1 by omega,Nat.sub_self];refine Last.mk0 (A:=A18) (m:=0) qf rfl rfl qh (h1:=h44 n (yx r n 0) (nxS r n 0)) (by simp) ?_ (.refl _);generalize yx r n 0=near;generalize nxS r n 0=nx;refine Eq.trans (show qA P18 G18 A18 qk 0 44 [] 3 (v44 l r n c (-1)) (h44 n near nx) =
( zX 0 [T.yld l,.vp [qB r n c],.own 1 0 0 n (some n)] [.mk 0 1 256 (fun e=>[iI (near e)]) true false
 none,.mk 0 1 n (fun e=>[iI (nx e)]) true false
 none]) from by kernel_rfl) ?_
  first|rfl|(simp (disch:=omega) only[qI,wr8,qi1,qi0,qn,Nat.zero_add,QZ,Qy,dT,dF,Bool.true_and,Bool.and_true,Bool.and_self,cond_true,cond_false,Nat.sub_zero,beq_self_eq_true];done)|(simp (disch:=omega) only[qI,wr8,qi1,qi0,qn,Nat.zero_add,QZ,Qy,dT,dF,Bool.true_and,Bool.and_true,Bool.and_self,cond_true,cond_false,Nat.sub_zero,beq_self_eq_true];rfl)
def fl(r:Nat->Int)(n m:Nat):List Nat:=(List.range m).filter fun k=>decide ((k:Int)+1<Zh r n k)
def YD(r:Nat->Int)(n k:Nat):List T:=[uI (r k),iI ((k:Int)+1),iI (Zh r n k-k-1)]
def yw(l:Nat)(r:Nat->Int)(n:Nat)(c:Option Nat)(k:Int):List T:=[.yld l,.vp [qB r n c],.own 1 0 0 n (some n),iI n,iI k]
theorem JM(r:Nat->Int)(n k:Nat):fl r n (k+1)=if (k:Int)+1<Zh r n k then fl r n k++[k] else fl r n k:=by
 unfold fl;rw[List.range_succ,List.filter_append];by_cases h:(k:Int)+1<Zh r n k
 ·rw[if_pos h];simp[h]
 ·rw[if_neg h];simp[h]
theorem qi8(r:Nat->Int)(n:Nat){k m:Nat}(h:k<m)(hk:(k:Int)+1<Zh r n k):(fl r n m).getD (fl r n k).length 0=k/\(fl r n k).length<(fl r n m).length:=by
 have key:∀n2,k<n2->(fl r n n2)[(fl r n k).length]?=some k:=by
  intro n2
  induction n2 with
  |zero=>intro h;omega
  |succ n2 ih =>
   intro hn;rw[JM];rcases Nat.lt_or_ge k n2 with q|q
   ·have:=ih q;split
    ·rw[List.getElem?_append_left (qW this)];exact this
    ·exact this
   ·obtain rfl:k=n2:=by omega
    rw[if_pos hk,List.getElem?_append_right (Nat.le_refl _),Nat.sub_self];rfl
 have:=key m h;exact⟨by rw[List.getD_eq_getElem?_getD,this];rfl,qW this⟩
theorem qkQ(r:Nat->Int)(n:Nat)(c:Option Nat)(hn:n<=1000)(hr:∀j,j<n->0<=r j/\r j<256):SeqTold P18 G18 44 [.vp [qB r n c]] (fl r n n).length (fun i=>[.agg (YD r n ((fl r n n).getD i 0))]):=by
 have h44a:=fun l=>qnF l r n c hn hr;have hnb:∀k,k<n->-1<=Zh r n k/\Zh r n k<n:=fun k hk=>by
  have:=qfR r n (k+1) (r k) (by omega);unfold Zh;omega
 have hnx:∀k,nxS r n 0 k=Zh r n k:=fun k=>by unfold nxS;rw[if_pos (Nat.zero_le _)]
 generalize yx r n 0=near at h44a;have hnear0:yx r n n=fun _=>0:=by funext e;unfold yx;rw[qid]
 have hnx0:SameBlks (h44 n (yx r n n) (fun _=>0)) (h44 n (yx r n n) (nxS r n n)):=qfS (fun _ _=>rfl) fun j hj=>by unfold nxS;rw[if_neg (by omega)]
 rw[hnear0] at h44a hnx0;generalize nxS r n 0=nx at h44a hnx;generalize nxS r n n=nx0 at h44a hnx0;refine qi4 (prom:=[]) Try.func44 rfl (by kernel_rfl) (by kernel_rfl) (by decide +kernel) (Nat.le_of_ble_eq_true (by kernel_rfl)) fun l R J Jx hJ hJx hy X g w W hi=>?_;refine wpIn_seq ?_;refine It.exk (m:=0) (l:=[0,1]) (vs:=[.yld l,.vp [qB r n c]]) (h:=[]) (l':=[0,1,3]) (vs':=[.yld l,.vp [qB r n c],.ptr 0 0 0 0]) (h':=[⟨0,1,256,fun _=>[iI 0],true,false,none⟩]) (e:=.normal) qv qf (by decide +kernel) (by kernel_rfl) (by kernel_rfl) (hJ 0) (hi.only _) fun X1 g1 a1 W1 hi1=>?_;refine wpIn_seq ?_;refine It.exk (m:=0) (l:=[0,1,3]) (vs:=[.yld l,.vp [qB r n c],.ptr 0 0 0 0]) (l':=[0,1,3,4]) (vs':=[.yld l,.vp [qB r n c],.ptr 0 0 0 0,.own 1 0 0 n (some n)]) (h':=h44 n (fun _=>0) (fun _=>0)) (e:=.normal) qv qf (by decide +kernel) ?_ (by kernel_rfl) (hJ 0) hi1 fun X2 g2 a2 W2 hi2=>?_
 ·refine Eq.trans (b:=bif decide ((0:Int)<=ofNat n)&&decide (ofNat n<=ofNat n)&&decide (ofNat n*(8:Int)<=(140737488355328:Int))&&decide (ofNat n<=(9223372036854775807:Int)) then some (.normal,[.yld l,.vp [qB r n c],.ptr 0 0 0 0,.own 1 0 0 n (some n)],h44 n (fun _=>0) (fun _=>0)) else none) (by kernel_rfl) ?_;exact BT rfl
 refine wpIn_seq ?_;refine It.exl' (A:=A18) (m:=0) (f:=44) qv qf Try.func44 rfl (Nat.le_of_ble_eq_true (by kernel_rfl)) (by kernel_rfl) (qK (h44a l)) (fun c=>sq1 (sq2 (sq2 c))) (by kernel_rfl) (fun b hb=>ZC _ _ (ZC _ _ (YS _ _ hb))) (by kernel_rfl) (l:=[0,1,3,4]) (l':=[0,1,4]) (vs:=[.yld l,.vp [qB r n c],.ptr 0 0 0 0,.own 1 0 0 n (some n)]) (h:=h44 n (fun _=>0) (fun _=>0))
  (vs':=[.yld l,.vp [qB r n c],.own 1 0 0 n (some n)]) (h':=h44 n near nx) (e:=.normal) ?_ (by kernel_rfl) (hJ 0) hi2 fun X3 g3 a3 W3 hi3=>?_
 ·refine Eq.trans (show qy P18 G18 A18 qk 0 44 [(3,qE (v44 l r n c ((n:Int)-1)) (h44 n (fun _=>0) nx0) (.exit 0) [.yld l,.vp [qB r n c],.own 1 0 0 n (some n)] (h44 n near nx))] (fun c=>sq1 (sq2 (sq2 c))) [0,1,3,4] [.yld l,.vp [qB r n c],.ptr 0 0 0 0,.own 1 0 0 n (some n)] (h44 n (fun _=>0) (fun _=>0)) [0,1,4] =
( gD (qS (v44 l r n c (i64.wrap (ofNat n-1))) (h44 n (fun e=>(0:Int)) fun e=>(0:Int)) (v44 l r n c (ofNat n-1)) (h44 n (fun e=>(0:Int)) nx0))<|zN [T.yld l,.vp [qB r n c],.own 1 0 0 n (some n)] (h44 n near nx)) from by kernel_rfl) ?_
  rw[qn,qI (x:=(n:Int)-1) (by omega) (by omega)];exact qm (qw ⟨rfl,hnx0⟩) rfl
 refine wpIn_seq ?_;refine It.exk (m:=0) (l:=[0,1,4]) (vs:=[.yld l,.vp [qB r n c],.own 1 0 0 n (some n)]) (l':=[0,1,35,36,37]) (vs':=yw l r n c 0) (h:=h44 n near nx) (h':=h44 n near nx) (e:=.normal) qv qf (by decide +kernel) (by kernel_rfl) (by kernel_rfl) (hJ 0) hi3 fun X4 g4 a4 W4 hi4=>?_;refine wpIn_block ?_;refine Ze (fun m a' W=>∃(k:Nat) (X:Nat->Prop) (g:Gh),k<=n/\m=n-k/\It G18 [] Try.f44.ntmps R (J (fl r n k).length) X g (qM [0,1,35,36,37] (yw l r n c k) (h44 n near nx)) a' W) (fun m a' W hI=>?_) n a4 W4 ⟨0,X4,g4,by omega,by omega,hi4⟩;obtain⟨k,X5,g5,hkn,rfl,hi5⟩:=hI;refine wpIn_seq ?_;by_cases hlt:(k:Int)<(n:Int)
 ·have hkl:k<n:=by omega
  refine It.exk (m:=0) (l:=[0,1,35,36,37]) (vs:=yw l r n c k) (h:=h44 n near nx) (l':=[0,1,35,36,37,38]) (vs':=yw l r n c k++[.bool true]) (h':=h44 n near nx) (e:=.normal) qv qf (by decide +kernel) (Eq.trans (b:=bif decide ((k:Int)<n) then some (.normal,yw l r n c k++[.bool true],h44 n near nx) else some (.normal,yw l r n c k++[.bool false],h44 n near nx)) (by kernel_rfl) (by rw[decide_eq_true hlt];rfl)) (by kernel_rfl) (hJ _) hi5 fun X6 g6 a6 W6 hi6=>?_;refine wpIn_seq ?_;refine It.exk (m:=0) (l:=[0,1,35,36,37,38]) (vs:=yw l r n c k++[.bool true]) (h:=h44 n near nx) (l':=[0,1,35,36,37]) (vs':=yw l r n c k) (h':=h44 n near nx) (e:=.normal) qv qf (by decide +kernel) (by kernel_rfl) (by kernel_rfl) (hJ _) hi6 fun X7 g7 a7 W7 hi7=>?_;refine wpIn_seq ?_;refine wpIn_block ?_;refine wpIn_seq ?_;refine It.exk (m:=0) (l:=[0,1,35,36,37]) (vs:=yw l r n c k) (h:=h44 n near nx) (l':=[0,1,6,7,35,36,37]) (vs':=[.yld l,.vp [qB r n c],iI k,iI (nx k),.own 1 0 0 n (some n),iI n,iI k]) (h':=h44 n near nx) (e:=.normal) qv qf (by decide +kernel) ?_ (by kernel_rfl) (hJ _) hi7 fun X8 g8 a8 W8 hi8=>?_
  ·refine Eq.trans (b:=bif decide ((0:Int)<=ofNat k)&&decide (ofNat k<ofNat n) then bif ((0:Nat)+k).blt n then some (.normal,[.yld l,.vp [qB r n c],iI k,iI (nx (0+k)),.own 1 0 0 n (some n),iI n,iI k],h44 n near nx) else none else none) (by kernel_rfl) ?_;rw[Nat.zero_add]
   (repeat (first|refine BT ?_|refine BG ?_))
   rfl
  refine wpIn_seq ?_;have hb:=hnb k hkl;rw[←hnx k] at hb;have ew1:i64.wrap ((k:Int)+1)=(k:Int)+1:=qI (by omega) (by omega);have ew2:i64.wrap (i64.wrap (nx k-(k:Int))-1)=nx k-k-1:=by rw[qI (x:=nx k-(k:Int)) (by omega) (by omega),qI (by omega) (by omega)]
  by_cases hab:(k:Int)+1<nx k
  ·have hab2:=hab;rw[hnx k] at hab2;obtain⟨hget,hlen⟩:=qi8 r n (m:=n) hkl hab2;refine It.yield (k:=17) (l:=[0,1,6,7,35,36,37]) (l':=[0,1,35,36,37,61]) (vs:=[.yld l,.vp [qB r n c],iI k,iI (nx k),.own 1 0 0 n (some n),iI n,iI k]) (h:=h44 n near nx) (hT:=h44 n near nx) (hF:=h44 n near nx)
    (vsT:=yw l r n c k++[.bool false]) (vsF:=yw l r n c k++[.bool true]) qf (l0:=l) (xs:=[.agg (YD r n k)]) ?_ ?_ (hJ _) (hJ ((fl r n k).length+1)) (hJx (fl r n k).length) hi8 (fun X W args hj hp=>hy (fl r n k).length X W args hlen hj (by rw[hget];exact hp)) (fun X9 g9 a9 W9 hi9=>?_) (fun X9 g9 a9 W9 hi9=>?_)
   ·refine Eq.trans (b:=bif decide (i64.wrap ((k:Int)+1)<nx k) then bif decide ((0:Int)<=(k:Int))&&decide ((k:Int)<n) then some (l,[.agg [uI (r k),iI (i64.wrap ((k:Int)+1)),iI (i64.wrap (i64.wrap (nx k-(k:Int))-1))]],(yw l r n c k++[.bool false],h44 n near nx),(yw l r n c k++[.bool true],h44 n near nx)) else none else none) (by kernel_rfl) ?_;rw[ew1,ew2]
    (repeat (first|refine BT ?_|refine BG ?_))
    unfold YD;rw[←hnx k]
   ·rfl
   ·refine It.exk (m:=0) (l:=[0,1,35,36,37,61]) (vs:=yw l r n c k++[.bool false]) (h:=h44 n near nx) (l':=[0,1,35,36,37]) (vs':=yw l r n c k) (h':=h44 n near nx) (e:=.normal) qv qf (by decide +kernel) (by kernel_rfl) (by kernel_rfl) (hJ _) hi9 fun X10 g10 a10 W10 hi10=>?_;refine It.exk (m:=0) (l:=[0,1,35,36,37]) (vs:=yw l r n c k) (h:=h44 n near nx) (l':=[0,1,35,36,37]) (vs':=yw l r n c (i64.wrap ((k:Int)+1))) (h':=h44 n near nx) (e:=.normal) qv qf (by decide +kernel) (by kernel_rfl) (by kernel_rfl) (hJ _) hi10 fun X11 g11 a11 W11 hi11=>?_;rw[ew1] at hi11;have e1:(fl r n k).length+1=(fl r n (k+1)).length:=by rw[JM,if_pos hab2];simp
    rw[e1] at hi11;exact⟨n-(k+1),by omega,k+1,X11,g11,by omega,rfl,hi11⟩
   ·refine It.exk (m:=0) (l:=[0,1,35,36,37,61]) (vs:=yw l r n c k++[.bool true]) (h:=h44 n near nx) (l':=[]) (vs':=[]) (h':=h44 n near nx) (e:=.ret) qv qf (by decide +kernel) (by kernel_rfl) (by kernel_rfl) (hJx _) hi9 fun X10 g10 a10 W10 hi10=>?_;exact⟨.inr rfl,X10,g10,_,.inr ⟨_,hlen,hi10⟩⟩
  ·refine It.exk (m:=0) (l:=[0,1,6,7,35,36,37]) (vs:=[.yld l,.vp [qB r n c],iI k,iI (nx k),.own 1 0 0 n (some n),iI n,iI k]) (h:=h44 n near nx) (l':=[0,1,35,36,37,61]) (vs':=yw l r n c k++[.bool false]) (h':=h44 n near nx) (e:=.normal) qv qf (by decide +kernel) (Eq.trans (b:=bif decide (i64.wrap ((k:Int)+1)<nx k) then bif decide ((0:Int)<=(k:Int))&&decide ((k:Int)<n) then none else none else some (.normal,yw l r n c k++[.bool false],h44 n near nx)) (by kernel_rfl) ?_) (by kernel_rfl) (hJ _) hi8 fun X9 g9 a9 W9 hi9=>?_
   ·rw[ew1,dF hab];rfl
   ·refine It.exk (m:=0) (l:=[0,1,35,36,37,61]) (vs:=yw l r n c k++[.bool false]) (h:=h44 n near nx) (l':=[0,1,35,36,37]) (vs':=yw l r n c k) (h':=h44 n near nx) (e:=.normal) qv qf (by decide +kernel) (by kernel_rfl) (by kernel_rfl) (hJ _) hi9 fun X10 g10 a10 W10 hi10=>?_;refine It.exk (m:=0) (l:=[0,1,35,36,37]) (vs:=yw l r n c k) (h:=h44 n near nx) (l':=[0,1,35,36,37]) (vs':=yw l r n c (i64.wrap ((k:Int)+1))) (h':=h44 n near nx) (e:=.normal) qv qf (by decide +kernel) (by kernel_rfl) (by kernel_rfl) (hJ _) hi10 fun X11 g11 a11 W11 hi11=>?_;rw[ew1] at hi11;have e1:fl r n k=fl r n (k+1):=by rw[JM,if_neg (by rw[←hnx k];exact hab)]
    rw[e1] at hi11;exact⟨n-(k+1),by omega,k+1,X11,g11,by omega,rfl,hi11⟩
 ·obtain rfl:k=n:=by omega
  refine It.exk (m:=0) (l:=[0,1,35,36,37]) (vs:=yw l r k c k) (h:=h44 k near nx) (l':=[38]) (vs':=[.bool false]) (h':=h44 k near nx) (e:=.normal) qv qf (by decide +kernel) (Eq.trans (b:=bif decide ((k:Int)<(k:Int)) then some (.normal,[.bool true],h44 k near nx) else some (.normal,[.bool false],h44 k near nx)) (by kernel_rfl) (by rw[decide_eq_false hlt];rfl)) (by kernel_rfl) (hJ _) hi5 fun X6 g6 a6 W6 hi6=>?_;refine wpIn_seq ?_;refine It.exk (m:=0) (l:=[38]) (vs:=[.bool false]) (h:=h44 k near nx) (l':=[]) (vs':=[]) (h':=h44 k near nx) (e:=.exit 2) qv qf (by decide +kernel) (by kernel_rfl) (by kernel_rfl) (hJ _) hi6 fun X7 g7 a7 W7 hi7=>?_;exact⟨.inl rfl,X7,g7,_,.inl hi7⟩
end Go.Ab

