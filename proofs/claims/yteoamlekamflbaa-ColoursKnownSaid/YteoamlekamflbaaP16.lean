/- A part of the proof: nothing is assumed. -/
import Derived.Test.YteoamlekamflbaaP14
import Derived.Test.YteoamlekamflbaaP15
import Derived.Test.YteoamlekamflbaaP12
import Derived.Test.YteoamlekamflbaaP13
import Derived.Test.YteoamlekamflbaaP11
set_option linter.all false
namespace Go.Ab
open IntKind(i64 u8)
open Int(ofNat)
open Go.Proofs
theorem r32(v m n a b:Nat)(R:Nat->Nat->Int)(ln:Nat->Nat)(rc:Nat->Option Nat):qy P18 G18 A18 qk 0 32 [] (nav [0,0,2]) [0,2,3] [.own 0 v 0 n none,iI (a:Nat),iI (b:Nat)] [pcB v m R ln rc] [0,2,3] =
( bif decide (ofNat a<ofNat b) then gD (v==v&&true)<|gD (decide (0<=ofNat b)&&decide (ofNat b<ofNat n))<|gD (v==v&&true)<|gD (((0:Nat)+b).blt m)<|gD (v==v&&true)<|gD (decide (0<=ofNat a)&&decide (ofNat a<ofNat n))<|gD (v==v&&true)<|gD (((0:Nat)+a).blt m)<|gD (v==v&&true)<|gD (decide (0<=ofNat a)&&decide (ofNat a<ofNat n))<|gD (v==v&&true)<|gD (((0:Nat)+a).blt m&&true&&true&&true)<|gD (v==v&&true)<|gD (decide (0<=ofNat b)&&decide (ofNat b<ofNat n))<|gD (v==v&&true)<|gD (((0:Nat)+b).blt m&&true&&true&&true)<|zN [.own 0 v 0 n
 none,iI (i64.wrap (ofNat a+1)),iI (i64.wrap (ofNat b-1))] [.mk v 1 m (fun e=>[bif e==0+b then qB (R (0+a)) (ln (0+a)) (rc (0+a))
 else
 bif e==0+a then qB (R (0+b)) (ln (0+b)) (rc (0+b))
 else qB (R e) (ln e) (rc e)]) false false
 none] else
 zX 0 [.own 0 v 0 n
 none,iI (.ofNat a),iI (.ofNat b)] [pcB v m R ln rc]):=by kernel_rfl
theorem qoJ(v m n:Nat)(R:Nat->Nat->Int)(ln:Nat->Nat)(rc:Nat->Option Nat):qy P18 G18 A18 qk 0 32 [] (nav [1]) [0] [.own 0 v 0 n none] [pcB v m R ln rc] [0,2,3] =
( gD (v==v&&true)<|zN [.own 0 v 0 n
 none,iI 0,iI (i64.wrap (ofNat n-1))] [pcB v m R ln rc]):=by kernel_rfl
def sgR(n i j:Nat):Nat:=if j<i∨(n<=j+i/\j<n) then n-1-j else j
theorem qoK(v m n:Nat)(R:Nat->Nat->Int)(ln:Nat->Nat)(rc:Nat->Option Nat)(h1:1<=n)(hm:n<=m)(hb:m<=100000) :
 ToldRef P18 G18 32 [.own 0 v 0 n none] [pcB v m R ln rc] (.tup []) [pcB v m (fun j=>R (sgR n (n/2) j)) (fun j=>ln (sgR n (n/2) j)) (fun j=>rc (sgR n (n/2) j))]:=by
 have hl:Pz P18 G18 A18 32 [pcB v m R ln rc] [0,2] [0,2,3] [.own 0 v 0 n none,iI (0:Nat),iI ((n-1-0:Nat):Int)] [pcB v m (fun j=>R (sgR n 0 j)) (fun j=>ln (sgR n 0 j)) (fun j=>rc (sgR n 0 j))] (.exit 0) [0,2,3] [.own 0 v 0 n none,iI ((n/2:Nat):Int),iI ((n-1-n/2:Nat):Int)] [pcB v m (fun j=>R (sgR n (n/2) j)) (fun j=>ln (sgR n (n/2) j)) (fun j=>rc (sgR n (n/2) j))]:=by
  refine Pz.count (by kernel_rfl) (fun i=>[.own 0 v 0 n none,iI (i:Nat),iI ((n-1-i:Nat):Int)]) (fun i=>[pcB v m (fun j=>R (sgR n i j)) (fun j=>ln (sgR n i j)) (fun j=>rc (sgR n i j))]) (n:=n/2) (by simp) (fun i hi=>?_) ?_
  ·have hi:i<n/2:=hi;have c:=r32 v m n i (n-1-i) (fun j=>R (sgR n i j)) (fun j=>ln (sgR n i j)) (fun j=>rc (sgR n i j));have e1:i64.wrap (ofNat i+1)=((i+1:Nat):Int):=up1 (by omega);have e2:i64.wrap (ofNat (n-1-i)-1)=((n-1-(i+1):Nat):Int):=by
    rw[qI (by rw[qn];omega) (by rw[qn];omega),qn];omega
   rw[e1,e2] at c;have bb:(v==v&&true)=true:=by simp
   have b1:(decide ((0:Int)<=ofNat (n-1-i))&&decide (ofNat (n-1-i)<ofNat n))=true:=by simp;omega
   have b2:Nat.blt (0+(n-1-i)) m=true:=Qy (by omega);have b3:(decide ((0:Int)<=ofNat i)&&decide (ofNat i<ofNat n))=true:=by simp;omega
   have b4:Nat.blt (0+i) m=true:=Qy (by omega);have b5:(Nat.blt (0+i) m&&true&&true&&true)=true:=by rw[b4];rfl
   have b6:(Nat.blt (0+(n-1-i)) m&&true&&true&&true)=true:=by rw[b2];rfl
   have b0:decide (ofNat i<ofNat (n-1-i))=true:=by simp;omega
   have c2:=c.trans (qm b0 (qm bb (qm b1 (qm bb (qm b2 (qm bb (qm b3 (qm bb (qm b4 (qm bb (qm b3 (qm bb (qm b5 (qm bb (qm b1 (qm bb (qm b6 rfl)))))))))))))))));refine Pz.post (Pz.run qv qf (m:=0) (by kernel_rfl) qh c2) fun nt=>.same (.cons ⟨rfl,rfl,rfl,id,fun e he=>?_⟩ .nil);have he:e<m:=he;show [qB (R (sgR n (i+1) e)) (ln (sgR n (i+1) e)) (rc (sgR n (i+1) e))]=[bif e==0+(n-1-i) then qB (R (sgR n i (0+i))) (ln (sgR n i (0+i))) (rc (sgR n i (0+i))) else bif e==0+i then qB (R (sgR n i (0+(n-1-i)))) (ln (sgR n i (0+(n-1-i)))) (rc (sgR n i (0+(n-1-i)))) else qB (R (sgR n i e)) (ln (sgR n i e)) (rc (sgR n i e))];rw[Nat.zero_add,Nat.zero_add];by_cases q1:e=n-1-i
   ·rw[show(e==n-1-i)=true by simpa using q1,cond_true,show sgR n (i+1) e=sgR n i i by unfold sgR;rw[if_pos (by omega),if_neg (by omega)];omega]
   ·rw[show(e==n-1-i)=false by simpa using q1,cond_false];by_cases q2:e=i
    ·rw[show(e==i)=true by simpa using q2,cond_true,show sgR n (i+1) e=sgR n i (n-1-i) by unfold sgR;rw[if_pos (by omega),if_neg (by omega)];omega]
    ·have e3:sgR n (i+1) e=sgR n i e:=by
      unfold sgR;by_cases q3:e<i∨(n<=e+i/\e<n)
      ·rw[if_pos q3,if_pos (by omega)]
      ·rw[if_neg q3,if_neg (by omega)]
     rw[show(e==i)=false by simpa using q2,cond_false,e3]
  ·have c:=r32 v m n (n/2) (n-1-n/2) (fun j=>R (sgR n (n/2) j)) (fun j=>ln (sgR n (n/2) j)) (fun j=>rc (sgR n (n/2) j));have b0:¬decide (ofNat (n/2)<ofNat (n-1-n/2))=true:=by simp;omega
   exact Pz.run qv qf (m:=0) (by kernel_rfl) qh (c.trans (qZ b0 rfl))
 have s0:=qoJ v m n R ln rc;have e0:i64.wrap (ofNat n-1)=((n-1-0:Nat):Int):=by
  rw[qI (by rw[qn];omega) (by rw[qn];omega),qn];omega
 rw[e0] at s0;have s1:=s0.trans (qm (by simp) rfl);have z:sgR n 0=fun j=>j:=by
  funext j;unfold sgR;rw[if_neg (by omega)]
 rw[z] at hl;exact Pz.toldRefN q9 Try.func32 (by kernel_rfl) (by kernel_rfl) (l:=[0]) rfl (Pz.seq (by kernel_rfl) (Pz.run qv qf (m:=0) (by kernel_rfl) qh s1) (Pz.blk (id:=0) (by kernel_rfl) rfl (Pz.only hl (l2:=[]) rfl))) (by kernel_rfl)
def qoL(a b:List UInt8)(f:Bool)(_:List T):Option T:=some (.tup [.str a,.str b,.bool f])
theorem u1(c:UInt8)(t:List UInt8)(v m n:Nat)(R:Nat->Nat->Int)(ln:Nat->Nat)(rc:Nat->Option Nat):qy P18 G18 A18 qk 0 19 [] (nav [1,0,0,1,2,2]) [0,4] [.str (c::t),.own 0 v 0 n none] [pcB v m R ln rc] [0,4] =
( zN [.str (c::t),.own 0 v 0 n
 none] [pcB v m R ln rc]):=by kernel_rfl
theorem u2(p:List T->T->Prop)(s a b:List UInt8)(f:Bool)(v m n:Nat)(R:Nat->Nat->Int)(ln:Nat->Nat)(rc:Nat->Option Nat):qy P18 G18 A18 (qk.add 31 (qL p (qoL a b f))) 0 19 [] (nav [1,0,2,0,0,1,2,2]) [0,4] [.str s,.own 0 v 0 n none] [pcB v m R ln rc] [4,5,6,7] =
( gD (qF (p [.str s,.str [(10:UInt8)]] (.tup [.str a,.str b,.bool f])))<|bif f then zN [.own 0 v 0 n
 none,.str a,.str b,.bool true] [pcB v m R ln rc] else
 zN [.own 0 v 0 n
 none,.str a,.str b,.bool false] [pcB v m R ln rc]):=by kernel_rfl
theorem u3(a b:List UInt8)(v m n:Nat)(R:Nat->Nat->Int)(ln:Nat->Nat)(rc:Nat->Option Nat):qy P18 G18 A18 qk 0 19 [] (nav [1,2,0,2,0,0,1,2,2]) [4,5,6,7] [.own 0 v 0 n none,.str a,.str b,.bool true] [pcB v m R ln rc] [4,5,6] =
( zN [.own 0 v 0 n
 none,.str a,.str b] [pcB v m R ln rc]):=by kernel_rfl
theorem u6(a b:List UInt8)(v m n:Nat)(R:Nat->Nat->Int)(ln:Nat->Nat)(rc:Nat->Option Nat):qy P18 G18 A18 qk 0 19 [] (nav [1,2,2,0,2,0,0,1,2,2]) [4,5,6] [.own 0 v 0 n none,.str a,.str b] [pcB v m R ln rc] [4,5,6,8] =
( gD (decide (0<=ofNat a.length)&&decide (ofNat a.length<=ofNat a.length)&&decide (ofNat a.length*1<=140737488355328)&&decide (ofNat a.length<=9223372036854775807))<|zN [.own 0 v 0 n
 none,.str a,.str b,.own 1 0 0 a.length (some a.length)] [pcB v m R ln rc,rbk a.length fun j=>(0:Int)]):=by kernel_rfl
theorem u8f(a b:List UInt8)(l i:Nat)(x:Nat->Int)(v m n:Nat)(R:Nat->Nat->Int)(ln:Nat->Nat)(rc:Nat->Option Nat):qy P18 G18 A18 qk 0 19 [] (nav [0,0,2,1,2,2,2,0,2,0,0,1,2,2]) [4,5,6,8,24,25] [.own 0 v 0 n none,.str a,.str b,.own 1 0 0 l (some l),iI (l:Nat),iI (i:Nat)] [pcB v m R ln rc,rbk l x] [4,5,6,8,24,25] =
( bif decide (ofNat i<ofNat l) then gD (decide (0<=ofNat i)&&decide (ofNat i<ofNat a.length))<|gD (decide (0<=ofNat i)&&decide (ofNat i<ofNat l))<|gD (((0:Nat)+i).blt l&&true&&true&&true)<|zN [.own 0 v 0 n
 none,.str a,.str b,.own 1 0 0 l (some l),iI (.ofNat l),iI (i64.wrap (ofNat i+1))] [pcB v m R ln rc,rbk l fun j =>
 bif j==0+i then u8.wrap (ofNat (a.getD i (0:UInt8)).toNat-48)
 else x j] else
 zX 2 [.own 0 v 0 n
 none,.str a,.str b,.own 1 0 0 l (some l),iI (.ofNat l),iI (.ofNat i)] [pcB v m R ln rc,rbk l x]):=by kernel_rfl
theorem u12(b:List UInt8)(l k:Nat)(v m n:Nat)(R:Nat->Nat->Int)(ln:Nat->Nat)(rc:Nat->Option Nat)(x:Nat->Int):qy P18 G18 A18 qk 0 19 [] (nav [1,2,2,2,2,0,2,0,0,1,2,2]) [4,6,8] [.own 0 v 0 n none,.str b,.view 1 l (fun j=>[uI (x j)]) (some k)] [pcB v m R ln rc] [4,6] =
( gD (v==v&&true)<|gD (((0:Nat)+n).ble m)<|gD (((n+(1:Nat))*(25:Nat)).ble 70368744177664)<|bif ((0:Nat)+n+(1:Nat)).ble m then zN [.own 0 v 0 (n+1)
 none,.str b] [.mk v 1 m (fun j =>
 bif ((0:Nat)+n).ble j&&j.blt (0+n+1) then [[qB x l (some k)]].getD ((0:Nat)+(j-(0+n))) []
 else pcG R ln rc j) false false
 none,.mk 0 1 1 (fun j=>[[qB x l (some k)]].getD j []) false true
 none] else
 zN [.own 0 (v+1) (0:Nat) (n+1)
 none,.str b] [.mk (v+1) (1:Nat) (n+1) (fun j =>
 bif j.blt n then pcG R ln rc (0+j)
 else [[qB x l (some k)]].getD ((0:Nat)+(j-n)) []) false false
 none,.mk 0 1 1 (fun j=>[[qB x l (some k)]].getD j []) false true
 none]):=by kernel_rfl
theorem u7(a b:List UInt8)(l:Nat)(x:Nat->Int)(v m n:Nat)(R:Nat->Nat->Int)(ln:Nat->Nat)(rc:Nat->Option Nat):qy P18 G18 A18 qk 0 19 [] (nav [1,1,2,2,2,0,2,0,0,1,2,2]) [4,5,6,8] [.own 0 v 0 n none,.str a,.str b,.own 1 0 0 l (some l)] [pcB v m R ln rc,rbk l x] [4,5,6,8,24,25] =
( zN [.own 0 v 0 n
 none,.str a,.str b,.own 1 0 0 l (some l),iI (.ofNat l),iI 0] [pcB v m R ln rc,rbk l x]):=by kernel_rfl
theorem u13(b:List UInt8)(v m n:Nat)(R:Nat->Nat->Int)(ln:Nat->Nat)(rc:Nat->Option Nat):qy P18 G18 A18 qk 0 19 [] (nav [2,2,2,2,2,0,2,0,0,1,2,2]) [4,6] [.own 0 v 0 n none,.str b] [pcB v m R ln rc] [0,4] =
( zN [.str b,.own 0 v 0 n
 none] [pcB v m R ln rc]):=by kernel_rfl
def dig(a:List UInt8)(j:Nat):Int:=u8.wrap (ofNat (a.getD j 0).toNat-48)
def Yh(a:List UInt8)(i j:Nat):Int:=if j<i then dig a j else 0
theorem qlS(a b:List UInt8)(v m n:Nat)(R:Nat->Nat->Int)(ln:Nat->Nat)(rc:Nat->Option Nat)(ha:a.length<=1000000) :
 Pz P18 G18 A18 19 [] [0,2,1,2,2,2,0,2,0,0,1,2,2] [4,5,6,8,24,25] [.own 0 v 0 n none,.str a,.str b,.own 1 0 0 a.length (some a.length),iI (a.length:Nat),iI (0:Nat)] [pcB v m R ln rc,rbk a.length (Yh a 0)] (.exit 2) [4,5,6,8,24,25]
  [.own 0 v 0 n none,.str a,.str b,.own 1 0 0 a.length (some a.length),iI (a.length:Nat),iI (a.length:Nat)] [pcB v m R ln rc,rbk a.length (Yh a a.length)]:=by
 refine Pz.count (by kernel_rfl) (fun i=>[.own 0 v 0 n none,.str a,.str b,.own 1 0 0 a.length (some a.length),iI (a.length:Nat),iI (i:Nat)]) (fun i=>[pcB v m R ln rc,rbk a.length (Yh a i)]) (n:=a.length) (by simp) (fun i hi=>?_) ?_
 ·have hi:i<a.length:=hi;have c:=u8f a b a.length i (Yh a i) v m n R ln rc;rw[up1 (by omega)] at c;have b1:decide (ofNat i<ofNat a.length)=true:=by simp;omega
  have b2:(decide ((0:Int)<=ofNat i)&&decide (ofNat i<ofNat a.length))=true:=by simp;omega
  have b3:(Nat.blt (0+i) a.length&&true&&true&&true)=true:=by rw[Qy (by omega)];rfl
  refine Pz.post (Pz.run qv qf (m:=0) (by kernel_rfl) qh (c.trans (qm b1 (qm b2 (qm b2 (qm b3 rfl)))))) fun nt=>.same (.cons ⟨rfl,rfl,rfl,id,fun _ _=>rfl⟩ (.cons ⟨rfl,rfl,rfl,id,fun j hj=>?_⟩ .nil));show [uI (Yh a (i+1) j)]=[uI (bif j==0+i then dig a i else Yh a i j)];rw[Nat.zero_add];by_cases q:j=i
  ·rw[show(j==i)=true by simpa using q,cond_true,q,Yh,if_pos (by omega)]
  ·rw[show(j==i)=false by simpa using q,cond_false];unfold Yh;by_cases q2:j<i
   ·rw[if_pos (by omega),if_pos q2]
   ·rw[if_neg (by omega),if_neg q2]
 ·have c:=u8f a b a.length a.length (Yh a a.length) v m n R ln rc;exact Pz.run qv qf (m:=0) (by kernel_rfl) qh (c.trans (qZ (by simp) rfl))
def zm(a:List UInt8)(j:Nat):Int:=Yh a a.length (0+j)
def exR(n:Nat)(R:Nat->Nat->Int)(a:List UInt8)(j:Nat):Nat->Int:=if j<n then R j else zm a
def exL(n:Nat)(ln:Nat->Nat)(a:List UInt8)(j:Nat):Nat:=if j<n then ln j else a.length
def exC(n:Nat)(rc:Nat->Option Nat)(a:List UInt8)(j:Nat):Option Nat:=if j<n then rc j else some a.length
theorem qoM(n l:Nat)(x:Nat->Int)(R:Nat->Nat->Int)(ln:Nat->Nat)(rc:Nat->Option Nat):some (ren [0] [pcB n n R ln rc,rbk l x] (.own 1 0 0 l (some l))) =
( some (bif ((0:Nat)+l).ble l then zn l fun j=>x (0+j)
 else .undef)):=by kernel_rfl
theorem qhL(c:UInt8)(t a b:List UInt8)(n:Nat)(R:Nat->Nat->Int)(ln:Nat->Nat)(rc:Nat->Option Nat)(hn:n<=1000000)(hs:(c::t).length<=1000000)(ha:a.length<=1000000)(hc:ya (c::t)=(a,b,true)) :
 Pz P18 G18 A18 19 [] [0,0,1,2,2] [0,4] [.str (c::t),.own 0 n 0 n none] [pcB n n R ln rc] .normal [0,4] [.str b,.own 0 (n+1) 0 (n+1) none] [pcB (n+1) (n+1) (exR n R a) (exL n ln a) (exC n rc a)]:=by
 obtain⟨p,hp⟩:∃p:List T->T->Prop,p=ToldOk P18 G18 31:=⟨_,rfl⟩;have t31:=qk2 (c::t) hs;unfold qhd at t31;rw[hc] at t31;have z:(fun _=>(0:Int))=Yh a 0:=by funext j;simp[Yh]
 have w6:=u6 a b n n n R ln rc;rw[z] at w6;have k6:=w6.trans (qm (by simp;omega) rfl);have k2:=(u2 p (c::t) a b true n n n R ln rc).trans (qm (qp hp t31) rfl);have bb:(n==n&&true)=true:=by simp
 have b1:Nat.ble (0+n) n=true:=QZ (by omega);have b2:Nat.ble ((n+1)*25) 70368744177664=true:=QZ (by omega);have b3:¬Nat.ble (0+n+1) n=true:=by rw[qa2 (by omega)];simp
 have r1:ren [0] [pcB n n R ln rc,rbk a.length (Yh a a.length)] (.own 1 0 0 a.length (some a.length)) = .view 1 a.length (fun j=>[uI (zm a j)]) (some a.length):=by
  have q:=qoM n a.length (Yh a a.length) R ln rc;rw[QZ (show 0+a.length<=a.length by omega)] at q;exact Option.some.inj q
 have k12:=(u12 b a.length a.length n n n R ln rc (zm a)).trans (qm bb (qm b1 (qm b2 (qZ b3 rfl))));refine Pz.seq (by kernel_rfl) (Pz.run qv qf (m:=0) (by kernel_rfl) qh (u1 c t n n n R ln rc)) (Pz.blk (id:=1) (e:=.normal) (by kernel_rfl) rfl ?_);refine Pz.seq (by kernel_rfl) (Pz.run qv (qq qf (qj hp)) (m:=0) (by kernel_rfl) qh k2) (Pz.seq (by kernel_rfl) (Pz.run qv qf (m:=0) (by kernel_rfl) qh (u3 a b n n n R ln rc)) ?_);refine Pz.seq (by kernel_rfl) (Pz.run qv qf (m:=0) (by kernel_rfl) qh k6) (Pz.seq (by kernel_rfl) (l1:=[4,6,8]) (v1:=[.own 0 n 0 n none,.str b,.view 1 a.length (fun j=>[uI (zm a j)]) (some a.length)]) (h1:=[pcB n n R ln rc]) ?_ ?_)
 ·refine Pz.seq (by kernel_rfl) (Pz.run qv qf (m:=0) (by kernel_rfl) qh (u7 a b a.length (Yh a 0) n n n R ln rc)) (Pz.blk (id:=2) (by kernel_rfl) rfl (Pz.post (Pz.only (qlS a b n n n R ln rc ha) (l2:=[4,6,8]) rfl) fun nt=>.canonS [0] rfl (by
   show [ren [0] [pcB n n R ln rc,rbk a.length (Yh a a.length)] (.own 0 n 0 n none),ren [0] [pcB n n R ln rc,rbk a.length (Yh a a.length)] (.str b),ren [0] [pcB n n R ln rc,rbk a.length (Yh a a.length)] (.own 1 0 0 a.length (some a.length))]=_;rw[r1];rfl) rfl (.cons ⟨rfl,rfl,rfl,id,fun _ _=>rfl⟩ .nil)))
 ·refine Pz.seq (by kernel_rfl) (Pz.post (Pz.run qv qf (m:=0) (by kernel_rfl) qh k12) (v2:=[.own 0 (n+1) 0 (n+1) none,.str b]) (h2:=[pcB (n+1) (n+1) (exR n R a) (exL n ln a) (exC n rc a)]) fun nt=>.canonS [0] rfl rfl rfl (.cons ⟨rfl,rfl,rfl,id,fun j hj=>?_⟩ .nil)) (Pz.run qv qf (m:=0) (by kernel_rfl) qh (u13 b (n+1) (n+1) (n+1) (exR n R a) (exL n ln a) (exC n rc a)));have hj:j<n+1:=hj;show pcG (exR n R a) (exL n ln a) (exC n rc a) j=List.map (QN [0] _) (bif Nat.blt j n then pcG R ln rc (0+j) else [[qB (zm a) a.length (some a.length)]].getD (0+(j-n)) []);unfold pcG exR exL exC;by_cases q:j<n
  ·rw[Qy q,cond_true,Nat.zero_add,if_pos q,if_pos q,if_pos q];rfl
  ·obtain rfl:j=n:=by omega
   rw[Zg (Nat.le_refl _),cond_false,Nat.sub_self,if_neg q,if_neg q,if_neg q];rfl
inductive Lines:List UInt8->List (List UInt8)->Prop
 |nil:Lines [] []
 |cons (c:UInt8) (t a b:List UInt8) (L:List (List UInt8)) (h:ya (c::t)=(a,b,true)) (tl:Lines b L):Lines (c::t) (a::L)
def rwL(L:List (List UInt8))(j:Nat):List UInt8:=L.getD j []
def RL(L:List (List UInt8))(j:Nat):Nat->Int:=zm (rwL L j)
def lL(L:List (List UInt8))(j:Nat):Nat:=(rwL L j).length
def cL(L:List (List UInt8))(j:Nat):Option Nat:=some (rwL L j).length
theorem qga{s a b:List UInt8}{f:Bool}(h:ya s=(a,b,f)):a.length<=s.length/\b.length<=s.length:=by
 rcases kT s with⟨_,h2⟩|⟨i,_,h2,h3⟩
 ·rw[h] at h2;simp only[Prod.mk.injEq] at h2;obtain⟨rfl,rfl,_⟩:=h2;simp
 ·rw[h] at h3;simp only[Prod.mk.injEq] at h3;obtain⟨rfl,rfl,_⟩:=h3;simp only[List.length_take,List.length_drop];omega
theorem u0(v m n:Nat)(R:Nat->Nat->Int)(ln:Nat->Nat)(rc:Nat->Option Nat):qy P18 G18 A18 qk 0 19 [] (nav [1,0,0,1,2,2]) [0,4] [.str [],.own 0 v 0 n none] [pcB v m R ln rc] [4] =
( zX 0 [.own 0 v 0 n
 none] [pcB v m R ln rc]):=by kernel_rfl
theorem qlT(L:List (List UInt8))(s:List UInt8)(hL:Lines s L)(hs:s.length<=1000000)(hl:L.length<=1000000) :
 Pz P18 G18 A18 19 [] [0,1,2,2] [0,4] [.str s,.own 0 0 0 0 none] [pcB 0 0 (RL L) (lL L) (cL L)] (.exit 0) [4] [.own 0 L.length 0 L.length none] [pcB L.length L.length (RL L) (lL L) (cL L)]:=by
 obtain⟨e',vs',h',⟨rfl,rfl,rfl⟩,q⟩:=Pz.loop (P:=P18) (G:=G18) (A:=A18) (f:=19) (h0:=[]) (p:=[0,1,2,2]) (l:=[0,4]) (l1:=[4]) (by kernel_rfl)
  (fun m vs h=>∃n s,Lines s (L.drop n)/\m=L.length-n/\n<=L.length/\s.length<=1000000/\vs=[.str s,.own 0 n 0 n none]/\h=[pcB n n (RL L) (lL L) (cL L)])
  (fun e' vs' h'=>e' = .exit 0/\vs'=[.own 0 L.length 0 L.length none]/\h'=[pcB L.length L.length (RL L) (lL L) (cL L)]) (fun m vs h hI=>by
  obtain⟨n,s,hLn,rfl,hn,hsl,rfl,rfl⟩:=hI;generalize hM:L.drop n=M at hLn;cases hLn with
  |nil =>
   have:n=L.length:=by
    have:=List.drop_eq_nil_iff.1 hM;omega
   subst this;exact .inr ⟨.exit 0,_,_,by simp,Pz.seqX (by kernel_rfl) (by simp) (Pz.run qv qf (m:=0) (by kernel_rfl) qh (u0 L.length L.length L.length (RL L) (lL L) (cL L))),rfl,rfl,rfl⟩
  |cons c t a b M2 hc tl =>
   obtain⟨k1,k2⟩:=qga hc;have hlt:n<L.length:=by
    rcases Nat.lt_or_ge n L.length with q|q
    ·exact q
    ·rw[List.drop_eq_nil_of_le q] at hM;cases hM
   have ha:rwL L n=a:=by
    have e:(L.drop n)[0]?=L[n]?:=by rw[List.getElem?_drop,Nat.add_zero]
    rw[hM] at e;unfold rwL;rw[List.getD_eq_getElem?_getD,←e];rfl
   have h2:L.drop (n+1)=M2:=by
    rw[←List.drop_drop,hM];rfl
   refine .inl ⟨L.length-(n+1),[.str b,.own 0 (n+1) 0 (n+1) none],[pcB (n+1) (n+1) (RL L) (lL L) (cL L)],by omega,?_,n+1,b,by rw[h2];exact tl,rfl,by omega,by omega,rfl,rfl⟩;refine Pz.post (qhL c t a b n (RL L) (lL L) (cL L) (by omega) hsl (by omega) hc) fun nt=>.same (.cons ⟨rfl,rfl,rfl,id,fun j hj=>?_⟩ .nil);have hj:j<n+1:=hj;show pcG (RL L) (lL L) (cL L) j=pcG (exR n (RL L) a) (exL n (lL L) a) (exC n (cL L) a) j;unfold pcG exR exL exC;by_cases q:j<n
   ·rw[if_pos q,if_pos q,if_pos q]
   ·obtain rfl:j=n:=by omega
    rw[if_neg q,if_neg q,if_neg q];unfold RL lL cL;rw[ha]) (n:=L.length-0) ⟨0,s,hL,rfl,Nat.zero_le _,hs,rfl,rfl⟩
 exact q
inductive NoLines:List UInt8->Prop
 |here (c:UInt8) (t:List UInt8) (h:ya (c::t)=(c::t,[],false)):NoLines (c::t)
 |step (c:UInt8) (t a b:List UInt8) (h:ya (c::t)=(a,b,true)) (tl:NoLines b):NoLines (c::t)
theorem qhM{s a b:List UInt8}(h:ya s=(a,b,true)):b.length<s.length:=by
 rcases kT s with⟨_,h2⟩|⟨i,_,h2,h3⟩
 ·rw[h] at h2;simp at h2
 ·rw[h] at h3;simp only[Prod.mk.injEq] at h3;obtain⟨rfl,rfl,_⟩:=h3;simp only[List.length_drop];omega
theorem qgb:∀(n:Nat) (s:List UInt8),s.length<=n->(∃L,Lines s L/\L.length<=s.length)∨NoLines s
 |_,[],_=>.inl ⟨[],.nil,Nat.le_refl _⟩
 |0,c::t,h=>by simp at h
 |n+1,c::t,h=>by
  rcases kT (c::t) with⟨_,h2⟩|⟨i,_,h2,h3⟩
  ·exact .inr (.here c t h2)
  ·have hb:=qhM h3;rcases qgb n ((c::t).drop (i+1)) (by omega) with⟨L,h4,h5⟩|h4
   ·exact .inl ⟨_,.cons c t _ _ L h3 h4,by simp only[List.length_cons] at *;omega⟩
   ·exact .inr (.step c t _ _ h3 h4)
theorem u3f(a b:List UInt8)(v m n:Nat)(R:Nat->Nat->Int)(ln:Nat->Nat)(rc:Nat->Option Nat):qy P18 G18 A18 qk 0 19 [] (nav [1,2,0,2,0,0,1,2,2]) [4,5,6,7] [.own 0 v 0 n none,.str a,.str b,.bool false] [pcB v m R ln rc] [2,3] =
( zR [.nils,iI 4] [pcB v m R ln rc]):=by kernel_rfl
theorem qkF(s:List UInt8)(hL:NoLines s)(hs:s.length<=1000)(R:Nat->Nat->Int)(ln:Nat->Nat)(rc:Nat->Option Nat) :
 ∃h1,Pz P18 G18 A18 19 [] [0,1,2,2] [0,4] [.str s,.own 0 0 0 0 none] [pcB 0 0 R ln rc] .ret [2,3] [.nils,iI 4] h1:=by
 obtain⟨e',vs',h',⟨rfl,rfl⟩,q⟩:=Pz.loop (P:=P18) (G:=G18) (A:=A18) (f:=19) (h0:=[]) (p:=[0,1,2,2]) (l:=[0,4]) (l1:=[2,3]) (by kernel_rfl)
  (fun m vs h=>∃n s R ln rc,NoLines s/\m=s.length/\n+s.length<=1000/\vs=[.str s,.own 0 n 0 n none]/\h=[pcB n n R ln rc])
  (fun e' vs' _=>e' = .ret/\vs'=[.nils,iI 4]) (fun m vs h hI=>by
  obtain⟨n,s,R,ln,rc,hN,rfl,hn,rfl,rfl⟩:=hI;cases hN with
  |here c t hc =>
   obtain⟨p,hp⟩:∃p:List T->T->Prop,p=ToldOk P18 G18 31:=⟨_,rfl⟩;have t31:=qk2 (c::t) (by omega);unfold qhd at t31;rw[hc] at t31;have k2:=(u2 p (c::t) (c::t) [] false n n n R ln rc).trans (qm (qp hp t31) (qZ (by simp) rfl));refine .inr ⟨.ret,_,[pcB n n R ln rc],by simp,?_,rfl,rfl⟩;exact Pz.seq (by kernel_rfl) (Pz.run qv qf (m:=0) (by kernel_rfl) qh (u1 c t n n n R ln rc)) (Pz.blk (id:=1) (e:=.ret) (by kernel_rfl) rfl
    (Pz.seq (by kernel_rfl) (Pz.run qv (qq qf (qj hp)) (m:=0) (by kernel_rfl) qh k2) (Pz.seqX (by kernel_rfl) (by simp) (Pz.run qv qf (m:=0) (by kernel_rfl) qh (u3f (c::t) [] n n n R ln rc)))))
  |step c t a b hc tl =>
   obtain⟨k1,k2⟩:=qga hc;have k3:=qhM hc;exact .inl ⟨b.length,_,_,k3,qhL c t a b n R ln rc (by omega) (by omega) (by omega) hc,n+1,b,_,_,_,tl,rfl,by omega,rfl,rfl⟩) (n:=s.length) ⟨0,s,R,ln,rc,hL,rfl,by omega,rfl,rfl⟩
 exact⟨h',q⟩
def qoN(b:Blk)(_:List T)(_:qg):Option (T×qg):=some (.tup [],[b])
theorem e14(p:List T->qg->T->qg->Prop)(v m n:Nat)(R R2:Nat->Nat->Int)(ln l2:Nat->Nat)(rc r2:Nat->Option Nat):qy P18 G18 A18 (qk.addRef 32 (qa4 p (qoN (pcB v m R2 l2 r2)))) 0 19 [] (nav [1,2,2,2]) [4] [.own 0 v 0 n none] [pcB v m R ln rc] [4] =
( gD (qF (p [.own 0 v 0 n
 none] [pcB v m R ln rc] (.tup []) [pcB v m R2 l2 r2]))<|zN [.own 0 v 0 n
 none] [pcB v m R2 l2 r2]):=by kernel_rfl
theorem e15(p:List T->T->Prop)(k:Int)(v m n:Nat)(R:Nat->Nat->Int)(ln:Nat->Nat)(rc:Nat->Option Nat):qy P18 G18 A18 (qk.add 29 (qL p (kS k))) 0 19 [] (nav [1,2,2,2,2]) [4] [.own 0 v 0 n none] [pcB v m R ln rc] [2,3,4] =
( gD (qF (p [bif v==v&&((0:Nat)+n).ble m then pgV (fun i=>R (0+i)) (fun i=>ln (0+i)) n (fun i=>rc (0+i)) none else .undef] (iI k)))<|bif !decide (k=0) then zR [.nils,iI 4,.own 0 v 0 n
 none] [pcB v m R ln rc] else
 zN [.undef,.undef,.own 0 v 0 n
 none] [pcB v m R ln rc]):=by kernel_rfl
theorem e17(v m n:Nat)(R:Nat->Nat->Int)(ln:Nat->Nat)(rc:Nat->Option Nat):qy P18 G18 A18 (qk.inl P18 G18 A18 qk 0 33) 0 19 [] (nav [2,2,2,2,2]) [4] [.own 0 v 0 n none] [pcB v m R ln rc] [2,3] =
( gD (v==v&&true)<|gD (v==v&&true)<|gD (v==v&&true)<|gD (decide (0<=ofNat n)&&decide (ofNat n<=ofNat n)&&decide (ofNat n<=ofNat m))<|zR [.own 0 v 0 n (some n),iI 0] [pcB v m R ln rc]):=by kernel_rfl
theorem qoO(p:List T->T->Prop)(k:Int):QU P18 G18 A18 ((qk.inl P18 G18 A18 qk 1 32).add 29 (qL p (kS k))) 1 19 [.str []] =
( gD (qF (p [.nils] (iI k)))<|gD (!decide (k=0))<|some (.tup [.nils,iI 4])):=by kernel_rfl
theorem zr(n:Nat)(R:Nat->Nat->Int)(ln:Nat->Nat)(rc:Nat->Option Nat):jE P18 G18 (A18 19).prom Try.f19 (qM [2,3] [.own 0 n 0 n (some n),iI 0] [pcB n n R ln rc]) (fun v=>some (jC [pcB n n R ln rc] v)) =
( some (.tup [bif n==n&&((0:Nat)+n).ble n then .fresh false (1:Nat) n (fun j=>pcG R ln rc (0+j)) n (some n)
 else .undef,iI 0])):=by kernel_rfl
theorem z0(s:List UInt8):qy P18 G18 A18 qk 0 19 [] (nav [1]) [0] [.str s] [] [0] =
( zN [.str s] []):=by kernel_rfl
theorem z1(s:List UInt8):qy P18 G18 A18 qk 0 19 [] (nav [1,2]) [0] [.str s] [] [0,4] =
( zN [.str s,.nils] []):=by kernel_rfl
theorem qe6(s:List UInt8)(R:Nat->Nat->Int)(ln:Nat->Nat)(rc:Nat->Option Nat):Pz P18 G18 A18 19 [] [1,2] [0] [.str s] [] .normal [0,4] [.str s,.own 0 0 0 0 none] [pcB 0 0 R ln rc] :=
 Pz.post (Pz.run qv qf (m:=0) (by kernel_rfl) qh (z1 s)) fun nt=>.gh [pcB 0 0 R ln rc] (fun b hb=>by simp at hb;subst hb;exact⟨rfl,rfl⟩) (.cons (.refl _) (.cons (.inl (.own (b:=pcB 0 0 R ln rc) (Nat.le_refl 0) rfl rfl)) .nil)) (.refl _)
def rvR(L:List (List UInt8))(j:Nat):Nat->Int:=RL L (sgR L.length (L.length/2) (0+j))
def rvL(L:List (List UInt8))(j:Nat):Nat:=lL L (sgR L.length (L.length/2) (0+j))
def rvC(L:List (List UInt8))(j:Nat):Option Nat:=cL L (sgR L.length (L.length/2) (0+j))
theorem qlU(s:List UInt8)(L:List (List UInt8))(hL:Lines s L)(h0:0<L.length)(hs:s.length<=1000)(hl:L.length<=1000)(hll:∀i,i<L.length->rvL L i<=1000)(hR:∀i j,0<=rvR L i j/\rvR L i j<256) :
 ToldOk P18 G18 19 [.str s] (if pcE (rvR L) (rvL L) L.length=0 then .tup [.fresh false 1 L.length (fun j=>pcG (rvR L) (rvL L) (rvC L) j) L.length (some L.length),iI 0] else .tup [.nils,iI 4]):=by
 obtain⟨p,hp⟩:∃p:List T->qg->T->qg->Prop,p=ToldRef P18 G18 32:=⟨_,rfl⟩;obtain⟨q,hq⟩:∃q:List T->T->Prop,q=ToldOk P18 G18 29:=⟨_,rfl⟩;have tr:=qoK L.length L.length L.length (RL L) (lL L) (cL L) h0 (Nat.le_refl _) (by omega);have tc:=JV (rvR L) (rvL L) L.length (rvC L) none (by omega) hll (fun i _ j _=>hR i j);have lp:=qlT L s hL (by omega) (by omega);have k14:=(e14 p L.length L.length L.length (RL L) (fun j=>RL L (sgR L.length (L.length/2) j)) (lL L) (fun j=>lL L (sgR L.length (L.length/2) j)) (cL L) (fun j=>cL L (sgR L.length (L.length/2) j))).trans (qm (Qe hp tr) rfl);have bl:(L.length==L.length&&Nat.ble (0+L.length) L.length)=true:=by rw[QZ (by omega)];simp
 have bb:(L.length==L.length&&true)=true:=by simp
 have k15:=e15 q (pcE (rvR L) (rvL L) L.length) L.length L.length L.length (fun j=>RL L (sgR L.length (L.length/2) j)) (fun j=>lL L (sgR L.length (L.length/2) j)) (fun j=>cL L (sgR L.length (L.length/2) j));rw[bl] at k15;have p0:Pz P18 G18 A18 19 [] [1] [0] [.str s] [] .normal [0] [.str s] []:=Pz.run qv qf (m:=0) (by kernel_rfl) qh (z0 s);have pl:Pz P18 G18 A18 19 [] [1,2,2] [0,4] [.str s,.own 0 0 0 0 none] [pcB 0 0 (RL L) (lL L) (cL L)] .normal [4] [.own 0 L.length 0 L.length none] [pcB L.length L.length (RL L) (lL L) (cL L)]:=Pz.blk (id:=0) (by kernel_rfl) rfl lp;have p14:Pz P18 G18 A18 19 [] [1,2,2,2] [4] [.own 0 L.length 0 L.length none] [pcB L.length L.length (RL L) (lL L) (cL L)] .normal [4] [.own 0 L.length 0 L.length none] [pcB L.length L.length (fun j=>RL L (sgR L.length (L.length/2) j)) (fun j=>lL L (sgR L.length (L.length/2) j)) (fun j=>cL L (sgR L.length (L.length/2) j))]:=Pz.run qv (QL qf (zf hp)) (m:=0) (by kernel_rfl) qh k14;by_cases hz:pcE (rvR L) (rvL L) L.length=0
 ·rw[if_pos hz];rw[hz] at tc k15;have k15:=k15.trans (qm (qp hq tc) (qZ (by simp) rfl));have k17:=(e17 L.length L.length L.length (fun j=>RL L (sgR L.length (L.length/2) j)) (fun j=>lL L (sgR L.length (L.length/2) j)) (fun j=>cL L (sgR L.length (L.length/2) j))).trans (qm bb (qm bb (qm bb (qm (by simp) rfl))));refine Pz.told (A:=A18) q9 Try.func19 (by kernel_rfl) (by kernel_rfl) (l:=[0]) rfl
   (Pz.seq (by kernel_rfl) p0 (Pz.seq (by kernel_rfl) (qe6 s (RL L) (lL L) (cL L)) (Pz.seq (by kernel_rfl) pl (Pz.seq (by kernel_rfl) p14 (Pz.seq (by kernel_rfl) (Pz.only (Pz.run qv (qq qf (qj hq)) (m:=0) (by kernel_rfl) qh k15) (l2:=[4]) rfl) (Pz.run qv (yt qv q9 qf qf) (m:=0) (by kernel_rfl) qh k17)))))) ((zr L.length _ _ _).trans ?_)
  rw[bl];rfl
 ·rw[if_neg hz];have k15:=k15.trans (qm (qp hq tc) (qm (by simpa using hz) rfl));exact Pz.told (A:=A18) q9 Try.func19 (by kernel_rfl) (by kernel_rfl) (l:=[0]) rfl
   (Pz.seq (by kernel_rfl) p0 (Pz.seq (by kernel_rfl) (qe6 s (RL L) (lL L) (cL L)) (Pz.seq (by kernel_rfl) pl (Pz.seq (by kernel_rfl) p14 (Pz.seqX (by kernel_rfl) (by simp) (Pz.only (Pz.run qv (qq qf (qj hq)) (m:=0) (by kernel_rfl) qh k15) (l2:=[2,3]) rfl)))))) rfl
theorem qlV(s:List UInt8)(hL:NoLines s)(hs:s.length<=1000):ToldOk P18 G18 19 [.str s] (.tup [.nils,iI 4]):=by
 obtain⟨h1,lp⟩:=qkF s hL hs (fun _ _=>0) (fun _=>0) (fun _=>none);exact Pz.told (A:=A18) q9 Try.func19 (by kernel_rfl) (by kernel_rfl) (l:=[0]) rfl
  (Pz.seq (by kernel_rfl) (Pz.run qv qf (m:=0) (by kernel_rfl) qh (z0 s)) (Pz.seq (by kernel_rfl) (qe6 s (fun _ _=>0) (fun _=>0) (fun _=>none)) (Pz.seqX (by kernel_rfl) (by simp) (Pz.blk (id:=0) (e:=.ret) (by kernel_rfl) rfl lp)))) rfl
theorem qlW:ToldOk P18 G18 19 [.str []] (.tup [.nils,iI 4]):=by
 obtain⟨p,hp⟩:∃p:List T->T->Prop,p=ToldOk P18 G18 29:=⟨_,rfl⟩;have t:=JV (fun _ _=>0) (fun _=>0) 0 (fun _=>none) none (by omega) (fun i hi=>by omega) (fun i hi=>by omega);rw[show pcE (fun _ _=>0) (fun _=>0) 0=1 from rfl] at t;have t2:ToldOk P18 G18 29 [.nils] (iI 1):=t.sim (.cons (.nilv _ _ (.inl rfl)) .nil);exact qP qv q9 (qq (yt qv q9 qf qf) (qj hp)) (A:=A18) (m:=1) ((qoO p 1).trans (qm (qp hp t2) (qm (by simp) rfl)))
theorem w1(s W:List UInt8)(i k h:Nat)(R:Nat->Nat->Int)(ln:Nat->Nat)(rc:Nat->Option Nat)(c:Option Nat):qy P18 G18 A18 qk 0 6 [] (nav [0,0,2,1,0,1,2,0,0,2,1,2,2,2,2]) [1,5,6,7,8] [.str s,pgV R ln h rc c,.str W,iI (i:Nat),iI (k:Nat)] [] [1,5,6,7,8] =
( gD (decide (0<=ofNat i)&&decide (ofNat i<ofNat h))<|bif decide (ofNat k<ofNat (ln i)) then gD (decide (0<=ofNat i)&&decide (ofNat i<ofNat h))<|gD (decide (0<=ofNat k)&&decide (ofNat k<ofNat (ln i)))<|gD ((W.length+(1:Nat)).ble 9223372036854775807)<|zN [.str s,pgV R ln h rc c,.str (W++yB (fun j=>[[uI (u8.wrap ((48:Int)+R i k))]].getD (0+j) []) (1:Nat)),iI (.ofNat i),iI (i64.wrap (ofNat k+1))] [.mk 0 1 1 (fun j=>[[uI (u8.wrap ((48:Int)+R i k))]].getD j []) true true
 none] else
 zX 2 [.str s,pgV R ln h rc c,.str W,iI (.ofNat i),iI (.ofNat k)] []):=by kernel_rfl
theorem w2(s W:List UInt8)(i h:Nat)(R:Nat->Nat->Int)(ln:Nat->Nat)(rc:Nat->Option Nat)(c:Option Nat):qy P18 G18 A18 qk 0 6 [] (nav [2,0,1,2,0,0,2,1,2,2,2,2]) [1,5,6,7] [.str s,pgV R ln h rc c,.str W,iI (i:Nat)] [] [1,5,6,7] =
( gD ((W.length+(1:Nat)).ble 9223372036854775807)<|zN [.str s,pgV R ln h rc c,.str (W++[(10:UInt8)]),iI (.ofNat i)] []):=by kernel_rfl
theorem w3(s W:List UInt8)(i:Int)(h:Nat)(R:Nat->Nat->Int)(ln:Nat->Nat)(rc:Nat->Option Nat)(c:Option Nat):qy P18 G18 A18 qk 0 6 [] (nav [1,0,0,2,1,2,2,2,2]) [1,5,6,7] [.str s,pgV R ln h rc c,.str W,iI i] [] [1,5,6,7] =
( bif decide (0<=i) then zN [.str s,pgV R ln h rc c,.str W,iI i] [] else
 zX 0 [.str s,pgV R ln h rc c,.str W,iI i] []):=by kernel_rfl
theorem w4(s W:List UInt8)(i h:Nat)(R:Nat->Nat->Int)(ln:Nat->Nat)(rc:Nat->Option Nat)(c:Option Nat):qy P18 G18 A18 qk 0 6 [] (nav [2,2,0,0,2,1,2,2,2,2]) [1,5,6,7] [.str s,pgV R ln h rc c,.str W,iI (i:Nat)] [] [1,5,6,7] =
( zN [.str s,pgV R ln h rc c,.str W,iI (i64.wrap (ofNat i-1))] []):=by kernel_rfl
theorem qnc(x:Int)(h0:0<=x)(h1:x<256):yB (fun j=>[[uI x]].getD (0+j) []) 1=[UInt8.ofNat x.toNat]:=by
 obtain⟨n,rfl⟩:∃n:Nat,x=n:=⟨x.toNat,by omega⟩;rfl
theorem qnd(s W:List UInt8)(i h:Nat)(R:Nat->Nat->Int)(ln:Nat->Nat)(rc:Nat->Option Nat)(c:Option Nat)(hi:i<h)(hh:h<=1000)(hl:ln i<=1000)(hW:W.length<=10000000)(hR:∀j,0<=R i j/\R i j<=100) :
 Pz P18 G18 A18 6 [] [0,2,1,0,1,2,0,0,2,1,2,2,2,2] [1,5,6,7,8] [.str s,pgV R ln h rc c,.str (W++Zb (zd R) ln i 0),iI (i:Nat),iI (0:Nat)] [] (.exit 2) [1,5,6,7,8] [.str s,pgV R ln h rc c,.str (W++Zb (zd R) ln i (ln i)),iI (i:Nat),iI (ln i:Nat)] []:=by
 have b1:(decide ((0:Int)<=ofNat i)&&decide (ofNat i<ofNat h))=true:=by simp;omega
 refine Pz.count (by kernel_rfl) (fun k=>[.str s,pgV R ln h rc c,.str (W++Zb (zd R) ln i k),iI (i:Nat),iI (k:Nat)]) (fun _=>[]) (n:=ln i) (by simp) (fun k hk=>?_) ?_
 ·have hk:k<ln i:=hk;have q:=w1 s (W++Zb (zd R) ln i k) i k h R ln rc c;have hr:=hR k;rw[up1 (by omega),wr8 (by omega) (by omega),qnc _ (by omega) (by omega)] at q;have e:W++Zb (zd R) ln i k++[UInt8.ofNat (48+R i k).toNat]=W++Zb (zd R) ln i (k+1):=by
   rw[qdW,List.append_assoc];have:(48+R i k).toNat=48+zd R i k:=by unfold zd;omega
   rw[this]
  rw[e] at q;have b2:decide (ofNat k<ofNat (ln i))=true:=by simp;omega
  have b3:(decide ((0:Int)<=ofNat k)&&decide (ofNat k<ofNat (ln i)))=true:=by simp;omega
  have b4:Nat.ble ((W++Zb (zd R) ln i k).length+1) 9223372036854775807=true:=QZ (by rw[List.length_append];simp only[Zb,List.length_map,List.length_range];omega);exact Pz.post (Pz.run qv qf (m:=0) (by kernel_rfl) qh (q.trans (qm b1 (qm b2 (qm b1 (qm b3 (qm b4 rfl))))))) fun nt=>.canonS [] rfl rfl rfl .nil
 ·have q:=w1 s (W++Zb (zd R) ln i (ln i)) i (ln i) h R ln rc c;exact Pz.run qv qf (m:=0) (by kernel_rfl) qh (q.trans (qm b1 (qZ (by simp) rfl)))
theorem w5(s W:List UInt8)(i h:Nat)(R:Nat->Nat->Int)(ln:Nat->Nat)(rc:Nat->Option Nat)(c:Option Nat):qy P18 G18 A18 qk 0 6 [] (nav [1,1,0,1,2,0,0,2,1,2,2,2,2]) [1,5,6,7] [.str s,pgV R ln h rc c,.str W,iI (i:Nat)] [] [1,5,6,7,8] =
( zN [.str s,pgV R ln h rc c,.str W,iI (.ofNat i),iI 0] []):=by kernel_rfl
theorem qne(s:List UInt8)(h:Nat)(R:Nat->Nat->Int)(ln:Nat->Nat)(rc:Nat->Option Nat)(c:Option Nat)(hh:h<=1000)(hl:∀i,ln i<=1000)(hR:∀i j,0<=R i j/\R i j<=100) :
 Pz P18 G18 A18 6 [] [0,2,1,2,2,2,2] [1,5,6,7] [.str s,pgV R ln h rc c,.str [],iI ((h:Int)-1-(0:Nat))] [] (.exit 0) [1,5,6,7] [.str s,pgV R ln h rc c,.str (qdh R ln h),iI ((h:Int)-1-(h:Nat))] []:=by
 refine Pz.count (by kernel_rfl) (fun r=>[.str s,pgV R ln h rc c,.str (ZT (zd R) ln h r),iI ((h:Int)-1-(r:Nat))]) (fun _=>[]) (n:=h) (by simp) (fun r hr=>?_) ?_
 ·have hr:r<h:=hr;have e0:(h:Int)-1-(r:Nat)=((h-1-r:Nat):Int):=by omega
  have e1:(h:Int)-1-((r+1:Nat):Int)=((h-1-r:Nat):Int)-1:=by omega
  have hlen:=JX (zd R) ln h hl r;have hk:r*1001<=1001000:=by omega
  have q3:=(w3 s (ZT (zd R) ln h r) ((h-1-r:Nat):Int) h R ln rc c).trans (qm (by simp) rfl);have q5:=w5 s (ZT (zd R) ln h r) (h-1-r) h R ln rc c;have pr:=qnd s (ZT (zd R) ln h r) (h-1-r) h R ln rc c (by omega) hh (hl _) (by omega) (hR _);rw[show ZT (zd R) ln h r++Zb (zd R) ln (h-1-r) 0=ZT (zd R) ln h r by simp[Zb]] at pr;have q2:=(w2 s (ZT (zd R) ln h r++Zb (zd R) ln (h-1-r) (ln (h-1-r))) (h-1-r) h R ln rc c).trans (qm (QZ (by
   have:=hl (h-1-r);rw[List.length_append];simp only[Zb,List.length_map,List.length_range];omega)) rfl)
  have q4:=w4 s (ZT (zd R) ln h (r+1)) (h-1-r) h R ln rc c;rw[qI (by rw[qn];omega) (by rw[qn];omega)] at q4;rw[List.append_assoc] at q2;show Pz P18 G18 A18 6 [] [0,0,2,1,2,2,2,2] [1,5,6,7] [.str s,pgV R ln h rc c,.str (ZT (zd R) ln h r),iI ((h:Int)-1-(r:Nat))] [] .normal [1,5,6,7] [.str s,pgV R ln h rc c,.str (ZT (zd R) ln h (r+1)),iI ((h:Int)-1-((r+1:Nat):Int))] [];rw[e0,e1];exact Pz.seq (by kernel_rfl) (Pz.run qv qf (m:=0) (by kernel_rfl) qh q3) (Pz.seq (by kernel_rfl) (Pz.blk (id:=1) (e:=.normal) (by kernel_rfl) rfl
   (Pz.seq (by kernel_rfl) (Pz.seq (by kernel_rfl) (Pz.run qv qf (m:=0) (by kernel_rfl) qh q5) (Pz.blk (id:=2) (by kernel_rfl) rfl (Pz.only pr (l2:=[1,5,6,7]) rfl))) (Pz.run qv qf (m:=0) (by kernel_rfl) qh q2)))
   (Pz.run qv qf (m:=0) (by kernel_rfl) qh q4))
 ·exact Pz.seqX (by kernel_rfl) (by simp) (Pz.run qv qf (m:=0) (by kernel_rfl) qh ((w3 s (ZT (zd R) ln h h) ((h:Int)-1-(h:Nat)) h R ln rc c).trans (qZ (by simp;omega) rfl)))
def qnf(h:Nat)(R:Nat->Nat->Int)(ln:Nat->Nat)(rc:Nat->Option Nat)(_:List T):Option T:=some (.tup [.view 1 h (pcG R ln rc) (some h),iI 0])
def qng(s:List UInt8)(_:List T):Option T:=some (.str s)
theorem qoP(p:List T->T->Prop)(s W:List UInt8)(h h2:Nat)(R R2:Nat->Nat->Int)(ln l2:Nat->Nat)(rc r2:Nat->Option Nat)(c:Option Nat):qy P18 G18 A18 (qk.add 19 (qL p (qnf h2 R2 l2 r2))) 0 6 [] (nav [1,2,2,2,2,2]) [1,5,6] [.str s,pgV R ln h rc c,.str W] [] [1,5,6,9,10] =
( gD (qF (p [.str W] (.tup [pgV R2 l2 h2 r2 (some h2),iI 0])))<|zN [.str s,pgV R ln h rc c,.str W,pgV R2 l2 h2 r2 (some h2),iI 0] []):=by kernel_rfl
theorem qoQ(p q:List T->T->Prop)(s W W2:List UInt8)(d:Int)(h h2:Nat)(R R2:Nat->Nat->Int)(ln l2:Nat->Nat)(rc r2:Nat->Option Nat)(c:Option Nat):qy P18 G18 A18 ((qk.add 20 (qL p (qng W2))).add 16 (qL q (kS d))) 0 6 [] (nav [1,2,2,2,2,2,2]) [1,5,6,9,10] [.str s,pgV R ln h rc c,.str W,pgV R2 l2 h2 r2 (some h2),iI 0] [] [1,4] =
( gD (qF (p [pgV R ln h rc c] (.str W2)))<|bif !decide (W2=W) then zR [.str s,.bool false] [] else
 gD (qF (q [pgV R2 l2 h2 r2 (some h2),pgV R ln h rc c] (iI d)))<|bif !decide (d=0) then zR [.str s,.bool false] [] else
 bif !decide (ofNat h2=ofNat h2) then zR [.str s,.bool false] [] else
 zN [.str s,.undef] []):=by kernel_rfl
theorem qiv(a b:List UInt8)(h:∀x,x∈a->x≠10):ya (a++10::b)=(a,b,true):=by
 induction a with
 |nil=>simp[ya]
 |cons x a ih =>
  have hx:=h x (by simp);rw[List.cons_append,ya,if_neg (by simpa using hx),ih fun y hy=>h y (by simp[hy])]
def yz:List (List UInt8)->List UInt8
 |[]=>[]
 |a::L=>a++10::yz L
theorem qcR:∀L:List (List UInt8),(∀a,a∈L->∀x,x∈a->x≠10)->Lines (yz L) L
 |[],_=>.nil
 |a::L,h=>by
  have hc:=qiv a (yz L) (h a (by simp));have tl:=qcR L fun b hb=>h b (by simp[hb]);unfold yz;cases a with
  |nil=>exact .cons 10 (yz L) _ _ L hc tl
  |cons x a=>exact .cons x (a++10::yz L) _ _ L hc tl
theorem qcS(L:List (List UInt8))(a:List UInt8):yz (L++[a])=yz L++(a++[10]):=by
 induction L with
 |nil=>simp[yz]
 |cons b L ih=>simp[yz,ih]
def Y4(R:Nat->Nat->Nat)(ln:Nat->Nat)(h r:Nat):List (List UInt8):=(List.range r).map fun k=>Zb R ln (h-1-k) (ln (h-1-k))
theorem qaw(R:Nat->Nat->Nat)(ln:Nat->Nat)(h:Nat):∀r,ZT R ln h r=yz (Y4 R ln h r)
 |0=>rfl
 |r+1=>by
  rw[Y4,List.range_succ,List.map_append,List.map_cons,List.map_nil,qcS,ZT,qaw R ln h r];rfl
theorem qjX(R:Nat->Nat->Nat)(ln:Nat->Nat)(i k:Nat)(hR:∀j,R i j<=100):∀x,x∈Zb R ln i k->x≠10:=by
 intro x hx;unfold Zb at hx;obtain⟨j,_,rfl⟩:=List.mem_map.1 hx;intro e;have q:=congrArg UInt8.toNat e;rw[UInt8.toNat_ofNat'] at q;have:=hR j;have:(10:UInt8).toNat=10:=rfl;omega
theorem qiw(R:Nat->Nat->Nat)(ln:Nat->Nat)(h:Nat)(hR:∀i j,R i j<=100):Lines (ZT R ln h h) (Y4 R ln h h):=by
 rw[qaw];refine qcR _ fun a ha=>?_;unfold Y4 at ha;obtain⟨k,_,rfl⟩:=List.mem_map.1 ha;exact qjX R ln _ _ (hR _)
theorem JY{s:List UInt8}{L:List (List UInt8)}(h:Lines s L):s=yz L:=by
 induction h with
 |nil=>rfl
 |cons c t a b L hc tl ih =>
  rcases kT (c::t) with⟨_,h2⟩|⟨i,h1,h2,h3⟩
  ·rw[hc] at h2;simp at h2
  ·rw[hc] at h3;simp only[Prod.mk.injEq] at h3;obtain⟨q1,q2,_⟩:=h3;have q:=(Lib.indexByte_some h1).1;unfold yz;rw[←ih,q1,q2];obtain⟨q3,q4⟩:=List.getElem?_eq_some_iff.1 q;rw[←q4,←List.drop_eq_getElem_cons q3,List.take_append_drop]
theorem qkG{s a b:List UInt8}(h:ya s=(a,b,true)):∀x,x∈a->x≠10:=by
 induction s generalizing a with
 |nil=>simp[ya] at h
 |cons c t ih =>
  unfold ya at h;by_cases q:(c==10)=true
  ·rw[if_pos q] at h;simp only[Prod.mk.injEq] at h;obtain⟨rfl,_⟩:=h;simp
  ·rw[if_neg q] at h;simp only[Prod.mk.injEq] at h;obtain⟨rfl,h2,h3⟩:=h;intro x hx;rcases List.mem_cons.1 hx with rfl|hx
   ·simpa using q
   ·exact ih (a:=(ya t).1) (by rw[←h2,←h3]) x hx
theorem qix{s:List UInt8}(h:ya s=(s,[],false)):∀x,x∈s->x≠10:=by
 induction s with
 |nil=>simp
 |cons c t ih =>
  unfold ya at h;by_cases q:(c==10)=true
  ·rw[if_pos q] at h;simp at h
  ·rw[if_neg q] at h;simp only[Prod.mk.injEq,List.cons.injEq,true_and] at h;obtain⟨h1,h2,h3⟩:=h;intro x hx;rcases List.mem_cons.1 hx with rfl|hx
   ·simpa using q
   ·exact ih (Prod.ext h1 (Prod.ext h2 h3)) x hx
theorem qjY{s:List UInt8}{L:List (List UInt8)}(h:Lines s L):∀a,a∈L->∀x,x∈a->x≠10:=by
 induction h with
 |nil=>simp
 |cons c t a b L hc tl ih =>
  intro y hy;rcases List.mem_cons.1 hy with rfl|hy
  ·exact qkG hc
  ·exact ih y hy
def stp(q:List (List UInt8)×List UInt8)(c:UInt8):List (List UInt8)×List UInt8:=if c=10 then(q.2::q.1,[]) else(q.1,q.2++[c])
def QP(s:List UInt8)(i:Nat):List (List UInt8)×List UInt8:=(s.take i).foldl stp ([],[])
theorem qiy(s:List UInt8):QP s 0=([],[]):=rfl
theorem qdX{s:List UInt8}{i:Nat}(hi:i<s.length):QP s (i+1)=stp (QP s i) (s.getD i 0):=by
 unfold QP;rw[List.take_succ_eq_append_getElem hi,List.foldl_append];simp[List.getD,List.getElem?_eq_getElem hi]
theorem qe7(s:List UInt8):∀i,i<=s.length->(QP s i).1.length<=i/\(QP s i).2.length<=i/\∀a,a∈(QP s i).1->a.length<=i
 |0,_=>by simp[qiy]
 |i+1,h=>by
  obtain⟨q1,q2,q3⟩:=qe7 s i (by omega);rw[qdX (by omega)];unfold stp;by_cases q:s.getD i 0=10
  ·rw[if_pos q];refine⟨by simp only[List.length_cons];omega,by simp,fun a ha=>?_⟩;rcases List.mem_cons.1 ha with rfl|ha
   ·omega
   ·have:=q3 a ha;omega
  ·rw[if_neg q];refine⟨by dsimp only;omega,by simp only[List.length_append,List.length_cons,List.length_nil];omega,fun a ha=>?_⟩;have:=q3 a ha;omega
theorem qjZ(a:List UInt8)(h:∀x,x∈a->x≠10):∀d c,a.foldl stp (d,c)=(d,c++a):=by
 induction a with
 |nil=>simp
 |cons x a ih =>
  intro d c;rw[List.foldl_cons,stp,if_neg (h x (by simp)),ih fun y hy=>h y (by simp[hy])];simp
theorem qcT:∀(L:List (List UInt8)),(∀a,a∈L->∀x,x∈a->x≠10)->∀d,(yz L).foldl stp (d,[])=(L.reverse++d,[])
 |[],_,d=>rfl
 |a::L,h,d=>by
  unfold yz;rw[List.foldl_append,qjZ a (h a (by simp)),List.foldl_cons,stp,if_pos rfl,qcT L fun b hb=>h b (by simp[hb])];simp
theorem qhh{s:List UInt8}{L:List (List UInt8)}(h:Lines s L):QP s s.length=(L.reverse,[]):=by
 have e:=JY h;unfold QP;rw[List.take_length,e,qcT L (qjY h),List.append_nil]
theorem qhi{s:List UInt8}{L:List (List UInt8)}(h:Lines s L)(hL:L≠[]):s≠[]/\s.getD (s.length-1) 0=10:=by
 have e:=JY h;have q:L=L.dropLast++[L.getLast hL]:=(List.dropLast_concat_getLast hL).symm;rw[q,qcS,←List.append_assoc] at e;rw[e];constructor
 ·simp
 ·rw[List.getD_eq_getElem?_getD,List.length_append,List.getElem?_append_right (by simp)];simp
theorem qiz{s:List UInt8}(h:NoLines s):s≠[]/\s.getD (s.length-1) 0≠10:=by
 induction h with
 |here c t hc =>
  refine⟨by simp,?_⟩;have q:(c::t).length-1<(c::t).length:=by simp
  rw[List.getD_eq_getElem?_getD,List.getElem?_eq_getElem q];exact qix hc _ (List.getElem_mem q)
 |step c t a b hc tl ih =>
  refine⟨by simp,?_⟩;rcases kT (c::t) with⟨_,h2⟩|⟨i,h1,h2,h3⟩
  ·rw[hc] at h2;simp at h2
  ·rw[hc] at h3;simp only[Prod.mk.injEq] at h3;obtain⟨q1,q2,_⟩:=h3;obtain⟨i1,i2⟩:=ih;have hb:b.length≠0:=fun q=>i1 (List.length_eq_zero_iff.1 q);rw[q2,List.length_drop] at hb;have e:(c::t).getD ((c::t).length-1) 0=b.getD (b.length-1) 0:=by
    rw[List.getD_eq_getElem?_getD,List.getD_eq_getElem?_getD,q2,List.getElem?_drop,List.length_drop];congr 2;omega
   rw[e];exact i2
theorem qnh(s:List UInt8)(x:T)(e:Int)(n v l i:Nat)(g:Nat->Int)(R:Nat->Nat->Int)(ln:Nat->Nat)(rc:Nat->Option Nat):qy P18 G18 A18 qk 0 6 [] (nav [1,0,0,2,1,2,2,2,2,2,2,2,2,2,2]) [1,11,12,13,14,15] [.str s,x,iI e,pgV R ln n rc none,.own 0 v 0 l none,iI (i:Nat)] [ub v l g] [1,11,12,13,14,15] =
( bif decide (ofNat i<ofNat s.length) then zN [.str s,x,iI e,pgV R ln n rc
 none,.own 0 v 0 l
 none,iI (.ofNat i)] [ub v l g] else
 zX 4 [.str s,x,iI e,pgV R ln n rc
 none,.own 0 v 0 l
 none,iI (.ofNat i)] [ub v l g]):=by kernel_rfl
theorem qoR(s:List UInt8)(x:T)(e:Int)(n v l i:Nat)(g:Nat->Int)(R:Nat->Nat->Int)(ln:Nat->Nat)(rc:Nat->Option Nat):qy P18 G18 A18 qk 0 6 [] (nav [1,0,1,2,0,0,2,1,2,2,2,2,2,2,2,2,2,2]) [1,11,12,13,14,15] [.str s,x,iI e,pgV R ln n rc none,.own 0 v 0 l none,iI (i:Nat)] [ub v l g] [1,11,12,13,14,15,93] =
( gD (decide (0<=ofNat i)&&decide (ofNat i<ofNat s.length))<|bif decide (ofNat (s.getD i (0:UInt8)).toNat=10) then zN [.str s,x,iI e,pgV R ln n rc
 none,.own 0 v 0 l
 none,iI (.ofNat i),.bool true] [ub v l g] else
 zN [.str s,x,iI e,pgV R ln n rc
 none,.own 0 v 0 l
 none,iI (.ofNat i),.bool false] [ub v l g]):=by kernel_rfl
theorem qoS(s:List UInt8)(x:T)(e:Int)(n l i:Nat)(g:Nat->Int)(R:Nat->Nat->Int)(ln:Nat->Nat)(rc:Nat->Option Nat):qy P18 G18 A18 qk 0 6 [] (nav [2,0,1,2,0,0,2,1,2,2,2,2,2,2,2,2,2,2]) [1,11,12,13,14,15,93] [.str s,x,iI e,pgV R ln n rc none,.view 1 l (fun j=>[uI (g j)]) none,iI (i:Nat),.bool true] [] [1,11,12,13,14,15] =
( bif n==(0:Nat) then zN [.str s,x,iI e,.own 0 0 0 1 (some 1),.own 1 0 0 0 (some 0),iI (.ofNat i)] [.mk 0 1 1 (fun j=>[[qB g l
 none]].getD j []) false true
 none,.mk 0 1 0 (fun j=>[]) true true
 none] else
 gD ((((1:Nat)+n)*(25:Nat)).ble 70368744177664)<|bif ((1:Nat)+n).ble 1 then gD (((1:Nat)+n).ble 1)<|zN [.str s,x,iI e,.own 0 0 0 (1+n) (some 1),.own 1 0 0 0 (some 0),iI (.ofNat i)] [.mk 0 1 1 (fun j =>
 bif Nat.ble 1 j&&j.blt (1+n) then pcG R ln rc (j-1)
 else [[qB g l
 none]].getD j []) false true
 none,.mk 0 1 0 (fun j=>[]) true true
 none] else
 zN [.str s,x,iI e,.own 1 0 0 (1+n)
 none,.own 2 0 0 0 (some 0),iI (.ofNat i)] [.mk 0 1 1 (fun j=>[[qB g l
 none]].getD j []) false true
 none,.mk 0 1 (1+n) (fun j =>
 bif j.blt 1 then [[qB g l
 none]].getD (0+j) []
 else pcG R ln rc (j-1)) false false
 none,.mk 0 1 0 (fun j=>[]) true true
 none]):=by kernel_rfl
theorem qoT(s:List UInt8)(x:T)(e:Int)(n v l i:Nat)(g:Nat->Int)(R:Nat->Nat->Int)(ln:Nat->Nat)(rc:Nat->Option Nat):qy P18 G18 A18 qk 0 6 [] (nav [2,0,1,2,0,0,2,1,2,2,2,2,2,2,2,2,2,2]) [1,11,12,13,14,15,93] [.str s,x,iI e,pgV R ln n rc none,.own 0 v 0 l none,iI (i:Nat),.bool false] [ub v l g] [1,11,12,13,14,15] =
( gD (decide (0<=ofNat i)&&decide (ofNat i<ofNat s.length))<|gD (v==v&&true)<|gD (((0:Nat)+l).ble l)<|gD (((l+(1:Nat))*(2:Nat)).ble 70368744177664)<|bif ((0:Nat)+l+(1:Nat)).ble l then zN [.str s,x,iI e,pgV R ln n rc
 none,.own 0 v 0 (l+1)
 none,iI (.ofNat i)] [.mk v 1 l (fun j =>
 bif ((0:Nat)+l).ble j&&j.blt (0+l+1) then [[uI (u8.wrap (ofNat (s.getD i (0:UInt8)).toNat-(48:Int)))]].getD ((0:Nat)+(j-(0+l))) []
 else [uI (g j)]) true false
 none,.mk 0 1 1 (fun j=>[[uI (u8.wrap (ofNat (s.getD i (0:UInt8)).toNat-(48:Int)))]].getD j []) true true
 none] else
 zN [.str s,x,iI e,pgV R ln n rc
 none,.own 0 (v+1) (0:Nat) (l+1)
 none,iI (.ofNat i)] [.mk (v+1) (1:Nat) (l+1) (fun j =>
 bif j.blt l then [uI (g (0+j))]
 else [[uI (u8.wrap (ofNat (s.getD i (0:UInt8)).toNat-(48:Int)))]].getD ((0:Nat)+(j-l)) []) true false
 none,.mk 0 1 1 (fun j=>[[uI (u8.wrap (ofNat (s.getD i (0:UInt8)).toNat-(48:Int)))]].getD j []) true true
 none]):=by kernel_rfl
theorem qoU(s:List UInt8)(x:T)(e:Int)(n v l i:Nat)(g:Nat->Int)(R:Nat->Nat->Int)(ln:Nat->Nat)(rc:Nat->Option Nat):qy P18 G18 A18 qk 0 6 [] (nav [2,2,0,0,2,1,2,2,2,2,2,2,2,2,2,2]) [1,11,12,13,14,15] [.str s,x,iI e,pgV R ln n rc none,.own 0 v 0 l none,iI (i:Nat)] [ub v l g] [1,11,12,13,14,15] =
( zN [.str s,x,iI e,pgV R ln n rc
 none,.own 0 v 0 l
 none,iI (i64.wrap (ofNat i+1))] [ub v l g]):=by kernel_rfl
theorem qe8{σ:List Nat}{h:qg}{i ver n:Nat}{cap:Option Nat}{b:Blk}(hp:zc σ i=none)(hc:σ.contains i=false)(hb:h[i]?=some b)(hm:b.mp=none)(hv:b.ver=ver)(hn:n<=b.n)(hf:b.flat=false):ren σ h (.own i ver 0 n cap) = .view b.sz n (fun j=>(b.get (0+j)).map (resolve 3 σ h)) cap:=by
 show(match zc σ i with|some j=>T.own j ver 0 n cap|none=>resolve 4 σ h (.own i ver 0 n cap))=_;rw[hp]
 show(bif σ.contains i then T.undef else match h[i]? with
  |some b=>bif b.mp.isNone&&(b.ver==ver&&Nat.ble (0+n) b.n) then
   .view b.sz n (bif b.flat then fun j=>b.get (0+j) else fun j=>(b.get (0+j)).map (resolve 3 σ h)) cap
   else .undef
  |none=>.undef)=_
 rw[hc,hb];show(bif b.mp.isNone&&(b.ver==ver&&Nat.ble (0+n) b.n) then T.view b.sz n (bif b.flat then fun j=>b.get (0+j) else fun j=>(b.get (0+j)).map (resolve 3 σ h)) cap else .undef)=_;rw[hm,hv,QZ (by omega),hf];simp
theorem qiA(a:List UInt8)(c:UInt8)(j:Nat)(hj:j<a.length+1):zm (a++[c]) j=if j<a.length then zm a j else u8.wrap (ofNat c.toNat-48):=by
 unfold zm Yh;rw[Nat.zero_add,List.length_append,List.length_cons,List.length_nil,if_pos (by omega)];unfold dig;by_cases q:j<a.length
 ·rw[if_pos q,if_pos q];simp[List.getD_eq_getElem?_getD,List.getElem?_append_left q]
 ·obtain rfl:j=a.length:=by omega
  rw[if_neg q];simp[List.getD_eq_getElem?_getD]
theorem qiB(a:List UInt8)(D:List (List UInt8))(j:Nat):(a::D).getD (j+1) []=D.getD j []:=by simp[List.getD_eq_getElem?_getD]
def rwv(D:List (List UInt8)):T:=pgV (RL D) (lL D) D.length (fun _=>none) none
def v6s(s:List UInt8)(x:T)(e:Int)(i:Nat):List T:=[.str s,x,iI e,rwv (QP s i).1,.own 0 (QP s i).2.length 0 (QP s i).2.length none,iI (i:Nat)]
def h6s(s:List UInt8)(i:Nat):qg:=[ub (QP s i).2.length (QP s i).2.length (zm (QP s i).2)]
theorem qhj(l n:Nat)(g:Nat->Int)(D:List (List UInt8))(a:List UInt8)(hl:l=a.length)(hg:∀j,j<l->g j=zm a j)(hn:n=D.length)(j:Nat)(hj:j<1+n) :
 Sims (bif j.blt (1:Nat) then [[qB g l none]].getD ((0:Nat)+j) [] else pcG (RL D) (lL D) (fun _=>none) (j-(1:Nat))) [qB (RL (a::D) j) (lL (a::D) j) none]:=by
 cases j with
 |zero =>
  subst hl;show Sims [.view 1 a.length (fun j=>[uI (g j)]) none] [.view 1 a.length (fun j=>[uI (zm a j)]) none];exact .cons (.view (.inl rfl) fun j hj=>.cons (by rw[hg j hj];exact .refl _) .nil) .nil
 |succ j =>
  rw[Zg (by omega),cond_false,Nat.add_sub_cancel];unfold pcG RL lL rwL;rw[qiB];exact .refl _
theorem qni(s:List UInt8)(x:T)(e:Int)(hs:s.length<=1000)(hx:∀σ h,ren σ h x=x) :
 Pz P18 G18 A18 6 [] [0,2,1,2,2,2,2,2,2,2,2,2,2] [1,11,12,13,14,15] (v6s s x e 0) (h6s s 0) (.exit 4) [1,11,12,13,14,15] (v6s s x e s.length) (h6s s s.length):=by
 refine Pz.count (by kernel_rfl) (v6s s x e) (h6s s) (n:=s.length) (by simp) (fun i hi=>?_) ?_
 ·have hi:i<s.length:=hi;have q20:=(qnh s x e (QP s i).1.length (QP s i).2.length (QP s i).2.length i (zm (QP s i).2) (RL (QP s i).1) (lL (QP s i).1) (fun _=>none)).trans (qm (by simp;omega) rfl);have b1:(decide ((0:Int)<=ofNat i)&&decide (ofNat i<ofNat s.length))=true:=by simp;omega
  obtain⟨d1,d2,d3⟩:=qe7 s i (by omega);have q22:=qoR s x e (QP s i).1.length (QP s i).2.length (QP s i).2.length i (zm (QP s i).2) (RL (QP s i).1) (lL (QP s i).1) (fun _=>none);have st:=qdX hi
  have last:∀(vs2:List T) (h2:qg),vs2=[.str s,x,iI e,rwv (QP s (i+1)).1,.own 0 (QP s (i+1)).2.length 0 (QP s (i+1)).2.length none,iI (i:Nat)]->h2=h6s s (i+1) →
   Pz P18 G18 A18 6 [] [2,2,0,0,2,1,2,2,2,2,2,2,2,2,2,2] [1,11,12,13,14,15] vs2 h2 .normal [1,11,12,13,14,15] (v6s s x e (i+1)) (h6s s (i+1)):=by
   rintro _ _ rfl rfl;have q:=qoU s x e (QP s (i+1)).1.length (QP s (i+1)).2.length (QP s (i+1)).2.length i (zm (QP s (i+1)).2) (RL (QP s (i+1)).1) (lL (QP s (i+1)).1) (fun _=>none);rw[up1 (by omega)] at q;exact Pz.run qv qf (m:=0) (by kernel_rfl) qh q
  refine Pz.seq (by kernel_rfl) (Pz.run qv qf (m:=0) (by kernel_rfl) qh q20) (Pz.seq (by kernel_rfl) (Pz.blk (id:=5) (e:=.normal) (by kernel_rfl) rfl ?_) (last _ _ rfl rfl));generalize hD:(QP s i).1=D at *
  generalize ha:(QP s i).2=a at *
  generalize hc:s.getD i 0=c at *
  unfold h6s;by_cases q:c=10
  ·have st:QP s (i+1)=(a::D,[]):=by rw[st];unfold stp;rw[if_pos q,←hD,←ha]
   rw[st];have q22:=q22.trans (qm b1 (qm (by rw[q];rfl) rfl));have n1:ren [] [ub a.length a.length (zm a)] (.own 0 a.length 0 a.length none) = .view 1 a.length (fun j=>[uI (zm a (0+j))]) none:=by
    show(bif a.length==a.length&&Nat.ble (0+a.length) a.length then T.view 1 a.length (fun j=>[uI (zm a (0+j))]) none else .undef)=_;rw[QZ (by omega)];simp
   have q23:=qoS s x e D.length a.length i (fun j=>zm a (0+j)) (RL D) (lL D) (fun _=>none);refine Pz.seq (by kernel_rfl) (Pz.post (v2:=[.str s,x,iI e,pgV (RL D) (lL D) D.length (fun _=>none) none,.view 1 a.length (fun j=>[uI (zm a (0+j))]) none,iI (i:Nat),.bool true]) (h2:=[]) (Pz.run qv qf (m:=0) (by kernel_rfl) qh q22) fun nt=>?_) ?_
   ·refine .trans (.canon [] rfl) ?_;show WeakTo _ _ nt _ _ [_,ren [] _ x,_,_,ren [] [ub a.length a.length (zm a)] (.own 0 a.length 0 a.length none),_,_] [] _ _;rw[hx,n1];exact .refl _ _
   ·cases hDn:D.length with
    |zero =>
     have hD0:D=[]:=List.length_eq_zero_iff.1 hDn;subst hD0;have q23:=q23.trans (qm (by simp) rfl);refine Pz.post (Pz.run qv qf (m:=0) (by kernel_rfl) qh q23) fun nt=>?_;refine .trans (.canon [1] rfl) ?_;show WeakTo _ _ nt _ _ [_,ren [1] _ x,_,ren [1] _ (.own 0 0 0 1 (some 1)),.own 0 0 0 0 (some 0),_] [Blk.mk 0 1 0 _ true true none] _ _;rw[hx,qe8 (b:=Blk.mk 0 1 1 (fun j=>[[qB (fun j=>zm a (0+j)) a.length none]].getD j []) false true none) rfl rfl rfl rfl rfl (Nat.le_refl _) rfl];refine .trans (.cap (.cons (.refl _) (.cons (.refl _) (.cons (.refl _) (.cons (.refl _) (.cons (.own rfl (Nat.le_refl _)) (.cons (.refl _) .nil))))))) ?_;refine .slS (.cons (.refl _) (.cons (.refl _) (.cons (.refl _) (.cons (.view (.inr rfl) fun j hj=>?_) (.cons (.refl _) (.cons (.refl _) .nil)))))) (.cons ⟨rfl,rfl,rfl,id,fun j hj=>by cases hj⟩ .nil);have hj:j<1:=hj;obtain rfl:j=0:=by omega
     exact qhj a.length 0 (fun j=>zm a (0+j)) [] a rfl (fun j _=>by rw[Nat.zero_add]) rfl 0 (by omega)
    |succ m =>
     have q23:=q23.trans (qZ (by rw[hDn];simp) (qm (QZ (by omega)) (qZ (by rw[qa2 (by omega)];simp) rfl)));refine Pz.post (Pz.run qv qf (m:=0) (by kernel_rfl) qh (hDn▸q23)) fun nt=>?_;refine .trans (.canon [2] rfl) ?_;show WeakTo _ _ nt _ _ [_,ren [2] _ x,_,ren [2] _ (.own 1 0 0 (1+(m+1)) none),.own 0 0 0 0 (some 0),_] [Blk.mk 0 1 0 _ true true none] _ _;rw[hx,qe8 (b:=Blk.mk 0 1 (1+(m+1)) (fun j=>bif j.blt (1:Nat) then [[qB (fun j=>zm a (0+j)) a.length none]].getD ((0:Nat)+j) [] else pcG (RL D) (lL D) (fun _=>none) (j-(1:Nat))) false false none) rfl rfl rfl rfl rfl (Nat.le_refl _) rfl];refine .trans (.cap (.cons (.refl _) (.cons (.refl _) (.cons (.refl _) (.cons (.refl _) (.cons (.own rfl (Nat.le_refl _)) (.cons (.refl _) .nil))))))) ?_;have e1:rwv (a::D)=pgV (RL (a::D)) (lL (a::D)) (1+(m+1)) (fun _=>none) none:=by
      unfold rwv;rw[List.length_cons,hDn,Nat.add_comm]
     rw[show(a::D,([]:List UInt8)).1=a::D from rfl,e1];refine .slS (.cons (.refl _) (.cons (.refl _) (.cons (.refl _) (.cons (.view (.inl rfl) fun j hj=>?_) (.cons (.refl _) (.cons (.refl _) .nil)))))) (.cons ⟨rfl,rfl,rfl,id,fun j hj=>by cases hj⟩ .nil);have hj:j<1+(m+1):=hj;cases j with
     |zero=>exact qhj a.length D.length (fun j=>zm a (0+j)) D a rfl (fun j _=>by rw[Nat.zero_add]) rfl 0 (by omega)
     |succ j =>
      have q:=qhj a.length D.length (fun j=>zm a (0+j)) D a rfl (fun j _=>by rw[Nat.zero_add]) rfl (j+1) (by omega);rw[Nat.zero_add];show Sims (List.map (resolve 3 [2] _) (bif Nat.blt (j+1) 1 then [[qB (fun j=>zm a (0+j)) a.length none]].getD (0+(j+1)) [] else pcG (RL D) (lL D) (fun _=>none) (j+1-1))) _;rw[Zg (by omega),cond_false] at q ⊢;exact q
  ·have st:QP s (i+1)=(D,a++[c]):=by rw[st];unfold stp;rw[if_neg q,←hD,←ha]
   rw[st];have q22:=q22.trans (qm b1 (qZ (by
    have:c.toNat≠10:=fun h=>q (UInt8.toNat_inj.1 h);simp;omega) rfl))
   have q25:=(qoT s x e D.length a.length a.length i (zm a) (RL D) (lL D) (fun _=>none)).trans (qm b1 (qm (by simp) (qm (QZ (by omega)) (qm (QZ (by omega)) (qZ (by rw[qa2 (by omega)];simp) rfl)))));refine Pz.seq (by kernel_rfl) (Pz.run qv qf (m:=0) (by kernel_rfl) qh q22) (Pz.post (Pz.run qv qf (m:=0) (by kernel_rfl) qh q25) fun nt=>?_);refine .trans (.canon [0] rfl) ?_;show WeakTo _ _ nt _ _ [_,ren [0] _ x,_,_,.own 0 (a.length+1) 0 (a.length+1) none,_] [Blk.mk (a.length+1) 1 (a.length+1) _ true false none] _ _;rw[hx,List.length_append,List.length_cons,List.length_nil];refine .same (.cons ⟨rfl,rfl,rfl,id,fun j hj=>?_⟩ .nil);have hj:j<a.length+1:=hj;show [uI (zm (a++[c]) j)]=bif j.blt a.length then [uI (zm a (0+j))] else [[uI (u8.wrap (ofNat (s.getD i 0).toNat-48))]].getD (0+(j-a.length)) [];rw[qiA a c j hj,hc];by_cases q2:j<a.length
   ·rw[if_pos q2,Qy q2,cond_true,Nat.zero_add]
   ·obtain rfl:j=a.length:=by omega
    rw[if_neg q2,Zg (by omega),cond_false,Nat.sub_self];rfl
 ·have q20:=(qnh s x e (QP s s.length).1.length (QP s s.length).2.length (QP s s.length).2.length s.length (zm (QP s s.length).2) (RL (QP s s.length).1) (lL (QP s s.length).1) (fun _=>none)).trans (qZ (by simp) rfl);exact Pz.seqX (by kernel_rfl) (by simp) (Pz.run qv qf (m:=0) (by kernel_rfl) qh q20)
def qkH(R S:Nat->Nat->Int)(ln lm:Nat->Nat)(h h2:Nat)(rc rd:Nat->Option Nat)(c d:Option Nat)(i:Nat):List T:=[pgV R ln h rc c,pgV S lm h2 rd d,iI i]
def eqR(R S:Nat->Nat->Int)(ln lm:Nat->Nat)(i:Nat):Bool:=decide (ln i=lm i)&&Qg (fun j=>decide (R i j=S i j)) (ln i)
def eqP(R S:Nat->Nat->Int)(ln lm:Nat->Nat)(h h2:Nat):Bool:=decide (h=h2)&&Qg (eqR R S ln lm) h
noncomputable def qkI(x:List T->qg->Ex->List T->qg->Prop)(b:Bool):List (Nat×(List T->qg->LT)):=[(4,yy x (.ite b (.ret (.exit 0) [.undef] []) (.ret .ret [iI 1] [])))]
theorem qlX(R S:Nat->Nat->Int)(ln lm:Nat->Nat)(h:Nat)(rc rd:Nat->Option Nat)(c d:Option Nat)(i:Nat):qA P18 G18 A18 qk 0 16 [] 4 (qkH R S ln lm h h rc rd c d i) [] =
( bif decide (ofNat i<ofNat h) then gD (decide (0<=ofNat i)&&decide (ofNat i<ofNat h))<|gD (Z0 (fun j=>[uI (R i j)]) (ln i))<|gD (decide (0<=ofNat i)&&decide (ofNat i<ofNat h))<|gD (Z0 (fun j=>[uI (S i j)]) (lm i))<|bif !decide (yB (fun j=>[uI (R i j)]) (ln i)=yB (fun j=>[uI (S i j)]) (lm i)) then zR [iI 1] [] else
 zN [pgV R ln h rc c,pgV S lm h rd d,iI (i64.wrap (ofNat i+1))] [] else
 zX 0 [.undef] []):=by kernel_rfl
theorem qhN(R S:Nat->Nat->Int)(ln lm:Nat->Nat)(i:Nat):eqR R S ln lm i=true↔ln i=lm i/\∀j,j<ln i->R i j=S i j:=by
 unfold eqR;rw[Bool.and_eq_true,QD];simp only[decide_eq_true_eq]
theorem qhO(R S:Nat->Nat->Int)(ln lm:Nat->Nat)(h h2:Nat):eqP R S ln lm h h2=true↔h=h2/\∀i,i<h->ln i=lm i/\∀j,j<ln i->R i j=S i j:=by
 unfold eqP;rw[Bool.and_eq_true,QD];simp only[decide_eq_true_eq,qhN]
theorem qgc{f:Nat->Int}{n:Nat}:(yB (fun j=>[uI (f j)]) n).length=n:=by rw[kJ];simp
theorem qhP{R S:Nat->Nat->Int}{ln lm:Nat->Nat}{i:Nat}(hR:∀j,j<ln i->0<=R i j/\R i j<256)(hS:∀j,j<lm i->0<=S i j/\S i j<256):decide (yB (fun j=>[uI (R i j)]) (ln i)=yB (fun j=>[uI (S i j)]) (lm i))=eqR R S ln lm i:=by
 rw[Bool.eq_iff_iff,qhN,decide_eq_true_eq];constructor
 ·intro q;have e:ln i=lm i:=by have:=congrArg List.length q;rwa[qgc,qgc] at this
  rw[←e] at q;exact⟨e,qf3 hR (fun j hj=>hS j (by omega)) q⟩
 ·rintro⟨e,q⟩;rw[←e,kJ,kJ];refine List.map_inj_left.2 fun j hj=>?_;rw[q j (List.mem_range.1 hj)]
theorem qgd(R S:Nat->Nat->Int)(ln lm:Nat->Nat)(h h2:Nat)(rc rd:Nat->Option Nat)(c d:Option Nat)(hh:h<=1000)(hR:∀i,i<h->∀j,j<ln i->0<=R i j/\R i j<256)(hS:∀i,i<h2->∀j,j<lm i->0<=S i j/\S i j<256):ToldOk P18 G18 16 [pgV R ln h rc c,pgV S lm h2 rd d] (iI (bif eqP R S ln lm h h2 then 0 else 1)):=by
 obtain⟨x,hx⟩:=ZQ P18 G18 (A18 16) 16 4;by_cases q:h=h2
 ·subst q;have hl:(Qg (eqR R S ln lm) h=true->LoopOk P18 G18 (A18 16) 16 4 (qE (qkH R S ln lm h h rc rd c d 0) [] (.exit 0) [.undef] []))/\(Qg (eqR R S ln lm) h=false->LoopOk P18 G18 (A18 16) 16 4 (qE (qkH R S ln lm h h rc rd c d 0) [] .ret [iI 1] [])):=by
   refine zD qv (by kernel_rfl) (fun i=>qkH R S ln lm h h rc rd c d i) (fun _=>[]) (eqR R S ln lm) (n:=h) (fun i hi _ hg=>?_) (fun i hi _ hg=>?_) (fun _=>?_)
   ·refine Step.mk0 (A:=A18) (m:=0) qf rfl rfl qh (h1:=[]) ?_ .nil;rw[qlX,up1 (by omega),zs,zs,qhP (hR i hi) (hS i hi),hg];clear hR hS
    (repeat (first|refine BS ?_|refine BF ?_))
    rfl
   ·refine Last.mk0 (A:=A18) (m:=0) qf rfl rfl qh (h1:=[]) (by simp) ?_ .nil;rw[qlX,up1 (by omega),zs,zs,qhP (hR i hi) (hS i hi),hg];clear hR hS
    (repeat (first|refine BS ?_|refine BF ?_))
    rfl
   ·refine Last.mk0 (A:=A18) (m:=0) qf rfl rfl qh (h1:=[]) (by simp) ?_ .nil;rw[qlX];clear hR hS
    (repeat (first|refine BS ?_|refine BF ?_))
    rfl
  clear hR hS;unfold eqP;rw[dT rfl,Bool.true_and];generalize Qg (eqR R S ln lm) h=b at *
  refine qJ qv q9 qf (A:=A18) (m:=0) (l:=qkI x b) (by kernel_rfl) (qK (QS hx _)) ?_;rw[(show QB P18 G18 A18 qk 0 16 (qkI x b) [pgV R ln h rc c,pgV S lm h rd d] =
( bif !decide (ofNat h=ofNat h) then some (iI 1) else
 bif b then gD (qF (x [.view 1 h (fun i=>[.view 1 (ln i) (fun j=>[uI (R i j)]) (rc i)]) c,.view 1 h (fun i=>[.view 1 (lm i) (fun j=>[uI (S i j)]) (rd i)]) d,iI 0] [] (.exit 0) [.undef] []))<|some (iI 0) else
 gD (qF (x [.view 1 h (fun i=>[.view 1 (ln i) (fun j=>[uI (R i j)]) (rc i)]) c,.view 1 h (fun i=>[.view 1 (lm i) (fun j=>[uI (S i j)]) (rd i)]) d,iI 0] [] .ret [iI 1] []))<|some (iI 1)) from by kernel_rfl)]
  refine BF ?_;cases b
  ·have:=hl.2 rfl
   (repeat (first|refine BS ?_|refine BF ?_))
   rfl
  ·have:=hl.1 rfl
   (repeat (first|refine BS ?_|refine BF ?_))
   rfl
 ·clear hR hS;unfold eqP;rw[dF q,Bool.false_and];refine qJ qv q9 qf (A:=A18) (m:=0) (l:=qkI x true) (by kernel_rfl) (qK (QS hx _)) ?_;rw[(show QB P18 G18 A18 qk 0 16 (qkI x true) [pgV R ln h rc c,pgV S lm h2 rd d] =
( bif !decide (ofNat h=ofNat h2) then some (iI 1) else
 gD (qF (x [.view 1 h (fun i=>[.view 1 (ln i) (fun j=>[uI (R i j)]) (rc i)]) c,.view 1 h2 (fun i=>[.view 1 (lm i) (fun j=>[uI (S i j)]) (rd i)]) d,iI 0] [] (.exit 0) [.undef] []))<|some (iI 0)) from by kernel_rfl)]
  refine BS ?_;rfl
def qnj(h:Nat)(R:Nat->Nat->Int)(ln:Nat->Nat)(rc:Nat->Option Nat)(c:Option Nat)(_:List T):Option T:=some (pgV R ln h rc c)
def qoV(_:List T):Option T:=some (.tup [.nils,iI 4])
def qnk(_:List T):Option T:=some (.bool true)
theorem ty0(s:List UInt8)(D:IR):qy P18 G18 A18 qk 0 6 [] (nav [1]) [0,1] [.agg [uI D.wd,D.rows none],.str s] [] [1,2] =
( zN [.str s,.reg [uI D.wd,D.rows
 none]] []):=by kernel_rfl
theorem ty1(s:List UInt8)(D:IR):qy P18 G18 A18 qk 0 6 [] (nav [1,2]) [1,2] [.str s,.reg [uI D.wd,D.rows none]] [] [1,2] =
( bif decide (600<ofNat s.length) then zR [.str s,.reg [uI D.wd,D.rows
 none]] [] else
 zN [.str s,.reg [uI D.wd,D.rows
 none]] []):=by kernel_rfl
theorem qoW(s:List UInt8)(D:IR):qy P18 G18 A18 qk 0 6 [] (nav [1,2]) [1,2] [.str s,.reg [uI D.wd,D.rows none]] [] [4] =
( bif decide (600<ofNat s.length) then zR [.bool true] [] else
 zN [.undef] []):=by kernel_rfl
theorem ty3(p:List T->T->Prop)(s:List UInt8)(D:IR)(h:Nat)(R:Nat->Nat->Int)(ln:Nat->Nat)(rc:Nat->Option Nat)(c:Option Nat):qy P18 G18 A18 (qk.add 13 (qL p (qnj h R ln rc c))) 0 6 [] (nav [1,2,2]) [1,2] [.str s,.reg [uI D.wd,D.rows none]] [] [1,5] =
( gD (qF (p [.agg [uI D.wd,D.rows
 none]] (pgV R ln h rc c)))<|zN [.str s,pgV R ln h rc c] []):=by kernel_rfl
theorem ty4(s:List UInt8)(h:Nat)(R:Nat->Nat->Int)(ln:Nat->Nat)(rc:Nat->Option Nat)(c:Option Nat):qy P18 G18 A18 qk 0 6 [] (nav [1,2,2,2]) [1,5] [.str s,pgV R ln h rc c] [] [1,5,6] =
( zN [.str s,pgV R ln h rc c,.str []] []):=by kernel_rfl
theorem ty5(s:List UInt8)(h:Nat)(R:Nat->Nat->Int)(ln:Nat->Nat)(rc:Nat->Option Nat)(c:Option Nat):qy P18 G18 A18 qk 0 6 [] (nav [1,1,2,2,2,2]) [1,5,6] [.str s,pgV R ln h rc c,.str []] [] [1,5,6,7] =
( zN [.str s,pgV R ln h rc c,.str [],iI (i64.wrap (ofNat h-1))] []):=by kernel_rfl
theorem qnl(p:List T->T->Prop)(s:List UInt8):qy P18 G18 A18 (qk.add 19 (qL p qoV)) 0 6 [] (nav [1,2,2,2,2,2,2,2]) [1] [.str s] [] [1,11,12] =
( gD (qF (p [.str s] (.tup [.nils,iI 4])))<|zN [.str s,.nils,iI 4] []):=by kernel_rfl
theorem qnm(p:List T->T->Prop)(s:List UInt8)(h:Nat)(R:Nat->Nat->Int)(ln:Nat->Nat)(rc:Nat->Option Nat):qy P18 G18 A18 (qk.add 19 (qL p (qnf h R ln rc))) 0 6 [] (nav [1,2,2,2,2,2,2,2]) [1] [.str s] [] [1,11,12] =
( gD (qF (p [.str s] (.tup (v21 R ln h rc (some h) (nat_lit 0)))))<|zN (.str s::v21 R ln h rc (some h) (nat_lit 0)) []):=by kernel_rfl
theorem qoX(x:T)(s:List UInt8)(e:Int):qy P18 G18 A18 qk 0 6 [] (nav [1,2,2,2,2,2,2,2,2]) [1,11,12] [.str s,x,iI e] [] [1,11,12,13] =
( zN [.str s,x,iI e,.nils] []):=by kernel_rfl
theorem qoY(x:T)(s:List UInt8)(e:Int)(n:Nat)(R:Nat->Nat->Int)(ln:Nat->Nat)(rc:Nat->Option Nat):qy P18 G18 A18 qk 0 6 [] (nav [1,2,2,2,2,2,2,2,2,2]) [1,11,12,13] [.str s,x,iI e,pgV R ln n rc none] [] [1,11,12,13,14] =
( zN [.str s,x,iI e,pgV R ln n rc
 none,.own 0 0 0 0 (some 0)] [.mk 0 1 0 (fun j=>[]) true true
 none]):=by kernel_rfl
theorem qoZ(x:T)(s:List UInt8)(e:Int)(n v:Nat)(g:Nat->Int)(R:Nat->Nat->Int)(ln:Nat->Nat)(rc:Nat->Option Nat):qy P18 G18 A18 qk 0 6 [] (nav [1,1,2,2,2,2,2,2,2,2,2,2]) [1,11,12,13,14] [.str s,x,iI e,pgV R ln n rc none,.own 0 v 0 0 none] [ub v 0 g] [1,11,12,13,14,15] =
( zN [.str s,x,iI e,pgV R ln n rc
 none,.own 0 v 0 0
 none,iI 0] [ub v (0:Nat) g]):=by kernel_rfl
theorem qnn(p:List T->T->Prop)(k:Int)(x:T)(s:List UInt8)(e:Int)(n:Nat)(R:Nat->Nat->Int)(ln:Nat->Nat)(rc:Nat->Option Nat):qy P18 G18 A18 (qk.add 21 (qL p (kS k))) 0 6 [] (nav [1,2,2,2,2,2,2,2,2,2,2,2]) [1,11,12,13] [.str s,x,iI e,pgV R ln n rc none] [] [1,11,12,13,16] =
( bif !decide (s=[]) then gD (decide (0<=i64.wrap (ofNat s.length-1))&&decide (i64.wrap (ofNat s.length-1)<ofNat s.length))<|bif decide (ofNat (s.getD (i64.wrap (ofNat s.length-(1:Int))).toNat (0:UInt8)).toNat=10) then gD (qF (p [pgV R ln n rc
 none] (iI k)))<|bif decide (k=0) then zN [.str s,x,iI e,pgV R ln n rc
 none,.bool true] [] else
 zN [.str s,x,iI e,pgV R ln n rc
 none,.bool false] [] else
 zN [.str s,x,iI e,pgV R ln n rc
 none,.bool false] [] else
 zN [.str s,x,iI e,pgV R ln n rc
 none,.bool false] []):=by kernel_rfl
theorem qno(p:List T->T->Prop)(s:List UInt8)(n:Nat)(R:Nat->Nat->Int)(ln:Nat->Nat)(rc:Nat->Option Nat):qy P18 G18 A18 (qk.add 12 (qL p qnk)) 0 6 [] (nav [1,2,2,2,2,2,2,2,2,2,2,2,2]) [1,11,12,13,16] [.str s,.nils,iI 4,pgV R ln n rc none,.bool false] [] [4] =
( gD (qF (p [] (.bool true)))<|zR [.bool true] []):=by kernel_rfl
theorem qnp(x:T)(s:List UInt8)(e:Int)(n:Nat)(R:Nat->Nat->Int)(ln:Nat->Nat)(rc:Nat->Option Nat):qy P18 G18 A18 qk 0 6 [] (nav [1,2,2,2,2,2,2,2,2,2,2,2,2]) [1,11,12,13,16] [.str s,x,iI e,pgV R ln n rc none,.bool true] [] [1,11,12,13] =
( zN [.str s,x,iI e,pgV R ln n rc
 none] []):=by kernel_rfl
theorem qo0(p q r:List T->T->Prop)(s:List UInt8)(d:Int)(n:Nat)(R R2:Nat->Nat->Int)(ln l2:Nat->Nat)(rc r2:Nat->Option Nat)(W:List UInt8):qy P18 G18 A18 (((qk.add 16 (qL p (kS d))).add 20 (qL q (qng W))).add 12 (qL r qnk)) 0 6 [] (nav [2,2,2,2,2,2,2,2,2,2,2,2,2]) [1,11,12,13] [.str s,pgV R2 l2 n r2 (some n),iI 0,pgV R ln n rc none] [] [4] =
( gD (qF (p [pgV R2 l2 n r2 (some n),pgV R ln n rc
 none] (iI d)))<|bif decide (d=0) then gD (qF (q [pgV R2 l2 n r2 (some n)] (.str W)))<|bif decide (W=s) then gD (qF (r [] (.bool true)))<|zR [.bool true] [] else
 zR [.bool false] [] else
 zR [.bool false] []):=by kernel_rfl
theorem qj0(x:Int):u8.wrap x=x%256:=by
 show(if (false&&decide (x%2 ^ 8 ≥ 2 ^ (8-1)))=true then x%2 ^ 8-2 ^ 8 else x%2 ^ 8)=_;rw[Bool.false_and,if_neg (by simp)];rfl
theorem kV(a:List UInt8)(j:Nat):0<=zm a j/\zm a j<256:=by
 unfold zm Yh;split
 ·unfold dig;generalize ofNat (a.getD (0+j) 0).toNat-48=x;rw[qj0];omega
 ·omega
theorem qj1(L:List (List UInt8))(j:Nat):rwL L (sgR L.length (L.length/2) (0+j))=rwL L.reverse j:=by
 unfold rwL;rw[Nat.zero_add,List.getD_eq_getElem?_getD,List.getD_eq_getElem?_getD];by_cases q:j<L.length
 ·rw[List.getElem?_reverse q];congr 2;unfold sgR;split
  ·rfl
  ·omega
 ·have e1:sgR L.length (L.length/2) j=j:=by unfold sgR;rw[if_neg (by omega)]
  rw[e1,List.getElem?_eq_none (by omega),List.getElem?_eq_none (by rw[List.length_reverse];omega)]
theorem qj2(L:List (List UInt8)):rvR L=RL L.reverse:=by
 funext j;unfold rvR RL;rw[qj1]
theorem qj3(L:List (List UInt8)):rvL L=lL L.reverse:=by
 funext j;unfold rvL lL;rw[qj1]
theorem qhQ{R:Nat->Nat->Int}{ln:Nat->Nat}{h:Nat}(e:pcE R ln h=0):0<h/\∀i,i<h->0<ln i/\∀j,j<ln i->1<=R i j/\R i j<=6:=by
 unfold pcE at e;cases q1:decide (31<h) with
 |true=>rw[q1,cond_true] at e;omega
 |false =>
  rw[q1,cond_false] at e;cases q2:Qg (pA ln) h with
  |false=>rw[q2,cond_false] at e;omega
  |true =>
   rw[q2,cond_true] at e;cases q3:decide (h%2=0) with
   |true=>rw[q3,cond_true] at e;omega
   |false =>
    rw[q3,cond_false] at e;cases q4:Qg (pB R ln) h with
    |false=>rw[q4,cond_false] at e;omega
    |true =>
     refine⟨by have:=of_decide_eq_false q3;omega,fun i hi=>?_⟩;have q:=(QD _ _).1 q4 i hi;simp only[pB,Bool.not_eq_true',Bool.or_eq_false_iff,decide_eq_false_iff_not] at q;obtain⟨⟨g1,g2⟩,g3⟩:=q;refine⟨by omega,fun j hj=>?_⟩;have m1:=qe4 (R i) (ln i-1) j (by omega);have m2:=qe5 (R i) (ln i-1) j (by omega);omega
theorem qkJ{R:Nat->Nat->Int}{ln:Nat->Nat}{n h:Nat}(hl:∀i,i<h->ln i=n)(h1:1<=n/\n<=16)(hh:h<=31)(ho:h%2=1)(hc:∀i,i<h->∀j,j<n->1<=R i j/\R i j<=6)(h2:∀i,i<h->kK (R i) n<=2):pcE R ln h=0:=by
 unfold pcE;have a1:Qg (pA ln) h=true:=(QD _ _).2 fun i hi=>dT (by rw[hl i hi];exact h1.2);have a2:Qg (pB R ln) h=true:=(QD _ _).2 fun i hi=>by
  have g1:=qcp (R i) 1 (n-1) fun j hj=>(hc i hi j (by omega)).1;have g2:=qcq (R i) 6 (n-1) fun j hj=>(hc i hi j (by omega)).2;simp only[pB,hl i hi,Bool.not_eq_true',Bool.or_eq_false_iff,decide_eq_false_iff_not];omega
 have a3:Qg (pC ln) h=true:=(QD _ _).2 fun i hi=>dT (by rw[hl i hi,hl 0 (by omega)]);have a4:Qg (pD R ln) h=true:=(QD _ _).2 fun i hi=>dT (by rw[hl i hi];exact h2 i hi);rw[dF (by omega),cond_false,a1,cond_true,dF (by omega),cond_false,a2,cond_true,a3,cond_true,a4,cond_true]
theorem qj4{c:UInt8}(h:1<=u8.wrap (ofNat c.toNat-48)/\u8.wrap (ofNat c.toNat-48)<=6):UInt8.ofNat (48+(u8.wrap (ofNat c.toNat-48)).toNat)=c:=by
 have hc:=c.toNat_lt;have e:u8.wrap (ofNat c.toNat-48)=(ofNat c.toNat-48)%256:=qj0 _;rw[e] at h ⊢;apply UInt8.toNat_inj.1;rw[UInt8.toNat_ofNat'];simp only[Int.ofNat_eq_natCast] at *
 omega
theorem qiC(L:List (List UInt8))(h:∀a,a∈L->∀j,j<a.length->1<=zm a j/\zm a j<=6):qdh (RL L.reverse) (lL L.reverse) L.length=yz L:=by
 unfold qdh;rw[qaw];congr 1;refine List.ext_getElem? fun k=>?_;unfold Y4;rw[List.getElem?_map];by_cases q:k<L.length
 ·rw[List.getElem?_range q,List.getElem?_eq_getElem q,Option.map_some];congr 1;have e:rwL L.reverse (L.length-1-k)=L[k]:=by
   unfold rwL;rw[List.getD_eq_getElem?_getD,List.getElem?_reverse (by omega),show L.length-1-(L.length-1-k)=k by omega,List.getElem?_eq_getElem q];rfl
  have ha:=h L[k] (List.getElem_mem q);unfold Zb lL zd RL;rw[e];generalize L[k]=a at *
  refine List.ext_getElem? fun j=>?_;rw[List.getElem?_map];by_cases q2:j<a.length
  ·rw[List.getElem?_range q2,List.getElem?_eq_getElem q2,Option.map_some];congr 1;have hj:=ha j q2;unfold zm Yh at hj ⊢;rw[Nat.zero_add,if_pos q2] at hj ⊢;unfold dig at hj ⊢;rw[List.getD_eq_getElem?_getD,List.getElem?_eq_getElem q2,Option.getD_some] at hj ⊢;exact qj4 hj
  ·rw[List.getElem?_eq_none (by simpa using q2),List.getElem?_eq_none (by omega)];rfl
 ·rw[List.getElem?_eq_none (by simpa using q),List.getElem?_eq_none (by omega)];rfl
theorem qiD(R:Nat->Nat->Int)(w n:Nat)(hR:∀i j,1<=R i j/\R i j<=6)(i:Nat)(hi:i<n):(rwL (Y4 (zd R) (fun _=>w) n n).reverse i).length=w/\∀j,j<w->zm (rwL (Y4 (zd R) (fun _=>w) n n).reverse i) j=R i j:=by
 have e:rwL (Y4 (zd R) (fun _=>w) n n).reverse i=Zb (zd R) (fun _=>w) i w:=by
  unfold rwL;have hl:(Y4 (zd R) (fun _=>w) n n).length=n:=by simp[Y4]
  rw[List.getD_eq_getElem?_getD,List.getElem?_reverse (by omega),hl];unfold Y4;rw[List.getElem?_map,List.getElem?_range (by omega),Option.map_some,Option.getD_some,show n-1-(n-1-i)=i by omega]
 rw[e];have hl:(Zb (zd R) (fun _=>w) i w).length=w:=by simp[Zb]
 refine⟨hl,fun j hj=>?_⟩;unfold zm Yh;rw[Nat.zero_add,hl,if_pos hj];unfold dig Zb;rw[List.getD_eq_getElem?_getD,List.getElem?_map,List.getElem?_range hj,Option.map_some,Option.getD_some,UInt8.toNat_ofNat'];have:=hR i j;unfold zd;rw[show ofNat ((48+(R i j).toNat)%2 ^ 8)-48=R i j by simp only[Int.ofNat_eq_natCast];omega];exact wr8 (by omega) (by omega)
theorem qj5(σ:List Nat)(h:qg):ren σ h .nils = .nils:=rfl
theorem qkK(σ:List Nat)(h:qg)(R:Nat->Nat->Int)(ln:Nat->Nat)(n:Nat)(rc:Nat->Option Nat)(c:Option Nat):ren σ h (pgV R ln n rc c)=pgV R ln n rc c:=rfl
theorem qnq(s:List UInt8)(x:T)(e:Int)(hs:s.length<=1000)(hx:∀σ h,ren σ h x=x)
 (rest:Pz P18 G18 A18 6 [] [2,2,2,2,2,2,2,2,2,2,2] [1,11,12,13] [.str s,x,iI e,rwv (QP s s.length).1] [] .ret [4] [.bool true] []) :
 Pz P18 G18 A18 6 [] [2,2,2,2,2,2,2,2] [1,11,12] [.str s,x,iI e] [] .ret [4] [.bool true] []:=by
 have p17:Pz P18 G18 A18 6 [] [1,2,2,2,2,2,2,2,2] [1,11,12] [.str s,x,iI e] [] .normal [1,11,12,13] [.str s,x,iI e,rwv []] [] :=
  Pz.post (Pz.run qv qf (m:=0) (by kernel_rfl) qh (qoX x s e)) fun nt=>.sl (.cons (.refl _) (.cons (.refl _) (.cons (.refl _) (.cons (.nilv _ _ (.inl rfl)) .nil)))) (.refl _)
 have p18:Pz P18 G18 A18 6 [] [1,2,2,2,2,2,2,2,2,2] [1,11,12,13] [.str s,x,iI e,rwv []] [] .normal [1,11,12,13,14] [.str s,x,iI e,rwv [],.own 0 0 0 0 none] [ub 0 0 (zm [])] :=
  Pz.post (Pz.run qv qf (m:=0) (by kernel_rfl) qh (qoY x s e 0 (RL []) (lL []) (fun _=>none))) fun nt =>
   .trans (.cap (.cons (.refl _) (.cons (.refl _) (.cons (.refl _) (.cons (.refl _) (.cons (.own rfl (Nat.le_refl _)) .nil)))))) (.same (.cons ⟨rfl,rfl,rfl,id,fun j hj=>by cases hj⟩ .nil))
 have p19:Pz P18 G18 A18 6 [] [1,1,2,2,2,2,2,2,2,2,2,2] [1,11,12,13,14] [.str s,x,iI e,rwv [],.own 0 0 0 0 none] [ub 0 0 (zm [])] .normal [1,11,12,13,14,15] (v6s s x e 0) (h6s s 0) :=
  Pz.run qv qf (m:=0) (by kernel_rfl) qh (qoZ x s e 0 0 (zm []) (RL []) (lL []) (fun _=>none))
 have pl:=qni s x e hs hx;refine Pz.seq (by kernel_rfl) p17 (Pz.seq (by kernel_rfl) p18 (Pz.seq (by kernel_rfl) (Pz.seq (by kernel_rfl) p19 (Pz.blk (id:=4) (e:=.exit 4) (by kernel_rfl) rfl (Pz.post (Pz.only pl (l2:=[1,11,12,13]) rfl) (v2:=[.str s,x,iI e,rwv (QP s s.length).1]) (h2:=[]) fun nt=>?_))) rest));refine .trans (.canon [] rfl) ?_;show WeakTo _ _ nt _ _ [_,ren [] _ x,_,_] [] _ _;rw[hx];exact .refl _ _
theorem qo1(s:List UInt8)(D:List (List UInt8))(hs:s.length<=1000)(hl:D.length<=1000/\∀i,i<D.length->lL D i<=1000)(h:s=[]∨s.getD (s.length-1) 0≠10∨pcE (RL D) (lL D) D.length≠0) :
 Pz P18 G18 A18 6 [] [2,2,2,2,2,2,2,2,2,2,2] [1,11,12,13] [.str s,.nils,iI 4,rwv D] [] .ret [4] [.bool true] []:=by
 obtain⟨p,hp⟩:=qD P18 G18 21;obtain⟨q,hq⟩:=qD P18 G18 12;have t21:=ja (R:=RL D) (ln:=lL D) (h:=D.length) (rc:=fun _=>none) (c:=none) hl.1 hl.2 (fun i _ j _=>kV _ j);have k26:=qnn p (pcE (RL D) (lL D) D.length) .nils s 4 D.length (RL D) (lL D) (fun _=>none);have k27:=(qno q s D.length (RL D) (lL D) (fun _=>none)).trans (qm (qp hq Yf) rfl);have p26:Pz P18 G18 A18 6 [] [1,2,2,2,2,2,2,2,2,2,2,2] [1,11,12,13] [.str s,.nils,iI 4,rwv D] [] .normal [1,11,12,13,16] [.str s,.nils,iI 4,rwv D,.bool false] []:=by
  refine Pz.run qv (qq qf (qj hp)) (m:=0) (by kernel_rfl) qh (k26.trans ?_);by_cases q0:s=[]
  ·exact qZ (by simp[q0]) rfl
  ·have hpos:0<s.length:=List.length_pos_iff.2 q0;have e1:i64.wrap (ofNat s.length-1)=((s.length-1:Nat):Int):=by
    rw[qI (by simp only[Int.ofNat_eq_natCast];omega) (by simp only[Int.ofNat_eq_natCast];omega)];simp only[Int.ofNat_eq_natCast];omega
   rw[e1];refine qm (by simp[q0]) (qm (by simp;omega) ?_);by_cases q1:s.getD (s.length-1) 0=10
   ·refine qm (by rw[show(((s.length-1:Nat):Int)).toNat=s.length-1 from rfl,q1];rfl) (qm (qp hp t21) (qZ ?_ rfl));rcases h with h|h|h
    ·exact absurd h q0
    ·exact absurd q1 h
    ·simpa using h
   ·refine qZ ?_ rfl;rw[show(((s.length-1:Nat):Int)).toNat=s.length-1 from rfl];have:(s.getD (s.length-1) 0).toNat≠10:=fun h=>q1 (UInt8.toNat_inj.1 h);simp only[Int.ofNat_eq_natCast,decide_eq_true_eq];omega
 exact Pz.seq (by kernel_rfl) p26 (Pz.seqX (by kernel_rfl) (by simp) (Pz.run qv (qq qf (qj hq)) (m:=0) (by kernel_rfl) qh k27))
theorem qnr(s:List UInt8)(D:List (List UInt8))(rc:Nat->Option Nat)(hs:s.length<=1000)(hl:D.length<=1000/\∀i,i<D.length->lL D i<=1000)(hlt:∀i,lL D i<=1000)(h0:s≠[])(h1:s.getD (s.length-1) 0=10)(h2:pcE (RL D) (lL D) D.length=0)(h3:qdh (RL D) (lL D) D.length=s) :
 Pz P18 G18 A18 6 [] [2,2,2,2,2,2,2,2,2,2,2] [1,11,12,13] [.str s,pgV (RL D) (lL D) D.length rc (some D.length),iI 0,rwv D] [] .ret [4] [.bool true] []:=by
 obtain⟨p,hp⟩:=qD P18 G18 21;obtain⟨q,hq⟩:=qD P18 G18 12;obtain⟨p16,hp16⟩:=qD P18 G18 16;obtain⟨p20,hp20⟩:=qD P18 G18 20;obtain⟨i1,i2⟩:=qhQ h2;have t21:=ja (R:=RL D) (ln:=lL D) (h:=D.length) (rc:=fun _=>none) (c:=none) hl.1 hl.2 (fun i _ j _=>kV _ j);have t16:=qgd (RL D) (RL D) (lL D) (lL D) D.length D.length rc (fun _=>none) (some D.length) none hl.1 (fun i _ j _=>kV _ j) (fun i _ j _=>kV _ j);rw[show eqP (RL D) (RL D) (lL D) (lL D) D.length D.length=true from(qhO _ _ _ _ _ _).2 ⟨rfl,fun i _=>⟨rfl,fun j _=>rfl⟩⟩,cond_true] at t16;have t20:=qk3 (RL D) (lL D) D.length rc (some D.length) i1 hl.1 hlt (fun i hi=>(i2 i hi).1) (fun i j=>by
  by_cases c1:i<D.length/\j<lL D i
  ·have:=(i2 i c1.1).2 j c1.2;omega
  ·have:RL D i j=0:=by
    unfold RL zm Yh;rw[if_neg];rw[Nat.zero_add];intro hj;refine c1 ⟨?_,hj⟩;rcases Nat.lt_or_ge i D.length with c2|c2
    ·exact c2
    ·unfold rwL at hj;rw[List.getD_eq_getElem?_getD,List.getElem?_eq_none c2] at hj;simp at hj
   omega) h2
 rw[h3] at t20;have hpos:0<s.length:=List.length_pos_iff.2 h0;have e1:i64.wrap (ofNat s.length-1)=((s.length-1:Nat):Int):=by
  rw[qI (by simp only[Int.ofNat_eq_natCast];omega) (by simp only[Int.ofNat_eq_natCast];omega)];simp only[Int.ofNat_eq_natCast];omega
 have k26:=qnn p (pcE (RL D) (lL D) D.length) (pgV (RL D) (lL D) D.length rc (some D.length)) s 0 D.length (RL D) (lL D) (fun _=>none);rw[e1] at k26;have k26:=k26.trans (qm (by simp[h0]) (qm (by simp;omega) (qm (by rw[show(((s.length-1:Nat):Int)).toNat=s.length-1 from rfl,h1];rfl) (qm (qp hp t21) (qm (by simpa using h2) rfl)))));have k27:=qnp (pgV (RL D) (lL D) D.length rc (some D.length)) s 0 D.length (RL D) (lL D) (fun _=>none);have k29:=(qo0 p16 p20 q s 0 D.length (RL D) (RL D) (lL D) (lL D) (fun _=>none) rc s).trans (qm (qp hp16 t16) (qm rfl (qm (qp hp20 t20) (qm (by simp) (qm (qp hq Yf) rfl)))));exact Pz.seq (by kernel_rfl) (Pz.run qv (qq qf (qj hp)) (m:=0) (by kernel_rfl) qh k26) (Pz.seq (by kernel_rfl) (Pz.run qv qf (m:=0) (by kernel_rfl) qh k27) (Pz.run qv (qq (qq (qq qf (qj hp16)) (qj hp20)) (qj hq)) (m:=0) (by kernel_rfl) qh k29))
theorem qj6(s:List UInt8)(L:List (List UInt8))(hL:Lines s L)(h0:0<L.length)(hs:s.length<=1000)(hl:L.length<=1000)(hll:∀i,i<L.length->lL L.reverse i<=1000) :
 (pcE (RL L.reverse) (lL L.reverse) L.length=0->ToldOk P18 G18 19 [.str s] (.tup [pgV (RL L.reverse) (lL L.reverse) L.length (rvC L) (some L.length),iI 0]))/\(pcE (RL L.reverse) (lL L.reverse) L.length≠0->ToldOk P18 G18 19 [.str s] (.tup [.nils,iI 4])):=by
 have t:=qlU s L hL h0 hs hl (by rw[qj3];exact hll) (by rw[qj2];exact fun i j=>kV _ j);rw[qj2,qj3] at t;constructor
 ·intro e;rw[if_pos e] at t;exact t.frz
 ·intro e;rwa[if_neg e] at t
theorem qns(s:List UInt8)(hs:s.length<=600):Pz P18 G18 A18 6 [] [2,2,2,2,2,2,2] [1] [.str s] [] .ret [4] [.bool true] []:=by
 obtain⟨p,hp⟩:=qD P18 G18 19;obtain⟨d1,d2,d3⟩:=qe7 s s.length (Nat.le_refl _);have hD:(QP s s.length).1.length<=1000/\∀i,i<(QP s s.length).1.length->lL (QP s s.length).1 i<=1000:=⟨by omega,fun i hi=>by
  have:=d3 _ (List.getElem_mem hi);unfold lL rwL;rw[List.getD_eq_getElem?_getD,List.getElem?_eq_getElem hi,Option.getD_some];omega⟩
 have bad:ToldOk P18 G18 19 [.str s] (.tup [.nils,iI 4])->(s=[]∨s.getD (s.length-1) 0≠10∨pcE (RL (QP s s.length).1) (lL (QP s s.length).1) (QP s s.length).1.length≠0)->Pz P18 G18 A18 6 [] [2,2,2,2,2,2,2] [1] [.str s] [] .ret [4] [.bool true] []:=fun t h =>
  Pz.seq (by kernel_rfl) (Pz.run qv (qq qf (qj hp)) (m:=0) (by kernel_rfl) qh ((qnl p s).trans (qm (qp hp t) rfl))) (qnq s .nils 4 (by omega) qj5 (qo1 s _ (by omega) hD h))
 rcases qgb s.length s (Nat.le_refl _) with⟨L,hL,hLl⟩|hN
 ·cases L with
  |nil =>
   cases hL;exact bad qlW (.inl rfl)
  |cons a L0 =>
   generalize hLL:a::L0=L at *
   have hne:L≠[]:=by rw[←hLL];simp
   have hpos:0<L.length:=List.length_pos_iff.2 hne;have sc:=qhh hL;obtain⟨l1,l2⟩:=qhi hL hne;have e1:(QP s s.length).1=L.reverse:=by rw[sc]
   rw[e1,List.length_reverse] at hD bad;obtain⟨v1,v2⟩:=qj6 s L hL hpos (by omega) (by omega) hD.2;by_cases e:pcE (RL L.reverse) (lL L.reverse) L.length=0
   ·have t:=v1 e;obtain⟨i1,i2⟩:=qhQ e;have hx:qdh (RL L.reverse) (lL L.reverse) L.length=s:=by
     rw[qiC L fun a ha j hj=>?_]
     ·exact(JY hL).symm
     ·obtain⟨k,hk,rfl⟩:=List.getElem_of_mem ha;have q:=(i2 (L.length-1-k) (by omega)).2 j;have er:rwL L.reverse (L.length-1-k)=L[k]:=by
       unfold rwL;rw[List.getD_eq_getElem?_getD,List.getElem?_reverse (by omega),show L.length-1-(L.length-1-k)=k by omega,List.getElem?_eq_getElem hk];rfl
      unfold lL RL at q;rw[er] at q;exact q hj
    have g:=qnr s L.reverse (rvC L) (by omega) (by rw[List.length_reverse];exact hD) (fun i=>by
     by_cases q:i<L.length
     ·exact hD.2 i q
     ·unfold lL rwL;rw[List.getD_eq_getElem?_getD,List.getElem?_eq_none (by rw[List.length_reverse];omega)];simp) l1 l2 (by rw[List.length_reverse];exact e) (by rw[List.length_reverse];exact hx)
    rw[List.length_reverse] at g;refine Pz.seq (by kernel_rfl) (Pz.run qv (qq qf (qj hp)) (m:=0) (by kernel_rfl) qh ((qnm p s L.length (RL L.reverse) (lL L.reverse) (rvC L)).trans (qm (qp hp t) rfl))) (qnq s _ 0 (by omega) (fun σ h=>qkK σ h _ _ _ _ _) ?_);rw[e1];exact g
   ·exact bad (v2 e) (.inr (.inr e))
 ·exact bad (qlV s hN (by omega)) (.inr (.inl (qiz hN).2))
theorem qlY(D:IR)(hD:D.Ok)(s:List UInt8):ToldOk P18 G18 6 [.agg [uI D.wd,D.rows none],.str s] (.bool true):=by
 obtain⟨ok,hr⟩:=D.pic;obtain⟨n1,n2,n3⟩:=D.n_bd;obtain⟨p13,hp13⟩:=qD P18 G18 13;obtain⟨p19,hp19⟩:=qD P18 G18 19;obtain⟨p20,hp20⟩:=qD P18 G18 20;obtain⟨p16,hp16⟩:=qD P18 G18 16;have hw:1<=D.w/\D.w<=10:=by unfold IR.w;omega
 have p0:Pz P18 G18 A18 6 [] [1] [0,1] [.agg [uI D.wd,D.rows none],.str s] [] .normal [1,2] [.str s,.reg [uI D.wd,D.rows none]] []:=Pz.run qv qf (m:=0) (by kernel_rfl) qh (ty0 s D);by_cases hs:s.length<=600
 ·refine Pz.told (A:=A18) (l1:=[4]) (v1:=[.bool true]) (h1:=[]) q9 Try.func6 (by kernel_rfl) (by kernel_rfl) (l:=[0,1]) rfl (Pz.seq (by kernel_rfl) p0 (Pz.seq (by kernel_rfl) (Pz.run qv qf (m:=0) (by kernel_rfl) qh ((ty1 s D).trans (qZ (by simp;omega) rfl))) ?_)) rfl;have t13:ToldOk P18 G18 13 [.agg [uI D.wd,D.rows none]] (pgV D.r (fun _=>D.w) D.n (fun _=>some D.w) none):=OfT D hD;have hcol:∀i j,zd D.r i j<=100:=fun i j=>by have:=hr i j;unfold zd;omega
  have hc6:∀i j,1<=D.r i j/\D.r i j<=6:=fun i j=>by have:=hr i j;omega
  have hok:=qhf ok;have t20:=qk3 D.r (fun _=>D.w) D.n (fun _=>some D.w) none n1 (by omega) (fun _=>by omega) (fun _ _=>hw.1) (fun i j=>by have:=hr i j;omega) hok;have hlen:=JX (zd D.r) (fun _=>D.w) D.n (fun _=>by omega) D.n;have hL:=qiw (zd D.r) (fun _=>D.w) D.n hcol;generalize hLd:Y4 (zd D.r) (fun _=>D.w) D.n D.n=L at hL;have hLn:L.length=D.n:=by rw[←hLd];simp[Y4]
  have rb:=qiD D.r D.w D.n hc6;rw[hLd] at rb;have hlL:∀i,i<D.n->lL L.reverse i=D.w:=fun i hi=>(rb i hi).1;have hRL:∀i,i<D.n->∀j,j<D.w->RL L.reverse i j=D.r i j:=fun i hi j hj=>(rb i hi).2 j hj;have hsz:(ZT (zd D.r) (fun _=>D.w) D.n D.n).length<=1000:=by
   have e:=JY hL;have:∀r,r<=D.n->(ZT (zd D.r) (fun _=>D.w) D.n r).length<=r*11:=by
    intro r
    induction r with
    |zero=>intro _;simp[ZT]
    |succ r ih =>
     intro hr;have:=ih (by omega);simp only[ZT,Zb,List.length_append,List.length_map,List.length_range,List.length_cons,List.length_nil];omega
   have:=this D.n (Nat.le_refl _);omega
  have hpc:pcE (RL L.reverse) (lL L.reverse) L.length=0:=by
   rw[hLn];refine qkJ (n:=D.w) hlL (by omega) (by omega) n3 (fun i hi j hj=>by rw[hRL i hi j hj];exact hc6 i j) fun i hi=>qeY (a:=D.pA i) (b:=D.pB i) (fun j hj=>kV _ j) fun j hj=>?_;rw[hRL i hi j hj];unfold IR.r;split
   ·split
    ·exact .inl rfl
    ·exact .inr rfl
   ·exact .inl rfl
  have t19:=(qj6 _ L hL (by omega) hsz (by omega) (fun i hi=>by rw[hlL i (by omega)];omega)).1 hpc;rw[hLn] at t19;have t16:=qgd (RL L.reverse) D.r (lL L.reverse) (fun _=>D.w) D.n D.n (rvC L) (fun _=>some D.w) (some D.n) none (by omega) (fun i _ j _=>kV _ j) (fun i _ j _=>by have:=hr i j;omega);rw[show eqP (RL L.reverse) D.r (lL L.reverse) (fun _=>D.w) D.n D.n=true from(qhO _ _ _ _ _ _).2 ⟨rfl,fun i hi=>⟨hlL i hi,fun j hj=>hRL i hi j (by rw[hlL i hi] at hj;exact hj)⟩⟩,cond_true] at t16;have p3:=Pz.run qv (qq qf (qj hp13)) (m:=0) (p:=[1,2,2]) (A:=A18) (f:=6) (h0:=[]) (by kernel_rfl) qh ((ty3 p13 s D D.n D.r (fun _=>D.w) (fun _=>some D.w) none).trans (qm (qp hp13 t13) rfl));have p4:=Pz.run qv qf (m:=0) (p:=[1,2,2,2]) (A:=A18) (f:=6) (h0:=[]) (by kernel_rfl) qh (ty4 s D.n D.r (fun _=>D.w) (fun _=>some D.w) none);have k5:=ty5 s D.n D.r (fun _=>D.w) (fun _=>some D.w) none;rw[show i64.wrap (ofNat D.n-1)=(D.n:Int)-1-(0:Nat) by rw[qI (by simp only[Int.ofNat_eq_natCast];omega) (by simp only[Int.ofNat_eq_natCast];omega)];simp] at k5;have p5:=Pz.run qv qf (m:=0) (p:=[1,1,2,2,2,2]) (A:=A18) (f:=6) (h0:=[]) (by kernel_rfl) qh k5;have pw:=qne s D.n D.r (fun _=>D.w) (fun _=>some D.w) none (by omega) (fun _=>by omega) (fun i j=>by have:=hr i j;omega);have k13:=(qoP p19 s (qdh D.r (fun _=>D.w) D.n) D.n D.n D.r (RL L.reverse) (fun _=>D.w) (lL L.reverse) (fun _=>some D.w) (rvC L) none).trans (qm (qp hp19 t19) rfl);have k14:=(qoQ p20 p16 s (qdh D.r (fun _=>D.w) D.n) (qdh D.r (fun _=>D.w) D.n) 0 D.n D.n D.r (RL L.reverse) (fun _=>D.w) (lL L.reverse) (fun _=>some D.w) (rvC L) none).trans (qm (qp hp20 t20) (qZ (by simp) (qm (qp hp16 t16) (qZ (by simp) (qZ (by simp) rfl)))));have p13:=Pz.run qv (qq qf (qj hp19)) (m:=0) (p:=[1,2,2,2,2,2]) (A:=A18) (f:=6) (h0:=[]) (by kernel_rfl) qh k13;have p14:=Pz.run qv (qq (qq qf (qj hp20)) (qj hp16)) (m:=0) (p:=[1,2,2,2,2,2,2]) (A:=A18) (f:=6) (h0:=[]) (by kernel_rfl) qh k14;exact Pz.seq (by kernel_rfl) p3 (Pz.seq (by kernel_rfl) p4 (Pz.seq (by kernel_rfl) (Pz.seq (by kernel_rfl) p5 (Pz.blk (id:=0) (e:=.exit 0) (by kernel_rfl) rfl (Pz.only pw (l2:=[1,5,6]) rfl))) (Pz.seq (by kernel_rfl) p13 (Pz.seq (by kernel_rfl) (Pz.only p14 (l2:=[1]) rfl) (qns s hs)))))
 ·exact Pz.told (A:=A18) (l1:=[4]) (v1:=[.bool true]) (h1:=[]) q9 Try.func6 (by kernel_rfl) (by kernel_rfl) (l:=[0,1]) rfl (Pz.seq (by kernel_rfl) p0 (Pz.seqX (by kernel_rfl) (by simp) (Pz.run qv qf (m:=0) (by kernel_rfl) qh ((qoW s D).trans (qm (by simp;omega) rfl))))) rfl
def lRg(wd:Int)(v i:Nat):T:=.reg [uI wd,.own 0 v 0 i none]
theorem qo2 :qy P18 G18 A18 qk 0 9 [] (nav [1]) [] [] [] [] =
( zN [] []):=by kernel_rfl
theorem qo3 :qy P18 G18 A18 qk 0 9 [] (nav [1,2]) [] [] [] [1] =
( zN [iI 1] []):=by kernel_rfl
theorem qo4(k:Int):qy P18 G18 A18 qk 0 9 [] (nav [1,1,2,2]) [1] [iI k] [] [1,2] =
( zN [iI k,iI 0] []):=by kernel_rfl
theorem qnt(k n:Int):qy P18 G18 A18 qk 0 9 [] (nav [1,0,0,2,1,2,2]) [1,2] [iI k,iI n] [] [1,2] =
( bif decide (n<12) then zN [iI k,iI n] [] else
 zX 0 [iI k,iI n] []):=by kernel_rfl
theorem qo5(k n:Int):qy P18 G18 A18 qk 0 9 [] (nav [1,0,1,2,0,0,2,1,2,2]) [1,2] [iI k,iI n] [] [1,2,3] =
( zN [iI k,iI n,.reg [uI (u8.wrap n),.nils]] []):=by kernel_rfl
theorem qo6(k n wd:Int)(v i m:Nat)(R:Nat->Nat->Int)(ln:Nat->Nat)(rc:Nat->Option Nat):qy P18 G18 A18 qk 0 9 [] (nav [1,1,2,0,1,2,0,0,2,1,2,2]) [1,2,3] [iI k,iI n,.reg [uI wd,.own 0 v 0 i none]] [pcB v m R ln rc] [1,2,3,4] =
( zN [iI k,iI n,lRg wd v i,iI 0] [pcB v m R ln rc]):=by kernel_rfl
theorem qo7(k n wd:Int)(v i m a:Nat)(R:Nat->Nat->Int)(ln:Nat->Nat)(rc:Nat->Option Nat):qy P18 G18 A18 qk 0 9 [] (nav [1,0,0,2,1,2,0,1,2,0,0,2,1,2,2]) [1,2,3,4] [iI k,iI n,.reg [uI wd,.own 0 v 0 i none],iI a] [pcB v m R ln rc] [1,2,3,4] =
( bif decide (ofNat a<n.tmod 4) then zN [iI k,iI n,lRg wd v i,iI (.ofNat a)] [pcB v m R ln rc] else
 zX 2 [iI k,iI n,lRg wd v i,iI (.ofNat a)] [pcB v m R ln rc]):=by kernel_rfl
theorem qo8(k n wd:Int)(v i m a:Nat)(R:Nat->Nat->Int)(ln:Nat->Nat)(rc:Nat->Option Nat):qy P18 G18 A18 qk 0 9 [] (nav [1,0,1,2,0,0,2,1,2,0,1,2,0,0,2,1,2,2]) [1,2,3,4] [iI k,iI n,.reg [uI wd,.own 0 v 0 i none],iI a] [pcB v m R ln rc] [1,2,3,4,5] =
( zN [iI k,iI n,lRg wd v i,iI (.ofNat a),.nils] [pcB v m R ln rc]):=by kernel_rfl
theorem qo9(k n wd:Int)(v i m a u:Nat)(g:Nat->Int)(R:Nat->Nat->Int)(ln:Nat->Nat)(rc:Nat->Option Nat):qy P18 G18 A18 qk 0 9 [] (nav [1,1,2,0,1,2,0,0,2,1,2,0,1,2,0,0,2,1,2,2]) [1,2,3,4,5] [iI k,iI n,.reg [uI wd,.own 0 v 0 i none],iI a,.own 1 u 0 0 none] [pcB v m R ln rc,ub u 0 g] [1,2,3,4,5,6] =
( zN [iI k,iI n,lRg wd v i,iI (.ofNat a),.own 1 u 0 0
 none,iI 0] [pcB v m R ln rc,ub u (0:Nat) g]):=by kernel_rfl
theorem qpa(k n wd:Int)(v i m a u j:Nat)(g:Nat->Int)(R:Nat->Nat->Int)(ln:Nat->Nat)(rc:Nat->Option Nat):qy P18 G18 A18 qk 0 9 [] (nav [0,0,2,1,2,0,1,2,0,0,2,1,2,0,1,2,0,0,2,1,2,2]) [1,2,3,4,5,6] [iI k,iI n,.reg [uI wd,.own 0 v 0 i none],iI a,.own 1 u 0 j none,iI j] [pcB v m R ln rc,ub u j g] [1,2,3,4,5,6] =
( bif decide (ofNat j<10) then gD (u==u&&true)<|gD (((0:Nat)+j).ble j)<|gD (((j+(1:Nat))*(2:Nat)).ble 70368744177664)<|bif ((0:Nat)+j+(1:Nat)).ble j then zN [iI ((i64.wrap (i64.wrap (i64.wrap (k*(31:Int))+i64.wrap ((7:Int)*ofNat j))+(11:Int))).tmod 100003),iI n,lRg wd v i,iI (.ofNat a),.own 1 u 0 (j+1)
 none,iI (i64.wrap (ofNat j+1))] [pcB v m R ln rc,.mk u 1 j (fun j_1 =>
 bif ((0:Nat)+j).ble j_1&&j_1.blt (0+j+1) then [[uI (u8.wrap k)]].getD ((0:Nat)+(j_1-(0+j))) []
 else [uI (g j_1)]) true false
 none,.mk 0 1 1 (fun j=>[[uI (u8.wrap k)]].getD j []) true true
 none] else
 zN [iI ((i64.wrap (i64.wrap (i64.wrap (k*(31:Int))+i64.wrap ((7:Int)*ofNat j))+(11:Int))).tmod 100003),iI n,lRg wd v i,iI (.ofNat a),.own 1 (u+1) (0:Nat) (j+1)
 none,iI (i64.wrap (ofNat j+1))] [pcB v m R ln rc,.mk (u+1) (1:Nat) (j+1) (fun j_1 =>
 bif j_1.blt j then [uI (g (0+j_1))]
 else [[uI (u8.wrap k)]].getD ((0:Nat)+(j_1-j)) []) true false
 none,.mk 0 1 1 (fun j=>[[uI (u8.wrap k)]].getD j []) true true
 none] else
 zX 4 [iI k,iI n,lRg wd v i,iI (.ofNat a),.own 1 u 0 j
 none,iI (.ofNat j)] [pcB v m R ln rc,ub u j g]):=by kernel_rfl
theorem qpb(k n wd:Int)(v i m a l:Nat)(g:Nat->Int)(R:Nat->Nat->Int)(ln:Nat->Nat)(rc:Nat->Option Nat):qy P18 G18 A18 qk 0 9 [] (nav [2,2,0,1,2,0,0,2,1,2,0,1,2,0,0,2,1,2,2]) [1,2,3,4,5] [iI k,iI n,.reg [uI wd,.own 0 v 0 i none],iI a,.view 1 l (fun e=>[uI (g e)]) none] [pcB v m R ln rc] [1,2,3,4] =
( gD (v==v&&true)<|gD (((0:Nat)+i).ble m)<|gD (((i+(1:Nat))*(25:Nat)).ble 70368744177664)<|bif ((0:Nat)+i+(1:Nat)).ble m then zN [iI k,iI n,lRg wd v (i+1),iI (.ofNat a)] [.mk v 1 m (fun j =>
 bif ((0:Nat)+i).ble j&&j.blt (0+i+1) then [[qB g l
 none]].getD ((0:Nat)+(j-(0+i))) []
 else pcG R ln rc j) false false
 none,.mk 0 1 1 (fun j=>[[qB g l
 none]].getD j []) false true
 none] else
 zN [iI k,iI n,lRg wd (v+1) (i+1),iI (.ofNat a)] [.mk (v+1) (1:Nat) (i+1) (fun j =>
 bif j.blt i then pcG R ln rc (0+j)
 else [[qB g l
 none]].getD ((0:Nat)+(j-i)) []) false false
 none,.mk 0 1 1 (fun j=>[[qB g l
 none]].getD j []) false true
 none]):=by kernel_rfl
theorem qpc(k n wd:Int)(v i m a:Nat)(R:Nat->Nat->Int)(ln:Nat->Nat)(rc:Nat->Option Nat):qy P18 G18 A18 qk 0 9 [] (nav [2,2,0,0,2,1,2,0,1,2,0,0,2,1,2,2]) [1,2,3,4] [iI k,iI n,.reg [uI wd,.own 0 v 0 i none],iI a] [pcB v m R ln rc] [1,2,3,4] =
( zN [iI k,iI n,lRg wd v i,iI (i64.wrap (ofNat a+1))] [pcB v m R ln rc]):=by kernel_rfl
theorem qpd(p13:List T->T->Prop)(k n:Int)(D:IR)(h:Nat)(R:Nat->Nat->Int)(ln:Nat->Nat)(rc:Nat->Option Nat)(c:Option Nat):qy P18 G18 A18 (qk.add 13 (qL p13 (qnj h R ln rc c))) 0 9 [] (nav [1,2,2,0,1,2,0,0,2,1,2,2]) [1,2,3] [iI k,iI n,.reg [uI D.wd,D.rows none]] [] [1,2,3,7] =
( gD (qF (p13 [.agg [uI D.wd,D.rows
 none]] (pgV R ln h rc c)))<|zN [iI k,iI n,.reg [uI D.wd,D.rows
 none],pgV R ln h rc c] []):=by kernel_rfl
theorem qpe(p8 p4 p6 p26 p3:List T->T->Prop)(k n:Int)(D:IR)(R:Nat->Nat->Int)(w h:Nat)(rc c:Option Nat):qy P18 G18 A18 (((((qk.add 8 (qL p8 kTr)).add 4 (qL p4 kTr)).add 6 (qL p6 kTr)).add 26 (qL p26 kTr)).add 3 (qL p3 kTr)) 0 9 [] (nav [2,2,2,0,1,2,0,0,2,1,2,2]) [1,2,3,7] [iI k,iI n,.reg [uI D.wd,D.rows none],qR R w h rc c] [] [1,2] =
( gD (qF (p8 [.agg [uI D.wd,D.rows
 none]] (.bool true)))<|gD (qF (p4 [.agg [uI D.wd,D.rows
 none],uI (u8.wrap (n.tmod 4))] (.bool true)))<|gD (qF (p6 [.agg [uI D.wd,D.rows
 none],.str [(49:UInt8),(50:UInt8),(10:UInt8),(50:UInt8),(49:UInt8),(10:UInt8),(49:UInt8),(49:UInt8),(10:UInt8)]] (.bool true)))<|gD (qF (p26 [qR R w h rc c,iI (i64.wrap (n-3))] (.bool true)))<|gD (decide (0<ofNat h))<|gD (qF (p3 [qB (R (0:Nat)) w rc] (.bool true)))<|zN [iI k,iI n] []):=by kernel_rfl
theorem qpf(k n:Int):qy P18 G18 A18 qk 0 9 [] (nav [2,2,0,0,2,1,2,2]) [1,2] [iI k,iI n] [] [1,2] =
( zN [iI k,iI (i64.wrap (n+1))] []):=by kernel_rfl
theorem qpg :qy P18 G18 A18 qk 0 9 [] (nav [1,2,2,2]) [] [] [] [8] =
( zN [.reg [.bool true,.bool false,.bool false,.bool false,.bool false,.bool true,.bool true,.bool true,.bool true,.bool true,.bool false,.bool true,.bool false,.bool false,.bool true,.bool true]] []):=by kernel_rfl
end Go.Ab

