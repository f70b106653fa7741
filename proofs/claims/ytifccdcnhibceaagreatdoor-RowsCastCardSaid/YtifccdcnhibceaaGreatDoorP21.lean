/- A part of the proof: nothing is assumed. -/
import Derived.Test.YtifccdcnhibceaaGreatDoorP19
import Derived.Test.YtifccdcnhibceaaGreatDoorP20
import Derived.Test.YtifccdcnhibceaaGreatDoorP15
import Derived.Test.YtifccdcnhibceaaGreatDoorP5
import Derived.Test.YtifccdcnhibceaaGreatDoorP4
set_option linter.all false
namespace Go.Ab
open IntKind(i64 u8)
open Int(ofNat)
open Go.Proofs
def ea0:T:=vw 1 none [[.str [107]],[.str [107]]]
def er0:T:=.tup [vw 2 (some 2) [[uu 0,vw 2 (some 1) [[uu 1,ii 3]]],[uu 0,vw 2 (some 1) [[uu 1,ii 2]]]],.agg [uu 0,.bool false,vw 2 (some 1) [[uu 1,ii 0]],vw 4 (some 0) []],.agg [uu 0,.bool false,.nils,.nils],vw 5 (some 0) []]
theorem qmq:ToldOk P16 G16 41 [ea0] er0:=YA (o:=Y6 P16 G16 A16 qdo Z16 qeu 40 41 [ea0]) (d:=9) (fun r h=>zg (m:=40) qu qX YX y9 h) (by kernel_rfl)
def ea1:T:=vw 1 none [[.str [107,50]],[.str [107]]]
def er1:T:=.tup [vw 2 (some 2) [[uu 0,vw 2 (some 1) [[uu 2,ii 0]]],[uu 0,vw 2 (some 1) [[uu 1,ii 2]]]],.agg [uu 0,.bool false,vw 2 (some 1) [[uu 1,ii 1]],vw 4 (some 0) []],.agg [uu 0,.bool true,vw 2 (some 1) [[uu 1,ii 0]],vw 4 (some 1) [[uu 1,ii 2,.bool false,uu 0]]],vw 5 (some 0) []]
theorem qmr:ToldOk P16 G16 41 [ea1] er1:=YA (o:=Y6 P16 G16 A16 qdo Z16 qeu 40 41 [ea1]) (d:=9) (fun r h=>zg (m:=40) qu qX YX y9 h) (by kernel_rfl)
def ea2:T:=vw 1 none [[.str [112,50]],[.str [107]]]
def er2:T:=.tup [vw 2 (some 2) [[uu 1,vw 2 (some 1) [[uu 2,ii 0]]],[uu 0,vw 2 (some 1) [[uu 1,ii 2]]]],.agg [uu 0,.bool false,vw 2 (some 1) [[uu 1,ii 1]],vw 4 (some 0) []],.agg [uu 1,.bool true,vw 2 (some 1) [[uu 1,ii 0]],vw 4 (some 1) [[uu 1,ii 2,.bool false,uu 0]]],vw 5 (some 0) []]
theorem qms:ToldOk P16 G16 41 [ea2] er2:=YA (o:=Y6 P16 G16 A16 qdo Z16 qeu 40 41 [ea2]) (d:=9) (fun r h=>zg (m:=40) qu qX YX y9 h) (by kernel_rfl)
def ea3:T:=vw 1 none [[.str [99,49,49,70]]]
def er3:T:=.tup [vw 2 (some 2) [[uu 0,vw 2 (some 1) [[uu 1,ii 3]]],[uu 0,vw 2 (some 1) [[uu 1,ii 2]]]],.agg [uu 0,.bool false,vw 2 (some 1) [[uu 1,ii 1]],vw 4 (some 0) []],.agg [uu 0,.bool false,.nils,.nils],vw 5 (some 1) [[uu 1,ii 0,uu 1,ii 1,ii 1]]]
theorem qmt:ToldOk P16 G16 41 [ea3] er3:=YA (o:=Y6 P16 G16 A16 qdo Z16 qeu 40 41 [ea3]) (d:=9) (fun r h=>zg (m:=40) qu qX YX y9 h) (by kernel_rfl)
def ea4:T:=vw 1 none [[.str [111]],[.str [47]]]
def er4:T:=.tup [vw 2 (some 2) [[uu 0,vw 2 (some 1) [[uu 1,ii 3]]],[uu 0,vw 2 (some 1) [[uu 1,ii 2]]]],.agg [uu 0,.bool false,vw 2 (some 0) [],vw 4 (some 0) []],.agg [uu 0,.bool false,.nils,.nils],vw 5 (some 0) []]
theorem qmu:ToldOk P16 G16 41 [ea4] er4:=YA (o:=Y6 P16 G16 A16 qdo Z16 qeu 40 41 [ea4]) (d:=9) (fun r h=>zg (m:=40) qu qX YX y9 h) (by kernel_rfl)
def ea5:T:=vw 1 none [[.str [116]],[.str [115]]]
def er5:T:=.tup [vw 2 (some 2) [[uu 0,vw 2 (some 2) [[uu 1,ii 0],[uu 1,ii 2]]],[uu 0,vw 2 (some 1) [[uu 1,ii 1]]]],.agg [uu 0,.bool false,vw 2 (some 0) [],vw 4 (some 1) [[uu 1,ii 1,.bool false,uu 0]]],.agg [uu 0,.bool false,.nils,.nils],vw 5 (some 0) []]
theorem qmv:ToldOk P16 G16 41 [ea5] er5:=YA (o:=Y6 P16 G16 A16 qdo Z16 qeu 40 41 [ea5]) (d:=9) (fun r h=>zg (m:=40) qu qX YX y9 h) (by kernel_rfl)
def qmw:qfA:=[(41,[ea0],er0),(41,[ea1],er1),(41,[ea2],er2),(41,[ea3],er3),(41,[ea4],er4),(41,[ea5],er5)]
theorem qjg:qdr P16 G16 qmw:=⟨qmq,qmr,qms,qmt,qmu,qmv,trivial⟩
theorem qjh:ToldOk P16 G16 14 [] (.bool true):=zg (A:=A16) (Z:=Z16) (K:=KM 9 qmw qeu) (m:=40) qu qX (qil qjg YX) y9 (by kernel_rfl)
theorem qkK(W:Wok)(c:Option Nat):Sims [.agg (W.cc c)] [.agg (W.cc none)]:=by
 refine .cons (.agg (.cons (.view (.inr rfl) fun _ _=>.refl _) (.refl _))) .nil
theorem qmx(y n:Int)(hy:0<=y/\y<256):ToldOk P16 G16 3 [uI y,iI n] (.bool true):=by
 obtain⟨p,hp⟩:=qE P16 G16 13;obtain⟨u,hu⟩:=qE P16 G16 14;have tu:=qz.2 (qH hu qjh);by_cases bad:y<1∨6<y∨n<1∨16<n
 ·have te:=qhT y n bad;refine qD qu qX (qv (qv qa (qr hp (F:=kW (.tup [.agg Z32,iI 1])))) (qr hu (F:=kW (.bool true)))) (A:=A16) (m:=0) ((qoS p u y n).trans (qt (qz.2 (qH hp te)) ?_));by_cases c1:y<1
  ·exact qt (by simpa using c1) (qt tu rfl)
  refine qK (by simpa using c1) ?_;by_cases c2:6<y
  ·exact qt (by simpa using c2) (qt tu rfl)
  refine qK (by simpa using c2) ?_;by_cases c3:n<1
  ·exact qt (by simpa using c3) (qt tu rfl)
  exact qK (by simpa using c3) (qt (by simp;omega) (qt tu rfl))
 ·obtain⟨K,rfl⟩:∃K:Nat,y=ofNat K+1:=⟨(y-1).toNat,by simp only[Int.ofNat_eq_natCast];omega⟩;obtain⟨m,rfl⟩:∃m:Nat,n=ofNat m:=⟨n.toNat,by simp only[Int.ofNat_eq_natCast];omega⟩;simp only[Int.ofNat_eq_natCast] at bad;have hK:K<6:=by omega
  have h1:1<=m:=by omega
  have h16:m<=16:=by omega
  obtain⟨q,hq⟩:=qE P16 G16 15;obtain⟨r,hr⟩:=qE P16 G16 17;obtain⟨s,hs⟩:=qE P16 G16 16;have hI:=qic hK h1 h16;have tc:=ql3 hK h1 h16;have tk:=(qfn (Zn K m).w hI.wok).sim (qkK (Zn K m) (some m));rw[hI.ck0] at tk;have tr:=qku hK h1 h16;have tw:=qkw (Zn K m).sl (some m) none (fun e=>((Zn K m).q.Y e).y) (Zn K m).F (Zn K m).d hI.fok (fun i _=>hI.wok.Y i) (by have:=hI.sn.2;omega) (fun x hx=>by have:=(hI.sb x hx).2.2;omega);have hK3:OrcOk P16 G16 (K3 p q r s u (Zn K m) (some m)):=qv (qv (qv (qv (qv qa (qr hp)) (qr hq)) (qr hr)) (qr hs)) (qr hu);exact qD qu qX hK3 (A:=A16) (m:=0) ((qoR p q r s u (Zn K m) m (ofNat K+1) (ofNat m)).trans (qt (qz.2 (qH hp tc)) (qK (by simp;omega) (qK (by simp;omega) (qK (by simp;omega) (qK (by simp;omega)
   (qt (qz.2 (qH hq tk)) (qt (qz.2 (qH hr tr)) (qt (qz.2 (qH hs tw)) (qt (by simp) (qt tu rfl)))))))))))
section
variable {Hp:Type}
theorem qji(a:Int):qc3 P16 5 [uI a] = uI a:=by simp[qc3,show Zc P16 5=false by kernel_rfl]
theorem qjj(a:Int):qc3 P16 3 [iI a] = iI a:=by simp[qc3,show Zc P16 3=false by kernel_rfl]
theorem qjk{ts:List T}{d:DataW Hp}(h:CT P16 5 ts d):∃a:Int,ts=[uI a]/\0<=a/\a<256:=by
 obtain⟨a,rfl,rfl,w⟩:=h.int_inv Tryz.underlying5;have w:=qkN w;exact⟨a,rfl,by omega,by omega⟩
theorem qjl{ts:List T}{d:DataW Hp}(h:CT P16 3 ts d):∃a:Int,ts=[iI a]:=by
 obtain⟨a,rfl,rfl,_⟩:=h.int_inv Tryz.underlying3;exact⟨a,rfl⟩
end
end Go.Ab

