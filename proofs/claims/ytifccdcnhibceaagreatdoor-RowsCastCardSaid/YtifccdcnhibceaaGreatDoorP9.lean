/- A part of the proof: nothing is assumed. -/
import Derived.Test.YtifccdcnhibceaaGreatDoorP7
import Derived.Test.YtifccdcnhibceaaGreatDoorP8
import Derived.Test.YtifccdcnhibceaaGreatDoorP6
set_option linter.all false
namespace Go.Ab
open IntKind(i64 u8)
open Int(ofNat)
open Go.Proofs
def mx4(hs:List Int->Bool)(vl:List Int->Int)(bn:List Int->Nat)(ck:Nat):qk:=[ZQ 0 (qkV hs vl bn ck),.mk 0 1 1 (fun _=>[.mp 0 0]) false false none]
def mxL(L:List (List Int)):qk:=mx4 (hF L) (vF L) (bF L) (cF L)
def qiQ(g:Nat->Idd)(n i:Nat):List T:=[.ptr 1 0 0 0,idV g n none,iI (ofNat n),iI (ofNat i)]
def a79(F:Fab)(j:Nat):List T:=[.reg F.c,.agg [idV F.he F.nh none,idV F.fa F.nf none],iI (ofNat j)]
def b79(F:Fab)(j:Nat)(g:Nat->Idd)(n i:Nat):List T:=a79 F j++[idV g n none,iI (ofNat n),iI (ofNat i)]
def c79(F:Fab)(i:Nat):List T:=[.reg F.c,idV F.fa F.nf none,iI (ofNat F.nf),iI (ofNat i)]
def d79(F:Fab)(y:Nat):List T:=[.reg F.c,.ptr 1 0 0 0,.fn 109 [.ptr 1 0 0 0],F.t.v,iI (ofNat F.t.h),iI (ofNat y)]
def e79(F:Fab)(y i:Nat):List T:=d79 F y++[lpV (F.t.L y) (F.t.ln y) none,iI (ofNat (F.t.ln y)),iI (ofNat i)]
def f79(F:Fab)(y:Nat):List T:=[.ptr 1 0 0 0,F.t.v,iI (ofNat F.t.h),iI (ofNat y)]
def g79(F:Fab)(y i:Nat):List T:=[.ptr 1 0 0 0,iI (ofNat y),F.t.v,iI (ofNat F.t.h),iI (ofNat y),iI (ofNat (F.t.ln y)),iI (ofNat i)]
theorem qmX(g:Nat->Idd)(n:Nat)(hs:List Int->Bool)(vl:List Int->Int)(bn:List Int->Nat)(ck:Nat):qw P16 G16 A16 qp 0 109 [] (nav [1]) [0,1] [idV g n none,.ptr 1 0 0 0] (mx4 hs vl bn ck) [1,5,6,7] =
(
 some ((.normal,qiQ g n (nat_lit 0),mx4 hs vl bn ck))):=by kernel_rfl
theorem qlb(g:Nat->Idd)(n i:Nat)(hs:List Int->Bool)(vl:List Int->Int)(bn:List Int->Nat)(ck:Nat):qw P16 G16 A16 qp 0 109 [] (nav [0,0,2]) [1,5,6,7] (qiQ g n i) (mx4 hs vl bn ck) [1,5,6,7] =
(
 bif decide (ofNat i<ofNat n) then
 bif decide (0<=ofNat i)&&decide (ofNat i<ofNat n) then
 bif decide (IntKind.i64=IntKind.i64)&&true&&decide (ofNat (bif hs [(g i).y,(g i).n] then bn [(g i).y,(g i).n]
 else ck)=ofNat (bif hs [(g i).y,(g i).n] then bn [(g i).y,(g i).n]
 else ck)) then
 some ((.normal,[.ptr 1 0 0 0,idV g n
 none,iI (.ofNat n),iI (i64.wrap (ofNat i+1))],mx4 (fun l=>keq l [(g (ofNat i).toNat).y,(g (ofNat i).toNat).n] || (keq l [(g (ofNat i).toNat).y,(g (ofNat i).toNat).n] || hs l)) (fun l =>
 bif keq l [(g (ofNat i).toNat).y,(g (ofNat i).toNat).n] then i64.wrap (vl [(g i).y,(g i).n]+(1:Int))
 else
 bif keq l [(g (ofNat i).toNat).y,(g (ofNat i).toNat).n] then vl [(g i).y,(g i).n]
 else vl l) (fun l =>
 bif keq l [(g (ofNat i).toNat).y,(g (ofNat i).toNat).n] then
 bif decide ((g i).y=(g i).y)&&(decide ((g i).n=(g i).n)&&true) || hs [(g i).y,(g i).n] then
 bif decide ((g i).y=(g i).y)&&(decide ((g i).n=(g i).n)&&true) then
 bif hs [(g i).y,(g i).n] then bn [(g i).y,(g i).n]
 else ck
 else bn [(g i).y,(g i).n]
 else
 bif hs [(g i).y,(g i).n] then ck
 else ck+1
 else
 bif keq l [(g (ofNat i).toNat).y,(g (ofNat i).toNat).n] then
 bif hs [(g i).y,(g i).n] then bn [(g i).y,(g i).n]
 else ck
 else bn l) (bif decide ((g i).y=(g i).y)&&(decide ((g i).n=(g i).n)&&true) || hs [(g i).y,(g i).n] then
 bif hs [(g i).y,(g i).n] then ck
 else ck+1
 else(bif hs [(g i).y,(g i).n] then ck
 else ck+1)+(1:Nat))))
 else none else none else
 some ((.exit 0,qiQ g n i,mx4 hs vl bn ck))):=by kernel_rfl
theorem qmY(F:Fab):qw P16 G16 A16 qp 0 79 [] (nav [1]) [0] [.agg F.c] [] [1] =
(
 some ((.normal,[.reg F.c],[]))):=by kernel_rfl
theorem qmZ(F:Fab):qw P16 G16 A16 qp 0 79 [] (nav [1,1,2]) [1] [.reg F.c] [] [1,22,23] =
(
 some ((.normal,a79 F (nat_lit 0),[]))):=by kernel_rfl
theorem qlc(F:Fab):qw P16 G16 A16 qp 0 79 [] (nav [1,0,0,2,1,2]) [1,22,23] (a79 F 0) [] [1,22,23,24] =
(
 some ((.normal,[.reg F.c,.agg [idV F.he F.nh
 none,idV F.fa F.nf
 none],iI 0,.bool true],[]))):=by kernel_rfl
theorem qld(F:Fab):qw P16 G16 A16 qp 0 79 [] (nav [1,0,0,2,1,2]) [1,22,23] (a79 F 1) [] [1,22,23,24] =
(
 some ((.normal,[.reg F.c,.agg [idV F.he F.nh
 none,idV F.fa F.nf
 none],iI 1,.bool true],[]))):=by kernel_rfl
theorem qle(F:Fab):qw P16 G16 A16 qp 0 79 [] (nav [0,0,2,1,2]) [1,22,23] (a79 F 2) [] [1] =
(
 some ((.exit 0,[.reg F.c],[]))):=by kernel_rfl
theorem qlf(F:Fab):qw P16 G16 A16 qp 0 79 [] (nav [1,0,1,2,2,0,0,2,1,2]) [1,22,23] (a79 F 0) [] [1,4,22,23] =
(
 some ((.normal,[.reg F.c,idV F.he F.nh
 none,.agg [idV F.he F.nh
 none,idV F.fa F.nf
 none],iI 0],[]))):=by kernel_rfl
theorem qlg(F:Fab):qw P16 G16 A16 qp 0 79 [] (nav [1,0,1,2,2,0,0,2,1,2]) [1,22,23] (a79 F 1) [] [1,4,22,23] =
(
 some ((.normal,[.reg F.c,idV F.fa F.nf
 none,.agg [idV F.he F.nh
 none,idV F.fa F.nf
 none],iI 1],[]))):=by kernel_rfl
theorem qlh(F:Fab)(j:Nat)(g:Nat->Idd)(n:Nat):qw P16 G16 A16 qp 0 79 [] (nav [1,2,0,1,2,2,0,0,2,1,2]) [1,4,22,23] [.reg F.c,idV g n none,.agg [idV F.he F.nh none,idV F.fa F.nf none],iI (ofNat j)] [] [1,22,23,26,27,28] =
(
 some ((.normal,b79 F j g n (nat_lit 0),[]))):=by kernel_rfl
theorem qli(p:List T->T->Prop)(F:Fab)(j:Nat)(g:Nat->Idd)(n i:Nat):qw P16 G16 A16 (qp.add 108 (qI p (qgM F.t))) 0 79 [] (nav [0,0,2,2,0,1,2,2,0,0,2,1,2]) [1,22,23,26,27,28] (b79 F j g n i) [] [1,22,23,26,27,28] =
(
 bif decide (ofNat i<ofNat n) then
 bif decide (0<=ofNat i)&&decide (ofNat i<ofNat n) then
 bif qC (p [F.t.v,.agg (g i).c] (.bool (thF F.t (g i).y (g i).n))) then
 bif thF F.t (g i).y (g i).n then
 some ((.normal,[.reg F.c,.agg [idV F.he F.nh
 none,idV F.fa F.nf
 none],iI (.ofNat j),idV g n
 none,iI (.ofNat n),iI (i64.wrap (ofNat i+1))],[]))
 else
 some ((.ret,b79 F j g n i,[]))
 else none else none else
 some ((.exit 2,b79 F j g n i,[]))):=by kernel_rfl
theorem qlj(p:List T->T->Prop)(F:Fab)(j:Nat)(g:Nat->Idd)(n i:Nat):qw P16 G16 A16 (qp.add 108 (qI p (qgM F.t))) 0 79 [] (nav [0,0,2,2,0,1,2,2,0,0,2,1,2]) [1,22,23,26,27,28] (b79 F j g n i) [] [2] =
(
 bif decide (ofNat i<ofNat n) then
 bif decide (0<=ofNat i)&&decide (ofNat i<ofNat n) then
 bif qC (p [F.t.v,.agg (g i).c] (.bool (thF F.t (g i).y (g i).n))) then
 bif thF F.t (g i).y (g i).n then
 some ((.normal,[.undef],[]))
 else
 some ((.ret,[iI 7],[]))
 else none else none else
 some ((.exit 2,[.undef],[]))):=by kernel_rfl
theorem qlk(F:Fab)(j:Nat):qw P16 G16 A16 qp 0 79 [] (nav [2,2,2,0,0,2,1,2]) [1,22,23] (a79 F j) [] [1,22,23] =
(
 some ((.normal,[.reg F.c,.agg [idV F.he F.nh
 none,idV F.fa F.nf
 none],iI (i64.wrap (ofNat j+1))],[]))):=by kernel_rfl
theorem qm0(F:Fab):qw P16 G16 A16 qp 0 79 [] (nav [1,1,2,2]) [1] [.reg F.c] [] [1,40,41,42] =
(
 some ((.normal,c79 F (nat_lit 0),[]))):=by kernel_rfl
theorem qll(q:List T->T->Prop)(F:Fab)(i:Nat):qw P16 G16 A16 (qp.add 95 (qI q qfi)) 0 79 [] (nav [0,0,2,1,2,2]) [1,40,41,42] (c79 F i) [] [1,40,41,42] =
(
 bif decide (ofNat i<ofNat F.nf) then
 bif decide (0<=ofNat i)&&decide (ofNat i<ofNat F.nf) then
 bif decide (0<ofNat i) then
 bif decide (0<=i64.wrap (ofNat i-1))&&decide (i64.wrap (ofNat i-1)<ofNat F.nf) then
 bif qC (q [.agg (F.fa (i64.wrap (ofNat i-(1:Int))).toNat).c,.agg (F.fa i).c] (iI (zw (F.fa (i64.wrap (ofNat i-(1:Int))).toNat).y (F.fa (i64.wrap (ofNat i-(1:Int))).toNat).n (F.fa i).y (F.fa i).n))) then
 bif decide (0<=zw (F.fa (i64.wrap (ofNat i-(1:Int))).toNat).y (F.fa (i64.wrap (ofNat i-(1:Int))).toNat).n (F.fa i).y (F.fa i).n) then
 some ((.ret,c79 F i,[]))
 else
 some ((.normal,[.reg F.c,idV F.fa F.nf
 none,iI (.ofNat F.nf),iI (i64.wrap (ofNat i+1))],[]))
 else none else none else
 some ((.normal,[.reg F.c,idV F.fa F.nf
 none,iI (.ofNat F.nf),iI (i64.wrap (ofNat i+1))],[]))
 else none else
 some ((.exit 4,c79 F i,[]))):=by kernel_rfl
theorem qlm(q:List T->T->Prop)(F:Fab)(i:Nat):qw P16 G16 A16 (qp.add 95 (qI q qfi)) 0 79 [] (nav [0,0,2,1,2,2]) [1,40,41,42] (c79 F i) [] [2] =
(
 bif decide (ofNat i<ofNat F.nf) then
 bif decide (0<=ofNat i)&&decide (ofNat i<ofNat F.nf) then
 bif decide (0<ofNat i) then
 bif decide (0<=i64.wrap (ofNat i-1))&&decide (i64.wrap (ofNat i-1)<ofNat F.nf) then
 bif qC (q [.agg (F.fa (i64.wrap (ofNat i-(1:Int))).toNat).c,.agg (F.fa i).c] (iI (zw (F.fa (i64.wrap (ofNat i-(1:Int))).toNat).y (F.fa (i64.wrap (ofNat i-(1:Int))).toNat).n (F.fa i).y (F.fa i).n))) then
 bif decide (0<=zw (F.fa (i64.wrap (ofNat i-(1:Int))).toNat).y (F.fa (i64.wrap (ofNat i-(1:Int))).toNat).n (F.fa i).y (F.fa i).n) then
 some ((.ret,[iI 6],[]))
 else
 some ((.normal,[.undef],[]))
 else none else none else
 some ((.normal,[.undef],[]))
 else none else
 some ((.exit 4,[.undef],[]))):=by kernel_rfl
theorem qm1(F:Fab):qw P16 G16 A16 qp 0 79 [] (nav [1,2,2,2]) [1] [.reg F.c] [] [1,9] =
(
 some ((.normal,[.reg F.c,.ptr 1 0 0 0],[.mk 0 0 0 (fun x=>[]) false false (some (MapD.mk (KS.row [some IntKind.u8,some IntKind.i64]) IntKind.i64 (fun x=>false) (fun x=>(0:Int)) (fun x=>(0:Nat)) (0:Nat)
 none)),.mk 0 1 1 (fun e=>[bif e==(0:Nat) then T.mp (0:Nat) (0:Nat)
 else T.nilm]) false false
 none]))):=by kernel_rfl
theorem qm2(F:Fab)(hs:List Int->Bool)(vl:List Int->Int)(bn:List Int->Nat)(ck:Nat):qw P16 G16 A16 qp 0 79 [] (nav [1,2,2,2,2]) [1,9] [.reg F.c,.ptr 1 0 0 0] (mx4 hs vl bn ck) [1,9,10] =
(
 some ((.normal,[.reg F.c,.ptr 1 0 0 0,.fn (109:Nat) [.ptr 1 0 0 0]],mx4 hs vl bn ck))):=by kernel_rfl
theorem qm3(F:Fab)(hs:List Int->Bool)(vl:List Int->Int)(bn:List Int->Nat)(ck:Nat):qw P16 G16 A16 qp 0 79 [] (nav [1,1,2,2,2,2,2,2,2]) [1,9,10] [.reg F.c,.ptr 1 0 0 0,.fn 109 [.ptr 1 0 0 0]] (mx4 hs vl bn ck) [1,9,10,72,73,74] =
(
 some ((.normal,d79 F (nat_lit 0),mx4 hs vl bn ck))):=by kernel_rfl
theorem qm4(F:Fab)(y:Nat)(hs:List Int->Bool)(vl:List Int->Int)(bn:List Int->Nat)(ck:Nat):qw P16 G16 A16 qp 0 79 [] (nav [1,1,2,2,2,2,2,2,2,2]) [1,9] [.reg F.c,.ptr 1 0 0 0] (mx4 hs vl bn ck) [9,91,92,93] =
(
 some ((.normal,f79 F (nat_lit 0),mx4 hs vl bn ck))):=by kernel_rfl
theorem qm5(hs:List Int->Bool)(vl:List Int->Int)(bn:List Int->Nat)(ck:Nat):qw P16 G16 A16 qp 0 79 [] (nav [2,2,2,2,2,2,2,2,2]) [] [] (mx4 hs vl bn ck) [2] =
(
 some ((.ret,[iI 0],mx4 hs vl bn ck))):=by kernel_rfl
def kCt(hs:List Int->Bool)(vl:List Int->Int)(bn:List Int->Nat)(ck:Nat)(_:List T)(_:qk):Option (T×qk):=some (.tup [],mx4 hs vl bn ck)
theorem qm6(p:List T->qk->T->qk->Prop)(F:Fab)(hs hs':List Int->Bool)(vl vl':List Int->Int)(bn bn':List Int->Nat)(ck ck':Nat):qw P16 G16 A16 (qp.addRef 109 (qag p (kCt hs' vl' bn' ck'))) 0 79 [] (nav [1,2,2,2,2,2]) [1,9,10] [.reg F.c,.ptr 1 0 0 0,.fn 109 [.ptr 1 0 0 0]] (mx4 hs vl bn ck) [1,9,10] =
(
 bif qC (p [idV F.he F.nh
 none,.ptr 1 0 0 0] (mx4 hs vl bn ck) (.tup []) (mx4 hs' vl' bn' ck')) then
 some ((.normal,[.reg F.c,.ptr 1 0 0 0,.fn (109:Nat) [.ptr 1 0 0 0]],mx4 hs' vl' bn' ck'))
 else
 none):=by kernel_rfl
theorem qm7(p:List T->qk->T->qk->Prop)(F:Fab)(hs hs':List Int->Bool)(vl vl':List Int->Int)(bn bn':List Int->Nat)(ck ck':Nat):qw P16 G16 A16 (qp.addRef 109 (qag p (kCt hs' vl' bn' ck'))) 0 79 [] (nav [1,2,2,2,2,2,2]) [1,9,10] [.reg F.c,.ptr 1 0 0 0,.fn 109 [.ptr 1 0 0 0]] (mx4 hs vl bn ck) [1,9,10] =
(
 bif qC (p [idV F.fa F.nf
 none,.ptr 1 0 0 0] (mx4 hs vl bn ck) (.tup []) (mx4 hs' vl' bn' ck')) then
 some ((.normal,[.reg F.c,.ptr 1 0 0 0,.fn (109:Nat) [.ptr 1 0 0 0]],mx4 hs' vl' bn' ck'))
 else
 none):=by kernel_rfl
theorem qm8(F:Fab)(y:Nat)(hs:List Int->Bool)(vl:List Int->Int)(bn:List Int->Nat)(ck:Nat):qw P16 G16 A16 qp 0 79 [] (nav [1,0,0,2,1,2,2,2,2,2,2,2]) [1,9,10,72,73,74] (d79 F y) (mx4 hs vl bn ck) [1,9,10,72,73,74,75] =
(
 bif decide (ofNat y<ofNat F.t.h) then
 some ((.normal,[.reg F.c,.ptr 1 0 0 0,.fn (109:Nat) [.ptr 1 0 0 0],F.t.v,iI (.ofNat F.t.h),iI (.ofNat y),.bool true],mx4 hs vl bn ck))
 else
 some ((.normal,[.reg F.c,.ptr 1 0 0 0,.fn (109:Nat) [.ptr 1 0 0 0],F.t.v,iI (.ofNat F.t.h),iI (.ofNat y),.bool false],mx4 hs vl bn ck))):=by kernel_rfl
theorem qln(F:Fab)(y:Nat)(hs:List Int->Bool)(vl:List Int->Int)(bn:List Int->Nat)(ck:Nat):qw P16 G16 A16 qp 0 79 [] (nav [1,0,1,2,2,0,0,2,1,2,2,2,2,2,2,2]) [1,9,10,72,73,74] (d79 F y) (mx4 hs vl bn ck) [1,9,10,12,72,73,74] =
(
 bif decide (0<=ofNat y)&&decide (ofNat y<ofNat F.t.h) then
 some ((.normal,[.reg F.c,.ptr 1 0 0 0,.fn (109:Nat) [.ptr 1 0 0 0],lpV (F.t.L y) (F.t.ln y)
 none,F.t.v,iI (.ofNat F.t.h),iI (.ofNat y)],mx4 hs vl bn ck))
 else
 none):=by kernel_rfl
theorem qlo(F:Fab)(y:Nat)(hs:List Int->Bool)(vl:List Int->Int)(bn:List Int->Nat)(ck:Nat):qw P16 G16 A16 qp 0 79 [] (nav [1,2,0,1,2,2,0,0,2,1,2,2,2,2,2,2,2]) [1,9,10,12,72,73,74] [.reg F.c,.ptr 1 0 0 0,.fn 109 [.ptr 1 0 0 0],lpV (F.t.L y) (F.t.ln y) none,F.t.v,iI (ofNat F.t.h),iI (ofNat y)] (mx4 hs vl bn ck) [1,9,10,72,73,74,78,79,80] =
(
 some ((.normal,e79 F y (nat_lit 0),mx4 hs vl bn ck))):=by kernel_rfl
theorem qlp(p:List T->qk->T->qk->Prop)(F:Fab)(y i:Nat)(hs hs':List Int->Bool)(vl vl':List Int->Int)(bn bn':List Int->Nat)(ck ck':Nat):qw P16 G16 A16 (qp.addRef 109 (qag p (kCt hs' vl' bn' ck'))) 0 79 [] (nav [0,0,2,2,0,1,2,2,0,0,2,1,2,2,2,2,2,2,2]) [1,9,10,72,73,74,78,79,80] (e79 F y i) (mx4 hs vl bn ck) [1,9,10,72,73,74,78,79,80] =
(
 bif decide (ofNat i<ofNat (F.t.ln y)) then
 bif decide (0<=ofNat i)&&decide (ofNat i<ofNat (F.t.ln y)) then
 bif qC (p [idV (F.t.L y i).th (F.t.L y i).nt
 none,.ptr 1 0 0 0] (mx4 hs vl bn ck) (.tup []) (mx4 hs' vl' bn' ck')) then
 some ((.normal,[.reg F.c,.ptr 1 0 0 0,.fn (109:Nat) [.ptr 1 0 0 0],F.t.v,iI (.ofNat F.t.h),iI (.ofNat y),lpV (F.t.L y) (F.t.ln y)
 none,iI (.ofNat (F.t.ln y)),iI (i64.wrap (ofNat i+1))],mx4 hs' vl' bn' ck'))
 else none else none else
 some ((.exit 8,e79 F y i,mx4 hs vl bn ck))):=by kernel_rfl
theorem qm9(F:Fab)(y:Nat)(hs:List Int->Bool)(vl:List Int->Int)(bn:List Int->Nat)(ck:Nat):qw P16 G16 A16 qp 0 79 [] (nav [2,2,2,0,0,2,1,2,2,2,2,2,2,2]) [1,9,10,72,73,74] (d79 F y) (mx4 hs vl bn ck) [1,9,10,72,73,74] =
(
 some ((.normal,[.reg F.c,.ptr 1 0 0 0,.fn (109:Nat) [.ptr 1 0 0 0],F.t.v,iI (.ofNat F.t.h),iI (i64.wrap (ofNat y+1))],mx4 hs vl bn ck))):=by kernel_rfl
theorem qlq(F:Fab)(y:Nat)(hs:List Int->Bool)(vl:List Int->Int)(bn:List Int->Nat)(ck:Nat):qw P16 G16 A16 qp 0 79 [] (nav [0,0,2,1,2,2,2,2,2,2,2]) [1,9,10,72,73,74] (d79 F y) (mx4 hs vl bn ck) [1,9] =
(
 bif decide (ofNat y<ofNat F.t.h) then
 bif decide (0<=ofNat y)&&decide (ofNat y<ofNat F.t.h) then none else none else
 some ((.exit 6,[.reg F.c,.ptr 1 0 0 0],mx4 hs vl bn ck))):=by kernel_rfl
theorem qna(F:Fab)(y:Nat)(hs:List Int->Bool)(vl:List Int->Int)(bn:List Int->Nat)(ck:Nat):qw P16 G16 A16 qp 0 79 [] (nav [1,0,0,2,1,2,2,2,2,2,2,2,2]) [9,91,92,93] (f79 F y) (mx4 hs vl bn ck) [9,91,92,93,94] =
(
 bif decide (ofNat y<ofNat F.t.h) then
 some ((.normal,[.ptr 1 0 0 0,F.t.v,iI (.ofNat F.t.h),iI (.ofNat y),.bool true],mx4 hs vl bn ck))
 else
 some ((.normal,[.ptr 1 0 0 0,F.t.v,iI (.ofNat F.t.h),iI (.ofNat y),.bool false],mx4 hs vl bn ck))):=by kernel_rfl
theorem qlr(F:Fab)(y:Nat)(hs:List Int->Bool)(vl:List Int->Int)(bn:List Int->Nat)(ck:Nat):qw P16 G16 A16 qp 0 79 [] (nav [1,0,1,2,2,0,0,2,1,2,2,2,2,2,2,2,2]) [9,91,92,93] (f79 F y) (mx4 hs vl bn ck) [9,15,16,91,92,93] =
(
 bif decide (0<=ofNat y)&&decide (ofNat y<ofNat F.t.h) then
 some ((.normal,[.ptr 1 0 0 0,iI (.ofNat y),lpV (F.t.L y) (F.t.ln y)
 none,F.t.v,iI (.ofNat F.t.h),iI (.ofNat y)],mx4 hs vl bn ck))
 else
 none):=by kernel_rfl
theorem qls(F:Fab)(y:Nat)(hs:List Int->Bool)(vl:List Int->Int)(bn:List Int->Nat)(ck:Nat):qw P16 G16 A16 qp 0 79 [] (nav [1,2,0,1,2,2,0,0,2,1,2,2,2,2,2,2,2,2]) [9,15,16,91,92,93] [.ptr 1 0 0 0,iI (ofNat y),lpV (F.t.L y) (F.t.ln y) none,F.t.v,iI (ofNat F.t.h),iI (ofNat y)] (mx4 hs vl bn ck) [9,15,91,92,93,99,100] =
(
 some ((.normal,g79 F y (nat_lit 0),mx4 hs vl bn ck))):=by kernel_rfl
theorem qlt(F:Fab)(y i:Nat)(hs:List Int->Bool)(vl:List Int->Int)(bn:List Int->Nat)(ck:Nat):qw P16 G16 A16 qp 0 79 [] (nav [0,0,2,2,0,1,2,2,0,0,2,1,2,2,2,2,2,2,2,2]) [9,15,91,92,93,99,100] (g79 F y i) (mx4 hs vl bn ck) [9,15,91,92,93,99,100] =
(
 bif decide (ofNat i<ofNat (F.t.ln y)) then
 bif !decide (vl [u8.wrap (i64.wrap (ofNat y+1)),ofNat i]=(1:Int)) then
 some ((.ret,g79 F y i,mx4 hs vl bn ck))
 else
 some ((.normal,[.ptr 1 0 0 0,iI (.ofNat y),F.t.v,iI (.ofNat F.t.h),iI (.ofNat y),iI (.ofNat (F.t.ln y)),iI (i64.wrap (ofNat i+1))],mx4 hs vl bn ck))
 else
 some ((.exit 12,g79 F y i,mx4 hs vl bn ck))):=by kernel_rfl
theorem qlu(F:Fab)(y i:Nat)(hs:List Int->Bool)(vl:List Int->Int)(bn:List Int->Nat)(ck:Nat):qw P16 G16 A16 qp 0 79 [] (nav [0,0,2,2,0,1,2,2,0,0,2,1,2,2,2,2,2,2,2,2]) [9,15,91,92,93,99,100] (g79 F y i) (mx4 hs vl bn ck) [2] =
(
 bif decide (ofNat i<ofNat (F.t.ln y)) then
 bif !decide (vl [u8.wrap (i64.wrap (ofNat y+1)),ofNat i]=(1:Int)) then
 some ((.ret,[iI 6],mx4 hs vl bn ck))
 else
 some ((.normal,[.undef],mx4 hs vl bn ck))
 else
 some ((.exit 12,[.undef],mx4 hs vl bn ck))):=by kernel_rfl
theorem qnb(F:Fab)(y:Nat)(hs:List Int->Bool)(vl:List Int->Int)(bn:List Int->Nat)(ck:Nat):qw P16 G16 A16 qp 0 79 [] (nav [2,2,2,0,0,2,1,2,2,2,2,2,2,2,2]) [9,91,92,93] (f79 F y) (mx4 hs vl bn ck) [9,91,92,93] =
(
 some ((.normal,[.ptr 1 0 0 0,F.t.v,iI (.ofNat F.t.h),iI (i64.wrap (ofNat y+1))],mx4 hs vl bn ck))):=by kernel_rfl
theorem qlv(F:Fab)(y:Nat)(hs:List Int->Bool)(vl:List Int->Int)(bn:List Int->Nat)(ck:Nat):qw P16 G16 A16 qp 0 79 [] (nav [0,0,2,1,2,2,2,2,2,2,2,2]) [9,91,92,93] (f79 F y) (mx4 hs vl bn ck) [] =
(
 bif decide (ofNat y<ofNat F.t.h) then
 bif decide (0<=ofNat y)&&decide (ofNat y<ofNat F.t.h) then none else none else
 some ((.exit 10,[],mx4 hs vl bn ck))):=by kernel_rfl
theorem qdj(g:Nat->Idd)(n:Nat)(hn:n<=1000000)(L:List (List Int)):ToldRef P16 G16 109 [idV g n none,.ptr 1 0 0 0] (mxL L) (.tup []) (mxL (kA g n L)):=by
 have pa:=Pz.run qu qa (m:=0) (p:=[1]) (A:=A16) (f:=109) (h0:=mxL L) (by kernel_rfl) ql (qmX g n (hF L) (vF L) (bF L) (cF L));have pl:=Pz.count (P:=P16) (G:=G16) (A:=A16) (f:=109) (h0:=mxL L) (p:=[0,2]) (l:=[1,5,6,7]) (e:=.exit 0) (by kernel_rfl) (fun i=>qiQ g n i) (fun i=>mxL (kA g i L)) (n:=n) (by simp) (fun i hi=>by
  have q:=qlb g n i (hF (kA g i L)) (vF (kA g i L)) (bF (kA g i L)) (cF (kA g i L));rw[up1 (by omega)] at q;exact Pz.run qu qa (m:=0) (by kernel_rfl) ql (q.trans (qt (by simpa using hi) (qt (inR hi) (qt (by simp) rfl))))) (Pz.only (Pz.run qu qa (m:=0) (by kernel_rfl) ql ((qlb g n n (hF (kA g n L)) (vF (kA g n L)) (bF (kA g n L)) (cF (kA g n L))).trans (qK (by simp) rfl))) (l2:=[]) rfl)
 exact Pz.toldRefN (A:=A16) qX Tryz.func109 (by kernel_rfl) (by kernel_rfl) (l:=[0,1]) rfl (Pz.seq (by kernel_rfl) pa (Pz.blk (id:=0) (e:=.exit 0) (by kernel_rfl) rfl pl)) rfl
def kD(t:Tbl)(L:List (List Int)):Nat->List (List Int)
 |0=>L
 |y+1=>kB (t.L y) (t.ln y) (kD t L y)
def plH(t:Tbl)(g:Nat->Idd)(i:Nat):Bool:=thF t (g i).y (g i).n
def plS(F:Fab)(i:Nat):Bool:=!(decide (0<i)&&decide (0<=zw (F.fa (i-1)).y (F.fa (i-1)).n (F.fa i).y (F.fa i).n))
def plL(F:Fab):List (List Int):=kD F.t (kA F.fa F.nf (kA F.he F.nh [])) F.t.h
def plC(F:Fab)(y i:Nat):Bool:=decide (vF (plL F) [ofNat y+1,ofNat i]=1)
def plY(F:Fab)(y:Nat):Bool:=qY (plC F y) (F.t.ln y)
def plE(F:Fab):Int:=bif qY (plH F.t F.he) F.nh&&qY (plH F.t F.fa) F.nf then(bif qY (plS F) F.nf then(bif qY (plY F) F.t.h then 0 else 6) else 6) else 7
set_option maxHeartbeats 400000
set_option maxRecDepth 100000
section
variable (F:Fab)
theorem qlw(hO:F.Ok)(j:Nat)(g:Nat->Idd)(n:Nat)(hn:n<=1000000)(hg:∀i,(g i).Ok) :
 (qY (plH F.t g) n=true/\Pz P16 G16 A16 79 [] [0,2,2,0,1,2,2,0,0,2,1,2] [1,22,23,26,27,28] (b79 F j g n 0) [] (.exit 2) [1,22,23] (a79 F j) []) ∨
 (qY (plH F.t g) n=false/\∃i,i<n/\Pz P16 G16 A16 79 [] [0,2,2,0,1,2,2,0,0,2,1,2] [1,22,23,26,27,28] (b79 F j g n 0) [] .ret [2] [iI 7] []):=by
 obtain⟨p,hp⟩:=qE P16 G16 108;have hK:=qv qa (P:=P16) (Gl:=G16) (qr hp (F:=qgM F.t));have tp:∀i,qC (p [F.t.v,.agg (g i).c] (.bool (thF F.t (g i).y (g i).n)))=true:=fun i=>qz.2 (qH hp (qhK F.t hO.t (g i) (hg i)));refine Pz.scan (P:=P16) (G:=G16) (A:=A16) (f:=79) (h0:=[]) (p:=[0,2,2,0,1,2,2,0,0,2,1,2]) (by kernel_rfl) (fun i=>b79 F j g n i) (fun _=>[]) (plH F.t g) (fun _=>[]) (by simp) (fun i hi _ hk=>?_) (fun i hi _ hk=>?_) (fun _=>?_)
 ·have q:=qli p F j g n i;rw[up1 (by omega)] at q;exact Pz.run qu hK (m:=0) (by kernel_rfl) ql (q.trans (qt (by simpa using hi) (qt (inR hi) (qt (tp i) (qt hk rfl)))))
 ·exact Pz.run qu hK (m:=0) (by kernel_rfl) ql ((qlj p F j g n i).trans (qt (by simpa using hi) (qt (inR hi) (qt (tp i) (qK (by unfold plH at hk;rw[hk];simp) rfl)))))
 ·exact Pz.only (Pz.run qu hK (m:=0) (by kernel_rfl) ql ((qli p F j g n n).trans (qK (by simp) rfl))) (l2:=[1,22,23]) rfl
theorem qnc(hO:F.Ok) :
 (qY (plS F) F.nf=true/\Pz P16 G16 A16 79 [] [0,2,1,2,2] [1,40,41,42] (c79 F 0) [] (.exit 4) [1] [.reg F.c] []) ∨
 (qY (plS F) F.nf=false/\∃i,i<F.nf/\Pz P16 G16 A16 79 [] [0,2,1,2,2] [1,40,41,42] (c79 F 0) [] .ret [2] [iI 6] []):=by
 obtain⟨q,hq⟩:=qE P16 G16 95;have hK:=qv qa (P:=P16) (Gl:=G16) (qr hq (F:=qfi));have hn:=hO.nf;have tq:∀i j,qC (q [.agg (F.fa i).c,.agg (F.fa j).c] (iI (zw (F.fa i).y (F.fa i).n (F.fa j).y (F.fa j).n)))=true:=fun i j=>qz.2 (qH hq (qfU (F.fa i) (F.fa j)));refine Pz.scan (P:=P16) (G:=G16) (A:=A16) (f:=79) (h0:=[]) (p:=[0,2,1,2,2]) (by kernel_rfl) (fun i=>c79 F i) (fun _=>[]) (plS F) (fun _=>[]) (by simp) (fun i hi _ hk=>?_) (fun i hi _ hk=>?_) (fun _=>?_)
 ·have z:=qll q F i;rw[up1 (by omega)] at z;refine Pz.run qu hK (m:=0) (by kernel_rfl) ql (z.trans (qt (by simpa using hi) (qt (inR hi) ?_)));unfold plS at hk;by_cases c:0<i
  ·rw[qgN (j:=i) (by omega) (by omega),show(ofNat (i-1)).toNat=i-1 from rfl];rw[decide_eq_true c,Bool.true_and,Bool.not_eq_true',decide_eq_false_iff_not] at hk;exact qt (by simpa using c) (qt (inR (by omega)) (qt (tq (i-1) i) (qK (by simpa using hk) rfl)))
  ·exact qK (by simpa using c) rfl
 ·refine Pz.run qu hK (m:=0) (by kernel_rfl) ql ((qlm q F i).trans (qt (by simpa using hi) (qt (inR hi) ?_)));unfold plS at hk;simp only[Bool.not_eq_false',Bool.and_eq_true,decide_eq_true_eq] at hk;rw[qgN (j:=i) (by omega) (by omega),show(ofNat (i-1)).toNat=i-1 from rfl];exact qt (by simpa using hk.1) (qt (inR (by omega)) (qt (tq (i-1) i) (qt (by simpa using hk.2) rfl)))
 ·exact Pz.only (Pz.run qu hK (m:=0) (by kernel_rfl) ql ((qll q F F.nf).trans (qK (by simp) rfl))) (l2:=[1]) rfl
theorem qnd(hO:F.Ok)(L:List (List Int)):Pz P16 G16 A16 79 [] [0,2,1,2,2,2,2,2,2,2] [1,9,10,72,73,74] (d79 F 0) (mxL L) (.exit 6) [1,9] [.reg F.c,.ptr 1 0 0 0] (mxL (kD F.t L F.t.h)):=by
 obtain⟨p,hp⟩:=Yi P16 G16 109;have hh:=hO.t.h;refine Pz.count (P:=P16) (G:=G16) (A:=A16) (f:=79) (h0:=[]) (p:=[0,2,1,2,2,2,2,2,2,2]) (by kernel_rfl) (fun y=>d79 F y) (fun y=>mxL (kD F.t L y)) (n:=F.t.h) (by simp) (fun y hy=>?_) ?_
 ·have hl:=hO.t.ln y;have inner:=Pz.count (P:=P16) (G:=G16) (A:=A16) (f:=79) (h0:=[]) (p:=[0,2,2,0,1,2,2,0,0,2,1,2,2,2,2,2,2,2]) (e:=.exit 8) (by kernel_rfl) (fun i=>e79 F y i) (fun i=>mxL (kB (F.t.L y) i (kD F.t L y))) (n:=F.t.ln y) (by simp) (fun i hi=>by
   have hth:=(hO.t.L y i).nt;have q:=qlp p F y i (hF (kB (F.t.L y) i (kD F.t L y))) (hF (kB (F.t.L y) (i+1) (kD F.t L y))) (vF (kB (F.t.L y) i (kD F.t L y))) (vF (kB (F.t.L y) (i+1) (kD F.t L y))) (bF (kB (F.t.L y) i (kD F.t L y))) (bF (kB (F.t.L y) (i+1) (kD F.t L y))) (cF (kB (F.t.L y) i (kD F.t L y))) (cF (kB (F.t.L y) (i+1) (kD F.t L y)));rw[up1 (by omega)] at q;exact Pz.run qu (Qg qa (QZ hp)) (m:=0) (by kernel_rfl) ql (q.trans (qt (by simpa using hi) (qt (inR hi) (qt (zi hp (qdj _ _ (by omega) _)) rfl)))))
   (Pz.run qu (Qg qa (QZ hp)) (m:=0) (by kernel_rfl) ql ((qlp p F y (F.t.ln y) _ (fun _=>false) _ (fun _=>0) _ (fun _=>0) _ 0).trans (qK (by simp) rfl)))
  have cd:qw P16 G16 A16 qp 0 79 [] (nav [1,2,0,0,2,1,2,2,2,2,2,2,2]) [1,9,10,72,73,74,75] (d79 F y++[.bool true]) (mxL (kD F.t L y)) [1,9,10,72,73,74]=some (.normal,d79 F y,mxL (kD F.t L y)):=by kernel_rfl
  have p1:=Pz.run qu qa (m:=0) (p:=[1,0,0,2,1,2,2,2,2,2,2,2]) (A:=A16) (f:=79) (h0:=[]) (by kernel_rfl) ql ((qm8 F y (hF (kD F.t L y)) (vF (kD F.t L y)) (bF (kD F.t L y)) (cF (kD F.t L y))).trans (qt (by simpa using hy) rfl));have p2:=Pz.run qu qa (m:=0) (p:=[1,2,0,0,2,1,2,2,2,2,2,2,2]) (A:=A16) (f:=79) (h0:=[]) (by kernel_rfl) ql cd;have p3:=Pz.run qu qa (m:=0) (p:=[1,0,1,2,2,0,0,2,1,2,2,2,2,2,2,2]) (A:=A16) (f:=79) (h0:=[]) (by kernel_rfl) ql ((qln F y (hF (kD F.t L y)) (vF (kD F.t L y)) (bF (kD F.t L y)) (cF (kD F.t L y))).trans (qt (inR hy) rfl));have p4:=Pz.run qu qa (m:=0) (p:=[1,2,0,1,2,2,0,0,2,1,2,2,2,2,2,2,2]) (A:=A16) (f:=79) (h0:=[]) (by kernel_rfl) ql (qlo F y (hF (kD F.t L y)) (vF (kD F.t L y)) (bF (kD F.t L y)) (cF (kD F.t L y)));have q:=qm9 F y (hF (kD F.t L (y+1))) (vF (kD F.t L (y+1))) (bF (kD F.t L (y+1))) (cF (kD F.t L (y+1)));rw[up1 (by omega)] at q;have p5:=Pz.run qu qa (m:=0) (p:=[2,2,2,0,0,2,1,2,2,2,2,2,2,2]) (A:=A16) (f:=79) (h0:=[]) (by kernel_rfl) ql q;exact Pz.seq (by kernel_rfl) p1 (Pz.seq (by kernel_rfl) p2 (Pz.seq (by kernel_rfl) (Pz.blk (id:=7) (e:=.normal) (by kernel_rfl) rfl (Pz.seq (by kernel_rfl) p3 (Pz.seq (by kernel_rfl) p4 (Pz.blk (id:=8) (e:=.exit 8) (by kernel_rfl) rfl (Pz.only inner (l2:=[1,9,10,72,73,74]) rfl))))) p5))
 ·exact Pz.run qu qa (m:=0) (by kernel_rfl) ql ((qlq F F.t.h (hF (kD F.t L F.t.h)) (vF (kD F.t L F.t.h)) (bF (kD F.t L F.t.h)) (cF (kD F.t L F.t.h))).trans (qK (by simp) rfl))
theorem qne(hO:F.Ok)(h6:F.t.h=6) :
 (qY (plY F) F.t.h=true/\Pz P16 G16 A16 79 [] [0,2,1,2,2,2,2,2,2,2,2] [9,91,92,93] (f79 F 0) (mxL (plL F)) (.exit 10) [] [] (mxL (plL F))) ∨
 (qY (plY F) F.t.h=false/\∃i,i<F.t.h/\Pz P16 G16 A16 79 [] [0,2,1,2,2,2,2,2,2,2,2] [9,91,92,93] (f79 F 0) (mxL (plL F)) .ret [2] [iI 6] (mxL (plL F))):=by
 have inner:∀y,y<F.t.h->(qY (plC F y) (F.t.ln y)=true/\Pz P16 G16 A16 79 [] [0,2,2,0,1,2,2,0,0,2,1,2,2,2,2,2,2,2,2] [9,15,91,92,93,99,100] (g79 F y 0) (mxL (plL F)) (.exit 12) [9,91,92,93] (f79 F y) (mxL (plL F))) ∨
  (qY (plC F y) (F.t.ln y)=false/\∃i,i<F.t.ln y/\Pz P16 G16 A16 79 [] [0,2,2,0,1,2,2,0,0,2,1,2,2,2,2,2,2,2,2] [9,15,91,92,93,99,100] (g79 F y 0) (mxL (plL F)) .ret [2] [iI 6] (mxL (plL F))):=by
  intro y hy;have hl:=hO.t.ln y;have ew:u8.wrap (i64.wrap (ofNat y+(1:Int)))=ofNat y+1:=by
   rw[up1 (by omega),wr8 (by simp only[Int.ofNat_eq_natCast];omega) (by simp only[Int.ofNat_eq_natCast];omega)];rfl
  refine Pz.scan (P:=P16) (G:=G16) (A:=A16) (f:=79) (h0:=[]) (p:=[0,2,2,0,1,2,2,0,0,2,1,2,2,2,2,2,2,2,2]) (by kernel_rfl) (fun i=>g79 F y i) (fun _=>mxL (plL F)) (plC F y) (fun _=>mxL (plL F)) (by simp) (fun i hi _ hk=>?_) (fun i hi _ hk=>?_) (fun _=>?_)
  ·have z:=qlt F y i (hF (plL F)) (vF (plL F)) (bF (plL F)) (cF (plL F));rw[up1 (i:=i) (by omega),ew] at z;refine Pz.run qu qa (m:=0) (by kernel_rfl) ql (z.trans (qt (by simpa using hi) (qK ?_ rfl)));unfold plC at hk;rw[hk];simp
  ·have z:=qlu F y i (hF (plL F)) (vF (plL F)) (bF (plL F)) (cF (plL F));rw[ew] at z;refine Pz.run qu qa (m:=0) (by kernel_rfl) ql (z.trans (qt (by simpa using hi) (qt ?_ rfl)));unfold plC at hk;rw[hk];rfl
  ·exact Pz.only (Pz.run qu qa (m:=0) (by kernel_rfl) ql ((qlt F y (F.t.ln y) (hF (plL F)) (vF (plL F)) (bF (plL F)) (cF (plL F))).trans (qK (by simp) rfl))) (l2:=[9,91,92,93]) rfl
 have head:∀y,y<F.t.h->Pz P16 G16 A16 79 [] [1,0,0,2,1,2,2,2,2,2,2,2,2] [9,91,92,93] (f79 F y) (mxL (plL F)) .normal [9,91,92,93,94] (f79 F y++[.bool true]) (mxL (plL F)) ∧
  Pz P16 G16 A16 79 [] [1,2,0,0,2,1,2,2,2,2,2,2,2,2] [9,91,92,93,94] (f79 F y++[.bool true]) (mxL (plL F)) .normal [9,91,92,93] (f79 F y) (mxL (plL F)) ∧
  Pz P16 G16 A16 79 [] [1,0,1,2,2,0,0,2,1,2,2,2,2,2,2,2,2] [9,91,92,93] (f79 F y) (mxL (plL F)) .normal [9,15,16,91,92,93] [.ptr 1 0 0 0,iI (ofNat y),lpV (F.t.L y) (F.t.ln y) none,F.t.v,iI (ofNat F.t.h),iI (ofNat y)] (mxL (plL F)) ∧
  Pz P16 G16 A16 79 [] [1,2,0,1,2,2,0,0,2,1,2,2,2,2,2,2,2,2] [9,15,16,91,92,93] [.ptr 1 0 0 0,iI (ofNat y),lpV (F.t.L y) (F.t.ln y) none,F.t.v,iI (ofNat F.t.h),iI (ofNat y)] (mxL (plL F)) .normal [9,15,91,92,93,99,100] (g79 F y 0) (mxL (plL F)):=by
  intro y hy;have cd:qw P16 G16 A16 qp 0 79 [] (nav [1,2,0,0,2,1,2,2,2,2,2,2,2,2]) [9,91,92,93,94] (f79 F y++[.bool true]) (mxL (plL F)) [9,91,92,93]=some (.normal,f79 F y,mxL (plL F)):=by kernel_rfl
  exact⟨Pz.run qu qa (m:=0) (by kernel_rfl) ql ((qna F y _ _ _ _).trans (qt (by simpa using hy) rfl)),Pz.run qu qa (m:=0) (by kernel_rfl) ql cd,
   Pz.run qu qa (m:=0) (by kernel_rfl) ql ((qlr F y _ _ _ _).trans (qt (inR hy) rfl)),Pz.run qu qa (m:=0) (by kernel_rfl) ql (qls F y _ _ _ _)⟩
 refine Pz.scan (P:=P16) (G:=G16) (A:=A16) (f:=79) (h0:=[]) (p:=[0,2,1,2,2,2,2,2,2,2,2]) (by kernel_rfl) (fun y=>f79 F y) (fun _=>mxL (plL F)) (plY F) (fun _=>mxL (plL F)) (by simp) (fun y hy _ hk=>?_) (fun y hy _ hk=>?_) (fun _=>?_)
 ·obtain⟨p1,p2,p3,p4⟩:=head y hy;have q:=qnb F y (hF (plL F)) (vF (plL F)) (bF (plL F)) (cF (plL F));rw[up1 (by omega)] at q;have p5:=Pz.run qu qa (m:=0) (p:=[2,2,2,0,0,2,1,2,2,2,2,2,2,2,2]) (A:=A16) (f:=79) (h0:=[]) (by kernel_rfl) ql q;rcases inner y hy with⟨_,a⟩|⟨c,_⟩
  ·exact Pz.seq (by kernel_rfl) p1 (Pz.seq (by kernel_rfl) p2 (Pz.seq (by kernel_rfl) (Pz.blk (id:=11) (e:=.normal) (by kernel_rfl) rfl (Pz.seq (by kernel_rfl) p3 (Pz.seq (by kernel_rfl) p4 (Pz.blk (id:=12) (e:=.exit 12) (by kernel_rfl) rfl a)))) p5))
  ·unfold plY at hk;rw[hk] at c;cases c
 ·obtain⟨p1,p2,p3,p4⟩:=head y hy;rcases inner y hy with⟨c,_⟩|⟨_,i,_,a⟩
  ·unfold plY at hk;rw[hk] at c;cases c
  ·exact Pz.seq (by kernel_rfl) p1 (Pz.seq (by kernel_rfl) p2 (Pz.seqX (by kernel_rfl) (by simp) (Pz.blk (id:=11) (e:=.ret) (by kernel_rfl) rfl (Pz.seq (by kernel_rfl) p3 (Pz.seq (by kernel_rfl) p4 (Pz.blk (id:=12) (e:=.ret) (by kernel_rfl) rfl a))))))
 ·exact Pz.run qu qa (m:=0) (by kernel_rfl) ql ((qlv F F.t.h (hF (plL F)) (vF (plL F)) (bF (plL F)) (cF (plL F))).trans (qK (by simp) rfl))
theorem qiR(hO:F.Ok)(h6:F.t.h=6):ToldOk P16 G16 79 [.agg F.c] (iI (plE F)):=by
 have pa:=Pz.run qu qa (m:=0) (p:=[1]) (A:=A16) (f:=79) (h0:=[]) (by kernel_rfl) ql (qmY F);have fin:∀v h,Pz P16 G16 A16 79 [] [2] [1] [.reg F.c] [] .ret [2] [iI v] h->ToldOk P16 G16 79 [.agg F.c] (iI v):=fun v h q=>Pz.told (A:=A16) qX Tryz.func79 (by kernel_rfl) (by kernel_rfl) (l:=[0]) rfl (Pz.seq (by kernel_rfl) pa q) rfl;have pb:=Pz.run qu qa (m:=0) (p:=[1,1,2]) (A:=A16) (f:=79) (h0:=[]) (by kernel_rfl) ql (qmZ F);have c0:=Pz.run qu qa (m:=0) (p:=[1,0,0,2,1,2]) (A:=A16) (f:=79) (h0:=[]) (by kernel_rfl) ql (qlc F);have c1:=Pz.run qu qa (m:=0) (p:=[1,0,0,2,1,2]) (A:=A16) (f:=79) (h0:=[]) (by kernel_rfl) ql (qld F);have c2:=Pz.run qu qa (m:=0) (p:=[0,0,2,1,2]) (A:=A16) (f:=79) (h0:=[]) (by kernel_rfl) ql (qle F);have cd:∀j,qw P16 G16 A16 qp 0 79 [] (nav [1,2,0,0,2,1,2]) [1,22,23,24] (a79 F j++[.bool true]) [] [1,22,23]=some (.normal,a79 F j,[]):=fun j=>by kernel_rfl
 have pd:∀j,_:=fun j=>Pz.run qu qa (m:=0) (p:=[1,2,0,0,2,1,2]) (A:=A16) (f:=79) (h0:=[]) (by kernel_rfl) ql (cd j);have d0:=Pz.run qu qa (m:=0) (p:=[1,0,1,2,2,0,0,2,1,2]) (A:=A16) (f:=79) (h0:=[]) (by kernel_rfl) ql (qlf F);have d1:=Pz.run qu qa (m:=0) (p:=[1,0,1,2,2,0,0,2,1,2]) (A:=A16) (f:=79) (h0:=[]) (by kernel_rfl) ql (qlg F);have e0:=Pz.run qu qa (m:=0) (p:=[1,2,0,1,2,2,0,0,2,1,2]) (A:=A16) (f:=79) (h0:=[]) (by kernel_rfl) ql (qlh F 0 F.he F.nh);have e1:=Pz.run qu qa (m:=0) (p:=[1,2,0,1,2,2,0,0,2,1,2]) (A:=A16) (f:=79) (h0:=[]) (by kernel_rfl) ql (qlh F 1 F.fa F.nf);have q0:=qlk F 0;have q1:=qlk F 1;rw[up1 (by omega)] at q0 q1;have g0:=Pz.run qu qa (m:=0) (p:=[2,2,2,0,0,2,1,2]) (A:=A16) (f:=79) (h0:=[]) (by kernel_rfl) ql q0;have g1:=Pz.run qu qa (m:=0) (p:=[2,2,2,0,0,2,1,2]) (A:=A16) (f:=79) (h0:=[]) (by kernel_rfl) ql q1;unfold plE;rcases qlw F hO 0 F.he F.nh hO.nh hO.he with⟨a1,a2⟩|⟨a1,i,_,a2⟩
 rotate_left
 ·rw[a1,Bool.false_and,cond_false];have r0:=Pz.seq (by kernel_rfl) c0 (Pz.seq (by kernel_rfl) (pd 0) (Pz.seqX (by kernel_rfl) (by simp) (Pz.blk (id:=1) (e:=.ret) (by kernel_rfl) rfl (Pz.seq (by kernel_rfl) d0 (Pz.seq (by kernel_rfl) e0 (Pz.blk (id:=2) (e:=.ret) (by kernel_rfl) rfl a2))))));have lp:=Pz.count (P:=P16) (G:=G16) (A:=A16) (f:=79) (h0:=[]) (p:=[0,2,1,2]) (l:=[1,22,23]) (e:=.ret) (by kernel_rfl) (fun j=>a79 F j) (fun _=>[]) (n:=0) (by simp) (fun j hj=>by omega) r0;exact fin _ _ (Pz.seqX (by kernel_rfl) (by simp) (Pz.seq (by kernel_rfl) pb (Pz.blk (id:=0) (e:=.ret) (by kernel_rfl) rfl lp)))
 have r0:=Pz.seq (by kernel_rfl) c0 (Pz.seq (by kernel_rfl) (pd 0) (Pz.seq (by kernel_rfl) (Pz.blk (id:=1) (e:=.normal) (by kernel_rfl) rfl (Pz.seq (by kernel_rfl) d0 (Pz.seq (by kernel_rfl) e0 (Pz.blk (id:=2) (e:=.exit 2) (by kernel_rfl) rfl a2)))) g0));rw[a1,Bool.true_and];rcases qlw F hO 1 F.fa F.nf hO.nf hO.fa with⟨b1,b2⟩|⟨b1,i,_,b2⟩
 rotate_left
 ·rw[b1,cond_false];have r1:=Pz.seq (by kernel_rfl) c1 (Pz.seq (by kernel_rfl) (pd 1) (Pz.seqX (by kernel_rfl) (by simp) (Pz.blk (id:=1) (e:=.ret) (by kernel_rfl) rfl (Pz.seq (by kernel_rfl) d1 (Pz.seq (by kernel_rfl) e1 (Pz.blk (id:=2) (e:=.ret) (by kernel_rfl) rfl b2))))));have lp:=Pz.count (P:=P16) (G:=G16) (A:=A16) (f:=79) (h0:=[]) (p:=[0,2,1,2]) (l:=[1,22,23]) (e:=.ret) (by kernel_rfl) (fun j=>a79 F j) (fun _=>[]) (n:=1) (by simp) (fun j hj=>by
   obtain rfl:j=0:=Nat.lt_one_iff.1 hj;exact r0) r1
  exact fin _ _ (Pz.seqX (by kernel_rfl) (by simp) (Pz.seq (by kernel_rfl) pb (Pz.blk (id:=0) (e:=.ret) (by kernel_rfl) rfl lp)))
 have r1:=Pz.seq (by kernel_rfl) c1 (Pz.seq (by kernel_rfl) (pd 1) (Pz.seq (by kernel_rfl) (Pz.blk (id:=1) (e:=.normal) (by kernel_rfl) rfl (Pz.seq (by kernel_rfl) d1 (Pz.seq (by kernel_rfl) e1 (Pz.blk (id:=2) (e:=.exit 2) (by kernel_rfl) rfl b2)))) g1));rw[b1,cond_true];have lp:=Pz.count (P:=P16) (G:=G16) (A:=A16) (f:=79) (h0:=[]) (p:=[0,2,1,2]) (l:=[1,22,23]) (e:=.exit 0) (by kernel_rfl) (fun j=>a79 F j) (fun _=>[]) (n:=2) (by simp) (fun j hj=>by
  obtain rfl|rfl:j=0∨j=1:=by omega
  ·exact r0
  ·exact r1) c2
 have pA:=Pz.seq (by kernel_rfl) pb (Pz.blk (id:=0) (e:=.exit 0) (p:=[2,1,2]) (by kernel_rfl) rfl lp);have ph:=Pz.run qu qa (m:=0) (p:=[1,1,2,2]) (A:=A16) (f:=79) (h0:=[]) (by kernel_rfl) ql (qm0 F);rcases qnc F hO with⟨s1,s2⟩|⟨s1,i,_,s2⟩
 rotate_left
 ·rw[s1,cond_false];exact fin _ _ (Pz.seq (by kernel_rfl) pA (Pz.seqX (by kernel_rfl) (by simp) (Pz.seq (by kernel_rfl) ph (Pz.blk (id:=4) (e:=.ret) (by kernel_rfl) rfl s2))))
 rw[s1,cond_true];have pS:=Pz.seq (by kernel_rfl) ph (Pz.blk (id:=4) (e:=.exit 4) (p:=[2,1,2,2]) (by kernel_rfl) rfl s2);obtain⟨p,hp⟩:=Yi P16 G16 109;have pj:=Pz.post (Pz.run qu qa (m:=0) (p:=[1,2,2,2]) (A:=A16) (f:=79) (h0:=[]) (by kernel_rfl) ql (qm1 F)) (h2:=mxL []) (v2:=[.reg F.c,.ptr 1 0 0 0]) fun nt=>.same (.cons ⟨rfl,rfl,rfl,id,fun _ _=>rfl⟩ (.cons ⟨rfl,rfl,rfl,id,fun e he=>by
  obtain rfl:e=0:=by have he:e<1:=he;omega
  rfl⟩ .nil))
 have pk:=Pz.run qu qa (m:=0) (p:=[1,2,2,2,2]) (A:=A16) (f:=79) (h0:=[]) (by kernel_rfl) ql (qm2 F (hF []) (vF []) (bF []) (cF []));have pl:=Pz.run qu (Qg qa (QZ hp)) (m:=0) (p:=[1,2,2,2,2,2]) (A:=A16) (f:=79) (h0:=[]) (by kernel_rfl) ql ((qm6 p F (hF []) (hF (kA F.he F.nh [])) (vF []) (vF (kA F.he F.nh [])) (bF []) (bF (kA F.he F.nh [])) (cF []) (cF (kA F.he F.nh []))).trans (qt (zi hp (qdj _ _ hO.nh _)) rfl));have pm:=Pz.run qu (Qg qa (QZ hp)) (m:=0) (p:=[1,2,2,2,2,2,2]) (A:=A16) (f:=79) (h0:=[]) (by kernel_rfl) ql ((qm7 p F (hF (kA F.he F.nh [])) (hF (kA F.fa F.nf (kA F.he F.nh []))) (vF (kA F.he F.nh [])) (vF (kA F.fa F.nf (kA F.he F.nh []))) (bF (kA F.he F.nh [])) (bF (kA F.fa F.nf (kA F.he F.nh []))) (cF (kA F.he F.nh [])) (cF (kA F.fa F.nf (kA F.he F.nh [])))).trans (qt (zi hp (qdj _ _ hO.nf _)) rfl));have pn:=Pz.run qu qa (m:=0) (p:=[1,1,2,2,2,2,2,2,2]) (A:=A16) (f:=79) (h0:=[]) (by kernel_rfl) ql (qm3 F (hF (kA F.fa F.nf (kA F.he F.nh []))) (vF (kA F.fa F.nf (kA F.he F.nh []))) (bF (kA F.fa F.nf (kA F.he F.nh []))) (cF (kA F.fa F.nf (kA F.he F.nh []))));have pN:=Pz.seq (by kernel_rfl) pn (Pz.blk (id:=6) (e:=.exit 6) (p:=[2,1,2,2,2,2,2,2,2]) (by kernel_rfl) rfl (qnd F hO (kA F.fa F.nf (kA F.he F.nh []))));have ps:=Pz.run qu qa (m:=0) (p:=[1,1,2,2,2,2,2,2,2,2]) (A:=A16) (f:=79) (h0:=[]) (by kernel_rfl) ql (qm4 F 0 (hF (plL F)) (vF (plL F)) (bF (plL F)) (cF (plL F)));rcases qne F hO h6 with⟨u1,u2⟩|⟨u1,i,_,u2⟩
 ·rw[u1,cond_true];have pz:=Pz.run qu qa (m:=0) (p:=[2,2,2,2,2,2,2,2,2]) (A:=A16) (f:=79) (h0:=[]) (by kernel_rfl) ql (qm5 (hF (plL F)) (vF (plL F)) (bF (plL F)) (cF (plL F)));exact fin _ _ (Pz.seq (by kernel_rfl) pA (Pz.seq (by kernel_rfl) pS (Pz.seq (by kernel_rfl) pj (Pz.seq (by kernel_rfl) pk (Pz.seq (by kernel_rfl) pl (Pz.seq (by kernel_rfl) pm (Pz.seq (by kernel_rfl) pN (Pz.seq (by kernel_rfl) (Pz.seq (by kernel_rfl) ps (Pz.blk (id:=10) (e:=.exit 10) (by kernel_rfl) rfl u2)) pz))))))))
 ·rw[u1,cond_false];exact fin _ _ (Pz.seq (by kernel_rfl) pA (Pz.seq (by kernel_rfl) pS (Pz.seq (by kernel_rfl) pj (Pz.seq (by kernel_rfl) pk (Pz.seq (by kernel_rfl) pl (Pz.seq (by kernel_rfl) pm (Pz.seq (by kernel_rfl) pN (Pz.seqX (by kernel_rfl) (by simp) (Pz.seq (by kernel_rfl) ps (Pz.blk (id:=10) (e:=.ret) (by kernel_rfl) rfl u2))))))))))
end
structure Iss where
 (g:Nat->Nat->Idd) (l:Nat->Nat) (n:Nat) (c:Option Nat)
def Iss.v(s:Iss):T:=.view 1 s.n (fun i=>[idV (s.g i) (s.l i) none]) s.c
def v80(s:Iss)(a i:Nat):List T:=[s.v,iI (ofNat a),s.v,iI (ofNat s.n),iI (ofNat i)]
theorem qnf(s:Iss):qw P16 G16 A16 qp 0 80 [] (nav [1]) [0] [s.v] [] [0] =
(
 some ((.normal,[s.v],[]))):=by kernel_rfl
theorem qng(s:Iss):qw P16 G16 A16 qp 0 80 [] (nav [1,2]) [0] [s.v] [] [0,3] =
(
 some ((.normal,[s.v,iI 0],[]))):=by kernel_rfl
theorem qnh(s:Iss)(a:Nat):qw P16 G16 A16 qp 0 80 [] (nav [1,1,2,2]) [0,3] [s.v,iI (ofNat a)] [] [0,3,10,11,12] =
(
 some ((.normal,v80 s a (nat_lit 0),[]))):=by kernel_rfl
theorem qlx(s:Iss)(a i:Nat):qw P16 G16 A16 qp 0 80 [] (nav [0,0,2,1,2,2]) [0,3,10,11,12] (v80 s a i) [] [0,3,10,11,12] =
(
 bif decide (ofNat i<ofNat s.n) then
 bif decide (0<=ofNat i)&&decide (ofNat i<ofNat s.n) then
 some ((.normal,[s.v,iI (i64.wrap (ofNat a+ofNat (s.l i))),s.v,iI (.ofNat s.n),iI (i64.wrap (ofNat i+1))],[]))
 else none else
 some ((.exit 0,v80 s a i,[]))):=by kernel_rfl
theorem qni(s:Iss)(a:Nat):qw P16 G16 A16 qp 0 80 [] (nav [1,2,2,2]) [0,3] [s.v,iI (ofNat a)] [] [0,6] =
(
 bif decide (0<=ofNat a)&&decide (ofNat a<=ofNat a)&&decide (ofNat a*16<=140737488355328)&&decide (ofNat a<=9223372036854775807) then
 some ((.normal,[s.v,.own 0 0 0 a (some a)],[.mk 0 2 a (fun x=>[uI 0,iI 0]) true false
 none]))
 else
 none):=by kernel_rfl
def iB(a:Nat)(z:Nat->Idd):Blk:=.mk 0 2 a (fun x=>(z x).c) true false none
def w80(s:Iss)(a k i:Nat):List T:=[.own 0 0 0 a (some a),iI (ofNat k),s.v,iI (ofNat s.n),iI (ofNat i)]
theorem qnj(s:Iss)(a:Nat)(z:Nat->Idd):qw P16 G16 A16 qp 0 80 [] (nav [1,2,2,2,2]) [0,6] [s.v,.own 0 0 0 a (some a)] [iB a z] [0,6,7] =
(
 some ((.normal,[s.v,.own 0 0 0 a (some a),iI 0],[iB a z]))):=by kernel_rfl
theorem qnk(s:Iss)(a k:Nat)(z:Nat->Idd):qw P16 G16 A16 qp 0 80 [] (nav [1,1,2,2,2,2,2]) [0,6,7] [s.v,.own 0 0 0 a (some a),iI (ofNat k)] [iB a z] [6,7,23,24,25] =
(
 some ((.normal,w80 s a k (nat_lit 0),[iB a z]))):=by kernel_rfl
theorem qly(s:Iss)(a k i:Nat)(z:Nat->Idd):qw P16 G16 A16 qp 0 80 [] (nav [0,0,2,1,2,2,2,2,2]) [6,7,23,24,25] (w80 s a k i) [iB a z] [6,7,23,24,25] =
(
 bif decide (ofNat i<ofNat s.n) then
 bif decide (0<=ofNat i)&&decide (ofNat i<ofNat s.n) then
 bif decide (0<=ofNat k)&&decide (ofNat k<=ofNat a)&&decide (ofNat a<=ofNat a) then
 bif ((0:Nat)+k+(a-k)).ble a then
 some ((.normal,[.own 0 0 0 a (some a),iI (i64.wrap (ofNat k+ofNat ((s.l i).min (a-k)))),s.v,iI (.ofNat s.n),iI (i64.wrap (ofNat i+1))],[.mk 0 2 a (fun j =>
 bif ((0:Nat)+k).ble j&&j.blt (0+k+(s.l i).min (a-k)) then(s.g i (j-((0:Nat)+k))).c
 else(z j).c) true false
 none]))
 else none else none else none else
 some ((.exit 2,w80 s a k i,[iB a z]))):=by kernel_rfl
theorem qnl(a:Nat)(z:Nat->Idd):qw P16 G16 A16 qp 0 80 [] (nav [2,2,2,2,2,2]) [6] [.own 0 0 0 a (some a)] [iB a z] [2] =
(
 some ((.ret,[.own 0 0 0 a (some a)],[iB a z]))):=by kernel_rfl
def Iss.sum(s:Iss):Nat->Nat
 |0=>0
 |y+1=>s.sum y+s.l y
def Iss.z(s:Iss)(a:Nat):Nat->Nat->Idd
 |0=>fun _=>⟨0,0⟩
 |i+1=>fun j=>bif Nat.ble (0+s.sum i) j&&j.blt (0+s.sum i+(s.l i).min (a-s.sum i)) then s.g i (j-(0+s.sum i)) else s.z a i j
theorem Iss.mono(s:Iss){i n:Nat}(h:i<=n):s.sum i<=s.sum n:=by
 induction n with
 |zero=>obtain rfl:i=0:=by omega
        exact Nat.le_refl _
 |succ n ih =>
  rcases Nat.lt_or_ge i (n+1) with q|q
  ·exact Nat.le_trans (ih (by omega)) (Nat.le_add_right _ _)
  ·obtain rfl:i=n+1:=by omega
   exact Nat.le_refl _
set_option maxHeartbeats 0
set_option maxRecDepth 100000
theorem qiS(s:Iss)(hn:s.n<=1000000)(hs:s.sum s.n<=1000000):ToldOk P16 G16 80 [s.v] (.fresh true 2 (s.sum s.n) (fun j=>(s.z (s.sum s.n) s.n j).c) (s.sum s.n) (some (s.sum s.n))):=by
 have mono:∀i,i<=s.n->s.sum i<=s.sum s.n:=fun i hi=>s.mono hi;have pa:=Pz.run qu qa (m:=0) (p:=[1]) (A:=A16) (f:=80) (h0:=[]) (by kernel_rfl) ql (qnf s);have pb:=Pz.run qu qa (m:=0) (p:=[1,2]) (A:=A16) (f:=80) (h0:=[]) (by kernel_rfl) ql (qng s);have pc:=Pz.run qu qa (m:=0) (p:=[1,1,2,2]) (A:=A16) (f:=80) (h0:=[]) (by kernel_rfl) ql (qnh s 0);have good:∀i,i<s.n->Pz P16 G16 A16 80 [] [0,0,2,1,2,2] [0,3,10,11,12] (v80 s (s.sum i) i) [] .normal [0,3,10,11,12] (v80 s (s.sum (i+1)) (i+1)) []:=by
  intro i hi;have h2:=mono (i+1) hi;have h3:s.sum (i+1)=s.sum i+s.l i:=rfl;have q:=qlx s (s.sum i) i;rw[up1 (by omega),qhI (by omega)] at q;exact Pz.run qu qa (m:=0) (by kernel_rfl) ql (q.trans (qt (by simpa using hi) (qt (inR hi) rfl)))
 have pl:=Pz.count (P:=P16) (G:=G16) (A:=A16) (f:=80) (h0:=[]) (p:=[0,2,1,2,2]) (e:=.exit 0) (by kernel_rfl) (fun i=>v80 s (s.sum i) i) (fun _=>[]) (n:=s.n) (by simp) good (Pz.run qu qa (m:=0) (by kernel_rfl) ql ((qlx s (s.sum s.n) s.n).trans (qK (by simp) rfl)));have lens:∀i,s.sum (i+1)=s.sum i+s.l i:=fun i=>rfl;have pe0:=qni s (s.sum s.n);generalize ha:s.sum s.n=a at *
 have pe:=Pz.run qu qa (m:=0) (p:=[1,2,2,2]) (A:=A16) (f:=80) (h0:=[]) (by kernel_rfl) ql (pe0.trans (qt (by simp;omega) rfl));have pf:=Pz.run qu qa (m:=0) (p:=[1,2,2,2,2]) (A:=A16) (f:=80) (h0:=[]) (by kernel_rfl) ql (qnj s a (s.z a 0));have pg:=Pz.run qu qa (m:=0) (p:=[1,1,2,2,2,2,2]) (A:=A16) (f:=80) (h0:=[]) (by kernel_rfl) ql (qnk s a 0 (s.z a 0));have good2:∀i,i<s.n->Pz P16 G16 A16 80 [] [0,0,2,1,2,2,2,2,2] [6,7,23,24,25] (w80 s a (s.sum i) i) [iB a (s.z a i)] .normal [6,7,23,24,25] (w80 s a (s.sum (i+1)) (i+1)) [iB a (s.z a (i+1))]:=by
  intro i hi;have h2:=mono (i+1) hi;have h3:=lens i;have q:=qly s a (s.sum i) i (s.z a i);rw[up1 (by omega),show(s.l i).min (a-s.sum i)=s.l i from Nat.min_eq_left (by omega),qhI (by omega)] at q;refine Pz.run qu qa (m:=0) (by kernel_rfl) ql (q.trans (qt (by simpa using hi) (qt (inR hi) (qt (by simp;omega) (qt (QC (by omega)) ?_)))));refine congrArg some (congrArg (Prod.mk _) (congrArg (Prod.mk _) (congrArg (fun x=>[x]) ?_)));refine congrArg (fun g=>Blk.mk 0 2 a g true false none) (funext fun j=>?_);rw[show s.z a (i+1) j=bif Nat.ble (0+s.sum i) j&&j.blt (0+s.sum i+(s.l i).min (a-s.sum i)) then s.g i (j-(0+s.sum i)) else s.z a i j from rfl,show(s.l i).min (a-s.sum i)=s.l i from Nat.min_eq_left (by omega)];cases Nat.ble (0+s.sum i) j&&j.blt (0+s.sum i+s.l i)<;>rfl
 have pl2:=Pz.count (P:=P16) (G:=G16) (A:=A16) (f:=80) (h0:=[]) (p:=[0,2,1,2,2,2,2,2]) (e:=.exit 2) (by kernel_rfl) (fun i=>w80 s a (s.sum i) i) (fun i=>[iB a (s.z a i)]) (n:=s.n) (by simp) good2 (Pz.run qu qa (m:=0) (by kernel_rfl) ql ((qly s a (s.sum s.n) s.n (s.z a s.n)).trans (qK (by simp) rfl)));have pi:=Pz.run qu qa (m:=0) (p:=[2,2,2,2,2,2]) (A:=A16) (f:=80) (h0:=[]) (by kernel_rfl) ql (qnl a (s.z a s.n));have all:=Pz.seq (by kernel_rfl) pa (Pz.seq (by kernel_rfl) pb (Pz.seq (by kernel_rfl) (Pz.seq (by kernel_rfl) pc (Pz.blk (id:=0) (e:=.exit 0) (by kernel_rfl) rfl (Pz.only pl (l2:=[0,3]) rfl))) (Pz.seq (by kernel_rfl) pe (Pz.seq (by kernel_rfl) pf (Pz.seq (by kernel_rfl) (Pz.seq (by kernel_rfl) pg (Pz.blk (id:=2) (e:=.exit 2) (by kernel_rfl) rfl (Pz.only pl2 (l2:=[6]) rfl))) pi)))));refine ToldOk.resTo (r:=.fresh true 2 (a-0) (fun j=>(s.z a s.n (0+j)).c) a (some a)) ?_ (.fresh (by omega) (by omega) (fun m hm=>by obtain rfl:=Option.some.inj hm;omega) fun j hj=>by rw[Nat.zero_add]);refine Pz.told (A:=A16) qX Tryz.func80 (by kernel_rfl) (by kernel_rfl) (l:=[0]) rfl all ?_;show some (bif Nat.ble (0+a) a then _ else T.undef)=_;rw[QC (by omega)];rfl
structure Slt where
 (b:Nat->Int) (s:Iss)
def Slt.v(x:Slt):T:=.view 2 x.s.n (fun i=>[uI (x.b i),idV (x.s.g i) (x.s.l i) none]) none
def hB(n:Nat)(w:Nat->T):Blk:=.mk 0 1 n (fun e=>[w e]) false false none
def v46(x:Slt)(i:Nat):List T:=[.own 0 0 0 x.s.n (some x.s.n),x.v,iI (ofNat x.s.n),iI (ofNat i)]
def kFr(n:Nat)(z:Nat->Idd)(_:List T):Option T:=some (.fresh true 2 n (fun j=>(z j).c) n (some n))
theorem qnm(x:Slt):qw P16 G16 A16 qp 0 46 [] (nav [1]) [0] [x.v] [] [0] =
(
 some ((.normal,[x.v],[]))):=by kernel_rfl
theorem qnn(x:Slt):qw P16 G16 A16 qp 0 46 [] (nav [1,2]) [0] [x.v] [] [0,3] =
(
 bif decide (0<=ofNat x.s.n)&&decide (ofNat x.s.n<=ofNat x.s.n)&&decide (ofNat x.s.n*24<=140737488355328)&&decide (ofNat x.s.n<=9223372036854775807) then
 some ((.normal,[x.v,.own 0 0 0 x.s.n (some x.s.n)],[hB x.s.n fun e=>.nils]))
 else
 none):=by kernel_rfl
theorem qno(x:Slt)(w:Nat->T):qw P16 G16 A16 qp 0 46 [] (nav [1,1,2,2]) [0,3] [x.v,.own 0 0 0 x.s.n (some x.s.n)] [hB x.s.n w] [3,9,10,11] =
(
 some ((.normal,v46 x (nat_lit 0),[hB x.s.n w]))):=by kernel_rfl
theorem qlz(x:Slt)(w:Nat->T)(i:Nat):qw P16 G16 A16 qp 0 46 [] (nav [0,0,2,1,2,2]) [3,9,10,11] (v46 x i) [hB x.s.n w] [3,9,10,11] =
(
 bif decide (ofNat i<ofNat x.s.n) then
 bif decide (0<=ofNat i)&&decide (ofNat i<ofNat x.s.n) then
 bif decide (0<=ofNat i)&&decide (ofNat i<ofNat x.s.n) then
 bif ((0:Nat)+i).blt x.s.n&&true&&true&&true then
 some ((.normal,[.own 0 0 0 x.s.n (some x.s.n),x.v,iI (.ofNat x.s.n),iI (i64.wrap (ofNat i+1))],[hB x.s.n fun e =>
 bif e==0+i then idV (x.s.g i) (x.s.l i) none else w e]))
 else none else none else none else
 some ((.exit 0,v46 x i,[hB x.s.n w]))):=by kernel_rfl
theorem qnp(p:List T->T->Prop)(x:Slt)(m:Nat)(z:Nat->Idd)(g:Nat->Nat->Idd)(l:Nat->Nat):qw P16 G16 A16 (qp.add 80 (qI p (kFr m z))) 0 46 [] (nav [2,2,2]) [3] [.own 0 0 0 x.s.n (some x.s.n)] [hB x.s.n (fun i=>idV (g i) (l i) none)] [2] =
(
 bif qC (p [bif ((0:Nat)+x.s.n).ble x.s.n then .view 1 x.s.n (fun j=>[idV (g (0+j)) (l (0+j))
 none]) (some x.s.n)
 else .undef] (.fresh true (2:Nat) m (fun j=>(z j).c) m (some m))) then
 some ((.ret,[.own 1 0 0 m (some m)],[hB x.s.n fun e=>idV (g e) (l e)
 none,iB m z]))
 else
 none):=by kernel_rfl
def Slt.w(x:Slt)(i:Nat):Nat->T:=fun e=>bif e.blt i then idV (x.s.g e) (x.s.l e) none else .nils
def Iss.cap(s:Iss):Iss:={ s with c:=some s.n }
def Slt.hn(x:Slt):Nat:=x.s.cap.sum x.s.n
def Slt.hz(x:Slt):Nat->Idd:=x.s.cap.z x.hn x.s.n
set_option maxHeartbeats 0
set_option maxRecDepth 100000
theorem qlA(x:Slt)(hn:x.s.n<=1000000)(hs:x.hn<=1000000):ToldOk P16 G16 46 [x.v] (.fresh true 2 x.hn (fun j=>(x.hz j).c) x.hn (some x.hn)):=by
 obtain⟨p,hp⟩:=qE P16 G16 80;have hj:=qiS x.s.cap hn hs;have hj:ToldOk P16 G16 80 [x.s.cap.v] (.fresh true 2 x.hn (fun j=>(x.hz j).c) x.hn (some x.hn)):=hj;have pa:=Pz.run qu qa (m:=0) (p:=[1]) (A:=A16) (f:=46) (h0:=[]) (by kernel_rfl) ql (qnm x);have pb:=Pz.run qu qa (m:=0) (p:=[1,2]) (A:=A16) (f:=46) (h0:=[]) (by kernel_rfl) ql ((qnn x).trans (qt (by simp;omega) rfl));have pc:=Pz.run qu qa (m:=0) (p:=[1,1,2,2]) (A:=A16) (f:=46) (h0:=[]) (by kernel_rfl) ql (qno x (x.w 0));have good:∀i,i<x.s.n->Pz P16 G16 A16 46 [] [0,0,2,1,2,2] [3,9,10,11] (v46 x i) [hB x.s.n (x.w i)] .normal [3,9,10,11] (v46 x (i+1)) [hB x.s.n (x.w (i+1))]:=by
  intro i hi;have q:=qlz x (x.w i) i;rw[up1 (by omega)] at q;refine Pz.run qu qa (m:=0) (by kernel_rfl) ql (q.trans (qt (by simpa using hi) (qt (inR hi) (qt (inR hi) (qt (by rw[QX (by omega)];rfl) ?_)))));refine congrArg some (congrArg (Prod.mk _) (congrArg (Prod.mk _) (congrArg (fun y=>[y]) (congrArg (hB x.s.n) (funext fun e=>?_)))));unfold Slt.w;by_cases c:e=i
  ·subst c;rw[show(e==0+e)=true by simp,QX (by omega:e<e+1)];rfl
  ·rw[show(e==0+i)=false by simp;omega,cond_false];rcases Nat.lt_or_ge e i with d|d
   ·rw[QX d,QX (by omega:e<i+1)]
   ·rw[show e.blt i=false from Bool.eq_false_iff.2 fun h=>by have:=Nat.le_of_ble_eq_true h;omega,show e.blt (i+1)=false from Bool.eq_false_iff.2 fun h=>by have:=Nat.le_of_ble_eq_true h;omega]
 have pl:=Pz.count (P:=P16) (G:=G16) (A:=A16) (f:=46) (h0:=[]) (p:=[0,2,1,2,2]) (e:=.exit 0) (by kernel_rfl) (fun i=>v46 x i) (fun i=>[hB x.s.n (x.w i)]) (n:=x.s.n) (by simp) good (Pz.run qu qa (m:=0) (by kernel_rfl) ql ((qlz x (x.w x.s.n) x.s.n).trans (qK (by simp) rfl)));have pl2:=Pz.post (Pz.only pl (l2:=[3]) rfl) (v2:=[.own 0 0 0 x.s.n (some x.s.n)]) (h2:=[hB x.s.n (fun e=>idV (x.s.g e) (x.s.l e) none)]) fun nt=>.same (.cons ⟨rfl,rfl,rfl,id,fun e he=>by
  show [idV (x.s.g e) (x.s.l e) none]=[x.w x.s.n e];unfold Slt.w;rw[QX (show e<x.s.n from he)];rfl⟩ .nil)
 have pe:=Pz.run qu (qv qa (qr hp (F:=kFr x.hn x.hz))) (m:=0) (p:=[2,2,2]) (A:=A16) (f:=46) (h0:=[]) (by kernel_rfl) ql ((qnp p x x.hn x.hz x.s.g x.s.l).trans (qt (by
  rw[QC (by omega),cond_true];simp only[Nat.zero_add];exact qz.2 (qH hp hj)) rfl))
 have all:=Pz.seq (by kernel_rfl) pa (Pz.seq (by kernel_rfl) pb (Pz.seq (by kernel_rfl) (Pz.seq (by kernel_rfl) pc (Pz.blk (id:=0) (e:=.exit 0) (by kernel_rfl) rfl pl2)) pe));refine ToldOk.resTo (r:=.fresh true 2 (x.hn-0) (fun j=>(x.hz (0+j)).c) x.hn (some x.hn)) ?_ (.fresh (by omega) (by omega) (fun m hm=>by obtain rfl:=Option.some.inj hm;omega) fun j hj=>by rw[Nat.zero_add]);refine Pz.told (A:=A16) qX Tryz.func46 (by kernel_rfl) (by kernel_rfl) (l:=[0]) rfl all ?_;show some (bif Nat.ble (0+x.hn) x.hn then _ else T.undef)=_;rw[QC (by omega)];rfl
def kNm:List T->Option T
 |[.agg [.int _ y,.int _ n]]=>some (.bool (nmB ⟨y,n⟩))
 |_=>none
def v43(t:Tbl)(y:Yrn)(i:Nat):List T:=[t.v,psV y.pe y.np none,iI (ofNat y.np),iI (ofNat i)]
theorem qnq(y:Yrn)(c:Int)(t:Tbl):qw P16 G16 A16 qp 0 43 [] (nav [1]) [0,1,2] [.agg y.c,iI c,t.v] [] [1,2,3] =
(
 some ((.normal,[iI c,t.v,.reg y.c],[]))):=by kernel_rfl
theorem qnr(p:List T->T->Prop)(e:Int)(y:Yrn)(c:Int)(t:Tbl):qw P16 G16 A16 (qp.add 75 (qI p (Ks e))) 0 43 [] (nav [1,2]) [1,2,3] [iI c,t.v,.reg y.c] [] [2,3] =
(
 bif qC (p [.agg y.c] (iI e)) then
 bif !decide (e=0) then
 some ((.ret,[t.v,.reg y.c],[]))
 else
 bif !decide (y.ct=c) then
 some ((.ret,[t.v,.reg y.c],[]))
 else
 some ((.normal,[t.v,.reg y.c],[]))
 else
 none):=by kernel_rfl
theorem qlB(p:List T->T->Prop)(e:Int)(y:Yrn)(c:Int)(t:Tbl):qw P16 G16 A16 (qp.add 75 (qI p (Ks e))) 0 43 [] (nav [1,2]) [1,2,3] [iI c,t.v,.reg y.c] [] [6] =
(
 bif qC (p [.agg y.c] (iI e)) then
 bif !decide (e=0) then
 some ((.ret,[.bool false],[]))
 else
 bif !decide (y.ct=c) then
 some ((.ret,[.bool false],[]))
 else
 some ((.normal,[.undef],[]))
 else
 none):=by kernel_rfl
theorem qns(y:Yrn)(t:Tbl):qw P16 G16 A16 qp 0 43 [] (nav [1,2,2]) [2,3] [t.v,.reg y.c] [] [2,3] =
(
 bif y.i then
 bif !decide (y.pl=(-13:Int)) then
 bif !decide (y.pl=179) then
 some ((.ret,[t.v,.reg y.c],[]))
 else
 some ((.normal,[t.v,.reg y.c],[]))
 else
 some ((.normal,[t.v,.reg y.c],[]))
 else
 some ((.normal,[t.v,.reg y.c],[]))):=by kernel_rfl
theorem qlC(y:Yrn)(t:Tbl):qw P16 G16 A16 qp 0 43 [] (nav [1,2,2]) [2,3] [t.v,.reg y.c] [] [6] =
(
 bif y.i then
 bif !decide (y.pl=(-13:Int)) then
 bif !decide (y.pl=179) then
 some ((.ret,[.bool false],[]))
 else
 some ((.normal,[.undef],[]))
 else
 some ((.normal,[.undef],[]))
 else
 some ((.normal,[.undef],[]))):=by kernel_rfl
theorem qnt(y:Yrn)(t:Tbl):qw P16 G16 A16 qp 0 43 [] (nav [1,1,2,2,2]) [2,3] [t.v,.reg y.c] [] [2,31,32,33] =
(
 some ((.normal,v43 t y (nat_lit 0),[]))):=by kernel_rfl
theorem qlD(p:List T->T->Prop)(y:Yrn)(t:Tbl)(i:Nat):qw P16 G16 A16 (qp.add 76 (qI p kNm)) 0 43 [] (nav [0,0,2,1,2,2,2]) [2,31,32,33] (v43 t y i) [] [2,31,32,33] =
(
 bif decide (ofNat i<ofNat y.np) then
 bif decide (0<=ofNat i)&&decide (ofNat i<ofNat y.np) then
 bif qC (p [.agg [uI (y.pe i).y,iI (y.pe i).n]] (.bool (decide ((1:Int)<=(y.pe i).y)&&(decide ((y.pe i).y<=6)&&(decide ((0:Int)<=(y.pe i).n)&&decide ((y.pe i).n<2048)))))) then
 bif decide ((1:Int)<=(y.pe i).y)&&(decide ((y.pe i).y<=6)&&(decide ((0:Int)<=(y.pe i).n)&&decide ((y.pe i).n<2048))) then
 bif decide (0<=u8.wrap ((y.pe i).y-1))&&decide (u8.wrap ((y.pe i).y-1)<ofNat t.h) then
 bif decide (ofNat (t.ln (u8.wrap ((y.pe i).y-(1:Int))).toNat)<=(y.pe i).n) then
 some ((.ret,v43 t y i,[]))
 else
 some ((.normal,[t.v,psV y.pe y.np
 none,iI (.ofNat y.np),iI (i64.wrap (ofNat i+1))],[]))
 else none else
 some ((.ret,v43 t y i,[]))
 else none else none else
 some ((.exit 0,v43 t y i,[]))):=by kernel_rfl
theorem qlE(p:List T->T->Prop)(y:Yrn)(t:Tbl)(i:Nat):qw P16 G16 A16 (qp.add 76 (qI p kNm)) 0 43 [] (nav [0,0,2,1,2,2,2]) [2,31,32,33] (v43 t y i) [] [6] =
(
 bif decide (ofNat i<ofNat y.np) then
 bif decide (0<=ofNat i)&&decide (ofNat i<ofNat y.np) then
 bif qC (p [.agg [uI (y.pe i).y,iI (y.pe i).n]] (.bool (decide ((1:Int)<=(y.pe i).y)&&(decide ((y.pe i).y<=6)&&(decide ((0:Int)<=(y.pe i).n)&&decide ((y.pe i).n<2048)))))) then
 bif decide ((1:Int)<=(y.pe i).y)&&(decide ((y.pe i).y<=6)&&(decide ((0:Int)<=(y.pe i).n)&&decide ((y.pe i).n<2048))) then
 bif decide (0<=u8.wrap ((y.pe i).y-1))&&decide (u8.wrap ((y.pe i).y-1)<ofNat t.h) then
 bif decide (ofNat (t.ln (u8.wrap ((y.pe i).y-(1:Int))).toNat)<=(y.pe i).n) then
 some ((.ret,[.bool false],[]))
 else
 some ((.normal,[.undef],[]))
 else none else
 some ((.ret,[.bool false],[]))
 else none else none else
 some ((.exit 0,[.undef],[]))):=by kernel_rfl
theorem qnu :qw P16 G16 A16 qp 0 43 [] (nav [2,2,2,2]) [] [] [] [6] =
(
 some ((.ret,[.bool true],[]))):=by kernel_rfl
def qfl(t:Tbl)(y:Yrn)(i:Nat):Bool:=nmB (y.pe i).id&&decide ((y.pe i).n<(t.ln ((y.pe i).y-1).toNat:Int))
def qgP(t:Tbl)(y:Yrn)(c:Int):Bool:=decide (yrE y=0)&&(decide (y.ct=c)&&(!(y.i&&(!decide (y.pl = -13)&&!decide (y.pl=179)))&&qY (qfl t y) y.np))
set_option maxHeartbeats 0
set_option maxRecDepth 100000
theorem qjy(y:Yrn)(c:Int)(t:Tbl)(hn:y.np<=1000000)(ht:t.h=6):ToldOk P16 G16 43 [.agg y.c,iI c,t.v] (.bool (qgP t y c)):=by
 obtain⟨q,hq⟩:=qE P16 G16 75;obtain⟨p,hp⟩:=qE P16 G16 76;have hK:=qv qa (P:=P16) (Gl:=G16) (qr hp (F:=kNm));have hQ:=qv qa (P:=P16) (Gl:=G16) (qr hq (F:=Ks (yrE y)));have tq:=qz.2 (qH hq (qfV y hn));have tp:∀i,qC (p [.agg [uI (y.pe i).y,iI (y.pe i).n]] (.bool (nmB (y.pe i).id)))=true:=fun i=>qz.2 (qH hp (qhL (y.pe i).id));have pa:=Pz.run qu qa (m:=0) (p:=[1]) (A:=A16) (f:=43) (h0:=[]) (by kernel_rfl) ql (qnq y c t);have fin:∀v,Pz P16 G16 A16 43 [] [2] [1,2,3] [iI c,t.v,.reg y.c] [] .ret [6] [.bool v] []->ToldOk P16 G16 43 [.agg y.c,iI c,t.v] (.bool v):=fun v h=>Pz.told (A:=A16) qX Tryz.func43 (by kernel_rfl) (by kernel_rfl) (l:=[0,1,2]) rfl (Pz.seq (by kernel_rfl) pa h) rfl;have q1:=qnr q (yrE y) y c t;have q2:=qlB q (yrE y) y c t;have q3:=qns y t;have q4:=qlC y t;rw[tq,cond_true] at q1 q2;unfold qgP;cases c1:decide (yrE y=0) with
 |false =>
  rw[c1] at q2;exact fin false (Pz.seqX (by kernel_rfl) (by simp) (Pz.run qu hQ (m:=0) (by kernel_rfl) ql q2))
 |true =>
  rw[c1] at q1 q2;cases c2:decide (y.ct=c) with
  |false =>
   rw[c2] at q2;exact fin false (Pz.seqX (by kernel_rfl) (by simp) (Pz.run qu hQ (m:=0) (by kernel_rfl) ql q2))
  |true =>
   rw[c2] at q1;have pb:=Pz.run qu hQ (m:=0) (p:=[1,2]) (A:=A16) (f:=43) (h0:=[]) (by kernel_rfl) ql q1;cases c3:(y.i&&(!decide (y.pl = -13)&&!decide (y.pl=179))) with
   |true =>
    simp only[Bool.and_eq_true] at c3;rw[c3.1,c3.2.1,c3.2.2] at q4;exact fin false (Pz.seq (by kernel_rfl) pb (Pz.seqX (by kernel_rfl) (by simp) (Pz.run qu qa (m:=0) (by kernel_rfl) ql q4)))
   |false =>
    have q3:qw P16 G16 A16 qp 0 43 [] (nav [1,2,2]) [2,3] [t.v,.reg y.c] [] [2,3]=some (.normal,[t.v,.reg y.c],[]):=by
     rw[q3];cases d1:y.i with
     |false=>rfl
     |true =>
      rw[d1,Bool.true_and] at c3;cases d2:(!decide (y.pl = -13)) with
      |false=>rfl
      |true =>
       rw[d2,Bool.true_and] at c3;rw[c3];rfl
    have pc:=Pz.run qu qa (m:=0) (p:=[1,2,2]) (A:=A16) (f:=43) (h0:=[]) (by kernel_rfl) ql q3;have pd:=Pz.run qu qa (m:=0) (p:=[1,1,2,2,2]) (A:=A16) (f:=43) (h0:=[]) (by kernel_rfl) ql (qnt y t);have nm:∀i,nmB (y.pe i).id=true->1<=(y.pe i).y/\(y.pe i).y<=6:=fun i h=>by
     simp only[nmB,Bool.and_eq_true,decide_eq_true_eq] at h;exact⟨h.1,h.2.1⟩
    have good:∀i,i<y.np->qfl t y i=true->Pz P16 G16 A16 43 [] [0,0,2,1,2,2,2] [2,31,32,33] (v43 t y i) [] .normal [2,31,32,33] (v43 t y (i+1)) []:=by
     intro i hi hk;simp only[qfl,Bool.and_eq_true,decide_eq_true_eq] at hk;have b:=nm i hk.1;have qf:=qlD p y t i;rw[up1 (by omega),wr8 (x:=(y.pe i).y-1) (by omega) (by omega)] at qf;exact Pz.run qu hK (m:=0) (by kernel_rfl) ql (qf.trans (qt (by simpa using hi) (qt (inR hi) (qt (tp i) (qt hk.1 (qt (by simp[ht];omega) (qK (by simp only[Int.ofNat_eq_natCast,decide_eq_true_eq];omega) rfl)))))))
    cases hall:qY (qfl t y) y.np with
    |true =>
     have hall:=(qP _ _).1 hall;have pl:=Pz.count (P:=P16) (G:=G16) (A:=A16) (f:=43) (h0:=[]) (p:=[0,2,1,2,2,2]) (e:=.exit 0) (by kernel_rfl) (fun i=>v43 t y i) (fun _=>[]) (n:=y.np) (by simp) (fun i hi=>good i hi (hall i hi)) (Pz.run qu hK (m:=0) (by kernel_rfl) ql ((qlD p y t y.np).trans (qK (by simp) rfl)));exact fin true (Pz.seq (by kernel_rfl) pb (Pz.seq (by kernel_rfl) pc (Pz.seq (by kernel_rfl) (Pz.seq (by kernel_rfl) pd (Pz.blk (id:=0) (e:=.exit 0) (by kernel_rfl) rfl (Pz.only pl (l2:=[]) rfl))) (Pz.run qu qa (m:=0) (by kernel_rfl) ql qnu))))
    |false =>
     obtain⟨i,hi,hk,hlt⟩:=yO hall;have bad:Pz P16 G16 A16 43 [] [0,0,2,1,2,2,2] [2,31,32,33] (v43 t y i) [] .ret [6] [.bool false] []:=by
      have qf:=(qlE p y t i).trans (qt (by simpa using hi) (qt (inR hi) (qt (tp i) rfl)));refine Pz.run qu hK (m:=0) (by kernel_rfl) ql (qf.trans ?_);unfold qfl at hk;cases k1:nmB (y.pe i).id with
      |false=>exact qK (by show ¬nmB (y.pe i).id=true;rw[k1];simp) rfl
      |true =>
       have b:=nm i k1;rw[k1,Bool.true_and,decide_eq_false_iff_not] at hk;rw[wr8 (x:=(y.pe i).y-1) (by omega) (by omega)];exact qt k1 (qt (by simp[ht];omega) (qt (by simp only[Int.ofNat_eq_natCast,decide_eq_true_eq];omega) rfl))
     have pl:=Pz.count (P:=P16) (G:=G16) (A:=A16) (f:=43) (h0:=[]) (p:=[0,2,1,2,2,2]) (e:=.ret) (by kernel_rfl) (fun i=>v43 t y i) (fun _=>[]) (n:=i) (by simp) (fun j hj=>good j (by have hj:j<i:=hj;omega) (hlt j hj)) bad;exact fin false (Pz.seq (by kernel_rfl) pb (Pz.seq (by kernel_rfl) pc (Pz.seqX (by kernel_rfl) (by simp) (Pz.seq (by kernel_rfl) pd (Pz.blk (id:=0) (e:=.ret) (by kernel_rfl) rfl pl)))))
structure Wrk where
 (s:Slt) (Y:Nat->Yrn) (ny:Nat) (F:Fab) (d:Int)
def yrV(Y:Nat->Yrn)(n:Nat):T:=.view 5 n (fun j=>(Y j).c) none
def Wrk.c(w:Wrk):List T:=[w.s.v,yrV w.Y w.ny,w.F.t.v,crV w.F.cr w.F.nc none,idV w.F.he w.F.nh none,idV w.F.fa w.F.nf none,uI w.d]
def qiT(w:Wrk)(i:Nat):Bool:=qgP w.F.t (w.Y i) (ofNat (w.F.t.ln i))
def qiU(b:Bool):List T->Option T:=fun _=>some (.bool b)
def a15(w:Wrk)(i:Nat):List T:=[.reg w.c,yrV w.Y w.ny,iI (ofNat w.ny),iI (ofNat i)]
def b15(w:Wrk)(i:Nat):List T:=[.reg w.c,w.s.v,iI (ofNat w.s.s.n),iI (ofNat i)]
theorem qnv(w:Wrk):qw P16 G16 A16 qp 0 15 [] (nav [1]) [0] [.agg w.c] [] [1] =
(
 some ((.normal,[.reg w.c],[]))):=by kernel_rfl
theorem qnw(w:Wrk):qw P16 G16 A16 qp 0 15 [] (nav [1,2]) [1] [.reg w.c] [] [1] =
(
 bif !decide (ofNat w.ny=6) then
 some ((.ret,[.reg w.c],[]))
 else
 bif !decide (ofNat w.F.t.h=6) then
 some ((.ret,[.reg w.c],[]))
 else
 some ((.normal,[.reg w.c],[]))):=by kernel_rfl
theorem qlF(w:Wrk):qw P16 G16 A16 qp 0 15 [] (nav [1,2]) [1] [.reg w.c] [] [2] =
(
 bif !decide (ofNat w.ny=6) then
 some ((.ret,[iI 5],[]))
 else
 bif !decide (ofNat w.F.t.h=6) then
 some ((.ret,[iI 5],[]))
 else
 some ((.normal,[.undef],[]))):=by kernel_rfl
theorem qnx(w:Wrk):qw P16 G16 A16 qp 0 15 [] (nav [1,1,2,2]) [1] [.reg w.c] [] [1,20,21,22] =
(
 some ((.normal,a15 w (nat_lit 0),[]))):=by kernel_rfl
theorem qlG(p:List T->T->Prop)(w:Wrk)(b:Bool)(i:Nat):qw P16 G16 A16 (qp.add 43 (qI p (qiU b))) 0 15 [] (nav [0,0,2,1,2,2]) [1,20,21,22] (a15 w i) [] [1,20,21,22] =
(
 bif decide (ofNat i<ofNat w.ny) then
 bif decide (0<=ofNat i)&&decide (ofNat i<ofNat w.ny) then
 bif decide (0<=ofNat i)&&decide (ofNat i<ofNat w.F.t.h) then
 bif qC (p [.agg (w.Y i).c,iI (.ofNat (w.F.t.ln i)),w.F.t.v] (.bool b)) then
 bif b then
 some ((.normal,[.reg w.c,yrV w.Y w.ny,iI (.ofNat w.ny),iI (i64.wrap (ofNat i+1))],[]))
 else
 some ((.ret,a15 w i,[]))
 else none else none else none else
 some ((.exit 0,a15 w i,[]))):=by kernel_rfl
theorem qlH(p:List T->T->Prop)(w:Wrk)(b:Bool)(i:Nat):qw P16 G16 A16 (qp.add 43 (qI p (qiU b))) 0 15 [] (nav [0,0,2,1,2,2]) [1,20,21,22] (a15 w i) [] [2] =
(
 bif decide (ofNat i<ofNat w.ny) then
 bif decide (0<=ofNat i)&&decide (ofNat i<ofNat w.ny) then
 bif decide (0<=ofNat i)&&decide (ofNat i<ofNat w.F.t.h) then
 bif qC (p [.agg (w.Y i).c,iI (.ofNat (w.F.t.ln i)),w.F.t.v] (.bool b)) then
 bif b then
 some ((.normal,[.undef],[]))
 else
 some ((.ret,[iI 1],[]))
 else none else none else none else
 some ((.exit 0,[.undef],[]))):=by kernel_rfl
theorem qny(w:Wrk):qw P16 G16 A16 qp 0 15 [] (nav [1,2,2,2]) [1] [.reg w.c] [] [1] =
(
 bif decide (ofNat w.s.s.n<1) then
 some ((.ret,[.reg w.c],[]))
 else
 bif decide (16<ofNat w.s.s.n) then
 some ((.ret,[.reg w.c],[]))
 else
 bif !decide (w.d=0) then
 bif !decide (w.d=1) then
 some ((.ret,[.reg w.c],[]))
 else
 some ((.normal,[.reg w.c],[]))
 else
 some ((.normal,[.reg w.c],[]))):=by kernel_rfl
theorem qlI(w:Wrk):qw P16 G16 A16 qp 0 15 [] (nav [1,2,2,2]) [1] [.reg w.c] [] [2] =
(
 bif decide (ofNat w.s.s.n<1) then
 some ((.ret,[iI 1],[]))
 else
 bif decide (16<ofNat w.s.s.n) then
 some ((.ret,[iI 1],[]))
 else
 bif !decide (w.d=0) then
 bif !decide (w.d=1) then
 some ((.ret,[iI 1],[]))
 else
 some ((.normal,[.undef],[]))
 else
 some ((.normal,[.undef],[]))):=by kernel_rfl
theorem qnz(w:Wrk):qw P16 G16 A16 qp 0 15 [] (nav [1,1,2,2,2,2]) [1] [.reg w.c] [] [1,62,63,64] =
(
 some ((.normal,b15 w (nat_lit 0),[]))):=by kernel_rfl
theorem qlJ(w:Wrk)(i:Nat):qw P16 G16 A16 qp 0 15 [] (nav [0,0,2,1,2,2,2,2]) [1,62,63,64] (b15 w i) [] [1,62,63,64] =
(
 bif decide (ofNat i<ofNat w.s.s.n) then
 bif decide (0<=ofNat i)&&decide (ofNat i<ofNat w.s.s.n) then
 bif !decide (w.s.b i=0) then
 bif !decide (w.s.b i=1) then
 some ((.ret,b15 w i,[]))
 else
 bif decide (ofNat (w.s.s.l i)<(1:Int)) then
 some ((.ret,b15 w i,[]))
 else
 bif decide (3<ofNat (w.s.s.l i)) then
 some ((.ret,b15 w i,[]))
 else
 some ((.normal,[.reg w.c,w.s.v,iI (.ofNat w.s.s.n),iI (i64.wrap (ofNat i+1))],[]))
 else
 bif decide (ofNat (w.s.s.l i)<(1:Int)) then
 some ((.ret,b15 w i,[]))
 else
 bif decide (3<ofNat (w.s.s.l i)) then
 some ((.ret,b15 w i,[]))
 else
 some ((.normal,[.reg w.c,w.s.v,iI (.ofNat w.s.s.n),iI (i64.wrap (ofNat i+1))],[]))
 else none else
 some ((.exit 2,b15 w i,[]))):=by kernel_rfl
theorem qlK(w:Wrk)(i:Nat):qw P16 G16 A16 qp 0 15 [] (nav [0,0,2,1,2,2,2,2]) [1,62,63,64] (b15 w i) [] [2] =
(
 bif decide (ofNat i<ofNat w.s.s.n) then
 bif decide (0<=ofNat i)&&decide (ofNat i<ofNat w.s.s.n) then
 bif !decide (w.s.b i=0) then
 bif !decide (w.s.b i=1) then
 some ((.ret,[iI 1],[]))
 else
 bif decide (ofNat (w.s.s.l i)<(1:Int)) then
 some ((.ret,[iI 1],[]))
 else
 bif decide (3<ofNat (w.s.s.l i)) then
 some ((.ret,[iI 1],[]))
 else
 some ((.normal,[.undef],[]))
 else
 bif decide (ofNat (w.s.s.l i)<(1:Int)) then
 some ((.ret,[iI 1],[]))
 else
 bif decide (3<ofNat (w.s.s.l i)) then
 some ((.ret,[iI 1],[]))
 else
 some ((.normal,[.undef],[]))
 else none else
 some ((.exit 2,[.undef],[]))):=by kernel_rfl
theorem qnA(p:List T->T->Prop)(e:Int)(w:Wrk):qw P16 G16 A16 (qp.add 44 (qI p (Ks e))) 0 15 [] (nav [1,2,2,2,2,2]) [1] [.reg w.c] [] [1] =
(
 bif qC (p [.agg w.F.c] (iI e)) then
 bif !decide (e=0) then
 some ((.ret,[.reg w.c],[]))
 else
 some ((.normal,[.reg w.c],[]))
 else
 none):=by kernel_rfl
theorem qlL(p:List T->T->Prop)(e:Int)(w:Wrk):qw P16 G16 A16 (qp.add 44 (qI p (Ks e))) 0 15 [] (nav [1,2,2,2,2,2]) [1] [.reg w.c] [] [2] =
(
 bif qC (p [.agg w.F.c] (iI e)) then
 bif !decide (e=0) then
 some ((.ret,[iI e],[]))
 else
 some ((.normal,[.undef],[]))
 else
 none):=by kernel_rfl
theorem qnB(p q:List T->T->Prop)(b:Bool)(n:Nat)(z:Nat->Idd)(w:Wrk):qw P16 G16 A16 ((qp.add 46 (qI p (kFr n z))).add 45 (qI q (qiU b))) 0 15 [] (nav [2,2,2,2,2,2]) [1] [.reg w.c] [] [2] =
(
 bif qC (p [w.s.v] (.fresh true (2:Nat) n (fun j=>(z j).c) n (some n))) then
 bif qC (q [bif ((0:Nat)+n).ble n then idV (fun j=>z (0+j)) n (some n)
 else .undef,idV w.F.he w.F.nh
 none] (.bool b)) then
 bif b then
 some ((.ret,[iI 0],[iB n z]))
 else
 some ((.ret,[iI 6],[iB n z]))
 else none else
 none):=by kernel_rfl
def qfm(w:Wrk)(i:Nat):Bool:=(decide (w.s.b i=0) || decide (w.s.b i=1))&&(decide (1<=w.s.s.l i)&&decide (w.s.s.l i<=3))
def ckH(w:Wrk):Bool:=eqI w.s.hz w.F.he w.s.hn w.F.nh
def ckE(w:Wrk):Int :=
 if w.ny=6/\w.F.t.h=6 then
  (if qY (qiT w) 6=true then
   (if (1<=w.s.s.n/\w.s.s.n<=16)/\(w.d=0∨w.d=1) then
    (if qY (qfm w) w.s.s.n=true then(if qbQ w.F (plE w.F)=0 then(if ckH w=true then 0 else 6) else qbQ w.F (plE w.F)) else 1)
   else 1)
  else 1)
 else 5
structure Wrk.Ok(w:Wrk):Prop where
 F:w.F.Ok
 Y:∀i,(w.Y i).np<=1000000
theorem Iss.sum_le(s:Iss){m n:Nat}(h:∀i,i<n->s.l i<=m):s.sum n<=m*n:=by
 induction n with
 |zero=>exact Nat.le_refl _
 |succ n ih =>
  have h1:=ih fun i hi=>h i (by omega);have h2:=h n (by omega);show s.sum n+s.l n<=m*(n+1);rw[Nat.mul_succ];omega
set_option maxHeartbeats 1000000
set_option maxRecDepth 100000
theorem qfn(w:Wrk)(hw:w.Ok):ToldOk P16 G16 15 [.agg w.c] (iI (ckE w)):=by
 have pa:=Pz.run qu qa (m:=0) (p:=[1]) (A:=A16) (f:=15) (h0:=[]) (by kernel_rfl) ql (qnv w);have fin:∀v h,Pz P16 G16 A16 15 [] [2] [1] [.reg w.c] [] .ret [2] [iI v] h->ToldOk P16 G16 15 [.agg w.c] (iI v):=fun v h q=>Pz.told (A:=A16) qX Tryz.func15 (by kernel_rfl) (by kernel_rfl) (l:=[0]) rfl (Pz.seq (by kernel_rfl) pa q) rfl;unfold ckE;by_cases c1:w.ny=6/\w.F.t.h=6
 rotate_left
 ·rw[if_neg c1];refine fin 5 [] (Pz.seqX (by kernel_rfl) (by simp) (Pz.run qu qa (m:=0) (by kernel_rfl) ql ((qlF w).trans ?_)));by_cases c2:w.ny=6
  ·exact qK (by simp[c2]) (qt (by simp only[Int.ofNat_eq_natCast,Bool.not_eq_true',decide_eq_false_iff_not];omega) rfl)
  ·exact qt (by simp only[Int.ofNat_eq_natCast,Bool.not_eq_true',decide_eq_false_iff_not];omega) rfl
 rw[if_pos c1];have pb:=Pz.run qu qa (m:=0) (p:=[1,2]) (A:=A16) (f:=15) (h0:=[]) (by kernel_rfl) ql ((qnw w).trans (qK (by simp[c1.1]) (qK (by simp[c1.2]) rfl)));have pc:=Pz.run qu qa (m:=0) (p:=[1,1,2,2]) (A:=A16) (f:=15) (h0:=[]) (by kernel_rfl) ql (qnx w);obtain⟨p,hp⟩:=qE P16 G16 43
 have sc:=Pz.scan (P:=P16) (G:=G16) (A:=A16) (f:=15) (h0:=[]) (l:=[1,20,21,22]) (l2:=[2]) (v2:=[iI 1]) (p:=[0,2,1,2,2]) (by kernel_rfl) (fun i=>a15 w i) (fun _=>[]) (qiT w) (n:=6) (fun _=>[]) (e:=.exit 0) (l1:=[1]) (v1:=[.reg w.c]) (h1:=[]) (by simp) (fun i hi _ hk=>by
  have q:=qlG p w true i;rw[up1 (by omega)] at q;refine Pz.run qu (qv qa (qr hp)) (m:=0) (by kernel_rfl) ql (q.trans (qt (by simp only[c1.1,Int.ofNat_eq_natCast,decide_eq_true_eq];omega) (qt (inR (by omega)) (qt (inR (by omega)) (qt (qz.2 ?_) rfl)))));have t:=qjy (w.Y i) (ofNat (w.F.t.ln i)) w.F.t (hw.Y i) c1.2;rw[show qgP w.F.t (w.Y i) (ofNat (w.F.t.ln i))=true from hk] at t;exact qH hp t) (fun i hi _ hk=>by
  refine Pz.run qu (qv qa (qr hp)) (m:=0) (by kernel_rfl) ql ((qlH p w false i).trans (qt (by simp only[c1.1,Int.ofNat_eq_natCast,decide_eq_true_eq];omega) (qt (inR (by omega)) (qt (inR (by omega)) (qt (qz.2 ?_) rfl)))));have t:=qjy (w.Y i) (ofNat (w.F.t.ln i)) w.F.t (hw.Y i) c1.2;rw[show qgP w.F.t (w.Y i) (ofNat (w.F.t.ln i))=false from hk] at t;exact qH hp t) (fun _=>Pz.only (Pz.run qu (qv qa (qr hp)) (m:=0) (by kernel_rfl) ql ((qlG p w true 6).trans (qK (by simp[c1.1]) rfl))) (l2:=[1]) rfl)
 rcases sc with⟨s1,s2⟩|⟨s1,i,_,s2⟩
 rotate_left
 ·rw[if_neg (by simp[s1])];exact fin 1 [] (Pz.seq (by kernel_rfl) pb (Pz.seqX (by kernel_rfl) (by simp) (Pz.seq (by kernel_rfl) pc (Pz.blk (id:=0) (e:=.ret) (by kernel_rfl) rfl s2))))
 rw[if_pos s1];have pd:=Pz.seq (by kernel_rfl) pc (Pz.blk (id:=0) (e:=.exit 0) (p:=[2,1,2,2]) (by kernel_rfl) rfl s2);by_cases c2:(1<=w.s.s.n/\w.s.s.n<=16)/\(w.d=0∨w.d=1)
 rotate_left
 ·rw[if_neg c2];refine fin 1 [] (Pz.seq (by kernel_rfl) pb (Pz.seq (by kernel_rfl) pd (Pz.seqX (by kernel_rfl) (by simp) (Pz.run qu qa (m:=0) (by kernel_rfl) ql ((qlI w).trans ?_)))));by_cases d1:ofNat w.s.s.n<1
  ·exact qt (by simpa using d1) rfl
  refine qK (by simpa using d1) ?_;by_cases d2:(16:Int)<ofNat w.s.s.n
  ·exact qt (by simpa using d2) rfl
  refine qK (by simpa using d2) ?_;simp only[Int.ofNat_eq_natCast] at d1 d2;exact qt (by simp only[Bool.not_eq_true',decide_eq_false_iff_not];omega) (qt (by simp only[Bool.not_eq_true',decide_eq_false_iff_not];omega) rfl)
 rw[if_pos c2];have pe:=Pz.run qu qa (m:=0) (p:=[1,2,2,2]) (A:=A16) (f:=15) (h0:=[]) (by kernel_rfl) ql ((qny w).trans (by
  refine qK (by simp only[Int.ofNat_eq_natCast,decide_eq_true_eq];omega) (qK (by simp only[Int.ofNat_eq_natCast,decide_eq_true_eq];omega) ?_);rcases c2.2 with d|d
  ·rw[d];rfl
  ·rw[d];rfl))
 have pf:=Pz.run qu qa (m:=0) (p:=[1,1,2,2,2,2]) (A:=A16) (f:=15) (h0:=[]) (by kernel_rfl) ql (qnz w)
 have sc:=Pz.scan (P:=P16) (G:=G16) (A:=A16) (f:=15) (h0:=[]) (l:=[1,62,63,64]) (l2:=[2]) (v2:=[iI 1]) (p:=[0,2,1,2,2,2,2]) (by kernel_rfl) (fun i=>b15 w i) (fun _=>[]) (qfm w) (n:=w.s.s.n) (fun _=>[]) (e:=.exit 2) (l1:=[1]) (v1:=[.reg w.c]) (h1:=[]) (by simp) (fun i hi _ hk=>by
  have q:=qlJ w i;rw[up1 (by omega)] at q;simp only[qfm,Bool.and_eq_true,Bool.or_eq_true,decide_eq_true_eq] at hk;refine Pz.run qu qa (m:=0) (by kernel_rfl) ql (q.trans (qt (by simpa using hi) (qt (inR hi) ?_)));have e2:(w.s.s.l i:Int)<1↔False:=iff_of_false (by omega) id;have e3:(3:Int)<(w.s.s.l i:Int)↔False:=iff_of_false (by omega) id;rcases hk.1 with d|d
  ·rw[d];simp only[Int.ofNat_eq_natCast,e2,e3,decide_false,decide_true,Bool.not_true,cond_false];rfl
  ·rw[d];simp only[Int.ofNat_eq_natCast,e2,e3,decide_false,decide_true,Bool.not_true,cond_false,show decide ((1:Int)=0)=false by decide,Bool.not_false,cond_true];rfl) (fun i hi _ hk=>by
  refine Pz.run qu qa (m:=0) (by kernel_rfl) ql ((qlK w i).trans (qt (by simpa using hi) (qt (inR hi) ?_)));by_cases d0:w.s.b i=0
  ·refine qK (by simp[d0]) ?_;by_cases d1:(ofNat (w.s.s.l i):Int)<1
   ·exact qt (by simpa using d1) rfl
   refine qK (by simpa using d1) (qt ?_ rfl);simp only[qfm,d0,decide_true,Bool.true_or,Bool.true_and] at hk;simp only[Int.ofNat_eq_natCast] at d1 ⊢;simp only[Bool.and_eq_false_iff,decide_eq_false_iff_not] at hk;simp only[decide_eq_true_eq];omega
  ·refine qt (by simp[d0]) ?_;by_cases d3:w.s.b i=1
   ·refine qK (by simp[d3]) ?_;by_cases d1:(ofNat (w.s.s.l i):Int)<1
    ·exact qt (by simpa using d1) rfl
    refine qK (by simpa using d1) (qt ?_ rfl);simp only[qfm,d3,decide_true,Bool.or_true,Bool.true_and] at hk;simp only[Int.ofNat_eq_natCast] at d1 ⊢;simp only[Bool.and_eq_false_iff,decide_eq_false_iff_not] at hk;simp only[decide_eq_true_eq];omega
   ·exact qt (by simp[d3]) rfl) (fun _=>Pz.only (Pz.run qu qa (m:=0) (by kernel_rfl) ql ((qlJ w w.s.s.n).trans (qK (by simp) rfl))) (l2:=[1]) rfl)
 rcases sc with⟨r1,r2⟩|⟨r1,i,_,r2⟩
 rotate_left
 ·rw[if_neg (by simp[r1])];exact fin 1 [] (Pz.seq (by kernel_rfl) pb (Pz.seq (by kernel_rfl) pd (Pz.seq (by kernel_rfl) pe (Pz.seqX (by kernel_rfl) (by simp) (Pz.seq (by kernel_rfl) pf (Pz.blk (id:=2) (e:=.ret) (by kernel_rfl) rfl r2))))))
 rw[if_pos r1];have pg:=Pz.seq (by kernel_rfl) pf (Pz.blk (id:=2) (e:=.exit 2) (p:=[2,1,2,2,2,2]) (by kernel_rfl) rfl r2);obtain⟨q,hq⟩:=qE P16 G16 44;have tf:=qz.2 (qH hq (qgO w.F hw.F (plE w.F) (qiR w.F hw.F c1.2)));by_cases c3:qbQ w.F (plE w.F)=0
 rotate_left
 ·rw[if_neg c3];exact fin _ [] (Pz.seq (by kernel_rfl) pb (Pz.seq (by kernel_rfl) pd (Pz.seq (by kernel_rfl) pe (Pz.seq (by kernel_rfl) pg (Pz.seqX (by kernel_rfl) (by simp) (Pz.run qu (qv qa (qr hq)) (m:=0) (by kernel_rfl) ql ((qlL q (qbQ w.F (plE w.F)) w).trans (qt tf (qt (by simp[c3]) rfl)))))))))
 rw[if_pos c3];have ph:=Pz.run qu (qv qa (qr hq)) (m:=0) (p:=[1,2,2,2,2,2]) (A:=A16) (f:=15) (h0:=[]) (by kernel_rfl) ql ((qnA q (qbQ w.F (plE w.F)) w).trans (qt tf (qK (by simp[c3]) rfl)));obtain⟨a,ha⟩:=qE P16 G16 46;obtain⟨b,hb⟩:=qE P16 G16 45;have hl:w.s.hn<=1000000:=by
  have h1:=w.s.s.cap.sum_le (m:=3) (n:=w.s.s.n) fun i hi=>by
   have:=(qP _ _).1 r1 i hi;simp only[qfm,Bool.and_eq_true,decide_eq_true_eq] at this;exact this.2.2
  have:w.s.hn=w.s.s.cap.sum w.s.s.n:=rfl;omega
 have th:=qz.2 (qH ha (qlA w.s (by omega) hl));have te:=qkd w.s.hz w.F.he w.s.hn w.F.nh (some w.s.hn) none hl;have hK:=fun r=>qv (qv (P:=P16) (Gl:=G16) qa (qr ha (F:=kFr w.s.hn w.s.hz))) (qr hb (F:=qiU r));have pi:=fun r=>qnB a b r w.s.hn w.s.hz w;simp only[Nat.zero_add,QC (Nat.le_refl w.s.hn),cond_true] at pi;by_cases c4:ckH w=true
 ·rw[if_pos c4];rw[show eqI w.s.hz w.F.he w.s.hn w.F.nh=true from c4] at te;exact fin _ _ (Pz.seq (by kernel_rfl) pb (Pz.seq (by kernel_rfl) pd (Pz.seq (by kernel_rfl) pe (Pz.seq (by kernel_rfl) pg (Pz.seq (by kernel_rfl) ph (Pz.run qu (hK true) (m:=0) (by kernel_rfl) ql ((pi true).trans (qt th (qt (qz.2 (qH hb te)) rfl)))))))))
 ·rw[if_neg c4];rw[show eqI w.s.hz w.F.he w.s.hn w.F.nh=false from Bool.eq_false_iff.2 c4] at te;exact fin _ _ (Pz.seq (by kernel_rfl) pb (Pz.seq (by kernel_rfl) pd (Pz.seq (by kernel_rfl) pe (Pz.seq (by kernel_rfl) pg (Pz.seq (by kernel_rfl) ph (Pz.run qu (hK false) (m:=0) (by kernel_rfl) ql ((pi false).trans (qt th (qt (qz.2 (qH hb te)) rfl)))))))))
def QQ(s:Nat×(Nat->Pss))(l:Nat->Pss):Nat->Nat×(Nat->Pss)
 |0=>s
 |k+1=>if (decide (0<(QQ s l k).1)&&cnc ((QQ s l k).2 ((QQ s l k).1-1)) (l k))=true then((QQ s l k).1-1,(QQ s l k).2) else((QQ s l k).1+1,fun e=>if e=(QQ s l k).1 then l k else(QQ s l k).2 e)
def w64(l:Nat->Pss)(N n:Nat)(c:Option Nat)(m k:Nat):List T:=[.own 0 0 0 m (some N),psV l n c,iI n,iI k]
def qhN(y:Yrn)(place:Int)(l:Nat->Pss)(m i:Nat):List T:=[iI place,psV l m none,.reg y.c,.reg [.bool false,iI 0,iI 0,.bool false,.nils],psV l m none,iI (ofNat m),iI (ofNat i)]
theorem qiV(l g:Nat->Pss)(N n:Nat)(c:Option Nat)(m k:Nat)(b:Bool)(p:List T->T->Prop):QH P16 G16 A16 (K64 p b) 0 105 [] 2 (w64 l N n c m k) [b64 g N] =
(
 bif decide (ofNat k<ofNat n) then
 bif decide (0<=ofNat k)&&decide (ofNat k<ofNat n) then
 bif decide (0<ofNat m) then
 bif decide (0<=i64.wrap (ofNat m-1))&&decide (i64.wrap (ofNat m-1)<ofNat m) then
 bif ((0:Nat)+(i64.wrap (ofNat m-(1:Int))).toNat).blt N then
 bif qC (p [.agg (g ((0:Nat)+(i64.wrap (ofNat m-(1:Int))).toNat)).c,.agg (l k).c] (.bool b)) then
 bif b then
 bif decide (0<=i64.wrap (ofNat m-1))&&decide (i64.wrap (ofNat m-1)<=ofNat N)&&decide (ofNat N<=ofNat N) then
 some ((.normal,[.own 0 0 0 (i64.wrap (ofNat m-(1:Int))).toNat (some N),psV l n c,iI (.ofNat n),iI (i64.wrap (ofNat k+1))],[b64 g N]))
 else none else
 bif ((0:Nat)+m).ble N then
 bif ((m+(1:Nat))*(25:Nat)).ble 70368744177664 then
 bif (m+(1:Nat)).ble N then
 bif ((0:Nat)+m+(1:Nat)).ble N then
 some ((.normal,[.own 0 0 0 (m+1) (some N),psV l n c,iI (.ofNat n),iI (i64.wrap (ofNat k+1))],[.mk 0 4 N (fun j =>
 bif ((0:Nat)+m).ble j&&j.blt (0+m+1) then [(l k).c].getD ((0:Nat)+(j-(0+m))) []
 else(g j).c) true false
 none,.mk 0 4 1 (fun j=>[(l k).c].getD j []) true true
 none]))
 else none else
 some ((.normal,[.own 2 0 0 (m+1)
 none,psV l n c,iI (.ofNat n),iI (i64.wrap (ofNat k+1))],[b64 g N,.mk 0 4 1 (fun j=>[(l k).c].getD j []) true true
 none,.mk 0 4 (m+1) (fun j =>
 bif j.blt m then(g ((0:Nat)+j)).c
 else [(l k).c].getD ((0:Nat)+(j-m)) []) true false
 none]))
 else none else none else none else none else none else
 bif ((0:Nat)+m).ble N then
 bif ((m+(1:Nat))*(25:Nat)).ble 70368744177664 then
 bif (m+(1:Nat)).ble N then
 bif ((0:Nat)+m+(1:Nat)).ble N then
 some ((.normal,[.own 0 0 0 (m+1) (some N),psV l n c,iI (.ofNat n),iI (i64.wrap (ofNat k+1))],[.mk 0 4 N (fun j =>
 bif ((0:Nat)+m).ble j&&j.blt (0+m+1) then [(l k).c].getD ((0:Nat)+(j-(0+m))) []
 else(g j).c) true false
 none,.mk 0 4 1 (fun j=>[(l k).c].getD j []) true true
 none]))
 else none else
 some ((.normal,[.own 2 0 0 (m+1)
 none,psV l n c,iI (.ofNat n),iI (i64.wrap (ofNat k+1))],[b64 g N,.mk 0 4 1 (fun j=>[(l k).c].getD j []) true true
 none,.mk 0 4 (m+1) (fun j =>
 bif j.blt m then(g ((0:Nat)+j)).c
 else [(l k).c].getD ((0:Nat)+(j-m)) []) true false
 none]))
 else none else none else none else
 some ((.exit 0,[.own 0 0 0 m (some N)],[b64 g N]))):=by kernel_rfl
theorem qnC(l g g':Nat->Pss)(N n:Nat)(c:Option Nat)(s m:Nat):qfM P16 G16 A16 qp 0 105 [(2,Qs (w64 l N n c s 0) [b64 g' N] (.exit 0) [.own 0 0 0 m (some N)] [b64 g N])] [.own 0 0 0 s (some N),psV l n c] [b64 g' N] =
(
 bif ZO (w64 l N n c s (nat_lit 0)) [b64 g' N] (w64 l N n c s (nat_lit 0)) [b64 g' N] then
 some ((.own 0 0 0 m (some N),[b64 g N]))
 else
 none):=by kernel_rfl
theorem qnD(p:List T->T->Prop)(e d:Int)(y:Yrn):Qz P16 G16 A16 (((qp.add 75 (qI p (Ks e)))).inl P16 G16 A16 qp 0 101) 0 66 [.agg y.c,uI d] =
(
 bif qC (p [.agg y.c] (iI e)) then
 bif !decide (e=0) then
 some (.tup [.agg [.bool false,iI 0,iI 0,.bool false,.nils],iI e])
 else
 bif decide (d=0) then
 bif y.i then
 some (.tup [.agg [.bool false,iI 0,iI 0,.bool false,.nils],iI 12])
 else
 bif decide (d=1) then
 some (.tup [.agg [.bool true,iI 179,iI y.ct,.bool true,.nils],iI 0])
 else
 some (.tup [.agg [.bool true,iI (-13:Int),iI y.ct,.bool true,.nils],iI 0])
 else
 bif decide (d=1) then
 bif y.i then
 some (.tup [.agg [.bool false,iI 0,iI 0,.bool false,.nils],iI 12])
 else
 bif decide (d=1) then
 some (.tup [.agg [.bool true,iI 179,iI y.ct,.bool true,.nils],iI 0])
 else
 some (.tup [.agg [.bool true,iI (-13:Int),iI y.ct,.bool true,.nils],iI 0])
 else
 some (.tup [.agg [.bool false,iI 0,iI 0,.bool false,.nils],iI 1])
 else
 none):=by kernel_rfl
theorem qnE(p q:List T->T->Prop)(e:Int)(y:Yrn):Qz P16 G16 A16 ((qp.add 75 (qI p (Ks e))).add 102 (qI q fun _=>some (.fresh true 4 y.np (fun j=>(y.pe j).c) y.np (some y.np)))) 0 70 [.agg y.c] =
(
 bif qC (p [.agg y.c] (iI e)) then
 bif !decide (e=0) then
 some (.tup [.agg [.bool false,iI 0,iI 0,.bool false,.nils],.agg [iI 0,.bool false,.nils],iI e])
 else
 bif y.i then
 bif decide (y.ct=2048) then
 some (.tup [.agg [.bool false,iI 0,iI 0,.bool false,.nils],.agg [iI 0,.bool false,.nils],iI 3])
 else
 bif y.w then
 bif qC (q [psV y.pe y.np
 none] (.fresh true (4:Nat) y.np (fun j=>(y.pe j).c) y.np (some y.np))) then
 some (.tup [.agg [.bool true,iI y.pl,iI (i64.wrap (y.ct+1)),.bool false,.nils],.agg [iI y.ct,.bool true,
 bif ((0:Nat)+y.np).ble y.np then .fresh true (4:Nat) y.np (fun j=>(y.pe ((0:Nat)+j)).c) y.np (some y.np)
 else .undef],iI 0])
 else none else
 bif qC (q [psV y.pe y.np
 none] (.fresh true (4:Nat) y.np (fun j=>(y.pe j).c) y.np (some y.np))) then
 some (.tup [.agg [.bool true,iI y.pl,iI (i64.wrap (y.ct+1)),.bool false,.nils],.agg [iI y.ct,.bool false,
 bif ((0:Nat)+y.np).ble y.np then .fresh true (4:Nat) y.np (fun j=>(y.pe ((0:Nat)+j)).c) y.np (some y.np)
 else .undef],iI 0])
 else none else
 some (.tup [.agg [.bool false,iI 0,iI 0,.bool false,.nils],.agg [iI 0,.bool false,.nils],iI 12])
 else
 none):=by kernel_rfl
theorem qnF(p:List T->T->Prop)(e:Int)(y:Yrn)(place:Int)(l:Nat->Pss)(m:Nat):qw P16 G16 A16 (qp.add 75 (qI p (Ks e))) 0 73 [] (nav [1]) [0,1,2] [.agg y.c,iI place,psV l m none] [] [1,2,3,6] =
(
 some ((.normal,[iI place,psV l m
 none,.reg y.c,.reg [.bool false,iI 0,iI 0,.bool false,.nils]],[]))):=by kernel_rfl
theorem qnG(p:List T->T->Prop)(e:Int)(y:Yrn)(place:Int)(l:Nat->Pss)(m:Nat):qw P16 G16 A16 (qp.add 75 (qI p (Ks e))) 0 73 [] (nav [1,2]) [1,2,3,6] [iI place,psV l m none,.reg y.c,.reg [.bool false,iI 0,iI 0,.bool false,.nils]] [] [1,2,3,6] =
(
 bif qC (p [.agg y.c] (iI e)) then
 bif !decide (e=0) then
 some ((.ret,[iI place,psV l m
 none,.reg y.c,.reg [.bool false,iI 0,iI 0,.bool false,.nils]],[]))
 else
 some ((.normal,[iI place,psV l m
 none,.reg y.c,.reg [.bool false,iI 0,iI 0,.bool false,.nils]],[]))
 else
 none):=by kernel_rfl
theorem qnH(p:List T->T->Prop)(y:Yrn)(place:Int)(l:Nat->Pss)(m:Nat):qw P16 G16 A16 (qp.add 103 (qI p (fun _=>some (.bool true)))) 0 73 [] (nav [1,2,2]) [1,2,3,6] [iI place,psV l m none,.reg y.c,.reg [.bool false,iI 0,iI 0,.bool false,.nils]] [] [1,2,3,6] =
(
 bif qC (p [iI place] (.bool true)) then
 some ((.normal,[iI place,psV l m
 none,.reg y.c,.reg [.bool false,iI 0,iI 0,.bool false,.nils]],[]))
 else
 none):=by kernel_rfl
theorem qnI(y:Yrn)(place:Int)(l:Nat->Pss)(m:Nat):qw P16 G16 A16 qp 0 73 [] (nav [1,1,2,2,2]) [1,2,3,6] [iI place,psV l m none,.reg y.c,.reg [.bool false,iI 0,iI 0,.bool false,.nils]] [] [1,2,3,6,22,23,24] =
(
 some ((.normal,qhN y place l m (nat_lit 0),[]))):=by kernel_rfl
theorem qlM(p:List T->T->Prop)(y:Yrn)(place:Int)(l:Nat->Pss)(m i:Nat):qw P16 G16 A16 (qp.add 104 (qI p qiP)) 0 73 [] (nav [0,0,2,1,2,2,2]) [1,2,3,6,22,23,24] (qhN y place l m i) [] [1,2,3,6,22,23,24] =
(
 bif decide (ofNat i<ofNat m) then
 bif decide (0<=ofNat i)&&decide (ofNat i<ofNat m) then
 bif qC (p [.agg (l i).c] (.bool (Y9 (l i).y (l i).n (l i).d))) then
 bif Y9 (l i).y (l i).n (l i).d then
 some ((.normal,[iI place,psV l m
 none,.reg y.c,.reg [.bool false,iI 0,iI 0,.bool false,.nils],psV l m
 none,iI (.ofNat m),iI (i64.wrap (ofNat i+1))],[]))
 else
 some ((.ret,qhN y place l m i,[]))
 else none else none else
 some ((.exit 0,qhN y place l m i,[]))):=by kernel_rfl
theorem qnJ(y:Yrn)(place:Int)(l:Nat->Pss)(m:Nat):qw P16 G16 A16 qp 0 73 [] (nav [1,2,2,2,2]) [1,2,3,6] [iI place,psV l m none,.reg y.c,.reg [.bool false,iI 0,iI 0,.bool false,.nils]] [] [1,2,3,6] =
(
 bif y.i then
 some ((.normal,[iI place,psV l m
 none,.reg y.c,.reg [.bool false,iI 0,iI 0,.bool false,.nils]],[]))
 else
 some ((.ret,[iI place,psV l m
 none,.reg y.c,.reg [.bool false,iI 0,iI 0,.bool false,.nils]],[]))):=by kernel_rfl
theorem qnK(y:Yrn)(place:Int)(l:Nat->Pss)(m:Nat):qw P16 G16 A16 qp 0 73 [] (nav [1,2,2,2,2,2]) [1,2,3,6] [iI place,psV l m none,.reg y.c,.reg [.bool false,iI 0,iI 0,.bool false,.nils]] [] [1,2,3,6,11] =
(
 bif decide (0<=i64.wrap (ofNat y.np+ofNat m))&&decide (i64.wrap (ofNat y.np+ofNat m)*(24:Int)<=(140737488355328:Int))&&decide (i64.wrap (ofNat y.np+ofNat m)<=(9223372036854775807:Int)) then
 some ((.normal,[iI place,psV l m
 none,.reg y.c,.reg [.bool false,iI 0,iI 0,.bool false,.nils],.own 0 0 0 0 (some (i64.wrap (ofNat y.np+ofNat m)).toNat)],[.mk 0 4 (i64.wrap (ofNat y.np+ofNat m)).toNat (fun x=>[uI 0,iI 0,.bool false,uI 0]) true false
 none]))
 else
 none):=by kernel_rfl
theorem qnL(p:List T->qk->T->qk->Prop)(y:Yrn)(place:Int)(l g g':Nat->Pss)(m N k:Nat):qw P16 G16 A16 (qp.addRef 105 (qag p (fun _ _=>some (.own 0 0 0 k (some N),[b64 g N])))) 0 73 [] (nav [1,2,2,2,2,2,2]) [1,2,3,6,11] [iI place,psV l m none,.reg y.c,.reg [.bool false,iI 0,iI 0,.bool false,.nils],.own 0 0 0 0 (some N)] [b64 g' N] [1,3,6,11] =
(
 bif y.np==(0:Nat) then
 bif qC (p [.own 0 0 0 0 (some N),psV l m
 none] [b64 g' N] (.own 0 0 0 k (some N)) [b64 g N]) then
 some ((.normal,[iI place,.reg y.c,.reg [.bool false,iI 0,iI 0,.bool false,.nils],.own 0 0 0 k (some N)],[b64 g N]))
 else none else
 bif (((0:Nat)+y.np)*(25:Nat)).ble 70368744177664 then
 bif ((0:Nat)+y.np).ble N then
 bif ((0:Nat)+y.np).ble N then
 bif qC (p [.own 0 0 0 (0+y.np) (some N),psV l m
 none] [.mk 0 4 N (fun j =>
 bif Nat.ble 0 j&&j.blt (0+y.np) then(y.pe j).c
 else(g' j).c) true false
 none] (.own 0 0 0 k (some N)) [b64 g N]) then
 some ((.normal,[iI place,.reg y.c,.reg [.bool false,iI 0,iI 0,.bool false,.nils],.own 0 0 0 k (some N)],[b64 g N]))
 else none else none else
 bif qC (p [.own 1 0 0 (0+y.np)
 none,psV l m
 none] [b64 g' N,b64 y.pe (0+y.np)] (.own 0 0 0 k (some N)) [b64 g N]) then
 some ((.normal,[iI place,.reg y.c,.reg [.bool false,iI 0,iI 0,.bool false,.nils],.own 0 0 0 k (some N)],[b64 g N]))
 else none else
 none):=by kernel_rfl
theorem qnM(y:Yrn)(place:Int)(g:Nat->Pss)(N k:Nat):qw P16 G16 A16 qp 0 73 [] (nav [1,2,2,2,2,2,2,2]) [1,3,6,11] [iI place,.reg y.c,.reg [.bool false,iI 0,iI 0,.bool false,.nils],.own 0 0 0 k (some N)] [b64 g N] [1,3,6,11] =
(
 bif decide (4096<ofNat k) then
 some ((.ret,[iI place,.reg y.c,.reg [.bool false,iI 0,iI 0,.bool false,.nils],.own 0 0 0 k (some N)],[b64 g N]))
 else
 some ((.normal,[iI place,.reg y.c,.reg [.bool false,iI 0,iI 0,.bool false,.nils],.own 0 0 0 k (some N)],[b64 g N]))):=by kernel_rfl
theorem qnN(q:List T->T->Prop)(y:Yrn)(place:Int)(g:Nat->Pss)(N k:Nat):qw P16 G16 A16 (qp.add 102 (qI q fun _=>some (.fresh true 4 k (fun j=>(g j).c) k (some k)))) 0 73 [] (nav [2,2,2,2,2,2,2,2]) [1,3,6,11] [iI place,.reg y.c,.reg [.bool false,iI 0,iI 0,.bool false,.nils],.own 0 0 0 k (some N)] [b64 g N] [6,7] =
(
 bif qC (q [bif ((0:Nat)+k).ble N then psV (fun j=>g (0+j)) k (some N)
 else .undef] (.fresh true (4:Nat) k (fun j=>(g j).c) k (some k))) then
 some ((.ret,[.reg [.bool y.i,iI place,iI y.ct,.bool y.w,.own 1 0 0 k (some k)],iI 0],[b64 g N,b64 g k]))
 else
 none):=by kernel_rfl
theorem qdk(s:Nat×(Nat->Pss))(l:Nat->Pss):∀k,(QQ s l k).1<=s.1+k
 |0=>Nat.le_refl _
 |k+1=>by
  have ih:=qdk s l k;unfold QQ;split
  ·show(QQ s l k).1-1<=s.1+(k+1);omega
  ·show(QQ s l k).1+1<=s.1+(k+1);omega
theorem qke(l:Nat->Pss)(N n:Nat)(c:Option Nat)(s:Nat×(Nat->Pss))(hs:s.1+n<=N)(hN:N<=1000000):ToldRef P16 G16 105 [.own 0 0 0 s.1 (some N),psV l n c] [b64 s.2 N] (.own 0 0 0 (QQ s l n).1 (some N)) [b64 (QQ s l n).2 N]:=by
 obtain⟨p,hp⟩:=qE P16 G16 106;have hK:∀b,OrcOk P16 G16 (K64 p b):=fun b=>qv qa (qr hp);have hl:LoopOk P16 G16 (A16 105) 105 2 (Qs (w64 l N n c s.1 0) [b64 s.2 N] (.exit 0) [.own 0 0 0 (QQ s l n).1 (some N)] [b64 (QQ s l n).2 N]):=by
  refine Ql qu (by kernel_rfl) (fun k=>w64 l N n c (QQ s l k).1 k) (fun k=>[b64 (QQ s l k).2 N]) (n:=n) (fun k hk=>?_) ?_
  ·have hm:=qdk s l k;have e:QQ s l (k+1)=if (decide (0<(QQ s l k).1)&&cnc ((QQ s l k).2 ((QQ s l k).1-1)) (l k))=true then((QQ s l k).1-1,(QQ s l k).2) else((QQ s l k).1+1,fun e=>if e=(QQ s l k).1 then l k else(QQ s l k).2 e):=rfl;rw[e];generalize (QQ s l k).2=g at *
   generalize (QQ s l k).1=m at *
   clear e;have same:∀j,j<N->(fun e=>(if e=m then l k else g e).c) j=(bif Nat.ble (0+m) j&&Nat.blt j (0+m+1) then([(l k).c]:List (List T)).getD (0+(j-(0+m))) [] else(g j).c):=fun j hj=>by
    simp only[Nat.zero_add];by_cases q:j=m
    ·subst q;rw[if_pos rfl,QC (Nat.le_refl _),QX (by omega),Nat.sub_self];rfl
    ·rw[if_neg q];by_cases q2:m<=j
     ·rw[QC q2,qad (by omega)];rfl
     ·rw[qd3 (by omega)];rfl
   by_cases h0:0<m
   ·have t:=qdb (g (m-1)) (l k);have e1:i64.wrap (ofNat m-1)=ofNat (m-1):=by
     rw[Y8 (by show(-9223372036854775808:Int)<=(m:Int)-1;omega) (by show(m:Int)-1<=_;omega)];show(m:Int)-1=((m-1:Nat):Int);omega
    rw[dT h0,Bool.true_and];cases hb:cnc (g (m-1)) (l k)
    ·rw[hb] at t;rw[if_neg (by simp)];refine Step.mk (A:=A16) (m:=0) (hK false) rfl rfl ql 1 (Nat.le_refl _) (h1:=[⟨0,4,N,fun j=>bif Nat.ble (0+m) j&&Nat.blt j (0+m+1) then([(l k).c]:List (List T)).getD (0+(j-(0+m))) [] else(g j).c,true,false,none⟩,⟨0,4,1,fun j=>[(l k).c].getD j [],true,true,none⟩]) (vs':=w64 l N n c (m+1) (k+1)) ?_ (by rfl) (.cons ⟨rfl,rfl,rfl,id,same⟩ .nil);rw[qiV,up1 (by omega),e1,show(ofNat (m-1)).toNat=m-1 from rfl,Nat.zero_add];clear same
     (repeat (first|refine BS ?_|refine BF ?_))
     rfl
    ·rw[hb] at t;rw[if_pos rfl];refine Step.mk0 (A:=A16) (m:=0) (hK true) rfl rfl ql (h1:=[b64 g N]) (vs':=w64 l N n c (m-1) (k+1)) ?_ (.refl _);rw[qiV,up1 (by omega),e1,show(ofNat (m-1)).toNat=m-1 from rfl,Nat.zero_add];clear same
     (repeat (first|refine BS ?_|refine BF ?_))
     rfl
   ·rw[dF h0,Bool.false_and,if_neg (by simp)];refine Step.mk (A:=A16) (m:=0) (hK false) rfl rfl ql 1 (Nat.le_refl _) (h1:=[⟨0,4,N,fun j=>bif Nat.ble (0+m) j&&Nat.blt j (0+m+1) then([(l k).c]:List (List T)).getD (0+(j-(0+m))) [] else(g j).c,true,false,none⟩,⟨0,4,1,fun j=>[(l k).c].getD j [],true,true,none⟩]) (vs':=w64 l N n c (m+1) (k+1)) ?_ (by rfl) (.cons ⟨rfl,rfl,rfl,id,same⟩ .nil);rw[qiV,up1 (by omega)];clear same
    (repeat (first|refine BS ?_|refine BF ?_))
    rfl
  ·generalize (QQ s l n).2=g at *
   generalize (QQ s l n).1=m at *
   refine Last.mk0 (A:=A16) (m:=0) (hK false) rfl rfl ql (h1:=[b64 g N]) (by simp) ?_ (.refl _);rw[qiV]
   (repeat (first|refine BS ?_|refine BF ?_))
   rfl
 generalize (QQ s l n).2=g at *
 generalize (QQ s l n).1=m at *
 refine ja qu qX qa (A:=A16) (m:=0) (by kernel_rfl) (Qo hl) ?_;rw[qnC];exact qt (Q6 ⟨rfl,.refl _⟩) rfl
def qiW(d:Int):Int:=if d=1 then 179 else -13
theorem qkf(y:Yrn)(d:Int)(hd:d=0∨d=1)(hy:yrE y=0)(hi:y.i=false)(hn:y.np<=1000000):ToldOk P16 G16 66 [.agg y.c,uI d] (.tup [.agg [.bool true,iI (qiW d),iI y.ct,.bool true,.nils],iI 0]):=by
 obtain⟨p,hp⟩:=qE P16 G16 75;have t:=qfV y hn;rw[hy] at t;refine qD qu qX (qbb qu qX (qv qa (qr hp)) qa) (A:=A16) (m:=0) ((qnD p 0 d y).trans (qt (qz.2 (qH hp t)) (qK (by simp) ?_)));rw[hi];rcases hd with rfl|rfl<;>rfl
theorem qlN(y:Yrn)(hy:yrE y=0)(hi:y.i=true)(hc:0<=y.ct)(hc2:y.ct<2048)(hn:y.np<=1000000):ToldOk P16 G16 70 [.agg y.c] (.tup [.agg [.bool true,iI y.pl,iI (y.ct+1),.bool false,.nils],.agg [iI y.ct,.bool y.w,.new (psV y.pe y.np (some y.np))],iI 0]):=by
 obtain⟨p,hp⟩:=qE P16 G16 75;obtain⟨q,hq⟩:=qE P16 G16 102;have t:=qfV y hn;rw[hy] at t;have tc:=qbh y.pe y.np none hn;have m:=qD qu qX (qv (qv qa (qr hp (F:=Ks 0))) (qr hq (F:=fun _=>some (.fresh true 4 y.np (fun j=>(y.pe j).c) y.np (some y.np))))) (A:=A16) (m:=0) ((qnE p q 0 y).trans (qt (qz.2 (qH hp t)) (qK (by simp) (qt hi (qK (by simp only[decide_eq_true_eq];omega) ?_))))) (r:=.tup [.agg [.bool true,iI y.pl,iI (y.ct+1),.bool false,.nils],.agg [iI y.ct,.bool y.w,.fresh true 4 y.np (fun j=>(y.pe (0+j)).c) y.np (some y.np)],iI 0])
 rotate_left
 ·rw[Y8 (x:=y.ct+1) (by omega) (by omega),Nat.zero_add,QC (Nat.le_refl y.np)];cases hw:y.w with
  |false=>exact qK (by simp) (qt (qz.2 (qH hq tc)) rfl)
  |true=>exact qt rfl (qt (qz.2 (qH hq tc)) rfl)
 have m2:=m.frz;simp only[Nat.zero_add] at m2;exact m2
def z9(y:Yrn)(l:Nat->Pss)(m:Nat):Nat×(Nat->Pss):=QQ (y.np,fun j=>if j<y.np then y.pe j else ⟨0,0,false,0⟩) l m
set_option maxHeartbeats 1000000
set_option maxRecDepth 100000
theorem goT(y:Yrn)(place:Int)(l:Nat->Pss)(m:Nat)(hy:yrE y=0)(hi:y.i=true)(hp:qdi place=true)(hn:y.np<=100000)(hm:m<=100000)(hl:∀j,j<m->Y9 (l j).y (l j).n (l j).d=true)(hk:(z9 y l m).1<=4096) :
 ToldOk P16 G16 73 [.agg y.c,iI place,psV l m none] (.tup [.agg [.bool true,iI place,iI y.ct,.bool y.w,.new (psV (z9 y l m).2 (z9 y l m).1 (some (z9 y l m).1))],iI 0]):=by
 obtain⟨a,ha⟩:=qE P16 G16 75;obtain⟨b,hb⟩:=qE P16 G16 103;obtain⟨c,hc⟩:=qE P16 G16 104;obtain⟨d,hd⟩:=Yi P16 G16 105;obtain⟨e,he⟩:=qE P16 G16 102;have ty:=qfV y (by omega);rw[hy] at ty;have tp:=qed place;rw[hp] at tp;have pa:=Pz.run qu (qv qa (qr ha)) (m:=0) (p:=[1]) (A:=A16) (f:=73) (h0:=[]) (by kernel_rfl) ql (qnF a 0 y place l m);have pb:=Pz.run qu (qv qa (qr ha)) (m:=0) (p:=[1,2]) (A:=A16) (f:=73) (h0:=[]) (by kernel_rfl) ql ((qnG a 0 y place l m).trans (qt (qz.2 (qH ha ty)) (qK (by simp) rfl)));have pc:=Pz.run qu (qv qa (qr hb)) (m:=0) (p:=[1,2,2]) (A:=A16) (f:=73) (h0:=[]) (by kernel_rfl) ql ((qnH b y place l m).trans (qt (qz.2 (qH hb tp)) rfl));have pd:=Pz.run qu qa (m:=0) (p:=[1,1,2,2,2]) (A:=A16) (f:=73) (h0:=[]) (by kernel_rfl) ql (qnI y place l m)
 have pl:=Pz.count (P:=P16) (G:=G16) (A:=A16) (f:=73) (h0:=[]) (p:=[0,2,1,2,2,2]) (l:=[1,2,3,6,22,23,24]) (e:=.exit 0) (by kernel_rfl) (fun i=>qhN y place l m i) (fun _=>[]) (n:=m) (by simp) (fun i hi=>by
  have q:=qlM c y place l m i;rw[up1 (by omega)] at q;exact Pz.run qu (qv qa (qr hc)) (m:=0) (by kernel_rfl) ql (q.trans (qt (by simpa using hi) (qt (inR hi) (qt (qz.2 (qH hc (qhM (l i)))) (qt (hl i hi) rfl))))))
  (Pz.only (Pz.run qu (qv qa (qr hc)) (m:=0) (by kernel_rfl) ql ((qlM c y place l m m).trans (qK (by simp) rfl))) (l2:=[1,2,3,6]) rfl)
 have pf:=Pz.run qu qa (m:=0) (p:=[1,2,2,2,2]) (A:=A16) (f:=73) (h0:=[]) (by kernel_rfl) ql ((qnJ y place l m).trans (qt hi rfl));have eN:i64.wrap (ofNat y.np+ofNat m)=ofNat (y.np+m):=qhI (by omega);have qg:=qnK y place l m;rw[eN] at qg;have pg:=Pz.run qu qa (m:=0) (p:=[1,2,2,2,2,2]) (A:=A16) (f:=73) (h0:=[]) (by kernel_rfl) ql (qg.trans (qt (by simp only[Int.ofNat_eq_natCast,Bool.and_eq_true,decide_eq_true_eq];omega) rfl));have tq:=qke l (y.np+m) m none (y.np,fun j=>if j<y.np then y.pe j else ⟨0,0,false,0⟩) (Nat.le_refl _) (by omega);have hle:=qdk (y.np,fun j=>if j<y.np then y.pe j else ⟨0,0,false,0⟩) l m;unfold z9 at hk ⊢;generalize hz':QQ (y.np,fun j=>if j<y.np then y.pe j else ⟨0,0,false,0⟩) l m=z' at *
 have hle:z'.1<=y.np+m:=hle;have qh:=qnL d y place l z'.2 (fun _=>⟨0,0,false,0⟩) m (y.np+m) z'.1;have ph:=Pz.run qu (Qg qa (QZ hd)) (m:=0) (p:=[1,2,2,2,2,2,2]) (A:=A16) (f:=73) (h0:=[]) (by kernel_rfl) ql (qh.trans (by
  simp only[Nat.zero_add];by_cases h0:y.np=0
  ·refine qt (by simp[h0]) (qt (zi hd ?_) rfl);rw[h0] at tq;have e0:(fun j=>if j<y.np then y.pe j else ⟨0,0,false,0⟩:Nat->Pss)=fun _=>⟨0,0,false,0⟩:=funext fun j=>if_neg (by omega);rw[h0] at e0;rw[e0] at tq;rw[h0];exact tq
  ·refine qK (by simpa using h0) (qt (QC (by omega)) (qt (QC (by omega)) (qt (QC (by omega)) (qt (zi hd ?_) rfl))));refine tq.same (.cons ⟨rfl,rfl,rfl,id,fun j hj=>?_⟩ .nil);show(if j<y.np then y.pe j else ⟨0,0,false,0⟩:Pss).c=bif Nat.ble 0 j&&j.blt y.np then(y.pe j).c else(Pss.mk 0 0 false 0).c;rw[QC (Nat.zero_le _),Bool.true_and];by_cases c:j<y.np
   ·rw[if_pos c,QX c];rfl
   ·rw[if_neg c,show j.blt y.np=false from Bool.eq_false_iff.2 fun h=>c (Qc h)];rfl))
 have pi:=Pz.run qu qa (m:=0) (p:=[1,2,2,2,2,2,2,2]) (A:=A16) (f:=73) (h0:=[]) (by kernel_rfl) ql ((qnM y place z'.2 (y.np+m) z'.1).trans (qK (by simp only[Int.ofNat_eq_natCast,decide_eq_true_eq];omega) rfl));have te:=qbh z'.2 z'.1 (some (y.np+m)) (by omega);have qj:=qnN e y place z'.2 (y.np+m) z'.1;simp only[Nat.zero_add,QC hle,cond_true] at qj;have pj:=Pz.run qu (qv qa (qr he)) (m:=0) (p:=[2,2,2,2,2,2,2,2]) (A:=A16) (f:=73) (h0:=[]) (by kernel_rfl) ql (qj.trans (qt (qz.2 (qH he te)) rfl));have t:=Pz.told (A:=A16) qX Tryz.func73 (by kernel_rfl) (by kernel_rfl) (l:=[0,1,2]) rfl (Pz.seq (by kernel_rfl) pa (Pz.seq (by kernel_rfl) pb (Pz.seq (by kernel_rfl) pc (Pz.seq (by kernel_rfl) (Pz.seq (by kernel_rfl) pd (Pz.blk (id:=0) (e:=.exit 0) (p:=[2,1,2,2,2]) (by kernel_rfl) rfl pl)) (Pz.seq (by kernel_rfl) pf (Pz.seq (by kernel_rfl) pg (Pz.seq (by kernel_rfl) ph (Pz.seq (by kernel_rfl) pi pj))))))))
  (r:=.tup [.agg [.bool y.i,iI place,iI y.ct,.bool y.w,.fresh true 4 z'.1 (fun j=>(z'.2 (0+j)).c) z'.1 (some z'.1)],iI 0])
  (by
   show some (T.tup [T.agg [T.bool y.i,iI place,iI y.ct,T.bool y.w,bif Nat.ble (0+z'.1) z'.1 then _ else T.undef],iI 0])=_;rw[QC (show 0+z'.1<=z'.1 by omega)];rfl)
 have t2:=t.frz;rw[hi] at t2;simp only[Nat.zero_add] at t2;exact t2
structure Sx where
 (row sl:T) (d:Int) (Y:Nat->Yrn) (ln v:Nat->Nat) (L:Nat->Nat->Lpp)
def xB(row sl:T)(d:Int):Blk:=⟨0,5,1,fun _=>[row,sl,.own 1 0 0 6 (some 6),.own 2 0 0 6 (some 6),uI d],false,false,none⟩
def yB(Y:Nat->Yrn):Blk:=⟨0,5,6,fun e=>(Y e).c,false,false,none⟩
def tB(ln v:Nat->Nat):Blk:=⟨0,1,6,fun e=>[.own (3+e) (v e) 0 (ln e) none],false,false,none⟩
def rB(ln v:Nat->Nat)(L:Nat->Nat->Lpp)(e:Nat):Blk:=⟨v e,4,ln e,fun j=>(L e j).c,false,false,none⟩
def HS(s:Sx)(rest:qk):qk:=xB s.row s.sl s.d::yB s.Y::tB s.ln s.v::rB s.ln s.v s.L 0::rB s.ln s.v s.L 1::rB s.ln s.v s.L 2::rB s.ln s.v s.L 3::rB s.ln s.v s.L 4::rB s.ln s.v s.L 5::rest
def p0:T:=.ptr 0 0 0 0
def kMk(y:Yrn)(_:List T):Option T:=some (.tup [.agg [.bool true,iI y.pl,iI (y.ct+1),.bool false,.nils],.agg [iI y.ct,.bool y.w,.new (psV y.pe y.np (some y.np))],iI 0])
def yI(K:Nat):T:=uI (ofNat K+1)
def yJ(K:Nat):Int:=u8.wrap (ofNat K+1-1)
def a38(K:Nat)(b:Int)(th:Nat->Idd)(nt:Nat):List T:=[p0,yI K,uI b,idV th nt none]
def rz:T:=.reg [uI 0,iI 0]
def ry(y:Yrn):T:=.reg [.bool true,iI y.pl,iI (y.ct+1),.bool false,.nils]
def rm(y:Yrn):T:=.reg [iI y.ct,.bool y.w,psV y.pe y.np (some y.np)]
def rl(y:Yrn)(b:Int)(th:Nat->Idd)(nt:Nat):T:=.reg [uI b,.bool y.w,idV th nt (some nt),psV y.pe y.np (some y.np)]
def Yrn.next(y:Yrn):Yrn:=⟨true,y.pl,y.ct+1,false,fun _=>⟨0,0,false,0⟩,0⟩
def Yrn.lp(y:Yrn)(b:Int)(th:Nat->Idd)(nt:Nat):Lpp:=⟨b,y.w,th,nt,y.pe,y.np⟩
def upF{α:Type}(f:Nat->α)(K:Nat)(x:α):Nat->α:=fun e=>if e=K then x else f e
def upL(L:Nat->Nat->Lpp)(K i:Nat)(x:Lpp):Nat->Nat->Lpp:=fun e j=>if e=K/\j=i then x else L e j
def Sx.loop(s:Sx)(K:Nat)(b:Int)(th:Nat->Idd)(nt:Nat):Sx :=
 { s with Y:=upF s.Y K (s.Y K).next,ln:=upF s.ln K (s.ln K+1),v:=upF s.v K (s.v K+1),L:=upL s.L K (s.ln K) ((s.Y K).lp b th nt) }
def yC(Y:Nat->Yrn)(K:Nat)(y:Yrn):Blk:=⟨0,5,6,fun e=>Zd (e==K) [.bool true,iI y.pl,iI (y.ct+1),.bool false,.nils] (Y e).c,false,false,none⟩
def HSy(s:Sx)(Y:Blk)(rest:qk):qk:=xB s.row s.sl s.d::Y::tB s.ln s.v::rB s.ln s.v s.L 0::rB s.ln s.v s.L 1::rB s.ln s.v s.L 2::rB s.ln s.v s.L 3::rB s.ln s.v s.L 4::rB s.ln s.v s.L 5::rest
def tK6(ln v:Nat->Nat)(K w:Nat):Blk:=⟨0,1,6,fun e=>[bif e==K then .own (3+K) w 0 (ln K+1) none else .own (3+e) (v e) 0 (ln e) none],false,false,none⟩
def rK6(ln v:Nat->Nat)(L:Nat->Nat->Lpp)(K:Nat)(x:List T):Blk:=⟨v K+1,4,ln K+1,fun j=>bif j.blt (ln K) then(L K (0+j)).c else [x].getD (j-ln K) [],false,false,none⟩
def rN6(ln v:Nat->Nat)(L:Nat->Nat->Lpp)(K:Nat)(x:List T):Blk:=⟨v K,4,ln K,fun j=>bif Nat.ble (0+ln K) j&&j.blt (0+ln K+1) then [x].getD (j-(0+ln K)) [] else(L K j).c,false,false,none⟩
def rM6(ln v:Nat->Nat)(L:Nat->Nat->Lpp)(K:Nat)(x:Blk)(e:Nat):Blk:=bif e==K then x else rB ln v L e
def HSg(s:Sx)(t:Blk)(K:Nat)(x:Blk)(rest:qk):qk:=xB s.row s.sl s.d::yB s.Y::t::rM6 s.ln s.v s.L K x 0::rM6 s.ln s.v s.L K x 1::rM6 s.ln s.v s.L K x 2::rM6 s.ln s.v s.L K x 3::rM6 s.ln s.v s.L K x 4::rM6 s.ln s.v s.L K x 5::rest
def lc(y:Yrn)(b:Int)(th:Nat->Idd)(nt:Nat):List T:=[uI b,.bool y.w,idV th nt (some nt),psV y.pe y.np (some y.np)]
noncomputable abbrev KF:Orc:=qp.addRef 1000001 (fun _ _=>.none)
theorem qlO:OrcOk P16 G16 KF:=Qg qa fun _ _ _ _ h=>(by cases h)
theorem Jt{K:Nat}(h:K<6):K=0∨K=1∨K=2∨K=3∨K=4∨K=5:=by omega
section
variable (p q:List T->T->Prop) (n:Int) (y:Yrn) (s:Sx) (rest:qk) (K:Nat) (b:Int) (th:Nat->Idd) (nt:Nat)
theorem qnO:qw P16 G16 A16 qp 0 38 [] (nav [1]) [0,1,2,3] (a38 K b th nt) (HS s rest) [0,1,2,3,8]=some (.normal,a38 K b th nt++[rz],HS s rest):=by kernel_rfl
theorem qnP:qw P16 G16 A16 (qp.add 69 (qI p (fun _=>some (iI n)))) 0 38 [] (nav [1,2]) [0,1,2,3,8] (a38 K b th nt++[rz]) (HS s rest) [0,1,2,3,8] =
 (bif qC (p [Qp (HS s rest) (.own 2 0 0 6 (some 6))] (iI n)) then(bif decide (2048<=n) then some (.ret,a38 K b th nt++[rz],HS s rest) else some (.normal,a38 K b th nt++[rz],HS s rest)) else none):=by kernel_rfl
theorem qnQ:qw P16 G16 A16 (qp.add 70 (qI p (kMk y))) 0 38 [] (nav [1,2,2]) [0,1,2,3,8] (a38 K b th nt++[rz]) (HS s rest) [0,1,2,3,8,10,11,12] =
 (bif decide (0<=yJ K)&&decide (yJ K<6) then bif (0+(yJ K).toNat).blt 6 then bif qC (p [.agg (s.Y (0+(yJ K).toNat)).c] (.tup [.agg [.bool true,iI y.pl,iI (y.ct+1),.bool false,.nils],.agg [iI y.ct,.bool y.w,.new (psV y.pe y.np (some y.np))],iI 0])) then
  some (.normal,a38 K b th nt++[rz,ry y,rm y,iI 0],HS s rest) else none else none else none):=by kernel_rfl
theorem qnR:qw P16 G16 A16 qp 0 38 [] (nav [1,2,2,2]) [0,1,2,3,8,10,11,12] (a38 K b th nt++[rz,ry y,rm y,iI 0]) (HS s rest) [0,1,2,3,8,10,11]=some (.normal,a38 K b th nt++[rz,ry y,rm y],HS s rest):=by kernel_rfl
theorem qnS:qw P16 G16 A16 qp 0 38 [] (nav [1,2,2,2,2]) [0,1,2,3,8,10,11] (a38 K b th nt++[rz,ry y,rm y]) (HS s rest) [0,1,2,3,8,11] =
 (bif decide (0<=yJ K)&&decide (yJ K<6) then bif (0+(yJ K).toNat).blt 6&&true&&true&&true then some (.normal,a38 K b th nt++[rz,rm y],HSy s (yC s.Y (0+(yJ K).toNat) y) rest) else none else none):=by kernel_rfl
theorem qnT:qw P16 G16 A16 ((qp.add 71 (qI p (fun _=>some (.new (idV th nt (some nt)))))).add 72 (qI q (fun _=>some (.new (psV y.pe y.np (some y.np)))))) 0 38 [] (nav [1,2,2,2,2,2]) [0,1,2,3,8,11] (a38 K b th nt++[rz,rm y]) (HS s rest) [0,1,8,11,13] =
 (bif y.w then bif qC (p [idV th nt none] (.new (idV th nt (some nt)))) then bif qC (q [psV y.pe y.np (some y.np)] (.new (psV y.pe y.np (some y.np)))) then some (.normal,[p0,yI K,rz,rm y,.reg [uI b,.bool true,idV th nt (some nt),psV y.pe y.np (some y.np)]],HS s rest) else none else none
  else bif qC (p [idV th nt none] (.new (idV th nt (some nt)))) then bif qC (q [psV y.pe y.np (some y.np)] (.new (psV y.pe y.np (some y.np)))) then some (.normal,[p0,yI K,rz,rm y,.reg [uI b,.bool false,idV th nt (some nt),psV y.pe y.np (some y.np)]],HS s rest) else none else none):=by kernel_rfl
theorem qnU(hK:K<6):qw P16 G16 A16 KF 0 38 [] (nav [1,2,2,2,2,2,2]) [0,1,8,11,13] [p0,yI K,rz,rm y,rl y b th nt] (HS s rest) [1,8,11] =
 (bif s.v K==s.v K&&true then bif (0+s.ln K).ble (s.ln K) then bif ((s.ln K+1)*57).ble 70368744177664 then bif (0+s.ln K+1).ble (s.ln K) then some (.normal,[yI K,rz,rm y],HSg s (tK6 s.ln s.v K (s.v K)) K (rN6 s.ln s.v s.L K (lc y b th nt)) rest) else
  some (.normal,[yI K,rz,rm y],HSg s (tK6 s.ln s.v K (s.v K+1)) K (rK6 s.ln s.v s.L K (lc y b th nt)) rest) else none else none else none):=by
 obtain rfl|rfl|rfl|rfl|rfl|rfl:=Jt hK
 all_goals kernel_rfl
theorem qnV:qw P16 G16 A16 qp 0 38 [] (nav [2,2,2,2,2,2,2]) [1,8,11] [yI K,rz,rm y] rest [8,9]=some (.ret,[.reg [uI (ofNat K+1),iI y.ct],iI 0],rest):=by kernel_rfl
end
theorem qkg(g:Nat->Idd)(n:Nat)(c:Option Nat)(hn:n<=1000000):ToldOk P16 G16 71 [idV g n c] (.new (idV g n (some n))):=by
 have t:ToldOk P16 G16 71 [idV g n c] (.fresh true 2 n (fun j=>(g j).c) n (some n)):=by
  refine ToldOk.resTo (r:=.fresh true 2 (n-0) (fun j=>bif Nat.ble 0 (0+j)&&Nat.blt (0+j) (0+n.min n) then(g (0+j-0)).c else [uI 0,iI 0]) n (some n)) ?_ (.fresh (Nat.le_refl _) (by omega) (fun m hm=>by obtain rfl:=Option.some.inj hm;omega) fun j hj=>by rw[Nat.zero_add,QC (Nat.zero_le _),show Nat.min n n=n from Nat.min_self n,Nat.zero_add,QX hj];rfl);refine qD qu qX qa (K:=qp) (A:=A16) (m:=0) ?_;rw[(show Qz P16 G16 A16 qp 0 71 [idV g n c] =
(
 bif decide (0<=ofNat n)&&decide (ofNat n<=ofNat n)&&decide (ofNat n*16<=140737488355328)&&decide (ofNat n<=9223372036854775807) then
 bif ((0:Nat)+n).ble n then
 some (bif ((0:Nat)+n).ble n then .fresh true (2:Nat) n (fun j =>
 bif Nat.ble 0 (0+j)&&((0:Nat)+j).blt (0+n.min n) then(g ((0:Nat)+j)).c
 else [uI 0,iI 0]) n (some n)
 else .undef)
 else none else
 none) from by kernel_rfl)]
  refine BS ?_;refine BS ?_;rw[Nat.zero_add,QC (Nat.le_refl _)];rfl
 exact t.frz
theorem qkh(g:Nat->Pss)(n:Nat)(c:Option Nat)(hn:n<=1000000):ToldOk P16 G16 72 [psV g n c] (.new (psV g n (some n))):=by
 have t:ToldOk P16 G16 72 [psV g n c] (.fresh true 4 n (fun j=>(g j).c) n (some n)):=by
  refine ToldOk.resTo (r:=.fresh true 4 (n-0) (fun j=>bif Nat.ble 0 (0+j)&&Nat.blt (0+j) (0+n.min n) then(g (0+j-0)).c else [uI 0,iI 0,T.bool false,uI 0]) n (some n)) ?_ (.fresh (Nat.le_refl _) (by omega) (fun m hm=>by obtain rfl:=Option.some.inj hm;omega) fun j hj=>by rw[Nat.zero_add,QC (Nat.zero_le _),show Nat.min n n=n from Nat.min_self n,Nat.zero_add,QX hj];rfl);refine qD qu qX qa (K:=qp) (A:=A16) (m:=0) ?_;rw[(show Qz P16 G16 A16 qp 0 72 [psV g n c] =
(
 bif decide (0<=ofNat n)&&decide (ofNat n<=ofNat n)&&decide (ofNat n*24<=140737488355328)&&decide (ofNat n<=9223372036854775807) then
 bif ((0:Nat)+n).ble n then
 some (bif ((0:Nat)+n).ble n then .fresh true (4:Nat) n (fun j =>
 bif Nat.ble 0 (0+j)&&((0:Nat)+j).blt (0+n.min n) then(g ((0:Nat)+j)).c
 else [uI 0,iI 0,.bool false,uI 0]) n (some n)
 else .undef)
 else none else
 none) from by kernel_rfl)]
  refine BS ?_;refine BS ?_;rw[Nat.zero_add,QC (Nat.le_refl _)];rfl
 exact t.frz
def t6(ln:Nat->Nat)(L:Nat->Nat->Lpp):Tbl:=⟨6,ln,L⟩
theorem qki{H:qk}{s:Sx}{e:Nat}(h:H[3+e]?=some (rB s.ln s.v s.L e))(d:Nat):Sims [resolve (d+2) [] H (.own (3+e) (s.v e) 0 (s.ln e) none)] [lpV (s.L e) (s.ln e) none]:=by
 have e1:resolve (d+2) [] H (.own (3+e) (s.v e) 0 (s.ln e) none)=(bif (true&&(s.v e==s.v e&&Nat.ble (0+s.ln e) (s.ln e))) then T.view 4 (s.ln e) (fun j=>(s.L e (0+j)).c.map (resolve (d+1) [] H)) none else .undef):=by
  simp only[resolve,h];rfl
 rw[e1,beq_self_eq_true,QC (show 0+s.ln e<=s.ln e by omega)];refine .cons (.view (.inr rfl) fun j hj=>?_) .nil;rw[Nat.zero_add];exact .refl _
theorem qgQ(s:Sx)(rest:qk):Sims [Qp (HS s rest) (.own 2 0 0 6 (some 6))] [(t6 s.ln s.L).v]:=by
 refine .cons (.view (.inr rfl) fun e he=>?_) .nil;show Sims [resolve 3 [] (HS s rest) (.own (3+(0+e)) (s.v (0+e)) 0 (s.ln (0+e)) none)] [lpV (s.L e) (s.ln e) none];rw[Nat.zero_add];refine qki ?_ 1;obtain rfl|rfl|rfl|rfl|rfl|rfl:=Jt he
 all_goals rfl
theorem qef{K:Nat}(h:K<6):yJ K=ofNat K:=by
 unfold yJ;rw[show ofNat K+1-1=ofNat K by omega,wr8 (by simp only[Int.ofNat_eq_natCast];omega) (by simp only[Int.ofNat_eq_natCast];omega)]
theorem SimI.nilv(sz:Nat)(g:Nat->List T){cap:Option Nat}(hc:cap=none∨cap=some 0):SimI .nils (.view sz 0 g cap):=.inr ⟨rfl,.nilv sz g hc,rfl⟩
theorem SimI.view{sz n:Nat}{g g':Nat->List T}{c c':Option Nat}(hc:c'=c∨c'=none)(hg:∀j,j<n->Sims (g j) (g' j)):SimI (.view sz n g c) (.view sz n g' c'):=.inr ⟨rfl,.view hc hg,rfl⟩
set_option maxHeartbeats 1000000
set_option maxRecDepth 100000
theorem qlP(s:Sx)(rest:qk)(K:Nat)(b:Int)(th:Nat->Idd)(nt:Nat)(x:T)(hx:SimS x (idV th nt none))(hK:K<6)(ht:(t6 s.ln s.L).Ok)(hc:((t6 s.ln s.L).sum 6:Int)<2048)
 (hy:yrE (s.Y K)=0) (hi:(s.Y K).i=true) (h0:0<=(s.Y K).ct) (h1:(s.Y K).ct<2048) (hp:(s.Y K).np<=1000000) (hnt:nt<=1000000) :
 ToldRef P16 G16 38 [p0,yI K,uI b,x] (HS s rest) (.tup [.agg [uI (ofNat K+1),iI (s.Y K).ct],iI 0]) (HS (s.loop K b th nt) rest):=by
 obtain⟨p,hpp⟩:=qE P16 G16 69;obtain⟨q,hq⟩:=qE P16 G16 70;obtain⟨r,hr⟩:=qE P16 G16 71;obtain⟨u,hu⟩:=qE P16 G16 72;have hl:=ht.ln K;have hl:s.ln K<=10000:=hl;have tc:=(qfc (t6 s.ln s.L) ht).sim (qgQ s rest);have tm:=qlN (s.Y K) hy hi h0 h1 hp;have ej:=qef hK;have pa:=Pz.pre (P:=P16) (G:=G16) (A:=A16) (f:=38) (h0:=HS s rest) (p:=[1]) (l:=[0,1,2,3]) (vs:=[p0,yI K,uI b,x]) (h:=HS s rest) (fun _=>.sl (.cons (.refl _) (.cons (.refl _) (.cons (.refl _) (.cons hx .nil)))) (.refl _))
  (Pz.run qu qa (m:=0) (p:=[1]) (A:=A16) (f:=38) (h0:=HS s rest) (by kernel_rfl) ql (qnO s rest K b th nt))
 have pb:=Pz.run qu (qv qa (qr hpp)) (m:=0) (p:=[1,2]) (A:=A16) (f:=38) (h0:=HS s rest) (by kernel_rfl) ql ((qnP p ((t6 s.ln s.L).sum 6:Nat) s rest K b th nt).trans (qt (qz.2 (qH hpp tc)) (qK (by simp only[decide_eq_true_eq];omega) rfl)));have qc:=qnQ q (s.Y K) s rest K b th nt;rw[ej,show 0+(ofNat K).toNat=K by simp] at qc;have pc:=Pz.run qu (qv qa (qr hq)) (m:=0) (p:=[1,2,2]) (A:=A16) (f:=38) (h0:=HS s rest) (by kernel_rfl) ql (qc.trans (qt (inR hK) (qt (QX hK) (qt (qz.2 (qH hq tm)) rfl))));have pd:=Pz.run qu qa (m:=0) (p:=[1,2,2,2]) (A:=A16) (f:=38) (h0:=HS s rest) (by kernel_rfl) ql (qnR (s.Y K) s rest K b th nt);have qe:=qnS (s.Y K) s rest K b th nt;rw[ej,show 0+(ofNat K).toNat=K by simp] at qe;have pe:=Pz.post (Pz.run qu qa (m:=0) (p:=[1,2,2,2,2]) (A:=A16) (f:=38) (h0:=HS s rest) (by kernel_rfl) ql (qe.trans (qt (inR hK) (qt (by rw[QX hK];rfl) rfl)))) (v2:=a38 K b th nt++[rz,rm (s.Y K)]) (h2:=HS { s with Y:=upF s.Y K (s.Y K).next } rest) fun nt'=>by
  refine .simAll rfl (fun i a b h1 h2=>by obtain rfl:=Option.some.inj (h1.symm.trans h2);exact .refl _) (.cons ⟨rfl,rfl,rfl⟩ (fun h=>(by cases h)) (fun _ _=>.refl _) (.cons ⟨rfl,rfl,rfl⟩ (fun h=>(by cases h)) (fun e he=>?_) (.refl _)));show SimL (Zd (e==K) [.bool true,iI (s.Y K).pl,iI ((s.Y K).ct+1),.bool false,.nils] (s.Y e).c) (upF s.Y K (s.Y K).next e).c;rw[z2];unfold upF;by_cases c:e=K
  ·rw[if_pos c,show(e==K)=true by simpa using c];exact .cons (.refl _) (.cons (.refl _) (.cons (.refl _) (.cons (.refl _) (.cons (.nilv _ _ (.inl rfl)) .nil))))
  ·rw[if_neg c,show(e==K)=false by simpa using c];exact .refl _
 have pf:Pz P16 G16 A16 38 (HS s rest) [1,2,2,2,2,2] [0,1,2,3,8,11] (a38 K b th nt++[rz,rm (s.Y K)]) (HS { s with Y:=upF s.Y K (s.Y K).next } rest) .normal [0,1,8,11,13] [p0,yI K,rz,rm (s.Y K),rl (s.Y K) b th nt] (HS { s with Y:=upF s.Y K (s.Y K).next } rest):=by
  refine Pz.run qu (qv (qv qa (qr hr)) (qr hu)) (m:=0) (A:=A16) (f:=38) (h0:=HS s rest) (by kernel_rfl) ql ((qnT r u (s.Y K) _ rest K b th nt).trans ?_);have t1:=qz.2 (qH hr (qkg th nt none hnt));have t2:=qz.2 (qH hu (qkh (s.Y K).pe (s.Y K).np (some (s.Y K).np) hp));unfold rl;cases hw:(s.Y K).w with
  |false=>exact qK (by simp) (qt t1 (qt t2 rfl))
  |true=>exact qt rfl (qt t1 (qt t2 rfl))
 have pg:=Pz.post (Pz.run qu qlO (m:=0) (p:=[1,2,2,2,2,2,2]) (A:=A16) (f:=38) (h0:=HS s rest) (by kernel_rfl) ql ((qnU (s.Y K) { s with Y:=upF s.Y K (s.Y K).next } rest K b th nt hK).trans (qt (by simp) (qt (QC (by show 0+s.ln K<=s.ln K;omega)) (qt (QC (by show(s.ln K+1)*57<=_;omega)) (qK (by rw[qd3 (by show s.ln K<0+s.ln K+1;omega)];simp) rfl))))))
  (v2:=[yI K,rz,rm (s.Y K)]) (h2:=HS (s.loop K b th nt) rest) fun nt'=>by
  have key:∀e,e<6->(rB (upF s.ln K (s.ln K+1)) (upF s.v K (s.v K+1)) (upL s.L K (s.ln K) ((s.Y K).lp b th nt)) e).mp=(rM6 s.ln s.v s.L K (rK6 s.ln s.v s.L K (lc (s.Y K) b th nt)) e).mp ∧
   (rB (upF s.ln K (s.ln K+1)) (upF s.v K (s.v K+1)) (upL s.L K (s.ln K) ((s.Y K).lp b th nt)) e).ver=(rM6 s.ln s.v s.L K (rK6 s.ln s.v s.L K (lc (s.Y K) b th nt)) e).ver ∧
   (rB (upF s.ln K (s.ln K+1)) (upF s.v K (s.v K+1)) (upL s.L K (s.ln K) ((s.Y K).lp b th nt)) e).sz=(rM6 s.ln s.v s.L K (rK6 s.ln s.v s.L K (lc (s.Y K) b th nt)) e).sz ∧
   (rB (upF s.ln K (s.ln K+1)) (upF s.v K (s.v K+1)) (upL s.L K (s.ln K) ((s.Y K).lp b th nt)) e).n=(rM6 s.ln s.v s.L K (rK6 s.ln s.v s.L K (lc (s.Y K) b th nt)) e).n ∧
   ∀j,j<(rM6 s.ln s.v s.L K (rK6 s.ln s.v s.L K (lc (s.Y K) b th nt)) e).n->SimL ((rM6 s.ln s.v s.L K (rK6 s.ln s.v s.L K (lc (s.Y K) b th nt)) e).get j) ((rB (upF s.ln K (s.ln K+1)) (upF s.v K (s.v K+1)) (upL s.L K (s.ln K) ((s.Y K).lp b th nt)) e).get j):=by
   intro e _;unfold rM6;by_cases c:e=K
   ·subst c;rw[beq_self_eq_true,cond_true];refine⟨rfl,if_pos rfl,rfl,if_pos rfl,fun j hj=>?_⟩;have hj:j<s.ln e+1:=hj;show SimL (bif j.blt (s.ln e) then(s.L e (0+j)).c else [lc (s.Y e) b th nt].getD (j-s.ln e) []) (upL s.L e (s.ln e) ((s.Y e).lp b th nt) e j).c;unfold upL;by_cases d:j=s.ln e
    ·subst d;rw[if_pos ⟨rfl,rfl⟩,qad (Nat.le_refl _),Nat.sub_self];exact .cons (.refl _) (.cons (.refl _) (.cons (.view (.inr rfl) fun _ _=>.refl _) (.cons (.view (.inr rfl) fun _ _=>.refl _) .nil)))
    ·rw[if_neg (fun h=>d h.2),QX (by omega),Nat.zero_add];exact .refl _
   ·rw[show(e==K)=false by simpa using c,cond_false];refine⟨rfl,if_neg c,rfl,if_neg c,fun j hj=>?_⟩;show SimL (s.L e j).c (upL s.L K (s.ln K) ((s.Y K).lp b th nt) e j).c;unfold upL;rw[if_neg (fun h=>c h.1)];exact .refl _
  have step:∀e,e<6->∀{h h2:qk},SimBlks h h2->SimBlks (rM6 s.ln s.v s.L K (rK6 s.ln s.v s.L K (lc (s.Y K) b th nt)) e::h) (rB (upF s.ln K (s.ln K+1)) (upF s.v K (s.v K+1)) (upL s.L K (s.ln K) ((s.Y K).lp b th nt)) e::h2):=fun e he _ _ hs=>by
   obtain⟨k1,k2,k3,k4,k5⟩:=key e he;exact .cons ⟨k2,k3,k4⟩ (fun h=>(by cases h)) k5 hs k1
  refine .simAll rfl (fun i a b h1 h2=>by obtain rfl:=Option.some.inj (h1.symm.trans h2);exact .refl _) (.cons ⟨rfl,rfl,rfl⟩ (fun h=>(by cases h)) (fun _ _=>.refl _) (.cons ⟨rfl,rfl,rfl⟩ (fun h=>(by cases h)) (fun _ _=>.refl _) (.cons ⟨rfl,rfl,rfl⟩ (fun h=>(by cases h)) (fun e he=>?_)
   (step 0 (by omega) (step 1 (by omega) (step 2 (by omega) (step 3 (by omega) (step 4 (by omega) (step 5 (by omega) (.refl _))))))))))
  show SimL [bif e==K then T.own (3+K) (s.v K+1) 0 (s.ln K+1) none else .own (3+e) (s.v e) 0 (s.ln e) none] [T.own (3+e) (upF s.v K (s.v K+1) e) 0 (upF s.ln K (s.ln K+1) e) none];unfold upF;by_cases c:e=K
  ·rw[if_pos c,if_pos c,show(e==K)=true by simpa using c,c];exact .refl _
  ·rw[if_neg c,if_neg c,show(e==K)=false by simpa using c];exact .refl _
 have ph:=Pz.run qu qa (m:=0) (p:=[2,2,2,2,2,2,2]) (A:=A16) (f:=38) (h0:=HS s rest) (by kernel_rfl) ql (qnV (s.Y K) (HS (s.loop K b th nt) rest) K);exact Pz.toldRef (A:=A16) qX Tryz.func38 (by kernel_rfl) (by kernel_rfl) (l:=[0,1,2,3]) rfl (Pz.seq (by kernel_rfl) pa (Pz.seq (by kernel_rfl) pb (Pz.seq (by kernel_rfl) pc (Pz.seq (by kernel_rfl) pd (Pz.seq (by kernel_rfl) pe (Pz.seq (by kernel_rfl) pf (Pz.seq (by kernel_rfl) pg ph))))))) rfl
def kGo(y:Yrn)(place:Int)(z:Nat×(Nat->Pss))(_:List T):Option T:=some (.tup [.agg [.bool true,iI place,iI y.ct,.bool y.w,.new (psV z.2 z.1 (some z.1))],iI 0])
def a39(K:Nat)(place:Int)(l:Nat->Pss)(m:Nat):List T:=[p0,yI K,iI place,psV l m none]
def gC(y:Yrn)(place:Int)(z:Nat×(Nat->Pss)):List T:=[.bool true,iI place,iI y.ct,.bool y.w,psV z.2 z.1 (some z.1)]
def yG(Y:Nat->Yrn)(K:Nat)(c:List T):Blk:=⟨0,5,6,fun e=>Zd (e==K) c (Y e).c,false,false,none⟩
def Yrn.go(y:Yrn)(place:Int)(l:Nat->Pss)(m:Nat):Yrn:=⟨true,place,y.ct,y.w,fun j=>if j<(z9 y l m).1 then(z9 y l m).2 j else ⟨0,0,false,0⟩,(z9 y l m).1⟩
def Sx.setY(s:Sx)(K:Nat)(y:Yrn):Sx:={ s with Y:=upF s.Y K y }
section
variable (p:List T->T->Prop) (y:Yrn) (s:Sx) (rest:qk) (K:Nat) (place:Int) (l:Nat->Pss) (m:Nat) (z:Nat×(Nat->Pss))
theorem qnW:qw P16 G16 A16 qp 0 39 [] (nav [1]) [0,1,2,3] (a39 K place l m) (HS s rest) [0,1,2,3]=some (.normal,a39 K place l m,HS s rest):=by kernel_rfl
theorem qnX:qw P16 G16 A16 (qp.add 73 (qI p (kGo y place z))) 0 39 [] (nav [1,2]) [0,1,2,3] (a39 K place l m) (HS s rest) [0,1,9,10] =
 (bif decide (0<=yJ K)&&decide (yJ K<6) then bif (0+(yJ K).toNat).blt 6 then bif qC (p [.agg (s.Y (0+(yJ K).toNat)).c,iI place,psV l m none] (.tup [.agg [.bool true,iI place,iI y.ct,.bool y.w,.new (psV z.2 z.1 (some z.1))],iI 0])) then
  some (.normal,[p0,yI K,.reg (gC y place z),iI 0],HS s rest) else none else none else none):=by kernel_rfl
theorem qnY:qw P16 G16 A16 qp 0 39 [] (nav [1,2,2]) [0,1,9,10] [p0,yI K,.reg (gC y place z),iI 0] (HS s rest) [10] =
 (bif decide (0<=yJ K)&&decide (yJ K<6) then bif (0+(yJ K).toNat).blt 6&&true&&true&&true then some (.normal,[iI 0],HSy s (yG s.Y (0+(yJ K).toNat) (gC y place z)) rest) else none else none):=by kernel_rfl
theorem qnZ(h:qk):qw P16 G16 A16 qp 0 39 [] (nav [2,2,2]) [10] [iI 0] h [8]=some (.ret,[iI 0],h):=by kernel_rfl
end
theorem qhO{s:Sx}{rest:qk}{K:Nat}{c:List T}{y:Yrn}(hc:SimL c y.c){prom:List Nat}{nt k:Nat}{l:List Nat}{vs:List T}:WeakTo G16 prom nt l k vs (HSy s (yG s.Y K c) rest) vs (HS (s.setY K y) rest):=by
 refine .simAll rfl (fun i a b h1 h2=>by obtain rfl:=Option.some.inj (h1.symm.trans h2);exact .refl _) (.cons ⟨rfl,rfl,rfl⟩ (fun h=>(by cases h)) (fun _ _=>.refl _) (.cons ⟨rfl,rfl,rfl⟩ (fun h=>(by cases h)) (fun e he=>?_) (.refl _)));show SimL (Zd (e==K) c (s.Y e).c) (upF s.Y K y e).c;rw[z2];unfold upF;by_cases q:e=K
 ·rw[if_pos q,show(e==K)=true by simpa using q];exact hc
 ·rw[if_neg q,show(e==K)=false by simpa using q];exact .refl _
set_option maxHeartbeats 1000000
set_option maxRecDepth 100000
theorem qlQ(s:Sx)(rest:qk)(K:Nat)(place:Int)(l:Nat->Pss)(m:Nat)(x:T)(hx:SimS x (psV l m none))(hK:K<6)(hy:yrE (s.Y K)=0)(hi:(s.Y K).i=true)(hp:qdi place=true)(hn:(s.Y K).np<=100000)(hm:m<=100000)
 (hl:∀j,j<m->Y9 (l j).y (l j).n (l j).d=true) (hk:(z9 (s.Y K) l m).1<=4096) :
 ToldRef P16 G16 39 [p0,yI K,iI place,x] (HS s rest) (iI 0) (HS (s.setY K ((s.Y K).go place l m)) rest):=by
 obtain⟨p,hpp⟩:=qE P16 G16 73;have tg:=goT (s.Y K) place l m hy hi hp hn hm hl hk;have ej:=qef hK;have pa:=Pz.pre (P:=P16) (G:=G16) (A:=A16) (f:=39) (h0:=HS s rest) (p:=[1]) (l:=[0,1,2,3]) (vs:=[p0,yI K,iI place,x]) (h:=HS s rest) (fun _=>.sl (.cons (.refl _) (.cons (.refl _) (.cons (.refl _) (.cons hx .nil)))) (.refl _))
  (Pz.run qu qa (m:=0) (p:=[1]) (A:=A16) (f:=39) (h0:=HS s rest) (by kernel_rfl) ql (qnW s rest K place l m))
 have qb:=qnX p (s.Y K) s rest K place l m (z9 (s.Y K) l m);rw[ej,show 0+(ofNat K).toNat=K by simp] at qb;have pb:=Pz.run qu (qv qa (qr hpp)) (m:=0) (p:=[1,2]) (A:=A16) (f:=39) (h0:=HS s rest) (by kernel_rfl) ql (qb.trans (qt (inR hK) (qt (QX hK) (qt (qz.2 (qH hpp tg)) rfl))));have qc:=qnY (s.Y K) s rest K place (z9 (s.Y K) l m);rw[ej,show 0+(ofNat K).toNat=K by simp] at qc;have pc:=Pz.post (Pz.run qu qa (m:=0) (p:=[1,2,2]) (A:=A16) (f:=39) (h0:=HS s rest) (by kernel_rfl) ql (qc.trans (qt (inR hK) (qt (by rw[QX hK];rfl) rfl)))) (v2:=[iI 0]) (h2:=HS (s.setY K ((s.Y K).go place l m)) rest) fun nt'=>qhO (s:=s) (rest:=rest) (K:=K) (c:=gC (s.Y K) place (z9 (s.Y K) l m)) (y:=(s.Y K).go place l m) (.cons (.refl _) (.cons (.refl _) (.cons (.refl _) (.cons (.refl _) (.cons (.view (.inr rfl) fun j hj=>by
  show Sims ((z9 (s.Y K) l m).2 j).c (if j<(z9 (s.Y K) l m).1 then(z9 (s.Y K) l m).2 j else ⟨0,0,false,0⟩:Pss).c;rw[if_pos hj];exact .refl _) .nil)))))
 have pd:=Pz.run qu qa (m:=0) (p:=[2,2,2]) (A:=A16) (f:=39) (h0:=HS s rest) (by kernel_rfl) ql (qnZ (HS (s.setY K ((s.Y K).go place l m)) rest));exact Pz.toldRef (A:=A16) qX Tryz.func39 (by kernel_rfl) (by kernel_rfl) (l:=[0,1,2,3]) rfl (Pz.seq (by kernel_rfl) pa (Pz.seq (by kernel_rfl) pb (Pz.seq (by kernel_rfl) pc pd))) rfl
def id0:Idd:=⟨0,0⟩
def ps0:Pss:=⟨0,0,false,0⟩
def idB(v:Nat)(l:List Idd):Blk:=⟨v,2,l.length,fun j=>(l.getD j id0).c,true,false,none⟩
def idL(l:List Idd):T:=idV (fun j=>l.getD j id0) l.length none
structure Slo where
 (b:Int) (l:List Idd)
def Slo.c(s:Slo):List T:=[uI s.b,idL s.l]
def sl0:Slo:=⟨0,[]⟩
def slV(l:List Slo)(c:Option Nat):T:=.view 2 l.length (fun j=>(l.getD j sl0).c) c
def ptV(L:List (List Idd))(c:Option Nat):T:=.view 1 L.length (fun j=>[idL (L.getD j [])]) c
def qgR(L:List (List Idd))(c:Option Nat)(x i:Nat):List T:=[ptV L c,iI x,ptV L c,iI L.length,iI i]
def jB(N:Nat)(f:List Idd):Blk:=⟨0,2,N,fun e=>(f.getD e id0).c,true,false,none⟩
def qgS(L:List (List Idd))(c:Option Nat)(N at' i:Nat):List T:=[.own 0 0 0 N (some N),iI at',ptV L c,iI L.length,iI i]
theorem qlR(L:List (List Idd))(c:Option Nat)(x i:Nat):QH P16 G16 A16 qp 0 80 [] 3 (qgR L c x i) [] =
(
 bif decide (ofNat i<ofNat L.length) then
 bif decide (0<=ofNat i)&&decide (ofNat i<ofNat L.length) then
 some ((.normal,[ptV L c,iI (i64.wrap (ofNat x+ofNat (L.getD i []).length)),ptV L c,iI (.ofNat L.length),iI (i64.wrap (ofNat i+1))],[]))
 else none else
 some ((.exit 0,[ptV L c,iI (.ofNat x)],[]))):=by kernel_rfl
theorem qlS(L:List (List Idd))(c:Option Nat)(N at' i:Nat)(f:List Idd):QH P16 G16 A16 qp 0 80 [] 10 (qgS L c N at' i) [jB N f] =
(
 bif decide (ofNat i<ofNat L.length) then
 bif decide (0<=ofNat i)&&decide (ofNat i<ofNat L.length) then
 bif decide (0<=ofNat at')&&decide (ofNat at'<=ofNat N)&&decide (ofNat N<=ofNat N) then
 bif ((0:Nat)+at'+(N-at')).ble N then
 some ((.normal,[.own 0 0 0 N (some N),iI (i64.wrap (ofNat at'+ofNat ((L.getD i []).length.min (N-at')))),ptV L c,iI (.ofNat L.length),iI (i64.wrap (ofNat i+1))],[.mk 0 2 N (fun j =>
 bif ((0:Nat)+at').ble j&&j.blt (0+at'+(L.getD i []).length.min (N-at')) then((L.getD i []).getD (j-((0:Nat)+at')) (Idd.mk (0:Int) (0:Int))).c
 else(f.getD j (Idd.mk (0:Int) (0:Int))).c) true false
 none]))
 else none else none else none else
 some ((.exit 2,[.own 0 0 0 N (some N)],[jB N f]))):=by kernel_rfl
theorem k80(L:List (List Idd))(c:Option Nat)(N:Nat)(f:List Idd):y6 P16 G16 A16 qp 0 80 [(3,Qs (qgR L c 0 0) [] (.exit 0) [ptV L c,iI N] []),(10,Qs (qgS L c N 0 0) [jB N []] (.exit 2) [.own 0 0 0 N (some N)] [jB N f])] [ptV L c] =
(
 bif ZO (qgR L c (nat_lit 0) (nat_lit 0)) [] (qgR L c (nat_lit 0) (nat_lit 0)) [] then
 bif decide (0<=ofNat N)&&decide (ofNat N<=ofNat N)&&decide (ofNat N*16<=140737488355328)&&decide (ofNat N<=9223372036854775807) then
 bif ZO (qgS L c N (nat_lit 0) (nat_lit 0)) [.mk 0 2 N (fun x=>[uI 0,iI 0]) true false
 none] (qgS L c N (nat_lit 0) (nat_lit 0)) [.mk 0 2 N (fun e=>[uI 0,iI 0]) true false
 none] then
 some (bif ((0:Nat)+N).ble N then .fresh true (2:Nat) N (fun j=>(f.getD ((0:Nat)+j) (Idd.mk (0:Int) (0:Int))).c) N (some N)
 else .undef)
 else none else none else
 none):=by kernel_rfl
theorem qcm{α:Type}(L:List (List α)){i:Nat}(h:i<L.length):(L.take (i+1)).flatten=(L.take i).flatten++L.getD i []:=by
 rw[List.take_succ,List.flatten_append,List.getElem?_eq_getElem h];simp[List.getD_eq_getElem?_getD,List.getElem?_eq_getElem h]
theorem qfX{α:Type}(L:List (List α))(i:Nat):((L.take i).flatten).length<=L.flatten.length:=by
 conv=>rhs;rw[←List.take_append_drop i L,List.flatten_append,List.length_append]
 omega
theorem qhP{α:Type}(l m:List α)(d:α)(e:Nat):(l++m).getD e d=if e<l.length then l.getD e d else m.getD (e-l.length) d:=by
 simp only[List.getD_eq_getElem?_getD,List.getElem?_append];split<;>rfl
theorem qeg{α:Type}(l:List α)(d:α){e:Nat}(h:l.length<=e):l.getD e d=d:=by
 rw[List.getD_eq_getElem?_getD,List.getElem?_eq_none h];rfl
theorem qlT(L:List (List Idd))(c:Option Nat)(h1:L.length<=1000000)(h2:L.flatten.length<=1000000):ToldOk P16 G16 80 [ptV L c] (.fresh true 2 L.flatten.length (fun j=>(L.flatten.getD j id0).c) L.flatten.length (some L.flatten.length)):=by
 have l1:LoopOk P16 G16 (A16 80) 80 3 (Qs (qgR L c 0 0) [] (.exit 0) [ptV L c,iI L.flatten.length] []):=by
  refine Ql qu (by kernel_rfl) (fun i=>qgR L c ((L.take i).flatten).length i) (fun _=>[]) (n:=L.length) (fun i hi=>?_) ?_
  ·have e:=qcm L hi;have hle:=qfX L (i+1);rw[e,List.length_append] at hle;simp only[e,List.length_append];generalize ((L.take i).flatten).length=x at *
   generalize hk:(L.getD i []).length=k at *
   refine Step.mk0 (A:=A16) (m:=0) qa rfl rfl ql (h1:=[]) ?_ .nil;rw[qlR,hk,up1 (by omega),Y8 (x:=ofNat x+ofNat k) (by show(_:Int)<=(x:Int)+(k:Int);omega) (by show(x:Int)+(k:Int)<=_;omega)];exact BT (BT rfl)
  ·refine Last.mk0 (A:=A16) (m:=0) qa rfl rfl ql (h1:=[]) (by simp) ?_ .nil;rw[qlR,List.take_length];exact BF rfl
 have l2:LoopOk P16 G16 (A16 80) 80 10 (Qs (qgS L c L.flatten.length 0 0) [jB L.flatten.length []] (.exit 2) [.own 0 0 0 L.flatten.length (some L.flatten.length)] [jB L.flatten.length L.flatten]):=by
  have hN:L.flatten.length<=1000000:=h2;refine Ql qu (by kernel_rfl) (fun i=>qgS L c L.flatten.length ((L.take i).flatten).length i) (fun i=>[jB L.flatten.length (L.take i).flatten]) (n:=L.length) (fun i hi=>?_) ?_
  ·have e:=qcm L hi;have hle:=qfX L (i+1);rw[e,List.length_append] at hle;simp only[e,List.length_append];generalize hf:(L.take i).flatten=f at *
   generalize L.flatten.length=N at *
   generalize hp:L.getD i []=p at *
   have hmin:p.length.min (N-f.length)=p.length:=Nat.min_eq_left (by omega);refine Step.mk0 (A:=A16) (m:=0) qa rfl rfl ql (h1:=[⟨0,2,N,fun j=>bif ((0:Nat)+f.length).ble j&&j.blt ((0:Nat)+f.length+p.length) then(p.getD (j-((0:Nat)+f.length)) id0).c else(f.getD j id0).c,true,false,none⟩]) ?_ ?_
   ·rw[qlS,hp,hmin,up1 (by omega),Y8 (x:=ofNat f.length+ofNat p.length) (by show(_:Int)<=(f.length:Int)+(p.length:Int);omega) (by show(f.length:Int)+(p.length:Int)<=_;omega)];exact BT (BT (BT (BT rfl)))
   ·refine .cons ⟨rfl,rfl,rfl,id,fun j hj=>?_⟩ .nil;show((f++p).getD j id0).c=(bif ((0:Nat)+f.length).ble j&&j.blt ((0:Nat)+f.length+p.length) then(p.getD (j-((0:Nat)+f.length)) id0).c else(f.getD j id0).c);rw[Nat.zero_add,qhP];by_cases q:j<f.length
    ·rw[if_pos q,show f.length.ble j=false from by rw[←Bool.not_eq_true,qkO];omega];rfl
    ·rw[if_neg q,QC (by omega)];by_cases q2:j<f.length+p.length
     ·rw[QX q2];rfl
     ·rw[show j.blt (f.length+p.length)=false from by rw[←Bool.not_eq_true,qis];omega,qeg p id0 (by omega),qeg f id0 (by omega)];rfl
  ·refine Last.mk0 (A:=A16) (m:=0) qa rfl rfl ql (h1:=[jB L.flatten.length L.flatten]) (by simp) ?_ ?_
   ·rw[List.take_length,qlS];exact BF rfl
   ·exact .refl _
 have t:ToldOk P16 G16 80 [ptV L c] (.fresh true 2 L.flatten.length (fun j=>(L.flatten.getD (0+j) id0).c) L.flatten.length (some L.flatten.length)):=by
  generalize hF:L.flatten=F at *
  generalize hN:F.length=N at *
  refine Qr qu qX qa (A:=A16) (m:=0) (by kernel_rfl) (qe4 l1 (Qo l2)) ?_;rw[k80];refine qt (Q6 ⟨rfl,.refl _⟩) ?_;refine BT ?_;refine qt (Q6 ⟨rfl,.refl _⟩) ?_;rw[Nat.zero_add,QC (Nat.le_refl _)];rfl
 simp only[Nat.zero_add] at t;exact t
def b46(l:List Slo)(i:Nat):Blk:=⟨0,1,l.length,fun e=>[bif Nat.blt e i then idL (l.getD e sl0).l else .nils],false,false,none⟩
def e46(l:List Slo):Blk:=⟨0,1,l.length,fun e=>[idL (l.getD e sl0).l],false,false,none⟩
def qgT(l:List Slo)(c:Option Nat)(i:Nat):List T:=[.own 0 0 0 l.length (some l.length),slV l c,iI l.length,iI i]
noncomputable def K46(p:List T->T->Prop)(N:Nat)(f:Nat->Idd):Orc:=qp.add 80 (qI p fun _=>some (.fresh true 2 N (fun j=>(f j).c) N (some N)))
theorem i46(l:List Slo)(c:Option Nat)(i:Nat):QH P16 G16 A16 qp 0 46 [] 3 (qgT l c i) [b46 l i] =
(
 bif decide (ofNat i<ofNat l.length) then
 bif decide (0<=ofNat i)&&decide (ofNat i<ofNat l.length) then
 bif decide (0<=ofNat i)&&decide (ofNat i<ofNat l.length) then
 bif ((0:Nat)+i).blt l.length&&true&&true&&true then
 some ((.normal,[.own 0 0 0 l.length (some l.length),slV l c,iI (.ofNat l.length),iI (i64.wrap (ofNat i+1))],[.mk 0 1 l.length (fun e=>[bif e==0+i then idL (l.getD i (Slo.mk (0:Int) [])).l
 else
 bif e.blt i then idL (l.getD e (Slo.mk (0:Int) [])).l
 else .nils]) false false
 none]))
 else none else none else none else
 some ((.exit 0,[.own 0 0 0 l.length (some l.length)],[b46 l i]))):=by kernel_rfl
theorem k46(l:List Slo)(c:Option Nat)(N:Nat)(f:Nat->Idd)(p:List T->T->Prop):y6 P16 G16 A16 (K46 p N f) 0 46 [(3,Qs (qgT l c 0) [b46 l 0] (.exit 0) [.own 0 0 0 l.length (some l.length)] [e46 l])] [slV l c] =
(
 bif decide (0<=ofNat l.length)&&decide (ofNat l.length<=ofNat l.length)&&decide (ofNat l.length*24<=140737488355328)&&decide (ofNat l.length<=9223372036854775807) then
 bif ZO (qgT l c (nat_lit 0)) [.mk 0 1 l.length (fun x=>[.nils]) false false
 none] (qgT l c (nat_lit 0)) [.mk 0 1 l.length (fun e=>[.nils]) false false
 none] then
 bif qC (p [bif ((0:Nat)+l.length).ble l.length then .view 1 l.length (fun j=>[idL (l.getD ((0:Nat)+j) (Slo.mk (0:Int) [])).l]) (some l.length)
 else .undef] (.fresh true (2:Nat) N (fun j=>(f j).c) N (some N))) then
 some (bif ((0:Nat)+N).ble N then .fresh true (2:Nat) N (fun j=>(f ((0:Nat)+j)).c) N (some N)
 else .undef)
 else none else none else
 none):=by kernel_rfl
def hel(l:List Slo):List Idd:=(l.map Slo.l).flatten
theorem qkj(l:List Slo)(c:Option Nat)(h1:l.length<=1000000)(h2:(hel l).length<=1000000):ToldOk P16 G16 46 [slV l c] (.fresh true 2 (hel l).length (fun j=>((hel l).getD j id0).c) (hel l).length (some (hel l).length)):=by
 obtain⟨p,hp⟩:=qE P16 G16 80;have l1:LoopOk P16 G16 (A16 46) 46 3 (Qs (qgT l c 0) [b46 l 0] (.exit 0) [.own 0 0 0 l.length (some l.length)] [e46 l]):=by
  refine Ql qu (by kernel_rfl) (fun i=>qgT l c i) (fun i=>[b46 l i]) (n:=l.length) (fun i hi=>?_) ?_
  ·refine Step.mk0 (A:=A16) (m:=0) qa rfl rfl ql (h1:=[⟨0,1,l.length,fun e=>[bif e==(0:Nat)+i then idL (l.getD i sl0).l else bif e.blt i then idL (l.getD e sl0).l else T.nils],false,false,none⟩]) ?_ ?_
   ·rw[i46,up1 (by omega)];exact BT (BT (BT (BT rfl)))
   ·refine .cons ⟨rfl,rfl,rfl,id,fun j hj=>?_⟩ .nil;show [_]=[_];rw[Nat.zero_add];congr 1;by_cases q:j=i
    ·subst q;rw[beq_self_eq_true,QX (Nat.lt_succ_self j)];rfl
    ·rw[beq_eq_false_iff_ne.2 q];by_cases q2:j<i
     ·rw[QX q2,QX (show j<i+1 by omega)];rfl
     ·rw[show j.blt i=false from by rw[←Bool.not_eq_true,qis];omega,show j.blt (i+1)=false from by rw[←Bool.not_eq_true,qis];omega];rfl
  ·refine Last.mk0 (A:=A16) (m:=0) qa rfl rfl ql (h1:=[b46 l l.length]) (by simp) ?_ ?_
   ·rw[i46];exact BF rfl
   ·refine .cons ⟨rfl,rfl,rfl,id,fun j hj=>?_⟩ .nil;show [_]=[_];rw[QX (show j<l.length from hj)];rfl
 have t1:=qlT (l.map Slo.l) (some l.length) (by simpa using h1) h2;have t2:ToldOk P16 G16 80 [.view 1 l.length (fun j=>[idL (l.getD j sl0).l]) (some l.length)] (.fresh true 2 (hel l).length (fun j=>((hel l).getD j id0).c) (hel l).length (some (hel l).length)):=by
  refine t1.sim (.cons ?_ .nil);unfold ptV;rw[List.length_map];refine .view (.inl rfl) fun j hj=>?_;have e:(l.map Slo.l).getD j []=(l.getD j sl0).l:=by
   simp only[List.getD_eq_getElem?_getD,List.getElem?_map,List.getElem?_eq_getElem hj];rfl
  rw[e];exact .refl _
 have t:ToldOk P16 G16 46 [slV l c] (.fresh true 2 (hel l).length (fun j=>((hel l).getD (0+j) id0).c) (hel l).length (some (hel l).length)):=by
  refine Qr qu qX (qv qa (qr hp)) (K:=K46 p (hel l).length (fun j=>(hel l).getD j id0)) (A:=A16) (m:=0) (by kernel_rfl) (Qo l1) ?_;rw[k46];refine BT ?_;refine qt (Q6 ⟨rfl,.cons ⟨rfl,rfl,rfl,id,fun j _=>rfl⟩ .nil⟩) ?_;refine qt ?_ ?_
  ·rw[Nat.zero_add,QC (Nat.le_refl _),cond_true];simp only[Nat.zero_add];exact Qy hp t2
  ·rw[Nat.zero_add,QC (Nat.le_refl _)];rfl
 simp only[Nat.zero_add] at t;exact t
section
variable {b r:Int} {l:List Idd} {o:List Pss} {v i k:Nat}
end
end Go.Ab

