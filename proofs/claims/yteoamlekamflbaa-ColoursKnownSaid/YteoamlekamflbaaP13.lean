/- A part of the proof: nothing is assumed. -/
import Derived.Test.YteoamlekamflbaaP11
import Derived.Test.YteoamlekamflbaaP12
set_option linter.all false
namespace Go.Ab
open IntKind(i64 u8)
open Int(ofNat)
open Go.Proofs
structure IR where
 wd:Int
 m:Nat
 ln:Nat->Nat
 x:Nat->Nat->Int
def IR.rows(D:IR)(c:Option Nat):T:=.view 1 D.m (fun i=>[qB (D.x i) (D.ln i) none]) c
def IR.w(D:IR):Nat:=1+(D.wd%10).toNat
def qf0(v:Int):Int:=if v<64 then 1 else if v<128 then 1 else if v<192 then 2 else 5
def qf1(v:Int):Int:=if v<64 then 2 else if v<128 then 3 else if v<192 then 3 else 4
def IR.pA(D:IR)(i:Nat):Int:=if i<D.m/\0<D.ln i then qf0 (D.x i 0) else 1
def IR.pB(D:IR)(i:Nat):Int:=if i<D.m/\0<D.ln i then qf1 (D.x i 0) else 2
def IR.r(D:IR)(i k:Nat):Int:=if i<D.m/\k<D.ln i then(if D.x i k%2=0 then D.pA i else D.pB i) else D.pA i
def pcG(R:Nat->Nat->Int)(ln:Nat->Nat)(rc:Nat->Option Nat)(j:Nat):List T:=[.view 1 (ln j) (fun e=>[uI (R j e)]) (rc j)]
def pcB(v m:Nat)(R:Nat->Nat->Int)(ln:Nat->Nat)(rc:Nat->Option Nat):Blk:=⟨v,1,m,pcG R ln rc,false,false,none⟩
def rbk(n:Nat)(x:Nat->Int):Blk:=⟨0,1,n,fun j=>[uI (x j)],true,false,none⟩
def pO(j:Nat):T:=.own 0 j 0 (j+1) none
def o6(D:IR)(w n:Int)(v j i:Nat):List T:=[.reg [uI D.wd,D.rows none],iI w,iI n,.own 0 v 0 j none,iI (ofNat i)]
def o7(D:IR)(w n:Int)(v j i:Nat)(a b:Int):List T:=[.reg [uI D.wd,D.rows none],iI w,iI n,.own 0 v 0 j none,iI (ofNat i),.reg [uI a,uI b]]
def o9(D:IR)(w:Nat)(n:Int)(v j i:Nat)(a b:Int)(k:Nat):List T:=[.reg [uI D.wd,D.rows none],iI (ofNat w),iI n,.own 0 v 0 j none,iI (ofNat i),.reg [uI a,uI b],.own 1 0 0 w (some w),iI (ofNat k)]
def qju:Blk:=⟨0,2,4,fun j=>[[uI 1,uI 2],[uI 1,uI 3],[uI 2,uI 3],[uI 5,uI 4]].getD j [],true,true,none⟩
structure IR.Ok(D:IR):Prop where
 wd:0<=D.wd/\D.wd<256
 x:∀i k,0<=D.x i k/\D.x i k<256
theorem qn4(D:IR):qy P18 G18 A18 qk 0 13 [] (nav [1]) [0] [.agg [uI D.wd,D.rows none]] [] [1] =
( zN [.reg [uI D.wd,D.rows
 none]] []):=by kernel_rfl
theorem qn5(D:IR):qy P18 G18 A18 qk 0 13 [] (nav [1,2]) [1] [.reg [uI D.wd,D.rows none]] [] [1,3] =
( zN [.reg [uI D.wd,D.rows
 none],iI (i64.wrap (1+i64.wrap (D.wd.tmod 10)))] []):=by kernel_rfl
theorem qn6(D:IR)(w:Int):qy P18 G18 A18 qk 0 13 [] (nav [1,2,2]) [1,3] [.reg [uI D.wd,D.rows none],iI w] [] [1,3,4] =
( zN [.reg [uI D.wd,D.rows
 none],iI w,iI (bif decide (9<ofNat D.m) then(9:Int)
 else ofNat D.m)] []):=by kernel_rfl
theorem qn7(D:IR)(w n:Int):qy P18 G18 A18 qk 0 13 [] (nav [1,2,2,2]) [1,3,4] [.reg [uI D.wd,D.rows none],iI w,iI n] [] [1,3,4] =
( bif decide (n.tmod 2=0) then zN [.reg [uI D.wd,D.rows
 none],iI w,iI (i64.wrap (n+1))] [] else
 zN [.reg [uI D.wd,D.rows
 none],iI w,iI n] []):=by kernel_rfl
theorem qn8(D:IR)(w n:Int):qy P18 G18 A18 qk 0 13 [] (nav [1,2,2,2,2]) [1,3,4] [.reg [uI D.wd,D.rows none],iI w,iI n] [] [1,3,4,5] =
( zN [.reg [uI D.wd,D.rows
 none],iI w,iI n,.nils] []):=by kernel_rfl
theorem qn9(D:IR)(w n:Int)(v j:Nat)(R:Nat->Nat->Int)(ln:Nat->Nat)(rc:Nat->Option Nat):qy P18 G18 A18 qk 0 13 [] (nav [1,1,2,2,2,2,2]) [1,3,4,5] [.reg [uI D.wd,D.rows none],iI w,iI n,.own 0 v 0 j none] [pcB v j R ln rc] [1,3,4,5,6] =
( zN (o6 D w n v j (nat_lit 0)) [pcB v j R ln rc]):=by kernel_rfl
theorem qms(D:IR)(w n:Int)(i v j:Nat)(R:Nat->Nat->Int)(ln:Nat->Nat)(rc:Nat->Option Nat):qy P18 G18 A18 qk 0 13 [] (nav [1,0,0,2,1,2,2,2,2,2]) [1,3,4,5,6] (o6 D w n v j i) [pcB v j R ln rc] [1,3,4,5,6] =
( bif decide (ofNat i<n) then zN (o6 D w n v j i) [pcB v j R ln rc] else
 zX 0 (o6 D w n v j i) [pcB v j R ln rc]):=by kernel_rfl
theorem qoa(D:IR)(w n:Int)(i v j:Nat)(R:Nat->Nat->Int)(ln:Nat->Nat)(rc:Nat->Option Nat):qy P18 G18 A18 qk 0 13 [] (nav [1,0,1,2,0,0,2,1,2,2,2,2,2]) [1,3,4,5,6] (o6 D w n v j i) [pcB v j R ln rc] [1,3,4,5,6,7] =
( zN (o7 D w n v j i (1:Int) (2:Int)) [pcB v j R ln rc]):=by kernel_rfl
theorem qob(D:IR)(w n:Int)(i v j:Nat)(R:Nat->Nat->Int)(ln:Nat->Nat)(rc:Nat->Option Nat)(a b:Int):qy P18 G18 A18 qk 0 13 [] (nav [1,1,2,0,1,2,0,0,2,1,2,2,2,2,2]) [1,3,4,5,6,7] (o7 D w n v j i a b) [pcB v j R ln rc] [1,3,4,5,6,7,43] =
( bif decide (ofNat i<ofNat D.m) then gD (decide (0<=ofNat i)&&decide (ofNat i<ofNat D.m))<|bif decide (0<ofNat (D.ln i)) then zN [.reg [uI D.wd,D.rows
 none],iI w,iI n,.own 0 v 0 j
 none,iI (.ofNat i),.reg [uI a,uI b],.bool true] [pcB v j R ln rc] else
 zN [.reg [uI D.wd,D.rows
 none],iI w,iI n,.own 0 v 0 j
 none,iI (.ofNat i),.reg [uI a,uI b],.bool false] [pcB v j R ln rc] else
 zN [.reg [uI D.wd,D.rows
 none],iI w,iI n,.own 0 v 0 j
 none,iI (.ofNat i),.reg [uI a,uI b],.bool false] [pcB v j R ln rc]):=by kernel_rfl
theorem qmt(D:IR)(w n:Int)(i v j:Nat)(R:Nat->Nat->Int)(ln:Nat->Nat)(rc:Nat->Option Nat)(a b:Int):qy P18 G18 A18 qk 0 13 [] (nav [2,1,2,0,1,2,0,0,2,1,2,2,2,2,2]) [1,3,4,5,6,7,43] [.reg [uI D.wd,D.rows none],iI w,iI n,.own 0 v 0 j none,iI (i:Nat),.reg [uI a,uI b],.bool true] [pcB v j R ln rc] [1,3,4,5,6,7] =
( gD (decide (0<=ofNat i)&&decide (ofNat i<ofNat D.m))<|gD (decide (0<ofNat (D.ln i)))<|gD (decide (0<=u8.wrap ((D.x i (0:Nat)).tdiv 64))&&decide (u8.wrap ((D.x i (0:Nat)).tdiv 64)<(4:Int)))<|bif (0:Nat)+(u8.wrap ((D.x i (0:Nat)).tdiv (64:Int))).toNat==(3:Nat) then zN (o7 D w n v j i (5:Int) (4:Int)) [pcB v j R ln rc,qju] else
 bif (0:Nat)+(u8.wrap ((D.x i (0:Nat)).tdiv (64:Int))).toNat==(2:Nat) then zN (o7 D w n v j i (2:Int) (3:Int)) [pcB v j R ln rc,qju] else
 bif (0:Nat)+(u8.wrap ((D.x i (0:Nat)).tdiv (64:Int))).toNat==(1:Nat) then zN (o7 D w n v j i (1:Int) (3:Int)) [pcB v j R ln rc,qju] else
 zN (o7 D w n v j i (1:Int) (2:Int)) [pcB v j R ln rc,qju]):=by kernel_rfl
theorem qmu(D:IR)(w n:Int)(i v j:Nat)(R:Nat->Nat->Int)(ln:Nat->Nat)(rc:Nat->Option Nat)(a b:Int):qy P18 G18 A18 qk 0 13 [] (nav [2,1,2,0,1,2,0,0,2,1,2,2,2,2,2]) [1,3,4,5,6,7,43] [.reg [uI D.wd,D.rows none],iI w,iI n,.own 0 v 0 j none,iI (i:Nat),.reg [uI a,uI b],.bool false] [pcB v j R ln rc] [1,3,4,5,6,7] =
( zN (o7 D w n v j i a b) [pcB v j R ln rc]):=by kernel_rfl
theorem qoc(D:IR)(w:Nat)(n:Int)(i v j:Nat)(R:Nat->Nat->Int)(ln:Nat->Nat)(rc:Nat->Option Nat)(a b:Int):qy P18 G18 A18 qk 0 13 [] (nav [1,2,2,0,1,2,0,0,2,1,2,2,2,2,2]) [1,3,4,5,6,7] (o7 D w n v j i a b) [pcB v j R ln rc] [1,3,4,5,6,7,8] =
( gD (decide (0<=ofNat w)&&decide (ofNat w<=ofNat w)&&decide (ofNat w*1<=140737488355328)&&decide (ofNat w<=9223372036854775807))<|zN [.reg [uI D.wd,D.rows
 none],iI (.ofNat w),iI n,.own 0 v 0 j
 none,iI (.ofNat i),.reg [uI a,uI b],.own 1 0 0 w (some w)] [pcB v j R ln rc,rbk w fun j=>(0:Int)]):=by kernel_rfl
theorem qod(D:IR)(w:Nat)(n:Int)(i v j:Nat)(R:Nat->Nat->Int)(ln:Nat->Nat)(rc:Nat->Option Nat)(a b:Int)(x:Nat->Int):qy P18 G18 A18 qk 0 13 [] (nav [1,1,2,2,2,0,1,2,0,0,2,1,2,2,2,2,2]) [1,3,4,5,6,7,8] [.reg [uI D.wd,D.rows none],iI (w:Nat),iI n,.own 0 v 0 j none,iI (i:Nat),.reg [uI a,uI b],.own 1 0 0 w (some w)] [pcB v j R ln rc,rbk w x] [1,3,4,5,6,7,8,9] =
( zN (o9 D w n v j i a b (nat_lit 0)) [pcB v j R ln rc,rbk w x]):=by kernel_rfl
theorem qmv(D:IR)(w:Nat)(n:Int)(i v j:Nat)(R:Nat->Nat->Int)(ln:Nat->Nat)(rc:Nat->Option Nat)(a b:Int)(x:Nat->Int)(k:Nat):qy P18 G18 A18 qk 0 13 [] (nav [1,0,0,2,1,2,2,2,0,1,2,0,0,2,1,2,2,2,2,2]) [1,3,4,5,6,7,8,9] (o9 D w n v j i a b k) [pcB v j R ln rc,rbk w x] [1,3,4,5,6,7,8,9] =
( bif decide (ofNat k<ofNat w) then zN (o9 D w n v j i a b k) [pcB v j R ln rc,rbk w x] else
 zX 2 (o9 D w n v j i a b k) [pcB v j R ln rc,rbk w x]):=by kernel_rfl
theorem qoe(D:IR)(w:Nat)(n:Int)(i v j:Nat)(R:Nat->Nat->Int)(ln:Nat->Nat)(rc:Nat->Option Nat)(a b:Int)(x:Nat->Int)(k:Nat):qy P18 G18 A18 qk 0 13 [] (nav [1,0,1,2,0,0,2,1,2,2,2,0,1,2,0,0,2,1,2,2,2,2,2]) [1,3,4,5,6,7,8,9] (o9 D w n v j i a b k) [pcB v j R ln rc,rbk w x] [1,3,4,5,6,7,8,9] =
( gD (decide (0<=ofNat k)&&decide (ofNat k<ofNat w))<|gD (((0:Nat)+k).blt w&&true&&true&&true)<|zN (o9 D w n v j i a b k) [pcB v j R ln rc,rbk w fun j =>
 bif j==0+k then a
 else x j]):=by kernel_rfl
theorem qof(D:IR)(w:Nat)(n:Int)(i v j:Nat)(R:Nat->Nat->Int)(ln:Nat->Nat)(rc:Nat->Option Nat)(a b:Int)(x:Nat->Int)(k:Nat):qy P18 G18 A18 qk 0 13 [] (nav [1,2,0,1,2,0,0,2,1,2,2,2,0,1,2,0,0,2,1,2,2,2,2,2]) [1,3,4,5,6,7,8,9] (o9 D w n v j i a b k) [pcB v j R ln rc,rbk w x] [1,3,4,5,6,7,8,9,85] =
( bif decide (ofNat i<ofNat D.m) then gD (decide (0<=ofNat i)&&decide (ofNat i<ofNat D.m))<|bif decide (ofNat k<ofNat (D.ln i)) then zN [.reg [uI D.wd,D.rows
 none],iI (.ofNat w),iI n,.own 0 v 0 j
 none,iI (.ofNat i),.reg [uI a,uI b],.own 1 0 0 w (some w),iI (.ofNat k),.bool true] [pcB v j R ln rc,rbk w x] else
 zN [.reg [uI D.wd,D.rows
 none],iI (.ofNat w),iI n,.own 0 v 0 j
 none,iI (.ofNat i),.reg [uI a,uI b],.own 1 0 0 w (some w),iI (.ofNat k),.bool false] [pcB v j R ln rc,rbk w x] else
 zN [.reg [uI D.wd,D.rows
 none],iI (.ofNat w),iI n,.own 0 v 0 j
 none,iI (.ofNat i),.reg [uI a,uI b],.own 1 0 0 w (some w),iI (.ofNat k),.bool false] [pcB v j R ln rc,rbk w x]):=by kernel_rfl
theorem qmw(D:IR)(w:Nat)(n:Int)(i v j:Nat)(R:Nat->Nat->Int)(ln:Nat->Nat)(rc:Nat->Option Nat)(a b:Int)(x:Nat->Int)(k:Nat):qy P18 G18 A18 qk 0 13 [] (nav [2,2,0,1,2,0,0,2,1,2,2,2,0,1,2,0,0,2,1,2,2,2,2,2]) [1,3,4,5,6,7,8,9,85] [.reg [uI D.wd,D.rows none],iI (w:Nat),iI n,.own 0 v 0 j none,iI (i:Nat),.reg [uI a,uI b],.own 1 0 0 w (some w),iI (k:Nat),.bool true] [pcB v j R ln rc,rbk w x] [1,3,4,5,6,7,8,9] =
( gD (decide (0<=ofNat i)&&decide (ofNat i<ofNat D.m))<|gD (decide (0<=ofNat k)&&decide (ofNat k<ofNat (D.ln i)))<|gD (decide ((0:Int)<=(D.x i k).tmod 2)&&decide ((D.x i k).tmod 2<2))<|bif ((D.x i k).tmod (2:Int)).toNat==(1:Nat) then gD (decide (0<=ofNat k)&&decide (ofNat k<ofNat w))<|gD (((0:Nat)+k).blt w&&true&&true&&true)<|zN (o9 D w n v j i a b k) [pcB v j R ln rc,rbk w fun j =>
 bif j==0+k then b
 else x j] else
 gD (decide (0<=ofNat k)&&decide (ofNat k<ofNat w))<|gD (((0:Nat)+k).blt w&&true&&true&&true)<|zN (o9 D w n v j i a b k) [pcB v j R ln rc,rbk w fun j =>
 bif j==0+k then a
 else x j]):=by kernel_rfl
theorem qmx(D:IR)(w:Nat)(n:Int)(i v j:Nat)(R:Nat->Nat->Int)(ln:Nat->Nat)(rc:Nat->Option Nat)(a b:Int)(x:Nat->Int)(k:Nat):qy P18 G18 A18 qk 0 13 [] (nav [2,2,0,1,2,0,0,2,1,2,2,2,0,1,2,0,0,2,1,2,2,2,2,2]) [1,3,4,5,6,7,8,9,85] [.reg [uI D.wd,D.rows none],iI (w:Nat),iI n,.own 0 v 0 j none,iI (i:Nat),.reg [uI a,uI b],.own 1 0 0 w (some w),iI (k:Nat),.bool false] [pcB v j R ln rc,rbk w x] [1,3,4,5,6,7,8,9] =
( zN (o9 D w n v j i a b k) [pcB v j R ln rc,rbk w x]):=by kernel_rfl
theorem qog(D:IR)(w:Nat)(n:Int)(i v j:Nat)(R:Nat->Nat->Int)(ln:Nat->Nat)(rc:Nat->Option Nat)(a b:Int)(x:Nat->Int)(k:Nat):qy P18 G18 A18 qk 0 13 [] (nav [2,2,0,0,2,1,2,2,2,0,1,2,0,0,2,1,2,2,2,2,2]) [1,3,4,5,6,7,8,9] (o9 D w n v j i a b k) [pcB v j R ln rc,rbk w x] [1,3,4,5,6,7,8,9] =
( zN [.reg [uI D.wd,D.rows
 none],iI (.ofNat w),iI n,.own 0 v 0 j
 none,iI (.ofNat i),.reg [uI a,uI b],.own 1 0 0 w (some w),iI (i64.wrap (ofNat k+1))] [pcB v j R ln rc,rbk w x]):=by kernel_rfl
theorem qoh(D:IR)(w:Nat)(n:Int)(i v j:Nat)(R:Nat->Nat->Int)(ln:Nat->Nat)(rc:Nat->Option Nat)(x:Nat->Int):qy P18 G18 A18 qk 0 13 [] (nav [2,2,2,2,0,1,2,0,0,2,1,2,2,2,2,2]) [1,3,4,5,6,8] [.reg [uI D.wd,D.rows none],iI (w:Nat),iI n,.own 0 v 0 j none,iI (i:Nat),.view 1 w (fun e=>[uI (x e)]) (some w)] [pcB v j R ln rc] [1,3,4,5,6] =
( gD (v==v&&true)<|gD (((0:Nat)+j).ble j)<|gD (((j+(1:Nat))*(25:Nat)).ble 70368744177664)<|bif ((0:Nat)+j+(1:Nat)).ble j then zN (o6 D (ofNat w) n v (j+1) i) [.mk v 1 j (fun j_1 =>
 bif ((0:Nat)+j).ble j_1&&j_1.blt (0+j+1) then [[zn w x]].getD ((0:Nat)+(j_1-(0+j))) []
 else pcG R ln rc j_1) false false
 none,.mk 0 1 1 (fun j=>[[zn w x]].getD j []) false true
 none] else
 zN (o6 D (ofNat w) n (v+1) (j+1) i) [.mk (v+1) (1:Nat) (j+1) (fun j_1 =>
 bif j_1.blt j then pcG R ln rc (0+j_1)
 else [[zn w x]].getD ((0:Nat)+(j_1-j)) []) false false
 none,.mk 0 1 1 (fun j=>[[zn w x]].getD j []) false true
 none]):=by kernel_rfl
theorem qoi(D:IR)(w n:Int)(i v j:Nat)(R:Nat->Nat->Int)(ln:Nat->Nat)(rc:Nat->Option Nat):qy P18 G18 A18 qk 0 13 [] (nav [2,2,0,0,2,1,2,2,2,2,2]) [1,3,4,5,6] (o6 D w n v j i) [pcB v j R ln rc] [1,3,4,5,6] =
( zN [.reg [uI D.wd,D.rows
 none],iI w,iI n,.own 0 v 0 j
 none,iI (i64.wrap (ofNat i+1))] [pcB v j R ln rc]):=by kernel_rfl
theorem qoj(v j:Nat)(R:Nat->Nat->Int)(ln:Nat->Nat)(rc:Nat->Option Nat):qy P18 G18 A18 qk 0 13 [] (nav [2,2,2,2,2,2]) [5] [.own 0 v 0 j none] [pcB v j R ln rc] [2] =
( zR [.own 0 v 0 j
 none] [pcB v j R ln rc]):=by kernel_rfl
theorem qok(n:Nat)(R:Nat->Nat->Int)(ln:Nat->Nat)(rc:Nat->Option Nat):jE P18 G18 (A18 13).prom Try.f13 (qM [2] [.own 0 n 0 n none] [pcB n n R ln rc]) (fun v=>some (jC [pcB n n R ln rc] v)) =
( some (bif n==n&&((0:Nat)+n).ble n then .fresh false (1:Nat) n (fun j=>pcG R ln rc (0+j)) n none else .undef)):=by kernel_rfl
def IR.n(D:IR):Nat:=if min D.m 9%2=0 then min D.m 9+1 else min D.m 9
theorem IR.n_bd(D:IR):1<=D.n/\D.n<=9/\D.n%2=1:=by
 unfold IR.n;split<;>omega
def xF(f:Nat->Int)(k e:Nat):Int:=if e<k then f e else 0
theorem qmy(D:IR)(w:Nat)(n:Int)(v i:Nat)(R:Nat->Nat->Int)(ln:Nat->Nat)(rc:Nat->Option Nat)(hx:∀k,0<=D.x i k/\D.x i k<256)(hw:w<=1000) :
 Pz P18 G18 A18 13 [] [0,2,1,2,2,2,0,1,2,0,0,2,1,2,2,2,2,2] [1,3,4,5,6,7,8,9] (o9 D w n v i i (D.pA i) (D.pB i) 0) [pcB v i R ln rc,rbk w (xF (D.r i) 0)] (.exit 2) [1,3,4,5,6,7,8,9] (o9 D w n v i i (D.pA i) (D.pB i) w) [pcB v i R ln rc,rbk w (xF (D.r i) w)]:=by
 have key:∀k a b,a=D.pA i->b=D.pB i->k<w->Pz P18 G18 A18 13 [] [0,1,2,0,0,2,1,2,2,2,0,1,2,0,0,2,1,2,2,2,2,2] [1,3,4,5,6,7,8,9] (o9 D w n v i i a b k) [pcB v i R ln rc,rbk w (xF (D.r i) k)] .normal [1,3,4,5,6,7,8,9] (o9 D w n v i i a b k) [pcB v i R ln rc,rbk w (xF (D.r i) (k+1))]:=by
  intro k a b ha hb hk;have c1:(decide ((0:Int)<=ofNat k)&&decide (ofNat k<ofNat w))=true:=by simp;omega
  have c2:(Nat.blt (0+k) w&&true&&true&&true)=true:=by rw[Qy (by omega)];rfl
  have pN:=Pz.run qv qf (m:=0) (p:=[1,0,1,2,0,0,2,1,2,2,2,0,1,2,0,0,2,1,2,2,2,2,2]) (A:=A18) (f:=13) (h0:=[]) (by kernel_rfl) qh ((qoe D w n i v i R ln rc a b (xF (D.r i) k) k).trans (qm c1 (qm c2 rfl)));have hO:=qof D w n i v i R ln rc a b (fun j=>bif j==0+k then a else xF (D.r i) k j) k;have fin:∀y:Nat->Int,(∀j,j<w->y j=xF (D.r i) (k+1) j)->∀nt,WeakTo G18 (A18 13).prom nt [1,3,4,5,6,7,8,9] 0 (o9 D w n v i i a b k) [pcB v i R ln rc,rbk w y] (o9 D w n v i i a b k) [pcB v i R ln rc,rbk w (xF (D.r i) (k+1))]:=fun y hy nt =>
   .same (.cons ⟨rfl,rfl,rfl,id,fun _ _=>rfl⟩ (.cons ⟨rfl,rfl,rfl,id,fun j hj=>by show [uI _]=[uI _];rw[hy j hj]⟩ .nil))
  have st:∀(y:Nat->Int) (z:Int),D.r i k=z->(∀j,y j=if j=k then z else xF (D.r i) k j)->∀j,j<w->y j=xF (D.r i) (k+1) j:=by
   intro y z hz hy j _;rw[hy j];unfold xF;by_cases q:j=k
   ·rw[if_pos q,if_pos (by omega),q,hz]
   ·rw[if_neg q];by_cases q2:j<k
    ·rw[if_pos q2,if_pos (by omega)]
    ·rw[if_neg q2,if_neg (by omega)]
  have hoff:¬(i<D.m/\k<D.ln i)->qy P18 G18 A18 qk 0 13 [] (nav [1,2,0,1,2,0,0,2,1,2,2,2,0,1,2,0,0,2,1,2,2,2,2,2]) [1,3,4,5,6,7,8,9] (o9 D w n v i i a b k) [pcB v i R ln rc,rbk w fun j=>bif j==0+k then a else xF (D.r i) k j] [1,3,4,5,6,7,8,9,85]=some (.normal,o9 D w n v i i a b k++[.bool false],[pcB v i R ln rc,rbk w fun j=>bif j==0+k then a else xF (D.r i) k j]):=by
   intro hc;by_cases q:i<D.m
   ·exact hO.trans (qm (by simpa using q) (qm (by simpa using q) (qZ (by simp;omega) rfl)))
   ·exact hO.trans (qZ (by simpa using q) rfl)
  by_cases hc:i<D.m/\k<D.ln i
  ·have pO:=Pz.run qv qf (m:=0) (p:=[1,2,0,1,2,0,0,2,1,2,2,2,0,1,2,0,0,2,1,2,2,2,2,2]) (A:=A18) (f:=13) (h0:=[]) (by kernel_rfl) qh (hO.trans (qm (by simpa using hc.1) (qm (by simpa using hc.1) (qm (by simpa using hc.2) rfl))));have hP:=qmw D w n i v i R ln rc a b (fun j=>bif j==0+k then a else xF (D.r i) k j) k;have et:(D.x i k).tmod 2=D.x i k%2:=Int.tmod_eq_emod_of_nonneg (hx k).1;rw[et] at hP;have hP:=hP.trans (qm (by simpa using hc.1) (qm (by simpa using hc.2) (qm (by simp;omega) rfl)));rcases (by omega:D.x i k%2=0∨D.x i k%2=1) with q|q
   ·have hr:D.r i k=a:=by unfold IR.r;rw[if_pos hc,if_pos q,ha]
    exact Pz.seq (by kernel_rfl) pN (Pz.seq (by kernel_rfl) pO (Pz.post (Pz.run qv qf (m:=0) (by kernel_rfl) qh (hP.trans (qZ (by rw[q];decide) (qm c1 (qm c2 rfl))))) (fin _ (st _ a hr fun j=>by
     rw[Nat.zero_add];by_cases e:j=k
     ·rw[show(j==k)=true by simpa using e,cond_true,if_pos e]
     ·rw[show(j==k)=false by simpa using e,cond_false,cond_false,if_neg e]))))
   ·have hr:D.r i k=b:=by unfold IR.r;rw[if_pos hc,if_neg (by omega),hb]
    exact Pz.seq (by kernel_rfl) pN (Pz.seq (by kernel_rfl) pO (Pz.post (Pz.run qv qf (m:=0) (by kernel_rfl) qh (hP.trans (qm (by rw[q];decide) (qm c1 (qm c2 rfl))))) (fin _ (st _ b hr fun j=>by
     rw[Nat.zero_add];by_cases e:j=k
     ·rw[show(j==k)=true by simpa using e,cond_true,if_pos e]
     ·rw[show(j==k)=false by simpa using e,cond_false,cond_false,if_neg e]))))
  ·have hr:D.r i k=a:=by unfold IR.r;rw[if_neg hc,ha]
   exact Pz.seq (by kernel_rfl) pN (Pz.seq (by kernel_rfl) (Pz.run qv qf (m:=0) (by kernel_rfl) qh (hoff hc)) (Pz.post (Pz.run qv qf (m:=0) (by kernel_rfl) qh (qmx D w n i v i R ln rc a b (fun j=>bif j==0+k then a else xF (D.r i) k j) k)) (fin _ (st _ a hr fun j=>by
    rw[Nat.zero_add];by_cases e:j=k
    ·rw[show(j==k)=true by simpa using e,cond_true,if_pos e]
    ·rw[show(j==k)=false by simpa using e,cond_false,if_neg e]))))
 refine Pz.count (by kernel_rfl) (fun k=>o9 D w n v i i (D.pA i) (D.pB i) k) (fun k=>[pcB v i R ln rc,rbk w (xF (D.r i) k)]) (n:=w) (by simp) (fun k hk=>?_) ?_
 ·have hk:k<w:=hk;have pM:=Pz.run qv qf (m:=0) (p:=[1,0,0,2,1,2,2,2,0,1,2,0,0,2,1,2,2,2,2,2]) (A:=A18) (f:=13) (h0:=[]) (by kernel_rfl) qh ((qmv D w n i v i R ln rc (D.pA i) (D.pB i) (xF (D.r i) k) k).trans (qm (by simp;omega) rfl));have hq:=qog D w n i v i R ln rc (D.pA i) (D.pB i) (xF (D.r i) (k+1)) k;rw[up1 (by omega)] at hq;exact Pz.seq (by kernel_rfl) pM (Pz.seq (by kernel_rfl) (Pz.blk (id:=3) (e:=.normal) (by kernel_rfl) rfl (key k _ _ rfl rfl hk)) (Pz.run qv qf (m:=0) (by kernel_rfl) qh hq))
 ·exact Pz.seqX (by kernel_rfl) (by simp) (Pz.run qv qf (m:=0) (by kernel_rfl) qh ((qmv D w n i v i R ln rc (D.pA i) (D.pB i) (xF (D.r i) w) w).trans (qZ (by simp) rfl)))
theorem qlv{v:Int}(h:0<=v/\v<256):∃t:Nat,t<4/\u8.wrap (v.tdiv 64)=(t:Int)/\(qf0 v,qf1 v)=[((1:Int),(2:Int)),(1,3),(2,3),(5,4)].getD t (0,0):=by
 have e:v.tdiv 64=v/64:=Int.tdiv_eq_ediv_of_nonneg h.1;rw[e,wr8 (by omega) (by omega)];unfold qf0 qf1;by_cases h1:v<64
 ·refine⟨0,by omega,by omega,?_⟩;rw[if_pos h1,if_pos h1];rfl
 ·rw[if_neg h1,if_neg h1];by_cases h2:v<128
  ·refine⟨1,by omega,by omega,?_⟩;rw[if_pos h2,if_pos h2];rfl
  ·rw[if_neg h2,if_neg h2];by_cases h3:v<192
   ·refine⟨2,by omega,by omega,?_⟩;rw[if_pos h3,if_pos h3];rfl
   ·refine⟨3,by omega,by omega,?_⟩;rw[if_neg h3,if_neg h3];rfl
theorem qlw(D:IR)(w n:Int)(v i:Nat)(R:Nat->Nat->Int)(ln:Nat->Nat)(rc:Nat->Option Nat)(hx:∀k,0<=D.x i k/\D.x i k<256) :
 Pz P18 G18 A18 13 [] [1,2,0,1,2,0,0,2,1,2,2,2,2,2] [1,3,4,5,6,7] (o7 D w n v i i 1 2) [pcB v i R ln rc] .normal [1,3,4,5,6,7] (o7 D w n v i i (D.pA i) (D.pB i)) [pcB v i R ln rc]:=by
 have hI:=qob D w n i v i R ln rc 1 2;have no:¬(i<D.m/\0<D.ln i)->Pz P18 G18 A18 13 [] [1,1,2,0,1,2,0,0,2,1,2,2,2,2,2] [1,3,4,5,6,7] (o7 D w n v i i 1 2) [pcB v i R ln rc] .normal [1,3,4,5,6,7,43] (o7 D w n v i i 1 2++[.bool false]) [pcB v i R ln rc]:=by
  intro hc;by_cases q:i<D.m
  ·exact Pz.run qv qf (m:=0) (by kernel_rfl) qh (hI.trans (qm (by simpa using q) (qm (by simpa using q) (qZ (by simp;omega) rfl))))
  ·exact Pz.run qv qf (m:=0) (by kernel_rfl) qh (hI.trans (qZ (by simpa using q) rfl))
 by_cases hc:i<D.m/\0<D.ln i
 ·have pI:=Pz.run qv qf (m:=0) (p:=[1,1,2,0,1,2,0,0,2,1,2,2,2,2,2]) (A:=A18) (f:=13) (h0:=[]) (by kernel_rfl) qh (hI.trans (qm (by simpa using hc.1) (qm (by simpa using hc.1) (qm (by simpa using hc.2) rfl))));obtain⟨t,ht,e1,e2⟩:=qlv (hx 0);have hJ:=qmt D w n i v i R ln rc 1 2;rw[e1] at hJ;have hA:D.pA i=qf0 (D.x i 0):=by unfold IR.pA;rw[if_pos hc]
  have hB:D.pB i=qf1 (D.x i 0):=by unfold IR.pB;rw[if_pos hc]
  have e3:D.pA i=([((1:Int),(2:Int)),(1,3),(2,3),(5,4)].getD t (0,0)).1:=by rw[hA,←e2]
  have e4:D.pB i=([((1:Int),(2:Int)),(1,3),(2,3),(5,4)].getD t (0,0)).2:=by rw[hB,←e2]
  rw[e3,e4];have hJ:=hJ.trans (qm (by simpa using hc.1) (qm (by simpa using hc.2) (qm (by simp;omega) rfl)));refine Pz.seq (by kernel_rfl) pI (Pz.post (v1:=o7 D w n v i i ([((1:Int),(2:Int)),(1,3),(2,3),(5,4)].getD t (0,0)).1 ([((1:Int),(2:Int)),(1,3),(2,3),(5,4)].getD t (0,0)).2) (h1:=[pcB v i R ln rc,qju]) (Pz.run qv qf (m:=0) (by kernel_rfl) qh ?_) fun nt=>.canonS [0] rfl rfl rfl (.cons ⟨rfl,rfl,rfl,id,fun _ _=>rfl⟩ .nil));obtain rfl|rfl|rfl|rfl:t=0∨t=1∨t=2∨t=3:=by omega
  ·exact hJ.trans (qZ (by decide) (qZ (by decide) (qZ (by decide) rfl)))
  ·exact hJ.trans (qZ (by decide) (qZ (by decide) (qm (by decide) rfl)))
  ·exact hJ.trans (qZ (by decide) (qm (by decide) rfl))
  ·exact hJ.trans (qm (by decide) rfl)
 ·have hA:D.pA i=1:=by unfold IR.pA;rw[if_neg hc]
  have hB:D.pB i=2:=by unfold IR.pB;rw[if_neg hc]
  rw[hA,hB];exact Pz.seq (by kernel_rfl) (no hc) (Pz.run qv qf (m:=0) (by kernel_rfl) qh (qmu D w n i v i R ln rc 1 2))
theorem qlx(D:IR)(w n:Nat)(hD:D.Ok)(hw:w<=1000)(hn:n<=9) :
 Pz P18 G18 A18 13 [] [0,2,1,2,2,2,2,2] [1,3,4,5,6] (o6 D w n 0 0 0) [pcB 0 0 D.r (fun _=>w) (fun _=>some w)] (.exit 0) [1,3,4,5,6] (o6 D w n n n n) [pcB n n D.r (fun _=>w) (fun _=>some w)]:=by
 refine Pz.count (by kernel_rfl) (fun i=>o6 D w n i i i) (fun i=>[pcB i i D.r (fun _=>w) (fun _=>some w)]) (n:=n) (by simp) (fun i hi=>?_) ?_
 ·have hi:i<n:=hi;have pG:=Pz.run qv qf (m:=0) (p:=[1,0,0,2,1,2,2,2,2,2]) (A:=A18) (f:=13) (h0:=[]) (by kernel_rfl) qh ((qms D w n i i i D.r (fun _=>w) (fun _=>some w)).trans (qm (by simp;omega) rfl));have pH:=Pz.run qv qf (m:=0) (p:=[1,0,1,2,0,0,2,1,2,2,2,2,2]) (A:=A18) (f:=13) (h0:=[]) (by kernel_rfl) qh (qoa D w n i i i D.r (fun _=>w) (fun _=>some w));have pP:=qlw D w n i i D.r (fun _=>w) (fun _=>some w) (hD.x i);have hK:=(qoc D w n i i i D.r (fun _=>w) (fun _=>some w) (D.pA i) (D.pB i)).trans (qm (by simp;omega) rfl);have pK:=Pz.run qv qf (m:=0) (p:=[1,2,2,0,1,2,0,0,2,1,2,2,2,2,2]) (A:=A18) (f:=13) (h0:=[]) (by kernel_rfl) qh hK;have pL:=Pz.run qv qf (m:=0) (p:=[1,1,2,2,2,0,1,2,0,0,2,1,2,2,2,2,2]) (A:=A18) (f:=13) (h0:=[]) (by kernel_rfl) qh (qod D w n i i i D.r (fun _=>w) (fun _=>some w) (D.pA i) (D.pB i) (xF (D.r i) 0));have pr:=qmy D w n i i D.r (fun _=>w) (fun _=>some w) (hD.x i) (by omega);have n1:ren [0] [pcB i i D.r (fun _=>w) (fun _=>some w),rbk w (xF (D.r i) w)] (.own 1 0 0 w (some w)) = .view 1 w (fun j=>[uI (xF (D.r i) w (0+j))]) (some w):=by
   show(bif Nat.ble (0+w) w then T.view 1 w (fun j=>[uI (xF (D.r i) w (0+j))]) (some w) else .undef)=_;rw[QZ (by omega)];rfl
  have pB2:Pz P18 G18 A18 13 [] [2,1,2,2,2,0,1,2,0,0,2,1,2,2,2,2,2] [1,3,4,5,6,7,8,9] (o9 D w n i i i (D.pA i) (D.pB i) 0) [pcB i i D.r (fun _=>w) (fun _=>some w),rbk w (xF (D.r i) 0)] .normal [1,3,4,5,6,8] (o6 D w n i i i++[.view 1 w (fun j=>[uI (xF (D.r i) w (0+j))]) (some w)]) [pcB i i D.r (fun _=>w) (fun _=>some w)]:=by
   refine Pz.blk (id:=2) (e:=.exit 2) (by kernel_rfl) rfl (Pz.post (Pz.only pr (l2:=[1,3,4,5,6,8]) rfl) fun nt=>.canonS [0] rfl ?_ rfl (.cons ⟨rfl,rfl,rfl,id,fun _ _=>rfl⟩ .nil));show [_,_,_,_,_,ren [0] [pcB i i D.r (fun _=>w) (fun _=>some w),rbk w (xF (D.r i) w)] (.own 1 0 0 w (some w))]=_;rw[n1];rfl
  have hR:=(qoh D w n i i i D.r (fun _=>w) (fun _=>some w) (fun j=>xF (D.r i) w (0+j))).trans (qm (by simp) (qm (QZ (by omega)) (qm (QZ (by omega)) (qZ (by rw[qa2 (by omega)];simp) rfl))));have pR:Pz P18 G18 A18 13 [] [2,2,2,2,0,1,2,0,0,2,1,2,2,2,2,2] [1,3,4,5,6,8] (o6 D w n i i i++[.view 1 w (fun j=>[uI (xF (D.r i) w (0+j))]) (some w)]) [pcB i i D.r (fun _=>w) (fun _=>some w)] .normal [1,3,4,5,6] (o6 D w n (i+1) (i+1) i) [pcB (i+1) (i+1) D.r (fun _=>w) (fun _=>some w)]:=by
   refine Pz.post (Pz.run qv qf (m:=0) (by kernel_rfl) qh hR) fun nt=>.trans (.canonS (h':=[Blk.mk (i+1) 1 (i+1) (fun j=>bif Nat.blt j i then pcG D.r (fun _=>w) (fun _=>some w) j else [zn w (fun j=>xF (D.r i) w (0+j))]) false false none]) [0] rfl rfl rfl (.cons ⟨rfl,rfl,rfl,id,fun j hj=>?_⟩ .nil)) (.sl (SimSL.refl _) (.cons ⟨rfl,rfl,rfl⟩ (fun h=>by cases h) (fun j hj=>?_) .nil))
   ·have hj:j<i+1:=hj;show(bif Nat.blt j i then pcG D.r (fun _=>w) (fun _=>some w) j else [zn w (fun j=>xF (D.r i) w (0+j))])=List.map (QN [0] _) (bif Nat.blt j i then pcG D.r (fun _=>w) (fun _=>some w) (0+j) else [[zn w (fun j=>xF (D.r i) w (0+j))]].getD (0+(j-i)) []);by_cases q:j<i
    ·rw[Qy q,cond_true,cond_true,Nat.zero_add];rfl
    ·obtain rfl:j=i:=by omega
     rw[Zg (Nat.le_refl _),cond_false,cond_false,Nat.sub_self];rfl
   ·have hj:j<i+1:=hj;show SimL (bif Nat.blt j i then pcG D.r (fun _=>w) (fun _=>some w) j else [zn w (fun j=>xF (D.r i) w (0+j))]) (pcG D.r (fun _=>w) (fun _=>some w) j);by_cases q:j<i
    ·rw[Qy q,cond_true];exact .refl _
    ·obtain rfl:j=i:=by omega
     rw[Zg (Nat.le_refl _),cond_false];refine .cons (.inr ⟨rfl,.view (.inl rfl) fun e he=>?_,rfl⟩) .nil;show Sims [uI (xF (D.r j) w (0+e))] [uI (D.r j e)];unfold xF;rw[Nat.zero_add,if_pos he];exact .refl _
  have hS:=qoi D w n i (i+1) (i+1) D.r (fun _=>w) (fun _=>some w);rw[up1 (by omega)] at hS;exact Pz.seq (by kernel_rfl) pG (Pz.seq (by kernel_rfl) (Pz.blk (id:=1) (e:=.normal) (by kernel_rfl) rfl (Pz.seq (by kernel_rfl) pH (Pz.seq (by kernel_rfl) pP (Pz.seq (by kernel_rfl) pK (Pz.seq (by kernel_rfl) (Pz.seq (by kernel_rfl) pL pB2) pR))))) (Pz.run qv qf (m:=0) (by kernel_rfl) qh hS))
 ·exact Pz.seqX (by kernel_rfl) (by simp) (Pz.run qv qf (m:=0) (by kernel_rfl) qh ((qms D w n n n n D.r (fun _=>w) (fun _=>some w)).trans (qZ (by simp) rfl)))
theorem OfT(D:IR)(hD:D.Ok):ToldOk P18 G18 13 [.agg [uI D.wd,D.rows none]] (qR D.r D.w D.n (some D.w) none):=by
 have hwd:=hD.wd;have hw:D.w<=10/\((D.w:Nat):Int)=1+D.wd%10:=by unfold IR.w;omega
 obtain⟨hn1,hn2,_⟩:=D.n_bd;have hB:=qn5 D;rw[Int.tmod_eq_emod_of_nonneg hwd.1,qI (x:=D.wd%10) (by omega) (by omega),qI (x:=1+D.wd%10) (by omega) (by omega),←hw.2] at hB;have hC:=qn6 D (D.w:Int);have em:(bif decide ((9:Int)<ofNat D.m) then(9:Int) else ofNat D.m)=((min D.m 9:Nat):Int):=by
  by_cases q:9<D.m
  ·rw[decide_eq_true (by simp only[Int.ofNat_eq_natCast];omega),cond_true,Nat.min_eq_right (by omega)];rfl
  ·rw[decide_eq_false (by simp only[Int.ofNat_eq_natCast];omega),cond_false,Nat.min_eq_left (by omega)];rfl
 rw[em] at hC;have hDd:=qn7 D (D.w:Int) ((min D.m 9:Nat):Int);have pD:Pz P18 G18 A18 13 [] [1,2,2,2] [1,3,4] [.reg [uI D.wd,D.rows none],iI D.w,iI ((min D.m 9:Nat):Int)] [] .normal [1,3,4] [.reg [uI D.wd,D.rows none],iI D.w,iI (D.n:Nat)] []:=by
  refine Pz.run qv qf (m:=0) (by kernel_rfl) qh (hDd.trans ?_);unfold IR.n;rw[Int.tmod_eq_emod_of_nonneg (by omega)];by_cases q:min D.m 9%2=0
  ·rw[if_pos q,qI (by omega) (by omega)];exact qm (by simp;omega) rfl
  ·rw[if_neg q];exact qZ (by simp;omega) rfl
 have gh:∀nt,WeakTo G18 (A18 13).prom nt [1,3,4,5] 0 [.reg [uI D.wd,D.rows none],iI D.w,iI (D.n:Nat),.nils] [] [.reg [uI D.wd,D.rows none],iI D.w,iI (D.n:Nat),.own 0 0 0 0 none] [pcB 0 0 D.r (fun _=>D.w) (fun _=>some D.w)]:=fun nt =>
  .gh [pcB 0 0 D.r (fun _=>D.w) (fun _=>some D.w)] (fun b hb=>by simp at hb;subst hb;exact⟨rfl,rfl⟩) (.cons (.refl _) (.cons (.refl _) (.cons (.refl _) (.cons (.inl (.own (b:=pcB 0 0 D.r (fun _=>D.w) (fun _=>some D.w)) (Nat.le_refl 0) rfl rfl)) .nil)))) (.refl _)
 have pl:=qlx D D.w D.n hD (by omega) (by omega);have zr:=qok D.n D.r (fun _=>D.w) (fun _=>some D.w);rw[QZ (by omega),show(D.n==D.n)=true by simp] at zr;have zr:_=some (T.fresh false 1 D.n (fun j=>pcG D.r (fun _=>D.w) (fun _=>some D.w) (0+j)) D.n none):=zr;have p1:=Pz.run qv qf (m:=0) (p:=[1]) (A:=A18) (f:=13) (h0:=[]) (by kernel_rfl) qh (qn4 D);have p2:=Pz.run qv qf (m:=0) (p:=[1,2]) (A:=A18) (f:=13) (h0:=[]) (by kernel_rfl) qh hB;have p3:=Pz.run qv qf (m:=0) (p:=[1,2,2]) (A:=A18) (f:=13) (h0:=[]) (by kernel_rfl) qh hC;have p5:=Pz.post (Pz.run qv qf (m:=0) (p:=[1,2,2,2,2]) (A:=A18) (f:=13) (h0:=[]) (by kernel_rfl) qh (qn8 D D.w D.n)) gh;have p6:=Pz.run qv qf (m:=0) (p:=[1,1,2,2,2,2,2]) (A:=A18) (f:=13) (h0:=[]) (by kernel_rfl) qh (qn9 D D.w D.n 0 0 D.r (fun _=>D.w) (fun _=>some D.w));have p7:=Pz.blk (P:=P18) (G:=G18) (p:=[2,1,2,2,2,2,2]) (id:=0) (e:=.exit 0) (e':=.normal) (by kernel_rfl) rfl (Pz.only pl (l2:=[5]) (v2:=[.own 0 D.n 0 D.n none]) rfl);have p8:=Pz.run qv qf (m:=0) (p:=[2,2,2,2,2,2]) (A:=A18) (f:=13) (h0:=[]) (by kernel_rfl) qh (qoj D.n D.n D.r (fun _=>D.w) (fun _=>some D.w));have q:=(Pz.told (A:=A18) q9 Try.func13 (by kernel_rfl) (by kernel_rfl) (l:=[0]) rfl (Pz.seq (by kernel_rfl) p1 (Pz.seq (by kernel_rfl) p2 (Pz.seq (by kernel_rfl) p3 (Pz.seq (by kernel_rfl) pD (Pz.seq (by kernel_rfl) p5 (Pz.seq (by kernel_rfl) (Pz.seq (by kernel_rfl) p6 p7) p8)))))) zr).frz;have e:(fun j=>pcG D.r (fun _=>D.w) (fun _=>some D.w) (0+j))=fun j=>[qB (D.r j) D.w (some D.w)]:=by
  funext j;rw[Nat.zero_add];rfl
 rw[e] at q;exact q
def v16(R Q:Nat->Nat->Int)(n h:Nat)(rc c rd d:Option Nat)(i:Int):List T:=[qR R n h rc c,qR Q n h rd d,iI i]
def qjv(b d:Nat->Int)(a:Nat->Int)(m:Nat)(best i:Int):List T:=[.view 3 m (fun j=>[uI (a j),iI (b j),iI (d j)]) none,iI best,iI i]
def zy(r:Nat->Int):Nat->Int
 |0=>r 0
 |k+1=>bif decide (r k<zy r k) then r k else zy r k
def QM(r:Nat->Int):Nat->Int
 |0=>r 0
 |k+1=>bif decide (QM r k<r k) then r k else QM r k
def qar(r:Nat->Int)(n:Nat)(c:Option Nat)(most lo hi k:Int):List T:=[qB r n c,iI most,uI lo,uI hi,iI k]
def YY(r:Nat->Int)(n:Nat)(c:Option Nat)(most lo hi:Int)(best:T)(ch b:Int):List T:=[qB r n c,iI most,uI lo,uI hi,best,iI ch,iI b]
def QO(r:Nat->Int)(n:Nat)(c:Option Nat)(most lo hi:Int)(best:T)(ch b:Int)(l:T)(cnt k:Int):List T:=[qB r n c,iI most,uI lo,uI hi,best,iI ch,iI b,l,iI cnt,iI k]
def lbk(j:Nat)(w:Nat->Int):Blk:=⟨j,1,j+1,fun e=>[uI (w e)],true,false,none⟩
noncomputable def K15(p:List T->T->Prop)(x:Int):Orc:=qk.add 17 (qL p fun _=>some (iI x))
def za(w r:Nat->Int):Nat->Nat
 |0=>0
 |k+1=>if w k=r k then za w r k else za w r k+1
def l15:Nat->T
 |0=>.nils
 |j+1=>pO j
def qmz(w:Nat->Int):Nat->qg
 |0=>[]
 |j+1=>[lbk j w]
def qio(b s:Nat):Bool:=decide (Qb BinOp.and IntKind.i64 ((b:Int).fdiv ((2:Int) ^ min s 64)) 1=1)
theorem qku(m:Nat):Qb .and .i64 (m:Int) 1=((m%2:Nat):Int):=by
 unfold Qb;have e:(BitVec.ofInt IntKind.i64.bits (m:Int) &&& BitVec.ofInt IntKind.i64.bits 1).toNat=m%2:=by
  show(BitVec.ofInt 64 (m:Int) &&& BitVec.ofInt 64 1).toNat=m%2;rw[BitVec.toNat_and,BitVec.toNat_ofInt,BitVec.toNat_ofInt];have e1:((m:Int)%(2 ^ 64:Nat)).toNat=m%2 ^ 64:=by omega
  have e2:((1:Int)%(2 ^ 64:Nat)).toNat=1:=by decide
  rw[e1,e2,Nat.and_one_is_mod];omega
 simp only[e];exact qI (by omega) (by omega)
theorem qkv(b s:Nat)(hs:s<=64):qio b s=b.testBit s:=by
 unfold qio;have e:(b:Int).fdiv ((2:Int) ^ min s 64)=((b/2 ^ s:Nat):Int):=by
  rw[Nat.min_eq_left hs,Int.fdiv_eq_ediv_of_nonneg _ (by exact_mod_cast Nat.zero_le (2 ^ s))];norm_cast
 rw[e,qku,Nat.testBit_eq_decide_div_mod_eq];congr 1;rw[eq_iff_iff];omega
theorem JP(w r:Nat->Int):∀k,za w r k<=k
 |0=>Nat.le_refl _
 |k+1=>by
  have:=JP w r k;unfold za;split<;>omega
section
variable (r:Nat->Int) (n:Nat) (c:Option Nat) (most lo hi:Int)
theorem qol(hn:n<=1000):LoopOk P18 G18 (A18 15) 15 3 (qE (qar r n c most (r 0) (r 0) 0) [] (.exit 0) [qB r n c,iI most,uI (zy r n),uI (QM r n)] []):=by
 refine qz qv (by kernel_rfl) (fun k=>qar r n c most (zy r k) (QM r k) (k:Nat)) (fun _=>[]) (n:=n) (fun k hk=>?_) ?_
 ·have e1:zy r (k+1)=bif decide (r k<zy r k) then r k else zy r k:=rfl;have e2:QM r (k+1)=bif decide (QM r k<r k) then r k else QM r k:=rfl;rw[e1,e2];generalize zy r k=lo;generalize QM r k=hi;refine Step.mk0 (A:=A18) (m:=0) qf rfl rfl qh (h1:=[]) ?_ .nil;rw[(show qA P18 G18 A18 qk 0 15 [] 3 (qar r n c most lo hi (k:Nat)) [] =
( bif decide (ofNat k<ofNat n) then gD (decide (0<=ofNat k)&&decide (ofNat k<ofNat n))<|bif decide (r k<lo) then gD (decide (0<=ofNat k)&&decide (ofNat k<ofNat n))<|gD (decide (0<=ofNat k)&&decide (ofNat k<ofNat n))<|bif decide (hi<r k) then gD (decide (0<=ofNat k)&&decide (ofNat k<ofNat n))<|zN (qar r n c most (r k) (r k) (i64.wrap (ofNat k+1))) [] else
 zN (qar r n c most (r k) hi (i64.wrap (ofNat k+1))) [] else
 gD (decide (0<=ofNat k)&&decide (ofNat k<ofNat n))<|bif decide (hi<r k) then gD (decide (0<=ofNat k)&&decide (ofNat k<ofNat n))<|zN (qar r n c most lo (r k) (i64.wrap (ofNat k+1))) [] else
 zN (qar r n c most lo hi (i64.wrap (ofNat k+1))) [] else
 zX 0 [qB r n c,iI most,uI lo,uI hi] []) from by kernel_rfl)]
  have ek:i64.wrap ((k:Int)+1)=((k+1:Nat):Int):=by rw[qI (by omega) (by omega)];omega
  rw[qn k,ek];by_cases q1:r k<lo
  ·by_cases q2:hi<r k
   ·rw[dT q1,dT q2]
    (repeat (first|refine BT ?_|refine BG ?_))
    try simp only[cond_true,cond_false]
    (repeat (first|refine BT ?_|refine BG ?_))
    try simp only[cond_true,cond_false]
    (repeat (first|refine BT ?_|refine BG ?_))
    try rfl
   ·rw[dT q1,dF q2]
    (repeat (first|refine BT ?_|refine BG ?_))
    try simp only[cond_true,cond_false]
    (repeat (first|refine BT ?_|refine BG ?_))
    try simp only[cond_true,cond_false]
    (repeat (first|refine BT ?_|refine BG ?_))
    try rfl
  ·by_cases q2:hi<r k
   ·rw[dF q1,dT q2]
    (repeat (first|refine BT ?_|refine BG ?_))
    try simp only[cond_true,cond_false]
    (repeat (first|refine BT ?_|refine BG ?_))
    try simp only[cond_true,cond_false]
    (repeat (first|refine BT ?_|refine BG ?_))
    try rfl
   ·rw[dF q1,dF q2]
    (repeat (first|refine BT ?_|refine BG ?_))
    try simp only[cond_true,cond_false]
    (repeat (first|refine BT ?_|refine BG ?_))
    try simp only[cond_true,cond_false]
    (repeat (first|refine BT ?_|refine BG ?_))
    try rfl
 ·generalize zy r n=lo;generalize QM r n=hi;refine Last.mk0 (A:=A18) (m:=0) qf rfl rfl qh (h1:=[]) (by simp) ?_ .nil;rw[(show qA P18 G18 A18 qk 0 15 [] 3 (qar r n c most lo hi (n:Nat)) [] =
( bif decide (ofNat n<ofNat n) then gD (decide (0<=ofNat n)&&decide (ofNat n<ofNat n))<|bif decide (r n<lo) then gD (decide (0<=ofNat n)&&decide (ofNat n<ofNat n))<|gD (decide (0<=ofNat n)&&decide (ofNat n<ofNat n))<|bif decide (hi<r n) then gD (decide (0<=ofNat n)&&decide (ofNat n<ofNat n))<|zN (qar r n c most (r n) (r n) (i64.wrap (ofNat n+1))) [] else
 zN (qar r n c most (r n) hi (i64.wrap (ofNat n+1))) [] else
 gD (decide (0<=ofNat n)&&decide (ofNat n<ofNat n))<|bif decide (hi<r n) then gD (decide (0<=ofNat n)&&decide (ofNat n<ofNat n))<|zN (qar r n c most lo (r n) (i64.wrap (ofNat n+1))) [] else
 zN (qar r n c most lo hi (i64.wrap (ofNat n+1))) [] else
 zX 0 [qB r n c,iI most,uI lo,uI hi] []) from by kernel_rfl)]
  (repeat (first|refine BT ?_|refine BG ?_))
  rfl
theorem JQ(r:Nat->Int)(n:Nat)(c:Option Nat)(most lo hi ch:Int)(best:T)(b cnt:Nat):qA P18 G18 A18 qk 0 15 [] 17 (QO r n c most lo hi best ch b .nils cnt 0) [] =
( bif decide (0<ofNat n) then gD (decide (0<=i64.wrap (i64.wrap (ofNat n-1)-(0:Int))))<|bif decide (Qb BinOp.and IntKind.i64 ((ofNat b).fdiv ((2:Int) ^ min (i64.wrap (i64.wrap (ofNat n-(1:Int))-(0:Int))).toNat (64:Nat))) (1:Int)=(1:Int)) then gD (decide (0<ofNat n))<|bif !decide (hi=r (0:Nat)) then zN (QO r n c most lo hi best ch (ofNat b) (.own 1 0 0 1
 none) (i64.wrap (ofNat cnt+1)) (1:Int)) [.mk 0 1 1 (fun j=>[[uI hi]].getD j []) true true
 none,.mk 0 1 1 (fun j=>[[uI hi]].getD (0+j) []) true false
 none] else
 zN (QO r n c most lo hi best ch (ofNat b) (.own 1 0 0 1
 none) (ofNat cnt) (1:Int)) [.mk 0 1 1 (fun j=>[[uI hi]].getD j []) true true
 none,.mk 0 1 1 (fun j=>[[uI hi]].getD (0+j) []) true false
 none] else
 gD (decide (0<ofNat n))<|bif !decide (lo=r (0:Nat)) then zN (QO r n c most lo hi best ch (ofNat b) (.own 1 0 0 1
 none) (i64.wrap (ofNat cnt+1)) (1:Int)) [.mk 0 1 1 (fun j=>[[uI lo]].getD j []) true true
 none,.mk 0 1 1 (fun j=>[[uI lo]].getD (0+j) []) true false
 none] else
 zN (QO r n c most lo hi best ch (ofNat b) (.own 1 0 0 1
 none) (ofNat cnt) (1:Int)) [.mk 0 1 1 (fun j=>[[uI lo]].getD j []) true true
 none,.mk 0 1 1 (fun j=>[[uI lo]].getD (0+j) []) true false
 none] else
 zX 4 [qB r n c,iI most,uI lo,uI hi,best,iI ch,iI (.ofNat b),.nils,iI (.ofNat cnt)] []):=by kernel_rfl
theorem JR(r w:Nat->Int)(n:Nat)(c:Option Nat)(most lo hi ch:Int)(best:T)(b cnt j:Nat):qA P18 G18 A18 qk 0 15 [] 17 (QO r n c most lo hi best ch b (pO j) cnt (j+1:Nat)) [lbk j w] =
( bif decide (ofNat (j+1)<ofNat n) then gD (decide (0<=i64.wrap (i64.wrap (ofNat n-1)-ofNat (j+1))))<|bif decide (Qb BinOp.and IntKind.i64 ((ofNat b).fdiv ((2:Int) ^ min (i64.wrap (i64.wrap (ofNat n-(1:Int))-ofNat (j+(1:Nat)))).toNat (64:Nat))) (1:Int)=(1:Int)) then gD (decide (0<=ofNat (j+1))&&decide (ofNat (j+1)<ofNat n))<|bif !decide (hi=r (j+1)) then gD (j==j&&true)<|gD (((0:Nat)+(j+(1:Nat))).ble (j+1))<|gD (((j+(1:Nat)+(1:Nat))*(2:Nat)).ble 70368744177664)<|bif ((0:Nat)+(j+(1:Nat))+(1:Nat)).ble (j+1) then zN (QO r n c most lo hi best ch (ofNat b) (.own 0 j 0 (j+1+(1:Nat))
 none) (i64.wrap (ofNat cnt+1)) (i64.wrap (ofNat (j+1)+(1:Int)))) [.mk j 1 (j+1) (fun j_1 =>
 bif ((0:Nat)+(j+(1:Nat))).ble j_1&&j_1.blt ((0:Nat)+(j+1)+(1:Nat)) then [[uI hi]].getD ((0:Nat)+(j_1-((0:Nat)+(j+1)))) []
 else [uI (w j_1)]) true false
 none,.mk 0 1 1 (fun j=>[[uI hi]].getD j []) true true
 none] else
 zN (QO r n c most lo hi best ch (ofNat b) (pO (j+1)) (i64.wrap (ofNat cnt+1)) (i64.wrap (ofNat (j+1)+(1:Int)))) [.mk (j+1) (1:Nat) (j+1+(1:Nat)) (fun j_1 =>
 bif j_1.blt (j+1) then [uI (w (0+j_1))]
 else [[uI hi]].getD ((0:Nat)+(j_1-(j+1))) []) true false
 none,.mk 0 1 1 (fun j=>[[uI hi]].getD j []) true true
 none] else
 gD (j==j&&true)<|gD (((0:Nat)+(j+(1:Nat))).ble (j+1))<|gD (((j+(1:Nat)+(1:Nat))*(2:Nat)).ble 70368744177664)<|bif ((0:Nat)+(j+(1:Nat))+(1:Nat)).ble (j+1) then zN (QO r n c most lo hi best ch (ofNat b) (.own 0 j 0 (j+1+(1:Nat))
 none) (ofNat cnt) (i64.wrap (ofNat (j+1)+(1:Int)))) [.mk j 1 (j+1) (fun j_1 =>
 bif ((0:Nat)+(j+(1:Nat))).ble j_1&&j_1.blt ((0:Nat)+(j+1)+(1:Nat)) then [[uI hi]].getD ((0:Nat)+(j_1-((0:Nat)+(j+1)))) []
 else [uI (w j_1)]) true false
 none,.mk 0 1 1 (fun j=>[[uI hi]].getD j []) true true
 none] else
 zN (QO r n c most lo hi best ch (ofNat b) (pO (j+1)) (ofNat cnt) (i64.wrap (ofNat (j+1)+(1:Int)))) [.mk (j+1) (1:Nat) (j+1+(1:Nat)) (fun j_1 =>
 bif j_1.blt (j+1) then [uI (w (0+j_1))]
 else [[uI hi]].getD ((0:Nat)+(j_1-(j+1))) []) true false
 none,.mk 0 1 1 (fun j=>[[uI hi]].getD j []) true true
 none] else
 gD (decide (0<=ofNat (j+1))&&decide (ofNat (j+1)<ofNat n))<|bif !decide (lo=r (j+1)) then gD (j==j&&true)<|gD (((0:Nat)+(j+(1:Nat))).ble (j+1))<|gD (((j+(1:Nat)+(1:Nat))*(2:Nat)).ble 70368744177664)<|bif ((0:Nat)+(j+(1:Nat))+(1:Nat)).ble (j+1) then zN (QO r n c most lo hi best ch (ofNat b) (.own 0 j 0 (j+1+(1:Nat))
 none) (i64.wrap (ofNat cnt+1)) (i64.wrap (ofNat (j+1)+(1:Int)))) [.mk j 1 (j+1) (fun j_1 =>
 bif ((0:Nat)+(j+(1:Nat))).ble j_1&&j_1.blt ((0:Nat)+(j+1)+(1:Nat)) then [[uI lo]].getD ((0:Nat)+(j_1-((0:Nat)+(j+1)))) []
 else [uI (w j_1)]) true false
 none,.mk 0 1 1 (fun j=>[[uI lo]].getD j []) true true
 none] else
 zN (QO r n c most lo hi best ch (ofNat b) (pO (j+1)) (i64.wrap (ofNat cnt+1)) (i64.wrap (ofNat (j+1)+(1:Int)))) [.mk (j+1) (1:Nat) (j+1+(1:Nat)) (fun j_1 =>
 bif j_1.blt (j+1) then [uI (w (0+j_1))]
 else [[uI lo]].getD ((0:Nat)+(j_1-(j+1))) []) true false
 none,.mk 0 1 1 (fun j=>[[uI lo]].getD j []) true true
 none] else
 gD (j==j&&true)<|gD (((0:Nat)+(j+(1:Nat))).ble (j+1))<|gD (((j+(1:Nat)+(1:Nat))*(2:Nat)).ble 70368744177664)<|bif ((0:Nat)+(j+(1:Nat))+(1:Nat)).ble (j+1) then zN (QO r n c most lo hi best ch (ofNat b) (.own 0 j 0 (j+1+(1:Nat))
 none) (ofNat cnt) (i64.wrap (ofNat (j+1)+(1:Int)))) [.mk j 1 (j+1) (fun j_1 =>
 bif ((0:Nat)+(j+(1:Nat))).ble j_1&&j_1.blt ((0:Nat)+(j+1)+(1:Nat)) then [[uI lo]].getD ((0:Nat)+(j_1-((0:Nat)+(j+1)))) []
 else [uI (w j_1)]) true false
 none,.mk 0 1 1 (fun j=>[[uI lo]].getD j []) true true
 none] else
 zN (QO r n c most lo hi best ch (ofNat b) (pO (j+1)) (ofNat cnt) (i64.wrap (ofNat (j+1)+(1:Int)))) [.mk (j+1) (1:Nat) (j+1+(1:Nat)) (fun j_1 =>
 bif j_1.blt (j+1) then [uI (w (0+j_1))]
 else [[uI lo]].getD ((0:Nat)+(j_1-(j+1))) []) true false
 none,.mk 0 1 1 (fun j=>[[uI lo]].getD j []) true true
 none] else
 zX 4 [qB r n c,iI most,uI lo,uI hi,best,iI ch,iI (.ofNat b),pO j,iI (.ofNat cnt)] [lbk j w]):=by kernel_rfl
theorem qom(best:T)(ch:Int)(b:Nat)(hb:best = .nils∨∃w,best=qB w n none)(hn:n<=60) :
 LoopOk P18 G18 (A18 15) 15 17 (qE (QO r n c most lo hi best ch b .nils 0 0) [] (.exit 4) (YY r n c most lo hi best ch b++[l15 n,iI (za (wb lo hi n b) r n:Nat)]) (qmz (wb lo hi n b) n)):=by
 refine qz qv (by kernel_rfl) (fun k=>QO r n c most lo hi best ch b (l15 k) (za (wb lo hi n b) r k:Nat) (k:Nat)) (fun k=>qmz (wb lo hi n b) k) (n:=n) (fun k hk=>?_) ?_
 ·have hcl:=JP (wb lo hi n b) r k;have hw:wb lo hi n b k=bif qio b (n-1-k) then hi else lo:=by
   unfold wb;rw[qkv _ _ (by omega)];cases b.testBit (n-1-k)<;>rfl
  have hc1:za (wb lo hi n b) r (k+1)=if wb lo hi n b k=r k then za (wb lo hi n b) r k else za (wb lo hi n b) r k+1:=rfl;rw[hw] at hc1;rw[hc1];generalize za (wb lo hi n b) r k=cnt at *
  have ek:i64.wrap ((k:Int)+1)=((k+1:Nat):Int):=by rw[qI (by omega) (by omega)];omega
  have ec:i64.wrap ((cnt:Int)+1)=((cnt+1:Nat):Int):=by rw[qI (by omega) (by omega)];omega
  have es:i64.wrap (i64.wrap ((n:Int)-1)-(k:Int))=((n-1-k:Nat):Int):=by rw[qI (x:=(n:Int)-1) (by omega) (by omega),qI (by omega) (by omega)];omega
  have eb:decide (Qb BinOp.and IntKind.i64 ((b:Int).fdiv ((2:Int) ^ min (n-1-k) 64)) 1=1)=qio b (n-1-k):=rfl;generalize wb lo hi n b=w at *
  have hbr:∀σ h,ren σ h best=best:=by
   rcases hb with rfl|⟨w,rfl⟩
   ·intro σ h;rfl
   ·intro σ h;rfl
  clear hb;cases k with
  |zero =>
   replace es:i64.wrap (i64.wrap ((n:Int)-1)-0)=((n-1-0:Nat):Int):=es;by_cases qb:qio b (n-1-0)=true
   ·rw[qb,cond_true] at hw hc1 ⊢;by_cases qe:hi=r (0)
    ·rw[if_pos qe];refine Step.mkC (A:=A18) (m:=0) qf rfl rfl qh [1] (v1:=QO r n c most lo hi best ch b (.own 1 0 0 1 none) cnt (0+1:Nat)) (h1:=[⟨0,1,1,fun j=>[[uI hi]].getD j [],true,true,none⟩,⟨0,1,1,fun j=>[[uI hi]].getD (0+j) [],true,false,none⟩]) ?_ (by kernel_rfl) (v2:=QO r n c most lo hi best ch b (pO 0) cnt (0+1:Nat)) (by show [_,_,_,_,ren _ _ best,_,_,_,_,_]=_;rw[hbr];rfl) rfl fun nt=>.same (.cons ⟨rfl,rfl,rfl,id,fun j hj=>?_⟩ .nil)
     ·show qA P18 G18 A18 qk 0 15 [] 17 (QO r n c most lo hi best ch b .nils cnt 0) []=_;rw[(JQ r n c most lo hi ch best b cnt)];rw[qn n,es,QJ,qn b,qn cnt];refine BT ?_;refine BT ?_;refine qm qb ?_;refine BT ?_;refine qZ (by simp[qe]) ?_;rfl
     ·obtain rfl:=Yb hj;show [uI (w 0)]=[uI hi];rw[hw]
    ·rw[if_neg qe];refine Step.mkC (A:=A18) (m:=0) qf rfl rfl qh [1] (v1:=QO r n c most lo hi best ch b (.own 1 0 0 1 none) (cnt+1:Nat) (0+1:Nat)) (h1:=[⟨0,1,1,fun j=>[[uI hi]].getD j [],true,true,none⟩,⟨0,1,1,fun j=>[[uI hi]].getD (0+j) [],true,false,none⟩]) ?_ (by kernel_rfl) (v2:=QO r n c most lo hi best ch b (pO 0) (cnt+1:Nat) (0+1:Nat)) (by show [_,_,_,_,ren _ _ best,_,_,_,_,_]=_;rw[hbr];rfl) rfl fun nt=>.same (.cons ⟨rfl,rfl,rfl,id,fun j hj=>?_⟩ .nil)
     ·show qA P18 G18 A18 qk 0 15 [] 17 (QO r n c most lo hi best ch b .nils cnt 0) []=_;rw[(JQ r n c most lo hi ch best b cnt)];rw[qn n,es,QJ,qn b,qn cnt,ec];refine BT ?_;refine BT ?_;refine qm qb ?_;refine BT ?_;refine qm (by simp[qe]) ?_;rfl
     ·obtain rfl:=Yb hj;show [uI (w 0)]=[uI hi];rw[hw]
   ·have qb2:=qb;rw[Bool.not_eq_true] at qb2;rw[qb2,cond_false] at hw hc1 ⊢;by_cases qe:lo=r (0)
    ·rw[if_pos qe];refine Step.mkC (A:=A18) (m:=0) qf rfl rfl qh [1] (v1:=QO r n c most lo hi best ch b (.own 1 0 0 1 none) cnt (0+1:Nat)) (h1:=[⟨0,1,1,fun j=>[[uI lo]].getD j [],true,true,none⟩,⟨0,1,1,fun j=>[[uI lo]].getD (0+j) [],true,false,none⟩]) ?_ (by kernel_rfl) (v2:=QO r n c most lo hi best ch b (pO 0) cnt (0+1:Nat)) (by show [_,_,_,_,ren _ _ best,_,_,_,_,_]=_;rw[hbr];rfl) rfl fun nt=>.same (.cons ⟨rfl,rfl,rfl,id,fun j hj=>?_⟩ .nil)
     ·show qA P18 G18 A18 qk 0 15 [] 17 (QO r n c most lo hi best ch b .nils cnt 0) []=_;rw[(JQ r n c most lo hi ch best b cnt)];rw[qn n,es,QJ,qn b,qn cnt];refine BT ?_;refine BT ?_;refine qZ qb ?_;refine BT ?_;refine qZ (by simp[qe]) ?_;rfl
     ·obtain rfl:=Yb hj;show [uI (w 0)]=[uI lo];rw[hw]
    ·rw[if_neg qe];refine Step.mkC (A:=A18) (m:=0) qf rfl rfl qh [1] (v1:=QO r n c most lo hi best ch b (.own 1 0 0 1 none) (cnt+1:Nat) (0+1:Nat)) (h1:=[⟨0,1,1,fun j=>[[uI lo]].getD j [],true,true,none⟩,⟨0,1,1,fun j=>[[uI lo]].getD (0+j) [],true,false,none⟩]) ?_ (by kernel_rfl) (v2:=QO r n c most lo hi best ch b (pO 0) (cnt+1:Nat) (0+1:Nat)) (by show [_,_,_,_,ren _ _ best,_,_,_,_,_]=_;rw[hbr];rfl) rfl fun nt=>.same (.cons ⟨rfl,rfl,rfl,id,fun j hj=>?_⟩ .nil)
     ·show qA P18 G18 A18 qk 0 15 [] 17 (QO r n c most lo hi best ch b .nils cnt 0) []=_;rw[(JQ r n c most lo hi ch best b cnt)];rw[qn n,es,QJ,qn b,qn cnt,ec];refine BT ?_;refine BT ?_;refine qZ qb ?_;refine BT ?_;refine qm (by simp[qe]) ?_;rfl
     ·obtain rfl:=Yb hj;show [uI (w 0)]=[uI lo];rw[hw]
  |succ j =>
   by_cases qb:qio b (n-1-(j+1))=true
   ·rw[qb,cond_true] at hw hc1 ⊢;by_cases qe:hi=r ((j+1))
    ·rw[if_pos qe];refine Step.mkC (A:=A18) (m:=0) qf rfl rfl qh [0] (v1:=QO r n c most lo hi best ch b (pO (j+1)) cnt (j+1+1:Nat)) (h1:=[⟨j+1,1,j+1+1,fun e=>bif Nat.blt e (j+1) then [uI (w (0+e))] else [[uI hi]].getD (0+(e-(j+1))) [],true,false,none⟩,⟨0,1,1,fun j=>[[uI hi]].getD j [],true,true,none⟩]) ?_ (by kernel_rfl) (v2:=QO r n c most lo hi best ch b (pO (j+1)) cnt (j+1+1:Nat)) (by show [_,_,_,_,ren _ _ best,_,_,_,_,_]=_;rw[hbr];rfl) rfl fun nt=>.same (.cons ⟨rfl,rfl,rfl,id,fun e he=>?_⟩ .nil)
     ·show qA P18 G18 A18 qk 0 15 [] 17 (QO r n c most lo hi best ch b (pO j) cnt (j+1:Nat)) [lbk j w]=_;rw[(JR r w n c most lo hi ch best b cnt j)];rw[qn n,qn (j+1),es,QJ,qn b,qn cnt,ek];refine BT ?_;refine BT ?_;refine qm qb ?_;refine BT ?_;refine qZ (by simp[qe]) ?_;refine qm (by simp) ?_;refine BT ?_;refine BT ?_;refine BF ?_;rfl
     ·have he2:e<j+1+1:=he;show [uI (w e)]=bif Nat.blt e (j+1) then [uI (w (0+e))] else [[uI hi]].getD (0+(e-(j+1))) [];by_cases q2:e<j+1
      ·rw[Qy q2,cond_true,Nat.zero_add]
      ·obtain rfl:e=j+1:=by omega
       rw[Zg (Nat.le_refl _),cond_false,hw,Nat.sub_self];rfl
    ·rw[if_neg qe];refine Step.mkC (A:=A18) (m:=0) qf rfl rfl qh [0] (v1:=QO r n c most lo hi best ch b (pO (j+1)) (cnt+1:Nat) (j+1+1:Nat)) (h1:=[⟨j+1,1,j+1+1,fun e=>bif Nat.blt e (j+1) then [uI (w (0+e))] else [[uI hi]].getD (0+(e-(j+1))) [],true,false,none⟩,⟨0,1,1,fun j=>[[uI hi]].getD j [],true,true,none⟩]) ?_ (by kernel_rfl) (v2:=QO r n c most lo hi best ch b (pO (j+1)) (cnt+1:Nat) (j+1+1:Nat)) (by show [_,_,_,_,ren _ _ best,_,_,_,_,_]=_;rw[hbr];rfl) rfl fun nt=>.same (.cons ⟨rfl,rfl,rfl,id,fun e he=>?_⟩ .nil)
     ·show qA P18 G18 A18 qk 0 15 [] 17 (QO r n c most lo hi best ch b (pO j) cnt (j+1:Nat)) [lbk j w]=_;rw[(JR r w n c most lo hi ch best b cnt j)];rw[qn n,qn (j+1),es,QJ,qn b,qn cnt,ek,ec];refine BT ?_;refine BT ?_;refine qm qb ?_;refine BT ?_;refine qm (by simp[qe]) ?_;refine qm (by simp) ?_;refine BT ?_;refine BT ?_;refine BF ?_;rfl
     ·have he2:e<j+1+1:=he;show [uI (w e)]=bif Nat.blt e (j+1) then [uI (w (0+e))] else [[uI hi]].getD (0+(e-(j+1))) [];by_cases q2:e<j+1
      ·rw[Qy q2,cond_true,Nat.zero_add]
      ·obtain rfl:e=j+1:=by omega
       rw[Zg (Nat.le_refl _),cond_false,hw,Nat.sub_self];rfl
   ·have qb2:=qb;rw[Bool.not_eq_true] at qb2;rw[qb2,cond_false] at hw hc1 ⊢;by_cases qe:lo=r ((j+1))
    ·rw[if_pos qe];refine Step.mkC (A:=A18) (m:=0) qf rfl rfl qh [0] (v1:=QO r n c most lo hi best ch b (pO (j+1)) cnt (j+1+1:Nat)) (h1:=[⟨j+1,1,j+1+1,fun e=>bif Nat.blt e (j+1) then [uI (w (0+e))] else [[uI lo]].getD (0+(e-(j+1))) [],true,false,none⟩,⟨0,1,1,fun j=>[[uI lo]].getD j [],true,true,none⟩]) ?_ (by kernel_rfl) (v2:=QO r n c most lo hi best ch b (pO (j+1)) cnt (j+1+1:Nat)) (by show [_,_,_,_,ren _ _ best,_,_,_,_,_]=_;rw[hbr];rfl) rfl fun nt=>.same (.cons ⟨rfl,rfl,rfl,id,fun e he=>?_⟩ .nil)
     ·show qA P18 G18 A18 qk 0 15 [] 17 (QO r n c most lo hi best ch b (pO j) cnt (j+1:Nat)) [lbk j w]=_;rw[(JR r w n c most lo hi ch best b cnt j)];rw[qn n,qn (j+1),es,QJ,qn b,qn cnt,ek];refine BT ?_;refine BT ?_;refine qZ qb ?_;refine BT ?_;refine qZ (by simp[qe]) ?_;refine qm (by simp) ?_;refine BT ?_;refine BT ?_;refine BF ?_;rfl
     ·have he2:e<j+1+1:=he;show [uI (w e)]=bif Nat.blt e (j+1) then [uI (w (0+e))] else [[uI lo]].getD (0+(e-(j+1))) [];by_cases q2:e<j+1
      ·rw[Qy q2,cond_true,Nat.zero_add]
      ·obtain rfl:e=j+1:=by omega
       rw[Zg (Nat.le_refl _),cond_false,hw,Nat.sub_self];rfl
    ·rw[if_neg qe];refine Step.mkC (A:=A18) (m:=0) qf rfl rfl qh [0] (v1:=QO r n c most lo hi best ch b (pO (j+1)) (cnt+1:Nat) (j+1+1:Nat)) (h1:=[⟨j+1,1,j+1+1,fun e=>bif Nat.blt e (j+1) then [uI (w (0+e))] else [[uI lo]].getD (0+(e-(j+1))) [],true,false,none⟩,⟨0,1,1,fun j=>[[uI lo]].getD j [],true,true,none⟩]) ?_ (by kernel_rfl) (v2:=QO r n c most lo hi best ch b (pO (j+1)) (cnt+1:Nat) (j+1+1:Nat)) (by show [_,_,_,_,ren _ _ best,_,_,_,_,_]=_;rw[hbr];rfl) rfl fun nt=>.same (.cons ⟨rfl,rfl,rfl,id,fun e he=>?_⟩ .nil)
     ·show qA P18 G18 A18 qk 0 15 [] 17 (QO r n c most lo hi best ch b (pO j) cnt (j+1:Nat)) [lbk j w]=_;rw[(JR r w n c most lo hi ch best b cnt j)];rw[qn n,qn (j+1),es,QJ,qn b,qn cnt,ek,ec];refine BT ?_;refine BT ?_;refine qZ qb ?_;refine BT ?_;refine qm (by simp[qe]) ?_;refine qm (by simp) ?_;refine BT ?_;refine BT ?_;refine BF ?_;rfl
     ·have he2:e<j+1+1:=he;show [uI (w e)]=bif Nat.blt e (j+1) then [uI (w (0+e))] else [[uI lo]].getD (0+(e-(j+1))) [];by_cases q2:e<j+1
      ·rw[Qy q2,cond_true,Nat.zero_add]
      ·obtain rfl:e=j+1:=by omega
       rw[Zg (Nat.le_refl _),cond_false,hw,Nat.sub_self];rfl
 ·have hbr:∀σ h,ren σ h best=best:=by
   rcases hb with rfl|⟨w,rfl⟩
   ·intro σ h;rfl
   ·intro σ h;rfl
  generalize za (wb lo hi n b) r n=cnt;generalize wb lo hi n b=w;cases n with
  |zero =>
   refine Last.mk0 (A:=A18) (m:=0) qf rfl rfl qh (h1:=[]) (by simp) ?_ .nil;show qA P18 G18 A18 qk 0 15 [] 17 (QO r 0 c most lo hi best ch b .nils cnt 0) []=_;rw[(show qA P18 G18 A18 qk 0 15 [] 17 (QO r 0 c most lo hi best ch b .nils cnt 0) [] =
( zX 4 [qB r (0:Nat) c,iI most,uI lo,uI hi,best,iI ch,iI (.ofNat b),.nils,iI (.ofNat cnt)] []) from by kernel_rfl)]
   rfl
  |succ j =>
   refine Last.mk0 (A:=A18) (m:=0) qf rfl rfl qh (h1:=[lbk j w]) (by simp) ?_ (.refl _);show qA P18 G18 A18 qk 0 15 [] 17 (QO r (j+1) c most lo hi best ch b (pO j) cnt (j+1:Nat)) [lbk j w]=_;rw[(show qA P18 G18 A18 qk 0 15 [] 17 (QO r (j+1) c most lo hi best ch b (pO j) cnt (j+1:Nat)) [lbk j w] =
( bif decide (ofNat (j+1)<ofNat (j+1)) then gD (decide (0<=i64.wrap (i64.wrap (ofNat (j+1)-(1:Int))-ofNat (j+1))))<|bif decide (Qb BinOp.and IntKind.i64 ((ofNat b).fdiv ((2:Int) ^ min (i64.wrap (i64.wrap (ofNat (j+(1:Nat))-(1:Int))-ofNat (j+(1:Nat)))).toNat (64:Nat))) (1:Int)=(1:Int)) then gD (decide (0<=ofNat (j+1))&&decide (ofNat (j+1)<ofNat (j+1)))<|bif !decide (hi=r (j+1)) then gD (j==j&&true)<|gD (((0:Nat)+(j+(1:Nat))).ble (j+1))<|gD (((j+(1:Nat)+(1:Nat))*(2:Nat)).ble 70368744177664)<|bif ((0:Nat)+(j+(1:Nat))+(1:Nat)).ble (j+1) then zN (QO r (j+1) c most lo hi best ch (ofNat b) (.own 0 j 0 (j+1+(1:Nat))
 none) (i64.wrap (ofNat cnt+1)) (i64.wrap (ofNat (j+1)+(1:Int)))) [.mk j 1 (j+1) (fun j_1 =>
 bif ((0:Nat)+(j+(1:Nat))).ble j_1&&j_1.blt ((0:Nat)+(j+1)+(1:Nat)) then [[uI hi]].getD ((0:Nat)+(j_1-((0:Nat)+(j+1)))) []
 else [uI (w j_1)]) true false
 none,.mk 0 1 1 (fun j=>[[uI hi]].getD j []) true true
 none] else
 zN (QO r (j+1) c most lo hi best ch (ofNat b) (pO (j+1)) (i64.wrap (ofNat cnt+1)) (i64.wrap (ofNat (j+1)+(1:Int)))) [.mk (j+1) (1:Nat) (j+1+(1:Nat)) (fun j_1 =>
 bif j_1.blt (j+1) then [uI (w (0+j_1))]
 else [[uI hi]].getD ((0:Nat)+(j_1-(j+1))) []) true false
 none,.mk 0 1 1 (fun j=>[[uI hi]].getD j []) true true
 none] else
 gD (j==j&&true)<|gD (((0:Nat)+(j+(1:Nat))).ble (j+1))<|gD (((j+(1:Nat)+(1:Nat))*(2:Nat)).ble 70368744177664)<|bif ((0:Nat)+(j+(1:Nat))+(1:Nat)).ble (j+1) then zN (QO r (j+1) c most lo hi best ch (ofNat b) (.own 0 j 0 (j+1+(1:Nat))
 none) (ofNat cnt) (i64.wrap (ofNat (j+1)+(1:Int)))) [.mk j 1 (j+1) (fun j_1 =>
 bif ((0:Nat)+(j+(1:Nat))).ble j_1&&j_1.blt ((0:Nat)+(j+1)+(1:Nat)) then [[uI hi]].getD ((0:Nat)+(j_1-((0:Nat)+(j+1)))) []
 else [uI (w j_1)]) true false
 none,.mk 0 1 1 (fun j=>[[uI hi]].getD j []) true true
 none] else
 zN (QO r (j+1) c most lo hi best ch (ofNat b) (pO (j+1)) (ofNat cnt) (i64.wrap (ofNat (j+1)+(1:Int)))) [.mk (j+1) (1:Nat) (j+1+(1:Nat)) (fun j_1 =>
 bif j_1.blt (j+1) then [uI (w (0+j_1))]
 else [[uI hi]].getD ((0:Nat)+(j_1-(j+1))) []) true false
 none,.mk 0 1 1 (fun j=>[[uI hi]].getD j []) true true
 none] else
 gD (decide (0<=ofNat (j+1))&&decide (ofNat (j+1)<ofNat (j+1)))<|bif !decide (lo=r (j+1)) then gD (j==j&&true)<|gD (((0:Nat)+(j+(1:Nat))).ble (j+1))<|gD (((j+(1:Nat)+(1:Nat))*(2:Nat)).ble 70368744177664)<|bif ((0:Nat)+(j+(1:Nat))+(1:Nat)).ble (j+1) then zN (QO r (j+1) c most lo hi best ch (ofNat b) (.own 0 j 0 (j+1+(1:Nat))
 none) (i64.wrap (ofNat cnt+1)) (i64.wrap (ofNat (j+1)+(1:Int)))) [.mk j 1 (j+1) (fun j_1 =>
 bif ((0:Nat)+(j+(1:Nat))).ble j_1&&j_1.blt ((0:Nat)+(j+1)+(1:Nat)) then [[uI lo]].getD ((0:Nat)+(j_1-((0:Nat)+(j+1)))) []
 else [uI (w j_1)]) true false
 none,.mk 0 1 1 (fun j=>[[uI lo]].getD j []) true true
 none] else
 zN (QO r (j+1) c most lo hi best ch (ofNat b) (pO (j+1)) (i64.wrap (ofNat cnt+1)) (i64.wrap (ofNat (j+1)+(1:Int)))) [.mk (j+1) (1:Nat) (j+1+(1:Nat)) (fun j_1 =>
 bif j_1.blt (j+1) then [uI (w (0+j_1))]
 else [[uI lo]].getD ((0:Nat)+(j_1-(j+1))) []) true false
 none,.mk 0 1 1 (fun j=>[[uI lo]].getD j []) true true
 none] else
 gD (j==j&&true)<|gD (((0:Nat)+(j+(1:Nat))).ble (j+1))<|gD (((j+(1:Nat)+(1:Nat))*(2:Nat)).ble 70368744177664)<|bif ((0:Nat)+(j+(1:Nat))+(1:Nat)).ble (j+1) then zN (QO r (j+1) c most lo hi best ch (ofNat b) (.own 0 j 0 (j+1+(1:Nat))
 none) (ofNat cnt) (i64.wrap (ofNat (j+1)+(1:Int)))) [.mk j 1 (j+1) (fun j_1 =>
 bif ((0:Nat)+(j+(1:Nat))).ble j_1&&j_1.blt ((0:Nat)+(j+1)+(1:Nat)) then [[uI lo]].getD ((0:Nat)+(j_1-((0:Nat)+(j+1)))) []
 else [uI (w j_1)]) true false
 none,.mk 0 1 1 (fun j=>[[uI lo]].getD j []) true true
 none] else
 zN (QO r (j+1) c most lo hi best ch (ofNat b) (pO (j+1)) (ofNat cnt) (i64.wrap (ofNat (j+1)+(1:Int)))) [.mk (j+1) (1:Nat) (j+1+(1:Nat)) (fun j_1 =>
 bif j_1.blt (j+1) then [uI (w (0+j_1))]
 else [[uI lo]].getD ((0:Nat)+(j_1-(j+1))) []) true false
 none,.mk 0 1 1 (fun j=>[[uI lo]].getD j []) true true
 none] else
 zX 4 [qB r (j+1) c,iI most,uI lo,uI hi,best,iI ch,iI (.ofNat b),pO j,iI (.ofNat cnt)] [lbk j w]) from by kernel_rfl)]
   (repeat (first|refine BT ?_|refine BG ?_))
   rfl
end
noncomputable def qmA(p:List T->T->Prop)(a b d:Nat->Int)(m:Nat):Orc:=qk.add 11 (qL p fun _=>some (.new (.view 3 m (fun j=>[uI (a j),iI (b j),iI (d j)]) none)))
section
variable (r:Nat->Int) (n:Nat) (most lo hi:Int)
def rsF:Nat->Nat×Nat
 |0=>(0,za (wb lo hi n 0) r n)
 |b+1=>if za (wb lo hi n (b+1)) r n<(rsF b).2/\qY (wb lo hi n (b+1)) n<=most then(b+1,za (wb lo hi n (b+1)) r n) else rsF b
def qkw:Nat->T
 |0=>.nils
 |b+1=>qB (wb lo hi n (rsF r n most lo hi b).1) n none
def qmB:Nat->Int
 |0=>(n:Int)+1
 |b+1=>(rsF r n most lo hi b).2
end
theorem qjw(w:Nat->Int)(n:Nat)(c:Option Nat)(hn:n<=60)(hw:∀j,j<n->0<=w j/\w j<256):ToldOk P18 G18 17 [qB w n c] (iI (qY w n)):=by
 obtain⟨p,hp⟩:=qD P18 G18 11;have t1:=qcj w n c (by omega) hw;have hb:=jS w n n;change ToldOk P18 G18 11 _ (.new (.view 3 (fl w n n).length (fun j=>[uI ((fun j=>w ((fl w n n).getD j 0)) j),iI ((fun j=>(((fl w n n).getD j 0:Nat):Int)+1) j),iI (flD w n j)]) none)) at t1;unfold qY;generalize (fun j=>w ((fl w n n).getD j 0))=a at *
 generalize (fun j=>(((fl w n n).getD j 0:Nat):Int)+1)=b at *
 generalize flD w n=d at *
 generalize (fl w n n).length=m at *
 have hl:LoopOk P18 G18 (A18 17) 17 4 (qE (qjv b d a m 0 0) [] (.exit 0) [iI (lgF d m)] []):=by
  refine qz qv (by kernel_rfl) (fun i=>qjv b d a m (lgF d i) (i:Nat)) (fun _=>[]) (n:=m) (fun i hi=>?_) ?_
  ·have e:lgF d (i+1)=bif decide (lgF d i<d i) then d i else lgF d i:=rfl;rw[e];generalize lgF d i=best;have ei:i64.wrap ((i:Int)+1)=((i+1:Nat):Int):=by rw[qI (by omega) (by omega)];omega
   refine Step.mk0 (A:=A18) (m:=0) qf rfl rfl qh (h1:=[]) ?_ .nil;rw[(show qA P18 G18 A18 qk 0 17 [] 4 (qjv b d a m best i) [] =
( bif decide (ofNat i<ofNat m) then gD (decide (0<=ofNat i)&&decide (ofNat i<ofNat m))<|bif decide (best<d i) then gD (decide (0<=ofNat i)&&decide (ofNat i<ofNat m))<|zN [.view 3 m (fun j=>[uI (a j),iI (b j),iI (d j)])
 none,iI (d i),iI (i64.wrap (ofNat i+1))] [] else
 zN [.view 3 m (fun j=>[uI (a j),iI (b j),iI (d j)])
 none,iI best,iI (i64.wrap (ofNat i+1))] [] else
 zX 0 [iI best] []) from by kernel_rfl)]
   rw[qn i,ei];by_cases q:best<d i
   ·rw[dT q];refine BT ?_;refine BT ?_;rw[cond_true,cond_true];refine BT ?_;rfl
   ·rw[dF q];refine BT ?_;refine BT ?_;rw[cond_false,cond_false];rfl
  ·generalize lgF d m=best;refine Last.mk0 (A:=A18) (m:=0) qf rfl rfl qh (h1:=[]) (by simp) ?_ .nil;rw[(show qA P18 G18 A18 qk 0 17 [] 4 (qjv b d a m best m) [] =
( bif decide (ofNat m<ofNat m) then gD (decide (0<=ofNat m)&&decide (ofNat m<ofNat m))<|bif decide (best<d m) then gD (decide (0<=ofNat m)&&decide (ofNat m<ofNat m))<|zN [.view 3 m (fun j=>[uI (a j),iI (b j),iI (d j)])
 none,iI (d m),iI (i64.wrap (ofNat m+1))] [] else
 zN [.view 3 m (fun j=>[uI (a j),iI (b j),iI (d j)])
 none,iI best,iI (i64.wrap (ofNat m+1))] [] else
 zX 0 [iI best] []) from by kernel_rfl)]
   (repeat (first|refine BT ?_|refine BG ?_))
   rfl
 generalize lgF d m=best at *
 refine qJ qv q9 (K:=qmA p a b d m) (qq qf (qj hp)) (A:=A18) (m:=0) (by kernel_rfl) (qK hl) ?_;rw[(show QB P18 G18 A18 (qmA p a b d m) 0 17 [(4,qE (qjv b d a m 0 0) [] (.exit 0) [iI best] [])] [qB w n c] =
( gD (qF (p [qB w n c] (T.view 3 m (fun j=>[uI (a j),iI (b j),iI (d j)])
 none).new))<|gD (qS [.view 3 m (fun j=>[uI (a j),iI (b j),iI (d j)])
 none,iI 0,iI 0] [] [.view 3 m (fun j=>[uI (a j),iI (b j),iI (d j)])
 none,iI 0,iI 0] [])<|some (iI best)) from by kernel_rfl)]
 refine qm (qp hp t1) ?_;exact qm (qw ⟨rfl,.refl _⟩) rfl
theorem qjx(w:Nat->Int)(j:Nat):QN [] [lbk j w] (pO j)=qB w (j+1) none:=by
 unfold lbk pO;simp only[QN,zc,resolve,List.contains_nil,cond_false,List.getElem?_cons_zero,beq_self_eq_true,Bool.true_and,Option.isNone_none];rw[show Nat.ble (0+(j+1)) (j+1)=true from QZ (by omega)];simp only[cond_true,Nat.zero_add];rfl
theorem r15(r:Nat->Int)(j:Nat)(c:Option Nat)(most lo hi ch:Int)(best:T)(b:Nat)(hb:best = .nils∨∃w,best=qB w (j+1) none)(hj:j<16)(hbb:b<2 ^ (j+1))(hlo:0<=lo/\lo<256)(hhi:0<=hi/\hi<256) :
 Step P18 G18 (A18 15) 15 12 0 (YY r (j+1) c most lo hi best ch b) [] (if (za (wb lo hi (j+1) b) r (j+1):Int)<ch/\qY (wb lo hi (j+1) b) (j+1)<=most then YY r (j+1) c most lo hi (qB (wb lo hi (j+1) b) (j+1) none) (za (wb lo hi (j+1) b) r (j+1)) (b+1:Nat) else YY r (j+1) c most lo hi best ch (b+1:Nat)) []:=by
 obtain⟨p,hp⟩:=qD P18 G18 17;have hl:=qom r (j+1) c most lo hi best ch b hb (by omega);have hw:∀e,0<=wb lo hi (j+1) b e/\wb lo hi (j+1) b e<256:=fun e=>by
  unfold wb;split
  ·exact hhi
  ·exact hlo
 have t1:=qjw (wb lo hi (j+1) b) (j+1) none (by omega) fun e _=>hw e;have hcl:=JP (wb lo hi (j+1) b) r (j+1);have hbr:∀σ h,ren σ h best=best:=by
  rcases hb with rfl|⟨w,rfl⟩
  ·intro σ h;rfl
  ·intro σ h;rfl
 have h16:2 ^ (j+1)<=2 ^ 16:=Nat.pow_le_pow_right (by omega) (by omega);have h65:2 ^ 16=65536:=rfl;have ew:i64.wrap (1*(2:Int) ^ min (j+1) 64)=((2 ^ (j+1):Nat):Int):=by
  rw[Nat.min_eq_left (by omega),Int.one_mul];have:((2:Int) ^ (j+1))=((2 ^ (j+1):Nat):Int):=by norm_cast
  rw[this,qI (by omega) (by omega)]
 have eb:i64.wrap ((b:Int)+1)=((b+1:Nat):Int):=by rw[qI (by omega) (by omega)];omega
 generalize za (wb lo hi (j+1) b) r (j+1)=cnt at *
 generalize qY (wb lo hi (j+1) b) (j+1)=x at *
 generalize wb lo hi (j+1) b=w at *
 have mk:∀v1,qA P18 G18 A18 (K15 p x) 0 15 [(17,qE (QO r (j+1) c most lo hi best ch b .nils 0 0) [] (.exit 4) (YY r (j+1) c most lo hi best ch b++[pO j,iI cnt]) [lbk j w])] 12 (YY r (j+1) c most lo hi best ch b) []=some (.normal,v1,[lbk j w])->∀v2,v1.map (ren [] [lbk j w])=v2->Step P18 G18 (A18 15) 15 12 0 (YY r (j+1) c most lo hi best ch b) [] v2 []:=fun v1 h1 v2 h2 =>
  Step.mkC (A:=A18) (K:=K15 p x) (m:=0) (qq qf (qj hp)) rfl rfl (qK hl) [] h1 (by rfl) h2 (h2:=[]) (by rfl) fun nt=>.same .nil
 have tree:=(show qA P18 G18 A18 (K15 p x) 0 15 [(17,qE (QO r (j+1) c most lo hi best ch b .nils 0 0) [] (.exit 4) (YY r (j+1) c most lo hi best ch b++[pO j,iI cnt]) [lbk j w])] 12 (YY r (j+1) c most lo hi best ch b) [] =
( bif decide (ofNat b<i64.wrap ((1:Int)*(2:Int) ^ min (j+1) (64:Nat))) then gD (qS [.view 1 (j+1) (fun j=>[uI (r j)]) c,iI most,uI lo,uI hi,best,iI ch,iI (.ofNat b),.nils,iI 0,iI 0] [] [.view 1 (j+1) (fun j=>[uI (r j)]) c,iI most,uI lo,uI hi,best,iI ch,iI (.ofNat b),.nils,iI 0,iI 0] [])<|bif decide (ofNat cnt<ch) then gD (qF (p [bif j==j&&((0:Nat)+(j+(1:Nat))).ble (j+1) then .view 1 (j+1) (fun j=>[uI (w (0+j))]) none else .undef] (iI x)))<|bif decide (x<=most) then zN [.view 1 (j+1) (fun j=>[uI (r j)]) c,iI most,uI lo,uI hi,.own 0 j 0 (j+1)
 none,iI (.ofNat cnt),iI (i64.wrap (ofNat b+1))] [.mk j 1 (j+1) (fun e=>[uI (w e)]) true false
 none] else
 zN [.view 1 (j+1) (fun j=>[uI (r j)]) c,iI most,uI lo,uI hi,best,iI ch,iI (i64.wrap (ofNat b+1))] [.mk j 1 (j+1) (fun e=>[uI (w e)]) true false
 none] else
 zN [.view 1 (j+1) (fun j=>[uI (r j)]) c,iI most,uI lo,uI hi,best,iI ch,iI (i64.wrap (ofNat b+1))] [.mk j 1 (j+1) (fun e=>[uI (w e)]) true false
 none] else
 zX 2 [best,iI ch] []) from by kernel_rfl)
 simp only[Nat.zero_add,beq_self_eq_true,QZ (Nat.le_refl _),Bool.true_and,cond_true] at tree;rw[ew,qn b,eb,qn cnt] at tree;have c1:decide ((b:Int)<((2 ^ (j+1):Nat):Int))=true:=dT (by omega);have c2:qF (p [.view 1 (j+1) (fun j=>[uI (w j)]) none] (iI x))=true:=qp hp t1;rw[c1,cond_true] at tree;have c0:qS (QO r (j+1) c most lo hi best ch b .nils 0 0) [] (QO r (j+1) c most lo hi best ch b .nils 0 0) []=true:=qw ⟨rfl,.refl _⟩;have keep:(YY r (j+1) c most lo hi best ch (b+1:Nat)).map (ren [] [lbk j w])=YY r (j+1) c most lo hi best ch (b+1:Nat):=by
  show [_,_,_,_,ren _ _ best,_,_]=_;rw[hbr];rfl
 by_cases q1:(cnt:Int)<ch
 ·by_cases q2:x<=most
  ·rw[if_pos ⟨q1,q2⟩];refine mk (YY r (j+1) c most lo hi (pO j) cnt (b+1:Nat)) (tree.trans (qm c0 (qm (dT q1) (qm c2 (qm (dT q2) rfl))))) _ ?_;show [_,_,_,_,QN [] [lbk j w] (pO j),_,_]=_;rw[qjx];rfl
  ·rw[if_neg (fun h=>q2 h.2)];exact mk (YY r (j+1) c most lo hi best ch (b+1:Nat)) (tree.trans (qm c0 (qm (dT q1) (qm c2 (qZ (by simpa using q2) rfl))))) _ keep
 ·rw[if_neg (fun h=>q1 h.1)];exact mk (YY r (j+1) c most lo hi best ch (b+1:Nat)) (tree.trans (qm c0 (qZ (by simpa using q1) rfl))) _ keep
theorem qon(r:Nat->Int)(n:Nat)(c:Option Nat)(most lo hi:Int)(h1:1<=n)(hn:n<=16)(hlo:0<=lo/\lo<256)(hhi:0<=hi/\hi<256)(h0:qY (wb lo hi n 0) n<=most) :
 LoopOk P18 G18 (A18 15) 15 12 (qE (YY r n c most lo hi .nils ((n:Int)+1) 0) [] (.exit 2) [qB (wb lo hi n (rsF r n most lo hi (2 ^ n-1)).1) n none,iI (rsF r n most lo hi (2 ^ n-1)).2] []):=by
 obtain⟨j,rfl⟩:∃j,n=j+1:=⟨n-1,by omega⟩;have hp1:1<=2 ^ (j+1):=Nat.one_le_two_pow;have h16:2 ^ (j+1)<=2 ^ 16:=Nat.pow_le_pow_right (by omega) (by omega);have h65:2 ^ 16=65536:=rfl;refine qz qv (by kernel_rfl) (fun b=>YY r (j+1) c most lo hi (qkw r (j+1) most lo hi b) (qmB r (j+1) most lo hi b) (b:Nat)) (fun _=>[]) (n:=2 ^ (j+1)) (fun b hb=>?_) ?_
 ·have hbest:qkw r (j+1) most lo hi b = .nils∨∃w,qkw r (j+1) most lo hi b=qB w (j+1) none:=by
   cases b with
   |zero=>exact .inl rfl
   |succ b=>exact .inr ⟨_,rfl⟩
  have:=r15 r j c most lo hi (qmB r (j+1) most lo hi b) (qkw r (j+1) most lo hi b) b hbest (by omega) hb hlo hhi;have hcl:=JP (wb lo hi (j+1) b) r (j+1);cases b with
  |zero =>
   rw[if_pos ⟨by show((za (wb lo hi (j+1) 0) r (j+1):Nat):Int)<((j+1:Nat):Int)+1;omega,h0⟩] at this;exact this
  |succ b =>
   show Step P18 G18 (A18 15) 15 12 _ _ _ (YY r (j+1) c most lo hi (qB (wb lo hi (j+1) (rsF r (j+1) most lo hi (b+1)).1) (j+1) none) (rsF r (j+1) most lo hi (b+1)).2 _) _;have e:rsF r (j+1) most lo hi (b+1)=if za (wb lo hi (j+1) (b+1)) r (j+1)<(rsF r (j+1) most lo hi b).2/\qY (wb lo hi (j+1) (b+1)) (j+1)<=most then(b+1,za (wb lo hi (j+1) (b+1)) r (j+1)) else rsF r (j+1) most lo hi b:=rfl;by_cases q:za (wb lo hi (j+1) (b+1)) r (j+1)<(rsF r (j+1) most lo hi b).2/\qY (wb lo hi (j+1) (b+1)) (j+1)<=most
   ·rw[e,if_pos q];rw[if_pos ⟨by show((za (wb lo hi (j+1) (b+1)) r (j+1):Nat):Int)<((rsF r (j+1) most lo hi b).2:Int);omega,q.2⟩] at this;exact this
   ·rw[e,if_neg q];rw[if_neg (fun h=>q ⟨by have:=h.1;change ((za (wb lo hi (j+1) (b+1)) r (j+1):Nat):Int)<((rsF r (j+1) most lo hi b).2:Int) at this;omega,h.2⟩)] at this;exact this
 ·obtain⟨t,ht⟩:∃t,2 ^ (j+1)=t+1:=⟨2 ^ (j+1)-1,by omega⟩;have ew:i64.wrap (1*(2:Int) ^ min (j+1) 64)=((t+1:Nat):Int):=by
   rw[Nat.min_eq_left (by omega),Int.one_mul];have:((2:Int) ^ (j+1))=((2 ^ (j+1):Nat):Int):=by norm_cast
   rw[this,ht,qI (by omega) (by omega)]
  rw[ht];show Last P18 G18 (A18 15) 15 12 _ (YY r (j+1) c most lo hi (qB (wb lo hi (j+1) (rsF r (j+1) most lo hi t).1) (j+1) none) (rsF r (j+1) most lo hi t).2 (t+1:Nat)) _ _ [qB (wb lo hi (j+1) (rsF r (j+1) most lo hi t).1) (j+1) none,iI (rsF r (j+1) most lo hi t).2] _;generalize rsF r (j+1) most lo hi t=q;generalize wb lo hi (j+1) q.1=w;generalize ((q.2:Nat):Int)=ch;refine Last.mk0 (A:=A18) (m:=0) qf rfl rfl qh (h1:=[]) (by simp) ?_ .nil;rw[(show qA P18 G18 A18 qk 0 15 [] 12 (YY r (j+1) c most lo hi (qB w (j+1) none) ch (t+1:Nat)) [] =
( bif decide (ofNat (t+1)<i64.wrap ((1:Int)*(2:Int) ^ min (j+1) (64:Nat))) then none else
 zX 2 [.view 1 (j+1) (fun j=>[uI (w j)])
 none,iI ch] []) from by kernel_rfl)]
  rw[ew];refine BG ?_;rfl
theorem qbj(r:Nat->Int)(n:Nat)(h1:1<=n):∀k,k<=n->∃j,j<n/\zy r k=r j
 |0,_=>⟨0,h1,rfl⟩
 |k+1,hk=>by
  unfold zy;by_cases q:r k<zy r k
  ·rw[dT q];exact⟨k,by omega,rfl⟩
  ·rw[dF q];exact qbj r n h1 k (by omega)
theorem JS(r:Nat->Int)(n:Nat)(h1:1<=n):∀k,k<=n->∃j,j<n/\QM r k=r j
 |0,_=>⟨0,h1,rfl⟩
 |k+1,hk=>by
  unfold QM;by_cases q:QM r k<r k
  ·rw[dT q];exact⟨k,by omega,rfl⟩
  ·rw[dF q];exact JS r n h1 k (by omega)
theorem qjy(r:Nat->Int):∀k j,j<k->zy r k<=r j
 |k+1,j,h=>by
  unfold zy;have ih:=qjy r k;by_cases q:r k<zy r k
  ·rw[dT q,cond_true];by_cases q2:j=k
   ·rw[q2];omega
   ·have:=ih j (by omega);omega
  ·rw[dF q,cond_false];by_cases q2:j=k
   ·rw[q2];omega
   ·exact ih j (by omega)
theorem qhE(r:Nat->Int):∀k j,j<k->r j<=QM r k
 |k+1,j,h=>by
  unfold QM;have ih:=qhE r k;by_cases q:QM r k<r k
  ·rw[dT q,cond_true];by_cases q2:j=k
   ·rw[q2];omega
   ·have:=ih j (by omega);omega
  ·rw[dF q,cond_false];by_cases q2:j=k
   ·rw[q2];omega
   ·exact ih j (by omega)
theorem qip(r:Nat->Int)(n:Nat)(c:Option Nat)(most:Int)(h1:1<=n)(hn:n<=16)(hr:∀j,j<n->0<=r j/\r j<256)(h0:qY (wb (zy r n) (QM r n) n 0) n<=most) :
 ToldOk P18 G18 15 [qB r n c,iI most] (.tup [qB (wb (zy r n) (QM r n) n (rsF r n most (zy r n) (QM r n) (2 ^ n-1)).1) n none,iI (rsF r n most (zy r n) (QM r n) (2 ^ n-1)).2]):=by
 obtain⟨j1,hj1,e1⟩:=qbj r n h1 n (Nat.le_refl _);obtain⟨j2,hj2,e2⟩:=JS r n h1 n (Nat.le_refl _);have hl1:=qol r n c most (by omega);have hl2:=qon r n c most (zy r n) (QM r n) h1 hn (by rw[e1];exact hr j1 hj1) (by rw[e2];exact hr j2 hj2) h0;clear h0 e1 e2;generalize rsF r n most (zy r n) (QM r n) (2 ^ n-1)=q at *
 generalize wb (zy r n) (QM r n) n q.1=w at *
 generalize zy r n=lo at *
 generalize QM r n=hi at *
 generalize ((q.2:Nat):Int)=ch at *
 refine qJ qv q9 qf (A:=A18) (m:=0) (by kernel_rfl) (zq hl1 (qK hl2)) ?_;rw[(show QB P18 G18 A18 qk 0 15 [(3,qE (qar r n c most (r 0) (r 0) 0) [] (.exit 0) [qB r n c,iI most,uI lo,uI hi] []),(12,qE (YY r n c most lo hi .nils ((n:Int)+1) 0) [] (.exit 2) [qB w n none,iI ch] [])] [qB r n c,iI most] =
( gD (decide (0<ofNat n))<|gD (decide (0<ofNat n))<|gD (qS [qB r n c,iI most,uI (r (0:Nat)),uI (r (0:Nat)),iI 0] [] [qB r n c,iI most,uI (r (0:Nat)),uI (r (0:Nat)),iI 0] [])<|gD (qS [qB r n c,iI most,uI lo,uI hi,.nils,iI (i64.wrap (ofNat n+1)),iI 0] [] [qB r n c,iI most,uI lo,uI hi,.nils,iI (.ofNat n+1),iI 0] [])<|some (.tup [qB w n
 none,iI ch])) from by kernel_rfl)]
 rw[qn n,qI (x:=(n:Int)+1) (by omega) (by omega)]
 (repeat (first|refine BT ?_|refine BG ?_))
 refine qm (qw ⟨rfl,.refl _⟩) ?_;refine qm (qw ⟨rfl,.refl _⟩) ?_;rfl
theorem yj(w:Nat->Int)(n:Nat)(most:Int)(hm:0<=most)(h:∀j,j<n->w j=w 0):qY w n<=most:=by
 rw[qcA _ _ _ hm];intro k hk hf;exfalso;rw[JN] at hf;by_cases q:sI w n k<n
 ·rw[if_pos q] at hf;have hne:=qbh w (w k) (n-(k+1)) (k+1) (k+1) (Nat.le_refl _) (by
   change k+1<sI w n k;omega)
  exact hne (by rw[h (k+1) (by omega),h k hk])
 ·rw[if_neg q] at hf;omega
theorem KZ(lo hi:Int)(n j:Nat):wb lo hi n 0 j=lo:=by
 unfold wb;rw[Nat.zero_testBit];simp
theorem qdP(r w:Nat->Int):∀n,ZP r w n 0=((za w r n:Nat):Int):=by
 have key:∀m a,((za w r a:Nat):Int)+ZP r w m a=((za w r (a+m):Nat):Int):=by
  intro m
  induction m with
  |zero=>intro a;show _+(0:Int)=_;rw[Int.add_zero];rfl
  |succ m ih =>
   intro a;have h:=ih (a+1);rw[show a+1+m=a+(m+1) by omega] at h;rw[←h];show _+(chg (r a) (w a)+ZP r w m (a+1))=_;have e:za w r (a+1)=if w a=r a then za w r a else za w r a+1:=rfl;rw[e];unfold chg;by_cases q:w a=r a
   ·rw[if_pos q,dT q.symm,cond_true];omega
   ·rw[if_neg q,dF (fun h=>q h.symm),cond_false];omega
 intro n;have:=key n 0;rw[Nat.zero_add] at this;rw[←this];show _=(0:Int)+_;omega
section
variable (r:Nat->Int) (n:Nat) (most lo hi:Int)
theorem qbk(h0:qY (wb lo hi n 0) n<=most):∀b,(rsF r n most lo hi b).1<=b/\qY (wb lo hi n (rsF r n most lo hi b).1) n<=most/\(rsF r n most lo hi b).2=za (wb lo hi n (rsF r n most lo hi b).1) r n ∧
 (∀d,d<=b->qY (wb lo hi n d) n<=most->(rsF r n most lo hi b).2<=za (wb lo hi n d) r n)/\∀d,d<(rsF r n most lo hi b).1->qY (wb lo hi n d) n<=most->(rsF r n most lo hi b).2<za (wb lo hi n d) r n
 |0=>⟨Nat.le_refl _,h0,rfl,fun d hd _=>by rw[show d=0 by omega];exact Nat.le_refl _,fun d hd=>by cases hd⟩
 |b+1=>by
  obtain⟨h1,h2,h3,h4,h5⟩:=qbk h0 b;have e:rsF r n most lo hi (b+1)=if za (wb lo hi n (b+1)) r n<(rsF r n most lo hi b).2/\qY (wb lo hi n (b+1)) n<=most then(b+1,za (wb lo hi n (b+1)) r n) else rsF r n most lo hi b:=rfl;rw[e];by_cases q:za (wb lo hi n (b+1)) r n<(rsF r n most lo hi b).2/\qY (wb lo hi n (b+1)) n<=most
  ·rw[if_pos q];refine⟨Nat.le_refl _,q.2,rfl,fun d hd ha=>?_,fun d hd ha=>?_⟩
   ·rcases Nat.lt_or_ge d (b+1) with g|g
    ·have:=h4 d (by omega) ha;have:=q.1;show za (wb lo hi n (b+1)) r n<=_;omega
    ·rw[show d=b+1 by omega];exact Nat.le_refl _
   ·have hd:d<b+1:=hd;have:=h4 d (by omega) ha;have:=q.1;show za (wb lo hi n (b+1)) r n<_;omega
  ·rw[if_neg q];refine⟨by omega,h2,h3,fun d hd ha=>?_,h5⟩;rcases Nat.lt_or_ge d (b+1) with g|g
   ·exact h4 d (by omega) ha
   ·obtain rfl:d=b+1:=by omega
    rcases Nat.lt_or_ge (za (wb lo hi n (b+1)) r n) (rsF r n most lo hi b).2 with g2|g2
    ·exact absurd ⟨g2,ha⟩ q
    ·exact g2
end
theorem qkx(r:Nat->Int)(n:Nat)(cs:Nat->Int)(most:Int)(hm:0<=most) :
 (∀j,j<n->wb (cs 0) (cs 1) n (rsF r n most (cs 0) (cs 1) (2 ^ n-1)).1 j=wvL r n cs 2 most j)/\(((rsF r n most (cs 0) (cs 1) (2 ^ n-1)).2:Nat):Int)=lk r n cs 2 most n ⟨0,0,false⟩:=by
 have hw:∀b j,j<n->wb (cs 0) (cs 1) n b j=cs 0∨wb (cs 0) (cs 1) n b j=cs 1:=fun b j _=>by
  unfold wb;split
  ·exact .inr rfl
  ·exact .inl rfl
 have hadm:∀b,YW most (wb (cs 0) (cs 1) n b) n 0 ⟨0,0,false⟩ = true↔qY (wb (cs 0) (cs 1) n b) n<=most:=fun b=>ZE _ n (cs 0) (cs 1) most hm (hw b);obtain⟨b0,p1,p2,p3,p4,p5⟩:=qap (r:=r) (n:=n) (cs:=cs) (most:=most) n 0 ⟨0,0,false⟩ (Nat.zero_add _) (.inr ⟨rfl,rfl⟩);have h0:qY (wb (cs 0) (cs 1) n 0) n<=most:=yj _ n most hm fun j _=>by rw[KZ,KZ]
 obtain⟨q1,q2,q3,q4,q5⟩:=qbk r n most (cs 0) (cs 1) h0 (2 ^ n-1);generalize rsF r n most (cs 0) (cs 1) (2 ^ n-1)=q at *
 have hb0:qY (wb (cs 0) (cs 1) n b0) n<=most:=(hadm b0).1 p3;have hp:1<=2 ^ n:=Nat.one_le_two_pow;have g1:=p5 q.1 (by omega) ((hadm q.1).2 q2);have g2:=q4 b0 (by omega) hb0;rw[qdP] at p4;rw[qdP] at g1;have e:q.1=b0:=by
  rcases Nat.lt_trichotomy q.1 b0 with g|g|g
  ·have:=g1.2 g;omega
  ·exact g
  ·have:=q5 b0 g hb0;omega
 refine⟨fun j hj=>?_,?_⟩
 ·rw[e];exact qhD (r:=r) (most:=most) (wb (cs 0) (cs 1) n b0) n 0 (Nat.zero_add _) p2 j (Nat.zero_le _) hj
 ·rw[q3,e];exact p4
theorem qky(r:Nat->Int)(n:Nat)(cs:Nat->Int)(most:Int)(hm:0<=most)(hr:∀j,j<n->r j=cs 0) :
 (∀j,j<n->wb (cs 0) (cs 0) n (rsF r n most (cs 0) (cs 0) (2 ^ n-1)).1 j=wvL r n cs 1 most j)/\(((rsF r n most (cs 0) (cs 0) (2 ^ n-1)).2:Nat):Int)=lk r n cs 1 most n ⟨0,0,false⟩:=by
 have hw:∀b j,wb (cs 0) (cs 0) n b j=cs 0:=fun b j=>by
  unfold wb;split<;>rfl
 have h0:qY (wb (cs 0) (cs 0) n 0) n<=most:=yj _ n most hm fun j _=>by rw[hw,hw]
 obtain⟨q1,q2,q3,q4,q5⟩:=qbk r n most (cs 0) (cs 0) h0 (2 ^ n-1);have hlk:∀m a s,a+m=n->PlS cs 1 a s->lk r n cs 1 most m s=0:=by
  intro m
  induction m with
  |zero=>intro a s _ _;rfl
  |succ m ih =>
   intro a s ha hs;obtain⟨j,hj,_,h2⟩:=qkU (r:=r) (most:=most) (Nat.le_refl 1) ha hs;obtain rfl:j=0:=by omega
   rw[←h2,ih (a+1) _ (by omega) (.inl (hs.nx hj))];unfold chg;rw[dT (hr a (by omega))];rfl
 have hcnt:za (wb (cs 0) (cs 0) n (rsF r n most (cs 0) (cs 0) (2 ^ n-1)).1) r n=0:=by
  generalize (rsF r n most (cs 0) (cs 0) (2 ^ n-1)).1=b;have key:∀k,k<=n->za (wb (cs 0) (cs 0) n b) r k=0:=by
   intro k
   induction k with
   |zero=>intro _;rfl
   |succ k ih =>
    intro hk;unfold za;rw[if_pos (by rw[hw,hr k (by omega)]),ih (by omega)]
  exact key n (Nat.le_refl _)
 refine⟨fun j hj=>?_,?_⟩
 ·rw[hw];have:=qbi (r:=r) (most:=most) (Nat.le_refl 1) hj (qcy (r:=r) (n:=n) (cs:=cs) (most:=most) (Nat.le_refl 1) j (Nat.le_of_lt hj));show cs 0=cs (qcw r n cs 1 most j (psL r n cs 1 most j));rw[show qcw r n cs 1 most j (psL r n cs 1 most j)=0 by omega]
 ·rw[q3,hcnt,hlk n 0 _ (Nat.zero_add _) (.inr ⟨rfl,rfl⟩)];rfl
theorem qcF(r:Nat->Int)(n:Nat)(most:Int)(hm:0<=most)(h1:1<=n)(hr:∀j,j<n->0<=r j/\r j<256)(h2:kK r n<=2) :
 (∀j,j<n->wb (zy r n) (QM r n) n (rsF r n most (zy r n) (QM r n) (2 ^ n-1)).1 j=wvL r n (csK r n) (kK r n) most j)/\(((rsF r n most (zy r n) (QM r n) (2 ^ n-1)).2:Nat):Int)=lk r n (csK r n) (kK r n) most n ⟨0,0,false⟩:=by
 obtain⟨j1,hj1,e1⟩:=qbj r n h1 n (Nat.le_refl _);obtain⟨j2,hj2,e2⟩:=JS r n h1 n (Nat.le_refl _);have g1:=qjy r n;have g2:=qhE r n;have ha:=qeR r n;have hmem:=KY hr;obtain⟨i1,_,a1,a2⟩:=(hmem (zy r n)).2 ⟨j1,Nat.zero_le _,hj1,e1.symm⟩;obtain⟨i2,_,b1,b2⟩:=(hmem (QM r n)).2 ⟨j2,Nat.zero_le _,hj2,e2.symm⟩;have hk:kK r n=1∨kK r n=2:=by omega
 rcases hk with hk|hk
 ·rw[hk] at a1 b1 ⊢;obtain rfl:i1=0:=by omega
  obtain rfl:i2=0:=by omega
  rw[←a2,←b2];refine qky r n (csK r n) most hm fun j hj=>?_;obtain⟨i,_,c1,c2⟩:=(hmem (r j)).2 ⟨j,Nat.zero_le _,hj,rfl⟩;rw[hk] at c1;rw[←c2,show i=0 by omega]
 ·have hlt:=ha 0 1 (by omega) (by omega);have m0:=(hmem (csK r n 0)).1 ⟨0,Nat.le_refl _,by omega,rfl⟩;have m1:=(hmem (csK r n 1)).1 ⟨1,Nat.zero_le _,by omega,rfl⟩;obtain⟨x0,_,y0,z0⟩:=m0;obtain⟨x1,_,y1,z1⟩:=m1;have l0:=g1 x0 y0;have l1:=g2 x1 y1;rw[hk] at a1 b1;have hi1:i1=0:=by
   rcases Nat.eq_zero_or_pos i1 with q|q
   ·exact q
   ·obtain rfl:i1=1:=by omega
    omega
  have hi2:i2=1:=by
   rcases Nat.eq_zero_or_pos i2 with q|q
   ·subst q;omega
   ·omega
  subst hi1 hi2;rw[hk,←a2,←b2];exact qkx r n (csK r n) most hm
noncomputable def K4r(p:List T->T->Prop)(r:T):Orc:=qk.add 15 (qL p fun _=>some r)
def v4(D:IR)(R:Nat->Nat->Int)(n h:Nat)(rc c:Option Nat)(m tot sum i:Int):List T:=[.reg [uI D.wd,D.rows none],qR R n h rc c,iI m,.own 0 0 0 h (some h),iI tot,iI sum,iI i]
def h4(n h:Nat)(W:Nat->Nat->Int):qg:=[⟨0,1,h,fun i=>[zn n (W i)],false,false,none⟩]
noncomputable def K4(p13 p14 p16 p12:List T->T->Prop)(pic:T)(r14:T):Orc:=(((qk.add 13 (qL p13 fun _=>some pic)).add 14 (qL p14 fun _=>some r14)).add 16 (qL p16 fun _=>some (iI 0))).add 12 (qL p12 fun _=>some (.bool true))
theorem zs(f:Nat->Int)(n:Nat):Z0 (fun j=>[uI (f j)]) n=true:=by
 unfold Z0 Zm;rw[List.all_eq_true];intro x hx;obtain⟨j,_,rfl⟩:=List.mem_map.1 hx;rfl
theorem qhF(R:Nat->Nat->Int)(n h:Nat)(rc c rd d:Option Nat)(hh:h<=1000):ToldOk P18 G18 16 [qR R n h rc c,qR R n h rd d] (iI 0):=by
 have hl:LoopOk P18 G18 (A18 16) 16 4 (qE (v16 R R n h rc c rd d 0) [] (.exit 0) [.undef] []):=by
  refine qz qv (by kernel_rfl) (fun i=>v16 R R n h rc c rd d (i:Nat)) (fun _=>[]) (n:=h) (fun i hi=>?_) ?_
  ·refine Step.mk0 (A:=A18) (m:=0) qf rfl rfl qh (h1:=[]) ?_ .nil;rw[(show qA P18 G18 A18 qk 0 16 [] 4 (v16 R R n h rc c rd d i) [] =
(
 bif decide (ofNat i<ofNat h) then
 bif decide (0<=ofNat i)&&decide (ofNat i<ofNat h) then
 bif Z0 (fun j=>[uI (R i j)]) n then
 bif decide (0<=ofNat i)&&decide (ofNat i<ofNat h) then
 bif Z0 (fun j=>[uI (R i j)]) n then
 bif !decide (yB (fun j=>[uI (R i j)]) n=yB (fun j=>[uI (R i j)]) n) then
 some ((.ret,[iI 1],[]))
 else
 some ((.normal,v16 R R n h rc c rd d (i64.wrap (ofNat i+1)),[]))
 else none else none else none else none else
 some ((.exit 0,[.undef],[]))) from by kernel_rfl)]
   have ei:i64.wrap ((i:Int)+1)=((i+1:Nat):Int):=by rw[qI (by omega) (by omega)];omega
   rw[zs,qn i,ei];refine BT ?_;refine BT ?_;rw[cond_true];refine BT ?_;rw[cond_true];refine qZ (by simp) ?_;rfl
  ·refine Last.mk0 (A:=A18) (m:=0) qf rfl rfl qh (h1:=[]) (by simp) ?_ .nil;rw[(show qA P18 G18 A18 qk 0 16 [] 4 (v16 R R n h rc c rd d h) [] =
(
 bif decide (ofNat h<ofNat h) then
 bif decide (0<=ofNat h)&&decide (ofNat h<ofNat h) then
 bif Z0 (fun j=>[uI (R h j)]) n then
 bif decide (0<=ofNat h)&&decide (ofNat h<ofNat h) then
 bif Z0 (fun j=>[uI (R h j)]) n then
 bif !decide (yB (fun j=>[uI (R h j)]) n=yB (fun j=>[uI (R h j)]) n) then
 some ((.ret,[iI 1],[]))
 else
 some ((.normal,v16 R R n h rc c rd d (i64.wrap (ofNat h+1)),[]))
 else none else none else none else none else
 some ((.exit 0,[.undef],[]))) from by kernel_rfl)]
   (repeat (first|refine BT ?_|refine BG ?_))
   rfl
 refine qJ qv q9 qf (A:=A18) (m:=0) (by kernel_rfl) (qK hl) ?_;rw[(show QB P18 G18 A18 qk 0 16 [(4,qE (v16 R R n h rc c rd d 0) [] (.exit 0) [.undef] [])] [qR R n h rc c,qR R n h rd d] =
(
 bif !decide (ofNat h=ofNat h) then
 some (iI 1)
 else
 bif qS (v16 R R n h rc c rd d (0:Int)) [] (v16 R R n h rc c rd d (0:Int)) [] then
 some (iI 0)
 else
 none) from by kernel_rfl)]
 refine qZ (by simp) ?_;exact qm (qw ⟨rfl,.refl _⟩) rfl
theorem l4(D:IR)(R W:Nat->Nat->Int)(N:Nat->Int)(n h:Nat)(rc c:Option Nat)(m tot:Int)(hh:h<=31)(hN:∀i,i<h->0<=N i/\N i<=1001)
 (hW:∀i,i<h->ToldOk P18 G18 15 [qB (R i) n rc,iI m] (.tup [qB (W i) n none,iI (N i)])) :
 LoopOk P18 G18 (A18 4) 4 8 (qE (v4 D R n h rc c m tot 0 0) (h4 n h W) (.exit 0) [.reg [uI D.wd,D.rows none],.undef,qR R n h rc c,iI tot,iI (QC N h)] (h4 n h W)):=by
 obtain⟨p,hp⟩:=qD P18 G18 15;refine qz qv (by kernel_rfl) (fun i=>v4 D R n h rc c m tot (QC N i) (i:Nat)) (fun _=>h4 n h W) (n:=h) (fun i hi=>?_) ?_
 ·have t1:=hW i hi;have hb:=qeU hN i (by omega);have hb2:=hN i hi;have e:QC N (i+1)=QC N i+N i:=rfl;rw[e];have ei:i64.wrap ((i:Int)+1)=((i+1:Nat):Int):=by rw[qI (by omega) (by omega)];omega
  have ea:i64.wrap (QC N i+N i)=QC N i+N i:=qI (by omega) (by omega);generalize QC N i=sum at *
  generalize N i=a at *
  refine Step.mk0 (A:=A18) (K:=K4r p (.tup [qB (W i) n none,iI a])) (m:=0) (qq qf (qj hp)) rfl rfl qh (h1:=h4 n h W) ?_ (.refl _);rw[(show qA P18 G18 A18 (K4r p (.tup [qB (W i) n none,iI a])) 0 4 [] 8 (v4 D R n h rc c m tot sum i) (h4 n h W) =
(
 bif decide (ofNat i<ofNat h) then
 bif decide (0<=ofNat i)&&decide (ofNat i<ofNat h) then
 bif qF (p [.view 1 n (fun j=>[uI (R i j)]) rc,iI m] (.tup [.view 1 n (fun j=>[uI (W i j)])
 none,iI a])) then
 bif decide (0<=ofNat i)&&decide (ofNat i<ofNat h) then
 bif ((0:Nat)+i).blt h then
 bif Z0 (fun j=>[uI (W (0+i) j)]) n then
 bif Z0 (fun j=>[uI (W i j)]) n then
 bif !decide (yB (fun j=>[uI (W (0+i) j)]) n=yB (fun j=>[uI (W i j)]) n) then
 some ((.ret,[.reg [uI D.wd,D.rows
 none],.bool false,qR R n h rc c,iI tot,iI sum],h4 n h W))
 else
 bif decide (0<=ofNat i)&&decide (ofNat i<ofNat h) then
 bif ((0:Nat)+i).blt h then
 bif decide (0<=ofNat i)&&decide (ofNat i<ofNat h) then
 bif ((0:Nat)+i).blt h then
 bif !decide (ofNat n=ofNat n) then
 some ((.ret,[.reg [uI D.wd,D.rows
 none],.bool false,qR R n h rc c,iI tot,iI sum],h4 n h W))
 else
 some ((.normal,v4 D R n h rc c m tot (i64.wrap (sum+a)) (i64.wrap (ofNat i+1)),h4 n h W))
 else none else none else none else none else none else none else none else none else none else none else
 some ((.exit 0,[.reg [uI D.wd,D.rows
 none],.undef,qR R n h rc c,iI tot,iI sum],h4 n h W))) from by kernel_rfl)]
  rw[zs,zs,qn i,ei,ea,Nat.zero_add];refine BT ?_;refine BT ?_;refine qm (qp hp t1) ?_;refine BT ?_;refine qm (Qy hi) ?_;rw[cond_true,cond_true];refine qZ (by simp) ?_;refine BT ?_;refine qm (Qy hi) ?_;refine BT ?_;refine qm (Qy hi) ?_;refine qZ (by simp) ?_;rfl
 ·generalize QC N h=sum at *
  refine Last.mk0 (A:=A18) (m:=0) qf rfl rfl qh (h1:=h4 n h W) (by simp) ?_ (.refl _);rw[(show qA P18 G18 A18 qk 0 4 [] 8 (v4 D R n h rc c m tot sum (h:Nat)) (h4 n h W) =
(
 bif decide (ofNat h<ofNat h) then
 bif decide (0<=ofNat h)&&decide (ofNat h<ofNat h) then none else none else
 some ((.exit 0,[.reg [uI D.wd,D.rows
 none],.undef,qR R n h rc c,iI tot,iI sum],h4 n h W))) from by kernel_rfl)]
  (repeat (first|refine BT ?_|refine BG ?_))
  rfl
theorem qeY{r:Nat->Int}{n:Nat}{a b:Int}(hr:∀j,j<n->0<=r j/\r j<256)(h:∀j,j<n->r j=a∨r j=b):kK r n<=2:=by
 rcases Nat.lt_or_ge 2 (kK r n) with q|q
 ·exfalso;have ha:=qeR r n;have key:∀i,i<kK r n->csK r n i=a∨csK r n i=b:=fun i hi=>by
   obtain⟨j,_,h1,h2⟩:=(KY hr (csK r n i)).1 ⟨i,Nat.zero_le _,hi,rfl⟩;rw[←h2];exact h j h1
  have a1:=ha 0 1 (by omega) (by omega);have a2:=ha 1 2 (by omega) (by omega);have b0:=key 0 (by omega);have b1:=key 1 (by omega);have b2:=key 2 (by omega);omega
 ·exact q
theorem IR.pic(D:IR):PicOk D.r D.w D.n/\(∀i j,1<=D.r i j/\D.r i j<=5):=by
 have hA:∀i,1<=D.pA i/\D.pA i<=5:=fun i=>by unfold IR.pA qf0;split<;>(try split)<;>(try split)<;>(try split)<;>omega
 have hB:∀i,1<=D.pB i/\D.pB i<=5:=fun i=>by unfold IR.pB qf1;split<;>(try split)<;>(try split)<;>(try split)<;>omega
 have hab:∀i j,D.r i j=D.pA i∨D.r i j=D.pB i:=fun i j=>by
  unfold IR.r;split
  ·split
   ·exact .inl rfl
   ·exact .inr rfl
  ·exact .inl rfl
 have hr:∀i j,1<=D.r i j/\D.r i j<=5:=fun i j=>by
  rcases hab i j with h|h<;>rw[h]
  ·exact hA i
  ·exact hB i
 obtain⟨n1,n2,n3⟩:=D.n_bd;refine⟨⟨by unfold IR.w;omega,by unfold IR.w ZS;omega,by omega,n3,fun i _ j _=>by have:=hr i j;omega,fun i _=>qeY (a:=D.pA i) (b:=D.pB i) (fun j _=>by have:=hr i j;omega) fun j _=>hab i j⟩,hr⟩
theorem qoo(D:IR)(hD:D.Ok)(mo:Int)(hmo:0<=mo/\mo<256):ToldOk P18 G18 4 [.agg [uI D.wd,D.rows none],uI mo] (.bool true):=by
 obtain⟨ok,hr⟩:=D.pic;obtain⟨p13,hp13⟩:=qD P18 G18 13;obtain⟨p14,hp14⟩:=qD P18 G18 14;obtain⟨p16,hp16⟩:=qD P18 G18 16;obtain⟨p12,hp12⟩:=qD P18 G18 12;have t13:=OfT D hD;have em:i64.wrap (1+i64.wrap (mo.tmod 16))=1+mo%16:=by
  rw[Int.tmod_eq_emod_of_nonneg hmo.1,qI (x:=mo%16) (by omega) (by omega),qI (by omega) (by omega)]
 have hm:1<=1+mo%16/\1+mo%16<=16:=by omega
 generalize 1+mo%16=m at *
 have hn1:=ok.n1;have hn2:=ok.nm;have hn3:=hn2;unfold ZS at hn3;have hrr:∀i j,0<=D.r i j/\D.r i j<256:=fun i j=>by have:=hr i j;omega
 have hN:∀i,i<D.n->0<=lk (D.r i) D.w (csK (D.r i) D.w) (kK (D.r i) D.w) m D.w ⟨0,0,false⟩/\lk (D.r i) D.w (csK (D.r i) D.w) (kK (D.r i) D.w) m D.w ⟨0,0,false⟩<=1001:=fun i hi=>by
  have h1:=(qcF (D.r i) D.w m (by omega) hn1 (fun j _=>hrr i j) (ok.two i hi)).2;have hk:1<=kK (D.r i) D.w:=by
   obtain⟨j,_,h2,_⟩:=(KY (fun j _=>hrr i j) (D.r i 0)).2 ⟨0,Nat.le_refl _,hn1,rfl⟩;omega
  have h2:=qjm (r:=D.r i) (n:=D.w) (cs:=csK (D.r i) D.w) (most:=m) hk D.w 0 ⟨0,0,false⟩ (Nat.zero_add _) (.inr ⟨rfl,rfl⟩);omega
 have tW:=qcs D.r D.w D.n (some D.w) none m (fun i=>wvL (D.r i) D.w (csK (D.r i) D.w) (kK (D.r i) D.w) m) (fun i=>lk (D.r i) D.w (csK (D.r i) D.w) (kK (D.r i) D.w) m D.w ⟨0,0,false⟩) ok hm hN
  (fun i hi=>qcz (D.r i) D.w (some D.w) m hn1 hn2 fun j _=>hrr i j)
 have hh:=ok.h1;have hl:=l4 D D.r (fun i=>wvL (D.r i) D.w (csK (D.r i) D.w) (kK (D.r i) D.w) m) (fun i=>lk (D.r i) D.w (csK (D.r i) D.w) (kK (D.r i) D.w) m D.w ⟨0,0,false⟩) D.w D.n (some D.w) none m
  (QC (fun i=>lk (D.r i) D.w (csK (D.r i) D.w) (kK (D.r i) D.w) m D.w ⟨0,0,false⟩) D.n) hh hN fun i hi=>by
   obtain⟨h1,h2⟩:=qcF (D.r i) D.w m (by omega) hn1 (fun j _=>hrr i j) (ok.two i hi);have t:=qip (D.r i) D.w (some D.w) m hn1 (by omega) (fun j _=>hrr i j) (yj _ _ m (by omega) fun j _=>by rw[KZ,KZ]);rw[h2] at t;refine ToldOk.tupTo t (.cons (.view (.view (.inl rfl) fun j hj=>?_)) (.cons (.refl _) .nil));rw[h1 j hj];exact .refl _
 change ToldOk P18 G18 14 _ (.tup [.fresh false 1 D.n (fun i=>[zn D.w ((fun i=>wvL (D.r i) D.w (csK (D.r i) D.w) (kK (D.r i) D.w) m) i)]) D.n (some D.n),_,_]) at tW;have t16:=qhF D.r D.w D.n (some D.w) none (some D.w) none (by omega);generalize (fun i=>wvL (D.r i) D.w (csK (D.r i) D.w) (kK (D.r i) D.w) m)=W at *
 generalize QC (fun i=>lk (D.r i) D.w (csK (D.r i) D.w) (kK (D.r i) D.w) m D.w ⟨0,0,false⟩) D.n=tot at *
 clear hN hrr hr ok;generalize hR:D.r=R at *
 generalize D.w=n at *
 generalize D.n=h at *
 refine qJ qv q9 (K:=K4 p13 p14 p16 p12 (qR R n h (some n) none) (.tup [.fresh false 1 h (fun i=>[zn n (W i)]) h (some h),iI tot,iI 0])) (qq (qq (qq (qq qf (qj hp13)) (qj hp14)) (qj hp16)) (qj hp12)) (A:=A18) (m:=0) (by kernel_rfl) (qK hl) ?_;rw[(show QB P18 G18 A18 (K4 p13 p14 p16 p12 (qR R n h (some n) none) (.tup [.fresh false 1 h (fun i=>[zn n (W i)]) h (some h),iI tot,iI 0])) 0 4 [(8,qE (v4 D R n h (some n) none m tot 0 0) (h4 n h W) (.exit 0) [.reg [uI D.wd,D.rows none],.undef,qR R n h (some n) none,iI tot,iI tot] (h4 n h W))] [.agg [uI D.wd,D.rows none],uI mo] =
(
 bif qF (p13 [.agg [uI D.wd,D.rows
 none]] (.view 1 h (fun i=>[.view 1 n (fun j=>[uI (R i j)]) (some n)])
 none)) then
 bif qF (p14 [.view 1 h (fun i=>[.view 1 n (fun j=>[uI (R i j)]) (some n)])
 none,iI (i64.wrap (1+i64.wrap (mo.tmod 16)))] (.tup [.fresh false (1:Nat) h (fun i=>[.view 1 n (fun j=>[uI (W i j)]) (some n)]) h (some h),iI tot,iI 0])) then
 bif !decide (ofNat h=ofNat h) then
 some (.bool false)
 else
 bif !decide (ofNat h=ofNat h) then
 some (.bool false)
 else
 bif qS (v4 D R n h (some n)
 none (i64.wrap (1+i64.wrap (mo.tmod 16))) tot (0:Int) (0:Int)) (h4 n h W) (v4 D R n h (some n)
 none m tot (0:Int) (0:Int)) (h4 n h W) then
 bif decide (tot=tot) then
 bif qF (p13 [.agg [uI D.wd,D.rows
 none]] (.view 1 h (fun i=>[.view 1 n (fun j=>[uI (R i j)]) (some n)])
 none)) then
 bif qF (p16 [.view 1 h (fun i=>[.view 1 n (fun j=>[uI (R i j)]) (some n)])
 none,.view 1 h (fun i=>[.view 1 n (fun j=>[uI (R i j)]) (some n)])
 none] (iI 0)) then
 bif qF (p12 [] (.bool true)) then
 some (.bool true)
 else none else none else none else
 some (.bool false)
 else none else none else
 none) from by kernel_rfl)]
 rw[em];refine qm (qp hp13 t13) ?_;refine qm (qp hp14 tW) ?_;refine qZ (by simp) ?_;refine qZ (by simp) ?_;refine qm (qw ⟨rfl,.refl _⟩) ?_;refine qm (by simp) ?_;refine qm (qp hp13 t13) ?_;refine qm (qp hp16 t16) ?_;exact qm (qp hp12 Yf) rfl
def qa9:FuncId->Ann:=fun f=>match f with
 |18=>⟨[8],fun r o=>match r with|6=>bif o then [5] else [5,14,15,16]|9=>bif o then [5,14,15,16] else [5,14,15,16,21]|_=>[],false⟩
 |f=>A18 f
def mx(a b:Int):Int:=bif decide (a<b) then b else a
def h18(b:Int):qg:=[⟨0,1,1,fun _=>[iI b],true,false,none⟩]
def v18(R:Nat->Nat->Int)(n h:Nat)(rc c:Option Nat)(i:Int):List T:=[.ptr 0 0 0 0,qR R n h rc c,iI h,iI i]
def qg1(R:Nat->Nat->Int)(n h:Nat)(rc c:Option Nat)(i:Nat):List T:=v18 R n h rc c i++[.fn 44 [.vp [qB (R i) n rc]]]
noncomputable def K18(p:List T->T->Prop)(r:T):Orc:=qk.add 27 (qL p fun _=>some r)
noncomputable def qmC(p:List T->T->Prop):Orc:=qk.add 29 (qL p fun _=>some (iI 0))
def lgP(R:Nat->Nat->Int)(n:Nat):Nat->Int
 |0=>0
 |i+1=>mx (lgP R n i) (qY (R i) n)
theorem qcG(a b:Int):mx a b=if a<b then b else a:=by
 unfold mx;by_cases h:a<b
 ·rw[dT h,if_pos h];rfl
 ·rw[dF h,if_neg h];rfl
theorem qmD(b:Int)(d:Nat->Int)(j:Nat):mx b (lgF d (j+1))=mx (mx b (lgF d j)) (d j):=by
 have e:lgF d (j+1)=mx (lgF d j) (d j):=rfl;rw[e];generalize lgF d j=a;simp only[qcG];by_cases h1:a<d j<;>by_cases h2:b<a<;>by_cases h3:b<d j<;>simp only[h1,h2,h3,if_true,if_false]<;>omega
theorem qmE(d:Nat->Int):lgF d 0=0:=rfl
theorem qop{b:Int}(h:0<=b):mx b 0=b:=by
 rw[qcG];split<;>omega
theorem qjz(R:Nat->Nat->Int)(n:Nat):∀i,0<=lgP R n i
 |0=>Int.le_refl _
 |i+1=>by
  have:=qjz R n i;unfold lgP;rw[qcG];split<;>omega
theorem qg2(R:Nat->Nat->Int)(n:Nat)(m:Int)(hm:0<=m):∀h,lgP R n h<=m↔∀i,i<h->qY (R i) n<=m
 |0=>⟨fun _ i h=>by omega,fun _=>hm⟩
 |h+1=>by
  have ih:=qg2 R n m hm h;have e:lgP R n (h+1)<=m↔lgP R n h<=m/\qY (R h) n<=m:=by
   show mx _ _<=m↔_;rw[qcG];split<;>omega
  rw[e,ih];constructor
  ·intro ⟨h1,h2⟩ i hi;by_cases q:i=h
   ·subst q;exact h2
   ·exact h1 i (by omega)
  ·intro h1;exact⟨fun i hi=>h1 i (by omega),h1 h (by omega)⟩
theorem qoq(R:Nat->Nat->Int)(n h:Nat)(rc c:Option Nat)(i:Nat)(b:Int)(hn:n<=1000)(hb:0<=b)(hr:∀j,j<n->0<=R i j/\R i j<256) :
 LoopOk P18 G18 (qa9 18) 18 9 (qE (qg1 R n h rc c i) (h18 b) .normal (v18 R n h rc c i) (h18 (mx b (qY (R i) n)))):=by
 have key:LoopOk P18 G18 (qa9 18) 18 9 (qE (qg1 R n h rc c i) (h18 (mx b (lgF (flD (R i) n) 0))) .normal (v18 R n h rc c i) (h18 (mx b (qY (R i) n)))):=?_
 ·rw[qmE,qop hb] at key;exact key
 refine qdG (P:=P18) (Gl:=G18) (f:=18) (r:=9) (t:=21) (np:=1) (an:=qa9 18) qv (by kernel_rfl) (vs:=qg1 R n h rc c i) rfl (gf:=44) (caps:=[.vp [qB (R i) n rc]]) rfl (qkQ (R i) n rc hn hr) (by kernel_rfl) (fun j hj=>rfl)
  (fun j=>h18 (mx b (lgF (flD (R i) n) j))) rfl (n:=(fl (R i) n n).length) (Nat.le_refl _) (e1:=.normal) (h1:=h18 (mx b (qY (R i) n))) (vo:=v18 R n h rc c i) rfl (fun j hj=>?_) (.inl ⟨rfl,rfl,rfl⟩)
 refine⟨qa9,qk,0,[],qf,rfl,rfl,qh,?_⟩;rw[qmD];have hg0:YD (R i) n ((fl (R i) n n).getD j 0)=[uI (R i ((fl (R i) n n).getD j 0)),iI ((((fl (R i) n n).getD j 0:Nat):Int)+1),iI (flD (R i) n j)]:=rfl;rw[hg0];generalize R i ((fl (R i) n n).getD j 0)=a at *
 generalize (((fl (R i) n n).getD j 0:Nat):Int)+1=b2 at *
 generalize flD (R i) n j=d at *
 generalize mx b (lgF (flD (R i) n) j)=best at *
 refine⟨_,(show y9 P18 G18 qa9 qk 0 18 [] 9 (qg1 R n h rc c i) [.agg [uI a,iI b2,iI d]] (h18 best) =
( some ((.normal,[.mk 0 1 1 (fun e=>[iI (bif e==(0:Nat) then
 bif decide (best<d) then d
 else best
 else best)]) true false
 none]))) from by kernel_rfl),fun nt=>?_⟩
 refine WeakTo.same (.cons ⟨rfl,rfl,rfl,id,fun j hj=>?_⟩ .nil);obtain rfl:j=0:=by have:j<1:=hj;omega
 rfl
theorem qf2(R:Nat->Nat->Int)(n h:Nat)(rc c:Option Nat)(ok:PicOk R n h):ToldOk P18 G18 18 [qR R n h rc c] (.tup [iI (lgP R n h),iI 0]):=by
 obtain⟨p,hp⟩:=qD P18 G18 29;have hh:=ok.h1;have hn:=ok.nm;unfold ZS at hn;have t1:=qcr R n h rc c ok;have hl:LoopOk P18 G18 (qa9 18) 18 6 (qE (v18 R n h rc c 0) (h18 0) (.exit 0) [.ptr 0 0 0 0] (h18 (lgP R n h))):=by
  obtain⟨q,hq⟩:=qD P18 G18 27;refine qz qv (by kernel_rfl) (fun i=>v18 R n h rc c (i:Nat)) (fun i=>h18 (lgP R n i)) (n:=h) (fun i hi=>?_) ?_
  ·have hin:=qoq R n h rc c i (lgP R n i) (by omega) (qjz R n i) fun j hj=>by have:=ok.col i hi j hj;omega
   have e:lgP R n (i+1)=mx (lgP R n i) (qY (R i) n):=rfl;rw[e];have t2:=qkR (R i) n rc;have ei:i64.wrap ((i:Int)+1)=((i+1:Nat):Int):=by rw[qI (by omega) (by omega)];omega
   generalize mx (lgP R n i) (qY (R i) n)=best2 at *
   generalize lgP R n i=best at *
   refine Step.mk0 (A:=qa9) (K:=K18 q (.fn 44 [.vp [qB (R i) n rc]])) (m:=0) (qq qf (qj hq)) rfl rfl (qK hin) (h1:=h18 best2) ?_ (.refl _);rw[(show qA P18 G18 qa9 (K18 q (.fn 44 [.vp [qB (R i) n rc]])) 0 18 [(9,qE (qg1 R n h rc c i) (h18 best) .normal (v18 R n h rc c i) (h18 best2))] 6 (v18 R n h rc c i) (h18 best) =
( bif decide (ofNat i<ofNat h) then gD (decide (0<=ofNat i)&&decide (ofNat i<ofNat h))<|gD (qF (q [.view 1 n (fun j=>[uI (R i j)]) rc] (.fn (44:Nat) [.vp [.view 1 n (fun j=>[uI (R i j)]) rc]])))<|gD (qS (qg1 R n h rc c i) (h18 best) (qg1 R n h rc c i) (h18 best))<|zN (v18 R n h rc c (i64.wrap (ofNat i+1))) (h18 best2) else
 zX 0 [.ptr 0 0 0 0] (h18 best)) from by kernel_rfl)]
   rw[qn i,ei];refine BT ?_;refine BT ?_;refine qm (qp hq t2) ?_;refine qm (qw ⟨rfl,.refl _⟩) ?_;rfl
  ·generalize lgP R n h=best at *
   refine Last.mk0 (A:=qa9) (m:=0) qf rfl rfl qh (h1:=h18 best) (by simp) ?_ (.refl _);rw[(show qA P18 G18 qa9 qk 0 18 [] 6 (v18 R n h rc c h) (h18 best) =
( bif decide (ofNat h<ofNat h) then gD (decide (0<=ofNat h)&&decide (ofNat h<ofNat h)) none else
 zX 0 [.ptr 0 0 0 0] (h18 best)) from by kernel_rfl)]
   (repeat (first|refine BT ?_|refine BG ?_))
   rfl
 generalize lgP R n h=best at *
 refine qJ qv q9 (K:=qmC p) (qq qf (qj hp)) (A:=qa9) (m:=0) (by kernel_rfl) (qK hl) ?_;rw[(show QB P18 G18 qa9 (qmC p) 0 18 [(6,qE (v18 R n h rc c 0) (h18 0) (.exit 0) [.ptr 0 0 0 0] (h18 best))] [qR R n h rc c] =
( gD (qF (p [.view 1 h (fun i=>[.view 1 n (fun j=>[uI (R i j)]) rc]) c] (iI 0)))<|gD (qS (v18 R n h rc c (0:Int)) [.mk 0 1 1 (fun e=>[iI (bif e==(0:Nat) then(0:Int)
 else(0:Int))]) true false
 none] (v18 R n h rc c (0:Int)) (h18 (0:Int)))<|some (.tup [iI best,iI 0])) from by kernel_rfl)]
 refine qm (qp hp t1) ?_;refine qm (qw ⟨rfl,.cons ⟨rfl,rfl,rfl,id,fun j hj=>?_⟩ .nil⟩) rfl;obtain rfl:j=0:=by have:j<1:=hj;omega
 rfl
theorem kJ(f:Nat->Int)(n:Nat):yB (fun j=>[uI (f j)]) n=(List.range n).map fun j=>UInt8.ofNat (f j).toNat:=by
 unfold yB Zm;rw[List.map_map];rfl
theorem qf3{f g:Nat->Int}{n:Nat}(hf:∀j,j<n->0<=f j/\f j<256)(hg:∀j,j<n->0<=g j/\g j<256)(h:yB (fun j=>[uI (f j)]) n=yB (fun j=>[uI (g j)]) n):∀j,j<n->f j=g j:=by
 intro j hj;rw[kJ,kJ] at h;have e:=List.map_inj_left.1 h j (List.mem_range.2 hj);have e2:=congrArg UInt8.toNat e;have h1:=hf j hj;have h2:=hg j hj;rw[UInt8.toNat_ofNat',UInt8.toNat_ofNat'] at e2;omega
theorem i16(R S:Nat->Nat->Int)(n h:Nat)(rc c rd d:Option Nat)(i:Nat):qA P18 G18 A18 qk 0 16 [] 4 (v16 R S n h rc c rd d i) [] =
(
 bif decide (ofNat i<ofNat h) then
 bif decide (0<=ofNat i)&&decide (ofNat i<ofNat h) then
 bif Z0 (fun j=>[uI (R i j)]) n then
 bif decide (0<=ofNat i)&&decide (ofNat i<ofNat h) then
 bif Z0 (fun j=>[uI (S i j)]) n then
 bif !decide (yB (fun j=>[uI (R i j)]) n=yB (fun j=>[uI (S i j)]) n) then
 some ((.ret,[iI 1],[]))
 else
 some ((.normal,v16 R S n h rc c rd d (i64.wrap (ofNat i+1)),[]))
 else none else none else none else none else
 some ((.exit 0,[.undef],[]))):=by kernel_rfl
theorem qjA(R S:Nat->Nat->Int)(n h:Nat)(rc c rd d:Option Nat)(hh:h<=1000)(hR:∀i,i<h->∀j,j<n->0<=R i j/\R i j<256)(hS:∀i,i<h->∀j,j<n->0<=S i j/\S i j<256)(hd:∃i,i<h/\∃j,j<n/\R i j≠S i j):ToldOk P18 G18 16 [qR R n h rc c,qR S n h rd d] (iI 1):=by
 obtain⟨I,hI,hne,hlt⟩:∃I,I<h/\(∃j,j<n/\R I j≠S I j)/\∀i,i<I->∀j,j<n->R i j=S i j:=by
  obtain⟨i,hi,hx⟩:=hd;clear hR hS
  induction i using Nat.strongRecOn with
  |_ i ih =>
   by_cases q:∃k,k<i/\∃j,j<n/\R k j≠S k j
   ·obtain⟨k,hk,hx⟩:=q;exact ih k hk (by omega) hx
   ·exact⟨i,hi,hx,fun k hk j hj=>Classical.byContradiction fun hne=>q ⟨k,hk,j,hj,hne⟩⟩
 have hl:LoopOk P18 G18 (A18 16) 16 4 (qE (v16 R S n h rc c rd d 0) [] .ret [iI 1] []):=by
  refine qz qv (by kernel_rfl) (fun i=>v16 R S n h rc c rd d (i:Nat)) (fun _=>[]) (n:=I) (fun i hi=>?_) ?_
  ·refine Step.mk0 (A:=A18) (m:=0) qf rfl rfl qh (h1:=[]) ?_ .nil;rw[i16];have ei:i64.wrap ((i:Int)+1)=((i+1:Nat):Int):=by rw[qI (by omega) (by omega)];omega
   have es:yB (fun j=>[uI (R i j)]) n=yB (fun j=>[uI (S i j)]) n:=by
    rw[kJ,kJ];refine List.map_inj_left.2 fun j hj=>?_;rw[hlt i hi j (List.mem_range.1 hj)]
   rw[zs,zs,qn i,ei,es];refine BT ?_;refine BT ?_;rw[cond_true];refine BT ?_;rw[cond_true];refine qZ (by simp) ?_;rfl
  ·refine Last.mk0 (A:=A18) (m:=0) qf rfl rfl qh (h1:=[]) (by simp) ?_ .nil;have es:¬yB (fun j=>[uI (R I j)]) n=yB (fun j=>[uI (S I j)]) n:=fun q=>by
    obtain⟨j,hj,hx⟩:=hne;exact hx (qf3 (hR I hI) (hS I hI) q j hj)
   rw[i16,zs,zs,qn I];refine BT ?_;refine BT ?_;rw[cond_true];refine BT ?_;rw[cond_true];refine qm (by simpa using es) ?_;rfl
 refine qJ qv q9 qf (A:=A18) (m:=0) (by kernel_rfl) (qK hl) ?_;rw[(show QB P18 G18 A18 qk 0 16 [(4,qE (v16 R S n h rc c rd d 0) [] .ret [iI 1] [])] [qR R n h rc c,qR S n h rd d] =
(
 bif !decide (ofNat h=ofNat h) then
 some (iI 1)
 else
 bif qS (v16 R S n h rc c rd d (0:Int)) [] (v16 R S n h rc c rd d (0:Int)) [] then
 some (iI 1)
 else
 none) from by kernel_rfl)]
 refine qZ (by simp) ?_;exact qm (qw ⟨rfl,.refl _⟩) rfl
theorem qjB{f g:Nat->Int}{n:Nat}{c:Option Nat}(h:∀j,j<n->f j=g j):Sim (qB f n c) (qB g n c):=by
 refine .view (.inl rfl) fun j hj=>?_;show Sims [uI (f j)] [uI (g j)];rw[h j hj];exact .refl _
theorem qcH(R S:Nat->Nat->Int)(n h:Nat)(rc c rd d:Option Nat)(hh:h<=1000)(he:∀i,i<h->∀j,j<n->R i j=S i j):ToldOk P18 G18 16 [qR R n h rc c,qR S n h rd d] (iI 0):=by
 refine(qhF R n h rc c rd d hh).sim (.cons (.refl _) (.cons (.view (.inl rfl) fun i hi=>?_) .nil));exact .cons (qjB fun j hj=>(he i hi j hj).symm) .nil
theorem qcI{w v r:Nat->Int}:∀n,(∀j,j<n->w j=v j)->za w r n=za v r n
 |0,_=>rfl
 |n+1,h=>by
  unfold za;rw[h n (by omega),qcI n fun j hj=>h j (by omega)]
theorem qdQ{w r:Nat->Int}:∀n,za w r n=0↔∀j,j<n->w j=r j
 |0=>⟨fun _ j h=>by omega,fun _=>rfl⟩
 |n+1=>by
  have ih:=qdQ (w:=w) (r:=r) n;unfold za;by_cases q:w n=r n
  ·rw[if_pos q,ih];constructor
   ·intro h j hj;by_cases q2:j=n
    ·rw[q2];exact q
    ·exact h j (by omega)
   ·exact fun h j hj=>h j (by omega)
  ·rw[if_neg q];constructor
   ·intro h;omega
   ·intro h;exact absurd (h n (by omega)) q
theorem qjC{r:Nat->Int}{n:Nat}{cs:Nat->Int}{k:Nat}{most:Int}{w:Nat->Int}(hw:∀j,j<n->∃i,i<k/\cs i=w j):∀m a s,a+m=n->YW most w m a s=true->lk r n cs k most m s<=ZP r w m a
 |0,_,_,_,_=>Int.le_refl _
 |m+1,a,s,ha,h=>by
  have h:(s.ok most (w a)&&YW most w m (a+1) (s.nx (w a)))=true:=h;rw[Bool.and_eq_true] at h;obtain⟨i,hi,he⟩:=hw a (by omega);have ih:=qjC (r:=r) hw m (a+1) (s.nx (w a)) (by omega) h.2;have ho:s.ok most (cs i)=true:=by rw[he];exact h.1
  have:=qcx (r:=r) (n:=n) (lk r n cs k most m) (n-(m+1)) s k i hi ho;rw[he,show n-(m+1)=a by omega] at this;show lkB r n cs most (lk r n cs k most m) (n-(m+1)) s k<=chg (r a) (w a)+ZP r w m (a+1);rw[show n-(m+1)=a by omega];omega
theorem qcJ(r:Nat->Int):∀m a,ZP r r m a=0
 |0,_=>rfl
 |m+1,a=>by
  unfold ZP;rw[qcJ r m];unfold chg;rw[dT rfl];rfl
theorem qly{r:Nat->Int}{n:Nat}(hr:∀j,j<n->0<=r j/\r j<256)(h2:kK r n<=2):∀j,j<n->∃i,i<kK r n/\csK r n i=r j:=fun j hj=>by
 obtain⟨i,_,c1,c2⟩:=(KY hr (r j)).2 ⟨j,Nat.zero_le _,hj,rfl⟩;exact⟨i,c1,c2⟩
section
variable {r:Nat->Int} {n:Nat} {most:Int} (hm:0<=most) (h1:1<=n) (hr:∀j,j<n->0<=r j/\r j<256) (h2:kK r n<=2)
def wR(r:Nat->Int)(n:Nat)(most:Int):Nat->Int:=wvL r n (csK r n) (kK r n) most
def nR(r:Nat->Int)(n:Nat)(most:Int):Int:=lk r n (csK r n) (kK r n) most n ⟨0,0,false⟩
include hm h1 hr h2
theorem Zk:qY (wR r n most) n<=most/\nR r n most=za (wR r n most) r n/\(∀j,j<n->wR r n most j=zy r n∨wR r n most j=QM r n):=by
 obtain⟨g1,g2⟩:=qcF r n most hm h1 hr h2;have h0:qY (wb (zy r n) (QM r n) n 0) n<=most:=yj _ n most hm fun j _=>by rw[KZ,KZ]
 obtain⟨_,q2,q3,_,_⟩:=qbk r n most (zy r n) (QM r n) h0 (2 ^ n-1);have hw:∀j,j<n->wb (zy r n) (QM r n) n (rsF r n most (zy r n) (QM r n) (2 ^ n-1)).1 j=zy r n∨wb (zy r n) (QM r n) n (rsF r n most (zy r n) (QM r n) (2 ^ n-1)).1 j=QM r n:=fun j _=>by
  unfold wb;split
  ·exact .inr rfl
  ·exact .inl rfl
 have hv:∀j,j<n->wR r n most j=zy r n∨wR r n most j=QM r n:=fun j hj=>by
  have:=g1 j hj;change _=wR r n most j at this;rw[←this];exact hw j hj
 refine⟨?_,?_,hv⟩
 ·rw[←ZE _ n _ _ most hm hv];rw[←ZE _ n _ _ most hm hw] at q2;rw[←q2];exact kH fun j _ hj=>(g1 j (by omega)).symm
 ·unfold nR;rw[←g2,q3];exact congrArg _ (qcI n g1)
theorem qhG(hl:qY r n<=most):nR r n most=0:=by
 have hc:=qly hr h2;have hw:∀j,j<n->r j=csK r n 0∨r j=csK r n 1:=fun j hj=>by
  obtain⟨i,hi,e⟩:=hc j hj;have:i=0∨i=1:=by omega
  rcases this with rfl|rfl
  ·exact .inl e.symm
  ·exact .inr e.symm
 have ha:=(ZE r n _ _ most hm hw).2 hl;have:=qjC (r:=r) (most:=most) hc n 0 ⟨0,0,false⟩ (Nat.zero_add _) ha;rw[qcJ] at this;have hf:=(Zk hm h1 hr h2).2.1;unfold nR at *
 omega
theorem qjD(j:Nat)(hj:j<n):∃i,i<n/\wR r n most j=r i:=by
 rcases (Zk hm h1 hr h2).2.2 j hj with e|e<;>rw[e]
 ·obtain⟨i,hi,e⟩:=qbj r n h1 n (Nat.le_refl _);exact⟨i,hi,e⟩
 ·obtain⟨i,hi,e⟩:=JS r n h1 n (Nat.le_refl _);exact⟨i,hi,e⟩
theorem qg3:kK (wR r n most) n<=2:=by
 refine qeY (a:=zy r n) (b:=QM r n) (fun j hj=>?_) fun j hj=>(Zk hm h1 hr h2).2.2 j hj;obtain⟨i,hi,e⟩:=qjD (most:=most) hm h1 hr h2 j hj;rw[e];exact hr i hi
theorem qeZ:nR r n most=0↔∀j,j<n->wR r n most j=r j:=by
 rw[(Zk hm h1 hr h2).2.1,←qdQ];omega
theorem qhH:0<=nR r n most/\nR r n most<=n:=by
 rw[(Zk hm h1 hr h2).2.1];have:=JP (wR r n most) r n;omega
theorem qe0(hl:most<qY r n):nR r n most≠0:=fun h=>by
 have e:=(qeZ hm h1 hr h2).1 h;have q:=(Zk hm h1 hr h2).1;have hv:∀j,j<n->r j=zy r n∨r j=QM r n:=fun j hj=>by rw[←e j hj];exact(Zk hm h1 hr h2).2.2 j hj
 rw[←ZE _ n _ _ most hm (Zk hm h1 hr h2).2.2,kH (v:=r) fun j _ hj=>e j (by omega),ZE r n _ _ most hm hv] at q;omega
end
theorem qjE{r:Nat->Int}{n:Nat}{most:Int}(hm:0<=most)(h1:1<=n)(hr:∀j,j<n->0<=r j/\r j<256)(h2:kK r n<=2):nR (wR r n most) n most=0/\∀j,j<n->wR (wR r n most) n most j=wR r n most j:=by
 have hr2:∀j,j<n->0<=wR r n most j/\wR r n most j<256:=fun j hj=>by
  obtain⟨i,hi,e⟩:=qjD (most:=most) hm h1 hr h2 j hj;rw[e];exact hr i hi
 have e:=qhG hm h1 hr2 (qg3 hm h1 hr h2) (Zk hm h1 hr h2).1;exact⟨e,(qeZ hm h1 hr2 (qg3 hm h1 hr h2)).1 e⟩
theorem K1{N:Nat->Int}:∀h,(∀i,i<h->0<=N i)->(QC N h=0↔∀i,i<h->N i=0)
 |0,_=>⟨fun _ i h=>by omega,fun _=>rfl⟩
 |h+1,hN=>by
  have ih:=K1 h fun i hi=>hN i (by omega);have h1:=hN h (by omega);have h2:0<=QC N h:=by
   clear ih
   induction h with
   |zero=>exact Int.le_refl _
   |succ h ih2 =>
    have:=ih2 (fun i hi=>hN i (by omega)) (hN h (by omega));have:=hN h (by omega);show 0<=QC N h+N h;omega
  have e:QC N (h+1)=QC N h+N h:=rfl;rw[e];constructor
  ·intro q i hi;by_cases q2:i=h
   ·rw[q2];omega
   ·exact ih.1 (by omega) i (by omega)
  ·intro q;rw[ih.2 fun i hi=>q i (by omega),q h (by omega)];rfl
def lvw(x:Nat->Nat->Bool)(m:Nat):T:=.view 16 m (fun i=>[.bool (x i 0),.bool (x i 1),.bool (x i 2),.bool (x i 3),.bool (x i 4),.bool (x i 5),.bool (x i 6),.bool (x i 7),.bool (x i 8),.bool (x i 9),.bool (x i 10),.bool (x i 11),.bool (x i 12),.bool (x i 13),.bool (x i 14),.bool (x i 15)]) none
def v5(x:Nat->Nat->Bool)(m:Nat)(mo:Int)(p:T)(lg i:Int):List T:=[lvw x m,iI mo,p,iI lg,iI i]
def v5o(x:Nat->Nat->Bool)(m:Nat)(mo:Int)(p:T)(lg i:Int)(row:T):List T:=[lvw x m,iI mo,p,iI lg,iI i,row]
def v5i(x:Nat->Nat->Bool)(m:Nat)(mo:Int)(p:T)(lg i:Int)(row:T)(k:Int):List T:=[lvw x m,iI mo,p,iI lg,iI i,row,iI k]
def qde(L:Nat):Nat->T
 |0=>.nils
 |j+1=>.own L j 0 (j+1) none
def qiq(w:Nat->Int):Nat->qg
 |0=>[]
 |j+1=>[lbk j w]
def n5(L:Nat):Nat->T
 |0=>.own (L+1) 0 0 1 none
 |j+1=>.own L (j+1) 0 (j+1+1) none
def hn5(w:Nat->Int)(c:Int):Nat->qg
 |0=>[⟨0,1,1,fun j=>[[.int .u8 c]].getD j [],true,true,none⟩,⟨0,1,1,fun j=>[[.int .u8 c]].getD (0+j) [],true,false,none⟩]
 |j+1=>[⟨j+1,1,j+1+1,fun e=>bif Nat.blt e (j+1) then [.int .u8 (w (0+e))] else [[.int .u8 c]].getD (0+(e-(j+1))) [],true,false,none⟩,⟨0,1,1,fun j=>[[.int .u8 c]].getD j [],true,true,none⟩]
def pbN(u:Nat)(R:Nat->Nat->Int):Blk:=⟨u,1,u+1,fun e=>[qB (R e) 16 none],false,false,none⟩
def rB(x:Nat->Nat->Bool)(i k:Nat):Int:=bif x i k then 5 else 2
theorem qmF(x:Nat->Nat->Bool)(m:Nat)(mo lg:Int)(i:Nat)(w:Nat->Int):∀k,k<16->qA P18 G18 A18 qk 0 5 [] 11 (v5i x m mo .nils lg i (qde 0 k) k) (qiq w k) =
 bif decide ((0:Int)<=ofNat i)&&decide (ofNat i<ofNat m) then bif x i k then some (.normal,v5i x m mo .nils lg i (n5 0 k) ((k:Int)+1),hn5 w 5 k) else some (.normal,v5i x m mo .nils lg i (n5 0 k) ((k:Int)+1),hn5 w 2 k) else none:=by
 intro k hk;obtain rfl|rfl|rfl|rfl|rfl|rfl|rfl|rfl|rfl|rfl|rfl|rfl|rfl|rfl|rfl|rfl:k=0∨k=1∨k=2∨k=3∨k=4∨k=5∨k=6∨k=7∨k=8∨k=9∨k=10∨k=11∨k=12∨k=13∨k=14∨k=15:=by omega
 all_goals kernel_rfl
theorem qmG(x:Nat->Nat->Bool)(m:Nat)(mo lg:Int)(i:Nat)(hi:i<m):LoopOk P18 G18 (A18 5) 5 11 (qE (v5i x m mo .nils lg i .nils 0) [] (.exit 2) (v5o x m mo .nils lg i (.own 0 15 0 16 none)) [lbk 15 (rB x i)]):=by
 refine qz qv (by kernel_rfl) (fun k=>v5i x m mo .nils lg i (qde 0 k) k) (fun k=>qiq (rB x i) k) (n:=16) (fun k hk=>?_) ?_
 ·have q:=qmF x m mo lg i (rB x i) k hk;rw[show(decide ((0:Int)<=ofNat i)&&decide (ofNat i<ofNat m))=true by simp[hi],cond_true] at q;have e:qA P18 G18 A18 qk 0 5 [] 11 (v5i x m mo .nils lg i (qde 0 k) k) (qiq (rB x i) k)=some (.normal,v5i x m mo .nils lg i (n5 0 k) ((k:Int)+1),hn5 (rB x i) (rB x i k) k):=by
   rw[q];unfold rB;cases x i k<;>rfl
  have ek:((k:Int)+1)=((k+1:Nat):Int):=by omega
  rw[ek] at e;clear q hk ek;cases k with
  |zero =>
   refine Step.mkC (A:=A18) (m:=0) qf rfl rfl qh [1] e (by kernel_rfl) (v2:=v5i x m mo .nils lg i (qde 0 1) (0+1:Nat)) (by rfl) rfl fun nt=>.same ?_;refine .cons ⟨rfl,rfl,rfl,id,fun j hj=>?_⟩ .nil;obtain rfl:=Yb hj;rfl
  |succ y =>
   refine Step.mkC (A:=A18) (m:=0) qf rfl rfl qh [0] e (by kernel_rfl) (v2:=v5i x m mo .nils lg i (qde 0 (y+1+1)) (y+1+1:Nat)) (by rfl) rfl fun nt=>.same ?_;refine .cons ⟨rfl,rfl,rfl,id,fun e he=>?_⟩ .nil;have he:e<y+1+1:=he;show [uI (rB x i e)]=bif Nat.blt e (y+1) then [uI (rB x i (0+e))] else [[uI (rB x i (y+1))]].getD (0+(e-(y+1))) [];by_cases q:e<y+1
   ·rw[Qy q,cond_true,Nat.zero_add]
   ·obtain rfl:e=y+1:=by omega
    rw[Zg (by omega),cond_false,Nat.sub_self];rfl
 ·refine Last.mk0 (A:=A18) (m:=0) qf rfl rfl qh (h1:=[lbk 15 (rB x i)]) (by simp) ?_ (.refl _);show qA P18 G18 A18 qk 0 5 [] 11 (v5i x m mo .nils lg i (.own 0 15 0 16 none) 16) [lbk 15 (rB x i)]=_;generalize rB x i=w;rw[(show qA P18 G18 A18 qk 0 5 [] 11 (v5i x m mo .nils lg i (.own 0 15 0 16 none) 16) [lbk 15 w] =
( zX 2 [lvw x m,iI mo,.nils,iI lg,iI (.ofNat i),pO (15:Nat)] [lbk (15:Nat) w]) from by kernel_rfl)]
  rfl
theorem qmH(x:Nat->Nat->Bool)(m:Nat)(mo lg:Int)(i:Nat)(w:Nat->Int)(u:Nat)(R:Nat->Nat->Int):∀k,k<16->qA P18 G18 A18 qk 0 5 [] 11 (v5i x m mo (pO u) lg i (qde 1 k) k) ([pbN u R]++qiq w k) =
 bif decide ((0:Int)<=ofNat i)&&decide (ofNat i<ofNat m) then bif x i k then some (.normal,v5i x m mo (pO u) lg i (n5 1 k) ((k:Int)+1),[pbN u R]++hn5 w 5 k) else some (.normal,v5i x m mo (pO u) lg i (n5 1 k) ((k:Int)+1),[pbN u R]++hn5 w 2 k) else none:=by
 intro k hk;obtain rfl|rfl|rfl|rfl|rfl|rfl|rfl|rfl|rfl|rfl|rfl|rfl|rfl|rfl|rfl|rfl:k=0∨k=1∨k=2∨k=3∨k=4∨k=5∨k=6∨k=7∨k=8∨k=9∨k=10∨k=11∨k=12∨k=13∨k=14∨k=15:=by omega
 all_goals kernel_rfl
theorem qmI(x:Nat->Nat->Bool)(m:Nat)(mo lg:Int)(i:Nat)(u:Nat)(R:Nat->Nat->Int)(hi:i<m):LoopOk P18 G18 (A18 5) 5 11 (qE (v5i x m mo (pO u) lg i .nils 0) [pbN u R] (.exit 2) (v5o x m mo (pO u) lg i (.own 1 15 0 16 none)) [pbN u R,lbk 15 (rB x i)]):=by
 refine qz qv (by kernel_rfl) (fun k=>v5i x m mo (pO u) lg i (qde 1 k) k) (fun k=>[pbN u R]++qiq (rB x i) k) (n:=16) (fun k hk=>?_) ?_
 ·have q:=qmH x m mo lg i (rB x i) u R k hk;rw[show(decide ((0:Int)<=ofNat i)&&decide (ofNat i<ofNat m))=true by simp[hi],cond_true] at q;have e:qA P18 G18 A18 qk 0 5 [] 11 (v5i x m mo (pO u) lg i (qde 1 k) k) ([pbN u R]++qiq (rB x i) k)=some (.normal,v5i x m mo (pO u) lg i (n5 1 k) ((k:Int)+1),[pbN u R]++hn5 (rB x i) (rB x i k) k):=by
   rw[q];unfold rB;cases x i k<;>rfl
  have ek:((k:Int)+1)=((k+1:Nat):Int):=by omega
  rw[ek] at e;clear q hk ek;cases k with
  |zero =>
   refine Step.mkC (A:=A18) (m:=0) qf rfl rfl qh [0,2] e (by kernel_rfl) (v2:=v5i x m mo (pO u) lg i (qde 1 1) (0+1:Nat)) (by rfl) rfl fun nt=>.same ?_;refine .cons ⟨rfl,rfl,rfl,id,fun j hj=>rfl⟩ (.cons ⟨rfl,rfl,rfl,id,fun j hj=>?_⟩ .nil);obtain rfl:=Yb hj;rfl
  |succ y =>
   refine Step.mkC (A:=A18) (m:=0) qf rfl rfl qh [0,1] e (by kernel_rfl) (v2:=v5i x m mo (pO u) lg i (qde 1 (y+1+1)) (y+1+1:Nat)) (by rfl) rfl fun nt=>.same ?_;refine .cons ⟨rfl,rfl,rfl,id,fun j hj=>rfl⟩ (.cons ⟨rfl,rfl,rfl,id,fun e he=>?_⟩ .nil);have he:e<y+1+1:=he;show [uI (rB x i e)]=bif Nat.blt e (y+1) then [uI (rB x i (0+e))] else [[uI (rB x i (y+1))]].getD (0+(e-(y+1))) [];by_cases q:e<y+1
   ·rw[Qy q,cond_true,Nat.zero_add]
   ·obtain rfl:e=y+1:=by omega
    rw[Zg (by omega),cond_false,Nat.sub_self];rfl
 ·refine Last.mk0 (A:=A18) (m:=0) qf rfl rfl qh (h1:=[pbN u R,lbk 15 (rB x i)]) (by simp) ?_ (.refl _);show qA P18 G18 A18 qk 0 5 [] 11 (v5i x m mo (pO u) lg i (.own 1 15 0 16 none) 16) [pbN u R,lbk 15 (rB x i)]=_;generalize rB x i=w;rw[(show qA P18 G18 A18 qk 0 5 [] 11 (v5i x m mo (pO u) lg i (.own 1 15 0 16 none) 16) [pbN u R,lbk 15 w] =
( zX 2 [lvw x m,iI mo,pO u,iI lg,iI (.ofNat i),.own 1 15 0 16
 none] [pbN u R,lbk (15:Nat) w]) from by kernel_rfl)]
  rfl
noncomputable def K5(p:List T->T->Prop)(l:Int):Orc:=qk.add 17 (qL p fun _=>some (iI l))
def p5:Nat->T
 |0=>.nils
 |j+1=>pO j
def h5(R:Nat->Nat->Int):Nat->qg
 |0=>[]
 |j+1=>[pbN j R]
theorem qf4{σ:List Nat}{h:qg}{ix j:Nat}{y:Nat->Int}(hp:zc σ ix=none)(hc:σ.contains ix=false)(hi:h[ix]?=some (lbk j y)):QN σ h (.own ix j 0 (j+1) none)=qB y (j+1) none:=by
 unfold lbk at hi;simp only[QN,hp,resolve,hc,cond_false,hi,beq_self_eq_true,Bool.true_and,Option.isNone_none];rw[show Nat.ble (0+(j+1)) (j+1)=true from QZ (by omega)];simp only[cond_true,Nat.zero_add];rfl
theorem l5(x:Nat->Nat->Bool)(m:Nat)(mo:Int)(hm:m<=31)(h1:1<=m):LoopOk P18 G18 (A18 5) 5 7 (qE (v5 x m mo .nils 0 0) [] (.exit 0) [iI mo,qR (rB x) 16 m none none,iI (lgP (rB x) 16 m)] []):=by
 obtain⟨q,hq⟩:=qD P18 G18 17;refine qz qv (by kernel_rfl) (fun i=>v5 x m mo (p5 i) (lgP (rB x) 16 i) i) (fun i=>h5 (rB x) i) (n:=m) (fun i hi=>?_) ?_
 ·have t1:=qjw (rB x i) 16 none (by omega) fun j _=>by unfold rB;cases x i j<;>decide
  have e1:lgP (rB x) 16 (i+1)=bif decide (lgP (rB x) 16 i<qY (rB x i) 16) then qY (rB x i) 16 else lgP (rB x) 16 i:=rfl;rw[e1];have ei:i64.wrap ((i:Int)+1)=((i+1:Nat):Int):=by rw[qI (by omega) (by omega)];omega
  generalize qY (rB x i) 16=l at *
  generalize lgP (rB x) 16 i=lg at *
  have e0:(fun j=>[uI (rB x i (0+j))])=fun j=>[uI (rB x i j)]:=by funext j;rw[Nat.zero_add]
  cases i with
  |zero =>
   have hl:=qmG x m mo lg 0 hi;generalize hw:rB x 0=w at *
   refine Step.mkC (A:=A18) (K:=K5 q l) (m:=0) (qq qf (qj hq)) rfl rfl (qK hl) [2] (v1:=v5 x m mo (.own 2 0 0 1 none) (bif decide (lg<l) then l else lg) (0+1:Nat)) (h1:=[lbk 15 w,⟨0,1,1,fun j=>[[.own 0 15 0 16 none]].getD j [],false,true,none⟩,⟨0,1,1,fun j=>[[.own 0 15 0 16 none]].getD (0+j) [],false,false,none⟩]) ?_ (by kernel_rfl) (v2:=v5 x m mo (pO 0) (bif decide (lg<l) then l else lg) (0+1:Nat)) (by rfl) rfl fun nt=>.same (.cons ⟨rfl,rfl,rfl,id,fun j hj=>?_⟩ .nil)
   ·show qA P18 G18 A18 (K5 q l) 0 5 _ 7 (v5 x m mo .nils lg (0:Nat)) []=_;rw[(show qA P18 G18 A18 (K5 q l) 0 5 [(11,qE (v5i x m mo .nils lg (0:Nat) .nils 0) [] (.exit 2) (v5o x m mo .nils lg (0:Nat) (.own 0 15 0 16 none)) [lbk 15 w])] 7 (v5 x m mo .nils lg (0:Nat)) [] =
( bif decide (0<ofNat m) then gD (qS [lvw x m,iI mo,.nils,iI lg,iI 0,.nils,iI 0] [] [lvw x m,iI mo,.nils,iI lg,iI 0,.nils,iI 0] [])<|gD (qF (q [.view 1 16 (fun j=>[uI (w (0+j))])
 none] (iI l)))<|zN [lvw x m,iI mo,.own [lbk (15:Nat) w,Blk.mk 0 1 1 (fun j=>[[pO (15:Nat)]].getD j []) false true
 none].length (0:Nat) (0:Nat) (1:Nat)
 none,iI (bif decide (lg<l) then l
 else lg),iI 1] [lbk (15:Nat) w,.mk 0 1 1 (fun j=>[[pO (15:Nat)]].getD j []) false true
 none,.mk 0 1 1 (fun j=>[[pO (15:Nat)]].getD (0+j) []) false false
 none] else
 zX 0 [iI mo,.nils,iI lg] []) from by kernel_rfl)]
    rw[e0];refine BT ?_;refine qm (qw ⟨rfl,.refl _⟩) ?_;refine qm (qp hq t1) ?_;rfl
   ·obtain rfl:=Yb hj;show [qB (rB x 0) 16 none]=[QN [2] _ (.own 0 15 0 16 none)];rw[qf4 (j:=15) (y:=w) rfl rfl rfl,hw]
  |succ u =>
   have hl:=qmI x m mo lg (u+1) u (rB x) hi;generalize hw:rB x (u+1)=w at *
   generalize hR:rB x=R at *
   refine Step.mkC (A:=A18) (K:=K5 q l) (m:=0) (qq qf (qj hq)) rfl rfl (qK hl) [0] (v1:=v5 x m mo (pO (u+1)) (bif decide (lg<l) then l else lg) (u+1+1:Nat)) (h1:=[⟨u+1,1,u+1+1,fun e=>bif Nat.blt e (u+1) then [qB (R (0+e)) 16 none] else [[.own 1 15 0 16 none]].getD (0+(e-(u+1))) [],false,false,none⟩,lbk 15 w,⟨0,1,1,fun j=>[[.own 1 15 0 16 none]].getD j [],false,true,none⟩]) ?_ (by kernel_rfl) (v2:=v5 x m mo (pO (u+1)) (bif decide (lg<l) then l else lg) (u+1+1:Nat)) (by rfl) rfl fun nt=>.same (.cons ⟨rfl,rfl,rfl,id,fun e he=>?_⟩ .nil)
   ·show qA P18 G18 A18 (K5 q l) 0 5 _ 7 (v5 x m mo (pO u) lg (u+1:Nat)) [pbN u R]=_;rw[(show qA P18 G18 A18 (K5 q l) 0 5 [(11,qE (v5i x m mo (pO u) lg (u+1:Nat) .nils 0) [pbN u R] (.exit 2) (v5o x m mo (pO u) lg (u+1:Nat) (.own 1 15 0 16 none)) [pbN u R,lbk 15 w])] 7 (v5 x m mo (pO u) lg (u+1:Nat)) [pbN u R] =
( bif decide (ofNat (u+1)<ofNat m) then gD (qS [lvw x m,iI mo,pO u,iI lg,iI (.ofNat (u+1)),.nils,iI 0] [pbN u R] [lvw x m,iI mo,pO u,iI lg,iI (.ofNat (u+1)),.nils,iI 0] [pbN u R])<|gD (qF (q [.view 1 16 (fun j=>[uI (w (0+j))])
 none] (iI l)))<|gD (u==u&&true)<|gD (((0:Nat)+(u+(1:Nat))).ble (u+1))<|gD (((u+(1:Nat)+(1:Nat))*(25:Nat)).ble 70368744177664)<|bif ((0:Nat)+(u+(1:Nat))+(1:Nat)).ble (u+1) then zN [lvw x m,iI mo,.own 0 u 0 (u+1+(1:Nat))
 none,iI (bif decide (lg<l) then l
 else lg),iI (i64.wrap (ofNat (u+1)+(1:Int)))] [.mk u 1 (u+1) (fun j =>
 bif ((0:Nat)+(u+(1:Nat))).ble j&&j.blt ((0:Nat)+(u+1)+(1:Nat)) then [[T.own 1 15 0 16
 none]].getD ((0:Nat)+(j-((0:Nat)+(u+1)))) []
 else [qB (R j) (16:Nat)
 none]) false false
 none,lbk (15:Nat) w,.mk 0 1 1 (fun j=>[[T.own 1 15 0 16
 none]].getD j []) false true
 none] else
 zN [lvw x m,iI mo,pO (u+1),iI (bif decide (lg<l) then l
 else lg),iI (i64.wrap (ofNat (u+1)+(1:Int)))] [.mk (u+1) (1:Nat) (u+1+(1:Nat)) (fun j =>
 bif j.blt (u+1) then [qB (R (0+j)) (16:Nat)
 none]
 else [[T.own 1 15 0 16
 none]].getD ((0:Nat)+(j-(u+1))) []) false false
 none,lbk (15:Nat) w,.mk 0 1 1 (fun j=>[[T.own 1 15 0 16
 none]].getD j []) false true
 none] else
 zX 0 [iI mo,pO u,iI lg] [pbN u R]) from by kernel_rfl)]
    rw[e0,qn (u+1),ei];refine BT ?_;refine qm (qw ⟨rfl,.refl _⟩) ?_;refine qm (qp hq t1) ?_;refine qm (by simp) ?_;refine BT ?_;refine BT ?_;refine BF ?_;rfl
   ·have he:e<u+1+1:=he;show [qB (R e) 16 none]=List.map (QN [0] _) (bif Nat.blt e (u+1) then [qB (R (0+e)) 16 none] else [[T.own 1 15 0 16 none]].getD (0+(e-(u+1))) []);by_cases q:e<u+1
    ·rw[Qy q,cond_true,Nat.zero_add];rfl
    ·obtain rfl:e=u+1:=by omega
     rw[Zg (Nat.le_refl _),cond_false,Nat.sub_self];show _=[QN [0] _ (.own 1 15 0 16 none)];rw[qf4 (j:=15) (y:=w) rfl rfl rfl,hw]
 ·obtain⟨u,rfl⟩:∃u,m=u+1:=⟨m-1,by omega⟩;generalize lgP (rB x) 16 (u+1)=lg;show Last P18 G18 (A18 5) 5 7 _ (v5 x (u+1) mo (pO u) lg (u+1:Nat)) [pbN u (rB x)] (.exit 0) [iI mo,qR (rB x) 16 (u+1) none none,iI lg] [];generalize rB x=R;have e:ren [] [pbN u R] (pO u)=qR R 16 (u+1) none none:=by
   show QN [] [pbN u R] (.own 0 u 0 (u+1) none)=_;simp only[QN,zc,resolve,List.contains_nil,cond_false,List.getElem?_cons_zero,pbN,beq_self_eq_true,Bool.true_and,Option.isNone_none];rw[show Nat.ble (0+(u+1)) (u+1)=true from QZ (by omega)];simp only[cond_true,Nat.zero_add];rfl
  refine Last.mkC (A:=A18) (m:=0) qf rfl rfl qh (by simp) [] (v1:=[iI mo,pO u,iI lg]) (h1:=[pbN u R]) ?_ (by kernel_rfl) (v2:=[iI mo,qR R 16 (u+1) none none,iI lg]) (by show [_,ren [] [pbN u R] (pO u),_]=_;rw[e];rfl) rfl fun nt=>.same .nil;rw[(show qA P18 G18 A18 qk 0 5 [] 7 (v5 x (u+1) mo (pO u) lg (u+1:Nat)) [pbN u R] =
( bif decide (ofNat (u+1)<ofNat (u+1)) then none else
 zX 0 [iI mo,pO u,iI lg] [pbN u R]) from by kernel_rfl)]
  refine BF ?_;rfl
noncomputable def K5z(p14 p18 p16 p12:List T->T->Prop)(m:Nat)(R W W2:Nat->Nat->Int)(n a d:Int):Orc :=
 (((qk.add 14 (qL p14 fun l=>match l with
   |[.view _ _ _ none,_]=>some (.tup [.view 1 m (fun i=>[zn 16 (W i)]) (some m),iI n,iI 0])
   |[.view _ _ _ (some _),_]=>some (.tup [.view 1 m (fun i=>[zn 16 (W2 i)]) (some m),iI 0,iI 0])
   |_=>none)).add 18 (qL p18 fun _=>some (.tup [.int .i64 a,.int .i64 0]))).add 16 (qL p16 fun l=>match l with
   |[.view _ _ _ none,_]=>some (iI d)
   |[.view _ _ _ (some _),_]=>some (iI 0)
   |_=>none)).add 12 (qL p12 fun _=>some (.bool true))
theorem qmJ(x:Nat->Nat->Bool)(m:Nat)(mo8:Int)(hmo:0<=mo8/\mo8<256):ToldOk P18 G18 5 [lvw x m,uI mo8] (.bool true):=by
 by_cases hbad:31<m∨m%2=0
 ·refine qJ qv q9 qf (A:=A18) (m:=0) (by kernel_rfl) qh ?_;rw[(show QB P18 G18 A18 qk 0 5 [] [lvw x m,uI mo8] =
( bif decide (31<ofNat m) then some (.bool true) else
 gD (decide ((ofNat m).tmod 2=0))<|some (.bool true)) from by kernel_rfl)]
  by_cases q:31<m
  ·exact BT rfl
  ·have q2:m%2=0:=by omega
   refine BF ?_;refine qm (decide_eq_true ?_) rfl;rw[qn,Int.tmod_eq_emod_of_nonneg (by omega)];omega
 obtain⟨p14,hp14⟩:=qD P18 G18 14;obtain⟨p18,hp18⟩:=qD P18 G18 18;obtain⟨p16,hp16⟩:=qD P18 G18 16;obtain⟨p12,hp12⟩:=qD P18 G18 12;have em:i64.wrap (1+i64.wrap (mo8.tmod 16))=1+mo8%16:=by
  rw[Int.tmod_eq_emod_of_nonneg hmo.1,qI (x:=mo8%16) (by omega) (by omega),qI (by omega) (by omega)]
 have hm:1<=1+mo8%16/\1+mo8%16<=16:=by omega
 generalize 1+mo8%16=mo at *
 have hm0:0<=mo:=by omega
 have hl:=l5 x m mo (by omega) (by omega);have hRc:∀i j,rB x i j=5∨rB x i j=2:=fun i j=>by unfold rB;cases x i j<;>simp
 generalize rB x=R at *
 have hr:∀i j,0<=R i j/\R i j<256:=fun i j=>by rcases hRc i j with h|h<;>rw[h]<;>decide
 have h2:∀i,kK (R i) 16<=2:=fun i=>qeY (a:=5) (b:=2) (fun j _=>hr i j) fun j _=>hRc i j;have n1:1<=16:=by omega
 have ok:PicOk R 16 m:=⟨n1,by unfold ZS;omega,by omega,by omega,fun i _ j _=>by rcases hRc i j with h|h<;>rw[h]<;>decide,fun i _=>h2 i⟩;have hWr:∀i j,j<16->1<=wR (R i) 16 mo j/\wR (R i) 16 mo j<=6:=fun i j hj=>by
  obtain⟨e,_,he⟩:=qjD hm0 n1 (fun j _=>hr i j) (h2 i) j hj;rw[he];rcases hRc i e with h|h<;>rw[h]<;>decide
 have hWr2:∀i j,j<16->0<=wR (R i) 16 mo j/\wR (R i) 16 mo j<256:=fun i j hj=>by have:=hWr i j hj;omega
 have ok2:PicOk (fun i=>wR (R i) 16 mo) 16 m:=⟨n1,by unfold ZS;omega,by omega,by omega,fun i _ j hj=>hWr i j hj,fun i _=>qg3 hm0 n1 (fun j _=>hr i j) (h2 i)⟩;have t14a:=(qcs R 16 m none none mo (fun i=>wR (R i) 16 mo) (fun i=>nR (R i) 16 mo) ok hm (fun i _=>by have:=qhH hm0 n1 (fun j _=>hr i j) (h2 i);omega) fun i hi=>qcz (R i) 16 none mo n1 (by unfold ZS;omega) fun j _=>hr i j).frz;have hag:∀i,nR (wR (R i) 16 mo) 16 mo=0/\∀j,j<16->wR (wR (R i) 16 mo) 16 mo j=wR (R i) 16 mo j:=fun i=>qjE hm0 n1 (fun j _=>hr i j) (h2 i);have t14b:=(qcs (fun i=>wR (R i) 16 mo) 16 m (some 16) (some m) mo (fun i=>wR (wR (R i) 16 mo) 16 mo) (fun i=>nR (wR (R i) 16 mo) 16 mo) ok2 hm (fun i _=>by rw[(hag i).1];omega) fun i hi=>qcz (wR (R i) 16 mo) 16 (some 16) mo n1 (by unfold ZS;omega) fun j hj=>hWr2 i j hj).frz;have e0:QC (fun i=>nR (wR (R i) 16 mo) 16 mo) m=0:=(K1 m fun i _=>by rw[(hag i).1];omega).2 fun i _=>(hag i).1;rw[e0] at t14b;have t18:=qf2 (fun i=>wR (R i) 16 mo) 16 m (some 16) (some m) ok2;have hle:lgP (fun i=>wR (R i) 16 mo) 16 m<=mo:=(qg2 _ _ _ hm0 m).2 fun i _=>(Zk hm0 n1 (fun j _=>hr i j) (h2 i)).1;have t16a:=qcH (fun i=>wR (R i) 16 mo) (fun i=>wR (wR (R i) 16 mo) 16 mo) 16 m (some 16) (some m) (some 16) (some m) (by omega) fun i _ j hj=>((hag i).2 j hj).symm;have hz:QC (fun i=>nR (R i) 16 mo) m=0↔∀i,i<m->∀j,j<16->R i j=wR (R i) 16 mo j:=by
  rw[K1 m fun i _=>(qhH hm0 n1 (fun j _=>hr i j) (h2 i)).1];constructor
  ·exact fun h i hi j hj=>((qeZ hm0 n1 (fun j _=>hr i j) (h2 i)).1 (h i hi) j hj).symm
  ·exact fun h i hi=>(qeZ hm0 n1 (fun j _=>hr i j) (h2 i)).2 fun j hj=>(h i hi j hj).symm
 have hlg:lgP R 16 m<=mo↔QC (fun i=>nR (R i) 16 mo) m=0:=by
  rw[qg2 _ _ _ hm0 m,K1 m fun i _=>(qhH hm0 n1 (fun j _=>hr i j) (h2 i)).1];constructor
  ·exact fun h i hi=>qhG hm0 n1 (fun j _=>hr i j) (h2 i) (h i hi)
  ·intro h i hi;by_cases q:mo<qY (R i) 16
   ·exact absurd (h i hi) (qe0 hm0 n1 (fun j _=>hr i j) (h2 i) q)
   ·omega
 have t16b:∃d,(d=0↔QC (fun i=>nR (R i) 16 mo) m=0)/\ToldOk P18 G18 16 [qR R 16 m none none,qR (fun i=>wR (R i) 16 mo) 16 m (some 16) (some m)] (iI d):=by
  by_cases q:QC (fun i=>nR (R i) 16 mo) m=0
  ·exact⟨0,⟨fun _=>q,fun _=>rfl⟩,qcH R (fun i=>wR (R i) 16 mo) 16 m none none (some 16) (some m) (by omega) (hz.1 q)⟩
  ·refine⟨1,⟨fun h=>by omega,fun h=>absurd h q⟩,qjA R (fun i=>wR (R i) 16 mo) 16 m none none (some 16) (some m) (by omega) (fun i _ j _=>hr i j) (fun i _ j hj=>hWr2 i j hj) ?_⟩;refine Classical.byContradiction fun hc=>q (hz.2 fun i hi j hj=>Classical.byContradiction fun hne=>hc ⟨i,hi,j,hj,hne⟩)
 obtain⟨d,hd,t16b⟩:=t16b;change ToldOk P18 G18 14 _ (.tup [.view 1 m (fun i=>[zn 16 ((fun i=>wR (R i) 16 mo) i)]) (some m),_,_]) at t14a;change ToldOk P18 G18 14 _ (.tup [.view 1 m (fun i=>[zn 16 ((fun i=>wR (wR (R i) 16 mo) 16 mo) i)]) (some m),_,_]) at t14b;clear hag hWr hWr2 ok ok2 h2 hr hRc hz e0;generalize (fun i=>wR (wR (R i) 16 mo) 16 mo)=W2 at *
 generalize (fun i=>wR (R i) 16 mo)=W at *
 generalize QC (fun i=>nR (R i) 16 mo) m=n at *
 generalize lgP R 16 m=lg at *
 generalize lgP W 16 m=a at *
 refine qJ qv q9 (K:=K5z p14 p18 p16 p12 m R W W2 n a d) (qq (qq (qq (qq qf (qj hp14)) (qj hp18)) (qj hp16)) (qj hp12)) (A:=A18) (m:=0) (by kernel_rfl) (qK hl) ?_;rw[(show QB P18 G18 A18 (K5z p14 p18 p16 p12 m R W W2 n a d) 0 5 [(7,qE (v5 x m mo .nils 0 0) [] (.exit 0) [iI mo,qR R 16 m none none,iI lg] [])] [lvw x m,uI mo8] =
( bif decide (31<ofNat m) then some (.bool true) else
 bif decide ((ofNat m).tmod 2=0) then some (.bool true) else
 gD (qS [lvw x m,iI (i64.wrap (1+i64.wrap (mo8.tmod 16))),.nils,iI 0,iI 0] [] [lvw x m,iI mo,.nils,iI 0,iI 0] [])<|gD (qF (p14 [.view 1 m (fun i=>[.view 1 16 (fun j=>[uI (R i j)])
 none])
 none,iI mo] (.tup [.view 1 m (fun i=>[.view 1 16 (fun j=>[uI (W i j)]) (some 16)]) (some m),iI n,iI 0])))<|gD (qF (p18 [.view 1 m (fun i=>[.view 1 16 (fun j=>[uI (W i j)]) (some 16)]) (some m)] (.tup [iI a,iI 0])))<|gD (qF (p14 [.view 1 m (fun i=>[.view 1 16 (fun j=>[uI (W i j)]) (some 16)]) (some m),iI mo] (.tup [.view 1 m (fun i=>[.view 1 16 (fun j=>[uI (W2 i j)]) (some 16)]) (some m),iI 0,iI 0])))<|bif decide (mo<a) then some (.bool false) else
 gD (qF (p16 [.view 1 m (fun i=>[.view 1 16 (fun j=>[uI (W i j)]) (some 16)]) (some m),.view 1 m (fun i=>[.view 1 16 (fun j=>[uI (W2 i j)]) (some 16)]) (some m)] (iI 0)))<|bif decide (n=0) then gD (qF (p16 [.view 1 m (fun i=>[.view 1 16 (fun j=>[uI (R i j)])
 none])
 none,.view 1 m (fun i=>[.view 1 16 (fun j=>[uI (W i j)]) (some 16)]) (some m)] (iI d)))<|bif decide (d=0) then bif decide (lg<=mo) then bif !decide (n=0) then some (.bool false) else
 bif decide (mo<lg) then bif decide (n=0) then some (.bool false) else
 gD (qF (p12 [] (.bool true)))<|some (.bool true) else
 gD (qF (p12 [] (.bool true)))<|some (.bool true) else
 bif decide (mo<lg) then bif decide (n=0) then some (.bool false) else
 gD (qF (p12 [] (.bool true)))<|some (.bool true) else
 gD (qF (p12 [] (.bool true)))<|some (.bool true) else
 some (.bool false) else
 gD (qF (p16 [.view 1 m (fun i=>[.view 1 16 (fun j=>[uI (R i j)])
 none])
 none,.view 1 m (fun i=>[.view 1 16 (fun j=>[uI (W i j)]) (some 16)]) (some m)] (iI d)))<|bif decide (d=0) then some (.bool false) else
 bif decide (lg<=mo) then bif !decide (n=0) then some (.bool false) else
 bif decide (mo<lg) then bif decide (n=0) then some (.bool false) else
 gD (qF (p12 [] (.bool true)))<|some (.bool true) else
 gD (qF (p12 [] (.bool true)))<|some (.bool true) else
 bif decide (mo<lg) then bif decide (n=0) then some (.bool false) else
 gD (qF (p12 [] (.bool true)))<|some (.bool true) else
 gD (qF (p12 [] (.bool true)))<|some (.bool true)) from by kernel_rfl)]
 rw[em];refine BF ?_;refine qZ (by rw[qn,Int.tmod_eq_emod_of_nonneg (by omega)];simp;omega) ?_;refine qm (qw ⟨rfl,.refl _⟩) ?_;refine qm (qp hp14 t14a) ?_;refine qm (qp hp18 t18) ?_;refine qm (qp hp14 t14b) ?_;refine BF ?_;refine qm (qp hp16 t16a) ?_;by_cases q:n=0
 ·have hd:=hd.2 q;have hlg:=hlg.2 q;refine BT ?_;refine qm (qp hp16 t16b) ?_;refine BT ?_;refine BT ?_;refine qZ (by simp[q]) ?_;refine BF ?_;exact qm (qp hp12 Yf) rfl
 ·have hd:¬d=0:=fun h=>q (hd.1 h);have hlg:¬lg<=mo:=fun h=>q (hlg.1 h);refine BF ?_;refine qm (qp hp16 t16b) ?_;refine BF ?_;refine BF ?_;refine BT ?_;refine BF ?_;exact qm (qp hp12 Yf) rfl
structure Sti where
 (k y a b:Int) (f:Bool)
def Sti.c(s:Sti):List T:=[uI s.k,uI s.y,iI s.a,iI s.b,.bool s.f]
def Sti.t(s:Sti):T:=.agg s.c
structure Sti.Ok(s:Sti):Prop where
 k:0<=s.k/\s.k<256
 y:0<=s.y/\s.y<256
 a:-9223372036854775808<=s.a/\s.a<=9223372036854775807
 b:-9223372036854775808<=s.b/\s.b<=9223372036854775807
def Sti.v(s:Sti):Bool:=bif decide (s.k<1) then false else bif decide (8<s.k) then false else bif decide (s.y<1) then false else bif decide (6<s.y) then false else
 bif !decide (s.k=8) then(bif !decide (s.a=0) then false else bif !decide (s.b=0) then false else bif s.f then false else true) else
 bif decide (s.a<1) then false else bif decide (4<s.a) then false else bif decide (s.b<1) then false else bif decide (i64.wrap (4-s.a)<s.b) then false else true
def vF(s:Sti):Bool:=s.v
def qir(b:Bool):Int:=bif b then 0 else 1
noncomputable def K58(p:List T->T->Prop)(s:Sti):Orc:=qk.add 69 (qL p fun _=>some (iI (qir (vF s))))
def Sti.n(s:Sti):Int:=bif vF s then(bif decide (s.k=3) then 0 else bif decide (s.k=4) then 2 else bif decide (s.k=5) then 2 else bif decide (s.k=8) then i64.wrap (s.a+s.b) else 1) else 0
def Sti.m(s:Sti):Int:=bif vF s then(bif decide (s.k=8) then i64.wrap (s.a+s.b) else 1) else 0
theorem YZ(s:Sti):ToldOk P18 G18 69 [s.t] (iI (qir (vF s))):=by
 refine qP qv q9 qf (K:=qk) (A:=A18) (m:=0) ?_;rw[(show QU P18 G18 A18 qk 0 69 [s.t] =
( bif decide (s.k<1) then some (iI 1) else
 bif decide (8<s.k) then some (iI 1) else
 bif decide (s.y<1) then some (iI 1) else
 bif decide (6<s.y) then some (iI 1) else
 bif !decide (s.k=8) then bif !decide (s.a=0) then some (iI 1) else
 bif !decide (s.b=0) then some (iI 1) else
 bif s.f then some (iI 1) else
 some (iI 0) else
 bif decide (s.a<1) then some (iI 1) else
 bif decide (4<s.a) then some (iI 1) else
 bif decide (s.b<1) then some (iI 1) else
 bif decide (i64.wrap (4-s.a)<s.b) then some (iI 1) else
 some (iI 0)) from by kernel_rfl)]
 have key:∀(c x y:Bool),some (iI (qir (bif c then x else y)))=bif c then some (iI (qir x)) else some (iI (qir y)):=fun c x y=>by cases c<;>rfl
 unfold vF Sti.v;simp only[key];rfl
theorem K2(s:Sti):ToldOk P18 G18 58 [s.t] (iI s.n):=by
 obtain⟨p,hp⟩:=qD P18 G18 69;refine qP qv q9 (qq qf (qj hp)) (K:=K58 p s) (A:=A18) (m:=0) ?_;rw[(show QU P18 G18 A18 (K58 p s) 0 58 [s.t] =
( gD (qF (p [.agg [uI s.k,uI s.y,iI s.a,iI s.b,.bool s.f]] (iI (bif vF s then(0:Int)
 else(1:Int)))))<|bif !decide ((bif vF s then(0:Int)
 else(1:Int))=(0:Int)) then some (iI 0) else
 bif decide (s.k=3) then some (iI 0) else
 bif decide (s.k=4) then some (iI 2) else
 bif decide (s.k=5) then some (iI 2) else
 bif decide (s.k=8) then some (iI (i64.wrap (s.a+s.b))) else
 some (iI 1)) from by kernel_rfl)]
 refine qm (qp hp (YZ s)) ?_;unfold Sti.n;cases vF s
 ·rfl
 ·have key:∀(c:Bool) (x y:Int),some (iI (bif c then x else y))=bif c then some (iI x) else some (iI y):=fun c x y=>by cases c<;>rfl
  simp only[cond_true,key];rfl
theorem qdR(s:Sti):ToldOk P18 G18 68 [s.t] (iI s.m):=by
 obtain⟨p,hp⟩:=qD P18 G18 69;refine qP qv q9 (qq qf (qj hp)) (K:=K58 p s) (A:=A18) (m:=0) ?_;rw[(show QU P18 G18 A18 (K58 p s) 0 68 [s.t] =
( gD (qF (p [.agg [uI s.k,uI s.y,iI s.a,iI s.b,.bool s.f]] (iI (bif vF s then(0:Int)
 else(1:Int)))))<|bif !decide ((bif vF s then(0:Int)
 else(1:Int))=(0:Int)) then some (iI 0) else
 bif decide (s.k=8) then some (iI (i64.wrap (s.a+s.b))) else
 some (iI 1)) from by kernel_rfl)]
 refine qm (qp hp (YZ s)) ?_;unfold Sti.m;cases vF s
 ·rfl
 ·have key:∀(c:Bool) (x y:Int),some (iI (bif c then x else y))=bif c then some (iI x) else some (iI y):=fun c x y=>by cases c<;>rfl
  simp only[cond_true,key];rfl
theorem Sti.v_iff(s:Sti)(h:s.Ok):vF s=true↔(1<=s.k/\s.k<=8/\1<=s.y/\s.y<=6/\((s.k≠8/\s.a=0/\s.b=0/\s.f=false)∨(s.k=8/\1<=s.a/\s.a<=4/\1<=s.b/\s.a+s.b<=4))):=by
 have:=h.a;unfold vF Sti.v;by_cases h1:s.k<1
 ·rw[dT h1];simp;omega
 rw[dF h1,cond_false];by_cases h2:8<s.k
 ·rw[dT h2];simp;omega
 rw[dF h2,cond_false];by_cases h3:s.y<1
 ·rw[dT h3];simp;omega
 rw[dF h3,cond_false];by_cases h4:6<s.y
 ·rw[dT h4];simp;omega
 rw[dF h4,cond_false];by_cases h5:s.k=8
 ·rw[dT h5,Bool.not_true,cond_false];by_cases h6:s.a<1
  ·rw[dT h6];simp;omega
  rw[dF h6,cond_false];by_cases h7:4<s.a
  ·rw[dT h7];simp;omega
  rw[dF h7,cond_false];by_cases h8:s.b<1
  ·rw[dT h8];simp;omega
  rw[dF h8,cond_false,qI (by omega) (by omega)];by_cases h9:4-s.a<s.b
  ·rw[dT h9];simp;omega
  rw[dF h9,cond_false];simp;omega
 ·rw[dF h5,Bool.not_false,cond_true];by_cases h6:s.a=0
  ·by_cases h7:s.b=0
   ·rw[dT h6,dT h7];cases hf:s.f
    ·simp;omega
    ·simp;omega
   ·rw[dT h6,dF h7];simp;omega
  ·rw[dF h6];simp;omega
theorem Sti.n_bd(s:Sti)(h:s.Ok):0<=s.n/\s.n<=4:=by
 have hv:=s.v_iff h;unfold Sti.n;cases q:vF s
 ·simp
 ·have hv:=hv.1 q;rw[cond_true];by_cases h1:s.k=3
  ·rw[dT h1];simp
  rw[dF h1,cond_false];by_cases h2:s.k=4
  ·rw[dT h2];simp
  rw[dF h2,cond_false];by_cases h3:s.k=5
  ·rw[dT h3];simp
  rw[dF h3,cond_false];by_cases h4:s.k=8
  ·rw[dT h4,cond_true,qI (by omega) (by omega)];omega
  rw[dF h4];simp
theorem Sti.m_bd(s:Sti)(h:s.Ok):0<=s.m/\s.m<=4:=by
 have hv:=s.v_iff h;unfold Sti.m;cases q:vF s
 ·simp
 ·have hv:=hv.1 q;rw[cond_true];by_cases h4:s.k=8
  ·rw[dT h4,cond_true,qI (by omega) (by omega)];omega
  rw[dF h4];simp
def srV(r:Nat->Sti)(n:Nat)(c:Option Nat):T:=.view 5 n (fun j=>(r j).c) c
def v67(r:Nat->Sti)(n:Nat)(c:Option Nat)(fn:Nat)(sum i:Int):List T:=[.fn fn [],iI sum,srV r n c,iI n,iI i]
noncomputable def K67(p:List T->T->Prop)(fn:Nat)(x:Int):Orc:=qk.add fn (qL p fun _=>some (iI x))
def v66(r:Nat->Sti)(n:Nat)(c:Option Nat)(i:Int):List T:=[srV r n c,srV r n c,iI n,iI i]
noncomputable def qkz(p:List T->T->Prop)(x:Int):Orc:=qk.add 69 (qL p fun _=>some (iI x))
noncomputable def K66(p q:List T->T->Prop)(x y:Int):Orc:=(qk.add 56 (qL p fun _=>some (iI x))).add 57 (qL q fun _=>some (iI y))
noncomputable def K56(p:List T->T->Prop)(x:Int):Orc:=qk.add 67 (qL p fun _=>some (iI x))
def nR5(r:Nat->Sti)(n:Nat):Int:=QC (fun j=>(r j).n) n
def mR5(r:Nat->Sti)(n:Nat):Int:=QC (fun j=>(r j).m) n
def qg4(r:Nat->Sti):Nat->Bool
 |0=>true
 |k+1=>qg4 r k&&vF (r k)
def wOk(x:Int):Bool:=decide (1<=x)&&decide (x<=16)
def rE(r:Nat->Sti)(n:Nat):Int:=if 16<n then 3 else if n=0 then 1 else if qg4 r n=true then(if wOk (nR5 r n)=true/\wOk (mR5 r n)=true then 0 else 5) else 1
theorem qe1{N:Nat->Int}{b:Int}(hN:∀i,0<=N i/\N i<=b):∀i:Nat,0<=QC N i/\QC N i<=b*i
 |0=>by unfold QC;omega
 |i+1=>by
  have h1:=qe1 hN i;have h2:=hN i;have e:b*((i+1:Nat):Int)=b*i+b:=by rw[show((i+1:Nat):Int)=(i:Int)+1 by omega,Int.mul_add,Int.mul_one]
  rw[e];unfold QC;omega
theorem Z9(p:Nat->Bool)(n:Nat):(∀i,i<n->p i=true)∨∃I,I<n/\p I=false/\∀i,i<I->p i=true:=by
 induction n with
 |zero=>exact .inl fun i h=>by omega
 |succ n ih =>
  rcases ih with h|⟨I,h1,h2,h3⟩
  ·cases q:p n
   ·exact .inr ⟨n,by omega,q,h⟩
   ·refine .inl fun i hi=>?_;by_cases e:i=n
    ·rw[e];exact q
    ·exact h i (by omega)
  ·exact .inr ⟨I,by omega,h2,h3⟩
theorem JT(r:Nat->Sti):∀n,qg4 r n=true↔∀i,i<n->vF (r i)=true
 |0=>⟨fun _ i h=>by omega,fun _=>rfl⟩
 |n+1=>by
  have ih:=JT r n;unfold qg4;rw[Bool.and_eq_true,ih];constructor
  ·intro ⟨h1,h2⟩ i hi;by_cases e:i=n
   ·rw[e];exact h2
   ·exact h1 i (by omega)
  ·exact fun h=>⟨fun i hi=>h i (by omega),h n (by omega)⟩
theorem qf5(r:Nat->Sti)(n:Nat)(c:Option Nat)(hn:n<=1000)(hr:∀j,(r j).Ok):ToldOk P18 G18 67 [srV r n c,.fn 58 []] (iI (QC (fun j=>(r j).n) n)):=by
 obtain⟨p,hp⟩:=qD P18 G18 58;have hb:∀j,0<=(r j).n/\(r j).n<=4:=fun j=>(r j).n_bd (hr j);have hl:LoopOk P18 G18 (A18 67) 67 3 (qE (v67 r n c 58 0 0) [] (.exit 0) [iI (QC (fun j=>(r j).n) n)] []):=by
  refine qz qv (by kernel_rfl) (fun i=>v67 r n c 58 (QC (fun j=>(r j).n) i) i) (fun _=>[]) (n:=n) (fun i hi=>?_) ?_
  ·have t1:=K2 (r i);have h1:=qe1 hb i;have h2:=hb i;have e:QC (fun j=>(r j).n) (i+1)=QC (fun j=>(r j).n) i+(r i).n:=rfl;rw[e];generalize QC (fun j=>(r j).n) i=sum at *
   generalize (r i).n=x at *
   refine Step.mk0 (A:=A18) (K:=K67 p 58 x) (m:=0) (qq qf (qj hp)) rfl rfl qh (h1:=[]) ?_ .nil;rw[(show qA P18 G18 A18 (K67 p 58 x) 0 67 [] 3 (v67 r n c 58 sum i) [] =
( bif decide (ofNat i<ofNat n) then gD (decide (0<=ofNat i)&&decide (ofNat i<ofNat n))<|gD (qF (p [.agg [uI (r i).k,uI (r i).y,iI (r i).a,iI (r i).b,.bool (r i).f]] (iI x)))<|zN (v67 r n c (58:Nat) (i64.wrap (sum+x)) (i64.wrap (ofNat i+1))) [] else
 zX 0 [iI sum] []) from by kernel_rfl)]
   have ei:i64.wrap ((i:Int)+1)=((i+1:Nat):Int):=by rw[qI (by omega) (by omega)];omega
   rw[qn i,ei,qI (x:=sum+x) (by omega) (by omega)];refine BT ?_;refine BT ?_;refine qm (qp hp t1) ?_;rfl
  ·generalize QC (fun j=>(r j).n) n=sum;refine Last.mk0 (A:=A18) (m:=0) qf rfl rfl qh (h1:=[]) (by simp) ?_ .nil;rw[(show qA P18 G18 A18 qk 0 67 [] 3 (v67 r n c 58 sum n) [] =
( bif decide (ofNat n<ofNat n) then gD (decide (0<=ofNat n)&&decide (ofNat n<ofNat n)) none else
 zX 0 [iI sum] []) from by kernel_rfl)]
   (repeat (first|refine BT ?_|refine BG ?_))
   rfl
 generalize QC (fun j=>(r j).n) n=sum at *
 refine qJ qv q9 qf (A:=A18) (m:=0) (by kernel_rfl) (qK hl) ?_;rw[(show QB P18 G18 A18 qk 0 67 [(3,qE (v67 r n c 58 0 0) [] (.exit 0) [iI sum] [])] [srV r n c,.fn 58 []] =
( gD (qS (v67 r n c (58:Nat) (0:Int) (0:Int)) [] (v67 r n c (58:Nat) (0:Int) (0:Int)) [])<|some (iI sum)) from by kernel_rfl)]
 exact qm (qw ⟨rfl,.refl _⟩) rfl
theorem qas(r:Nat->Sti)(n:Nat)(c:Option Nat)(hn:n<=1000)(hr:∀j,(r j).Ok):ToldOk P18 G18 56 [srV r n c] (iI (nR5 r n)):=by
 obtain⟨p,hp⟩:=qD P18 G18 67;have t1:=qf5 r n c hn hr;unfold nR5;generalize QC (fun j=>(r j).n) n=x at *
 refine qP qv q9 (qq qf (qj hp)) (K:=K56 p x) (A:=A18) (m:=0) ?_;rw[(show QU P18 G18 A18 (K56 p x) 0 56 [srV r n c] =
( gD (qF (p [srV r n c,.fn (58:Nat) []] (iI x)))<|some (iI x)) from by kernel_rfl)]
 exact qm (qp hp t1) rfl
theorem qf6(r:Nat->Sti)(n:Nat)(c:Option Nat)(hn:n<=1000)(hr:∀j,(r j).Ok):ToldOk P18 G18 67 [srV r n c,.fn 68 []] (iI (QC (fun j=>(r j).m) n)):=by
 obtain⟨p,hp⟩:=qD P18 G18 68;have hb:∀j,0<=(r j).m/\(r j).m<=4:=fun j=>(r j).m_bd (hr j);have hl:LoopOk P18 G18 (A18 67) 67 3 (qE (v67 r n c 68 0 0) [] (.exit 0) [iI (QC (fun j=>(r j).m) n)] []):=by
  refine qz qv (by kernel_rfl) (fun i=>v67 r n c 68 (QC (fun j=>(r j).m) i) i) (fun _=>[]) (n:=n) (fun i hi=>?_) ?_
  ·have t1:=qdR (r i);have h1:=qe1 hb i;have h2:=hb i;have e:QC (fun j=>(r j).m) (i+1)=QC (fun j=>(r j).m) i+(r i).m:=rfl;rw[e];generalize QC (fun j=>(r j).m) i=sum at *
   generalize (r i).m=x at *
   refine Step.mk0 (A:=A18) (K:=K67 p 68 x) (m:=0) (qq qf (qj hp)) rfl rfl qh (h1:=[]) ?_ .nil;rw[(show qA P18 G18 A18 (K67 p 68 x) 0 67 [] 3 (v67 r n c 68 sum i) [] =
( bif decide (ofNat i<ofNat n) then gD (decide (0<=ofNat i)&&decide (ofNat i<ofNat n))<|gD (qF (p [.agg [uI (r i).k,uI (r i).y,iI (r i).a,iI (r i).b,.bool (r i).f]] (iI x)))<|zN (v67 r n c (68:Nat) (i64.wrap (sum+x)) (i64.wrap (ofNat i+1))) [] else
 zX 0 [iI sum] []) from by kernel_rfl)]
   have ei:i64.wrap ((i:Int)+1)=((i+1:Nat):Int):=by rw[qI (by omega) (by omega)];omega
   rw[qn i,ei,qI (x:=sum+x) (by omega) (by omega)];refine BT ?_;refine BT ?_;refine qm (qp hp t1) ?_;rfl
  ·generalize QC (fun j=>(r j).m) n=sum;refine Last.mk0 (A:=A18) (m:=0) qf rfl rfl qh (h1:=[]) (by simp) ?_ .nil;rw[(show qA P18 G18 A18 qk 0 67 [] 3 (v67 r n c 68 sum n) [] =
( bif decide (ofNat n<ofNat n) then gD (decide (0<=ofNat n)&&decide (ofNat n<ofNat n)) none else
 zX 0 [iI sum] []) from by kernel_rfl)]
   (repeat (first|refine BT ?_|refine BG ?_))
   rfl
 generalize QC (fun j=>(r j).m) n=sum at *
 refine qJ qv q9 qf (A:=A18) (m:=0) (by kernel_rfl) (qK hl) ?_;rw[(show QB P18 G18 A18 qk 0 67 [(3,qE (v67 r n c 68 0 0) [] (.exit 0) [iI sum] [])] [srV r n c,.fn 68 []] =
( gD (qS (v67 r n c (68:Nat) (0:Int) (0:Int)) [] (v67 r n c (68:Nat) (0:Int) (0:Int)) [])<|some (iI sum)) from by kernel_rfl)]
 exact qm (qw ⟨rfl,.refl _⟩) rfl
theorem K6(r:Nat->Sti)(n:Nat)(c:Option Nat)(hn:n<=1000)(hr:∀j,(r j).Ok):ToldOk P18 G18 57 [srV r n c] (iI (mR5 r n)):=by
 obtain⟨p,hp⟩:=qD P18 G18 67;have t1:=qf6 r n c hn hr;unfold mR5;generalize QC (fun j=>(r j).m) n=x at *
 refine qP qv q9 (qq qf (qj hp)) (K:=K56 p x) (A:=A18) (m:=0) ?_;rw[(show QU P18 G18 A18 (K56 p x) 0 57 [srV r n c] =
( gD (qF (p [srV r n c,.fn (68:Nat) []] (iI x)))<|some (iI x)) from by kernel_rfl)]
 exact qm (qp hp t1) rfl
theorem i66(r:Nat->Sti)(n:Nat)(c:Option Nat)(x:Int)(i:Nat)(p:List T->T->Prop):qA P18 G18 A18 (qkz p x) 0 66 [] 6 (v66 r n c i) [] =
( bif decide (ofNat i<ofNat n) then gD (decide (0<=ofNat i)&&decide (ofNat i<ofNat n))<|gD (qF (p [.agg [uI (r i).k,uI (r i).y,iI (r i).a,iI (r i).b,.bool (r i).f]] (iI x)))<|bif !decide (x=0) then zR [srV r n c,iI 1] [] else
 zN (v66 r n c (i64.wrap (ofNat i+1))) [] else
 zX 0 [srV r n c,.undef] []):=by kernel_rfl
theorem s66(r:Nat->Sti)(n:Nat)(c:Option Nat)(hn:n<=1000)(p:List T->T->Prop)(hp:p=ToldOk P18 G18 69)(i:Nat)(hi:i<n)(hv:vF (r i)=true):Step P18 G18 (A18 66) 66 6 0 (v66 r n c i) [] (v66 r n c (i+1:Nat)) []:=by
 have t1:=YZ (r i);rw[hv] at t1;refine Step.mk0 (A:=A18) (K:=qkz p 0) (m:=0) (qq qf (qj hp)) rfl rfl qh (h1:=[]) ?_ .nil;have ei:i64.wrap ((i:Int)+1)=((i+1:Nat):Int):=by rw[qI (by omega) (by omega)];omega
 rw[i66,qn i,ei];refine BT ?_;refine BT ?_;refine qm (qp hp t1) ?_;refine qZ (by simp) ?_;rfl
theorem qat(r:Nat->Sti)(n:Nat)(c:Option Nat)(hn:n<=1000)(hr:∀j,(r j).Ok):ToldOk P18 G18 66 [srV r n c] (iI (rE r n)):=by
 unfold rE;obtain⟨p,hp⟩:=qD P18 G18 69;rcases Z9 (fun i=>vF (r i)) n with h|⟨I,hI,hb,hlt⟩
 ·rw[if_pos ((JT r n).2 h)];have hl:LoopOk P18 G18 (A18 66) 66 6 (qE (v66 r n c 0) [] (.exit 0) [srV r n c,.undef] []):=by
   refine qz qv (by kernel_rfl) (fun i=>v66 r n c i) (fun _=>[]) (n:=n) (fun i hi=>s66 r n c hn p hp i hi (h i hi)) ?_;refine Last.mk0 (A:=A18) (K:=qkz p 0) (m:=0) (qq qf (qj hp)) rfl rfl qh (h1:=[]) (by simp) ?_ .nil;rw[i66];refine BF ?_;rfl
  obtain⟨p1,hp1⟩:=qD P18 G18 56;obtain⟨p2,hp2⟩:=qD P18 G18 57;have t1:=qas r n c hn hr;have t2:=K6 r n c hn hr;generalize nR5 r n=x at *
  generalize mR5 r n=y at *
  refine qJ qv q9 (qq (qq qf (qj hp1)) (qj hp2)) (K:=K66 p1 p2 x y) (A:=A18) (m:=0) (by kernel_rfl) (qK hl) ?_;rw[(show QB P18 G18 A18 (K66 p1 p2 x y) 0 66 [(6,qE (v66 r n c 0) [] (.exit 0) [srV r n c,.undef] [])] [srV r n c] =
( bif decide (16<ofNat n) then some (iI 3) else
 bif decide (ofNat n=0) then some (iI 1) else
 gD (qS (v66 r n c (0:Int)) [] (v66 r n c (0:Int)) [])<|gD (qF (p1 [srV r n c] (iI x)))<|gD (qF (p2 [srV r n c] (iI y)))<|bif decide (x<1) then some (iI 5) else
 bif decide (16<x) then some (iI 5) else
 bif decide (y<1) then some (iI 5) else
 bif decide (16<y) then some (iI 5) else
 some (iI 0)) from by kernel_rfl)]
  by_cases q1:16<n
  ·rw[if_pos q1];exact BT rfl
  rw[if_neg q1];refine BF ?_;by_cases q2:n=0
  ·rw[if_pos q2];exact BT rfl
  rw[if_neg q2];refine BF ?_;refine qm (qw ⟨rfl,.refl _⟩) ?_;refine qm (qp hp1 t1) ?_;refine qm (qp hp2 t2) ?_;unfold wOk;simp only[Bool.and_eq_true,decide_eq_true_eq];by_cases q3:x<1
  ·rw[dT q3,if_neg (by omega)];rfl
  rw[dF q3,cond_false];by_cases q4:16<x
  ·rw[dT q4,if_neg (by omega)];rfl
  rw[dF q4,cond_false];by_cases q5:y<1
  ·rw[dT q5,if_neg (by omega)];rfl
  rw[dF q5,cond_false];by_cases q6:16<y
  ·rw[dT q6,if_neg (by omega)];rfl
  rw[dF q6,if_pos (by omega)];rfl
 ·have hna:¬qg4 r n=true:=fun h=>by
   have:=(JT r n).1 h I hI;rw[hb] at this;cases this
  rw[if_neg hna];have hl:LoopOk P18 G18 (A18 66) 66 6 (qE (v66 r n c 0) [] .ret [srV r n c,iI 1] []):=by
   refine qz qv (by kernel_rfl) (fun i=>v66 r n c i) (fun _=>[]) (n:=I) (fun i hi=>s66 r n c hn p hp i (by omega) (hlt i hi)) ?_;have t1:=YZ (r I);rw[show vF (r I)=false from hb] at t1;refine Last.mk0 (A:=A18) (K:=qkz p 1) (m:=0) (qq qf (qj hp)) rfl rfl qh (h1:=[]) (by simp) ?_ .nil;rw[i66];refine BT ?_;refine BT ?_;refine qm (qp hp t1) ?_;refine qm (by simp) ?_;rfl
  refine qJ qv q9 qf (A:=A18) (m:=0) (by kernel_rfl) (qK hl) ?_;rw[(show QB P18 G18 A18 qk 0 66 [(6,qE (v66 r n c 0) [] .ret [srV r n c,iI 1] [])] [srV r n c] =
( bif decide (16<ofNat n) then some (iI 3) else
 bif decide (ofNat n=0) then some (iI 1) else
 gD (qS (v66 r n c (0:Int)) [] (v66 r n c (0:Int)) [])<|some (iI 1)) from by kernel_rfl)]
  by_cases q1:16<n
  ·rw[if_pos q1];exact BT rfl
  rw[if_neg q1];refine BF ?_;by_cases q2:n=0
  ·rw[if_pos q2];exact BT rfl
  rw[if_neg q2];refine BF ?_;exact qm (qw ⟨rfl,.refl _⟩) rfl
def chV(C:Nat->Nat->Sti)(ln:Nat->Nat)(h:Nat):T:=.view 1 h (fun i=>[srV (C i) (ln i) none]) none
def v55(C:Nat->Nat->Sti)(ln:Nat->Nat)(h:Nat)(i:Int):List T:=[chV C ln h,chV C ln h,iI h,iI i]
def w55(C:Nat->Nat->Sti)(ln:Nat->Nat)(h:Nat)(i:Int):List T:=[chV C ln h,iI i]
noncomputable def qkA(p:List T->T->Prop)(x:Int):Orc:=qk.add 66 (qL p fun _=>some (iI x))
def Y0(C:Nat->Nat->Sti)(ln:Nat->Nat):Nat->Int
 |0=>0
 |i+1=>if Y0 C ln i≠0 then Y0 C ln i else rE (C i) (ln i)
def qaT(C:Nat->Nat->Sti)(ln:Nat->Nat)(i:Nat):Bool:=decide (nR5 (C (i+1)) (ln (i+1))=mR5 (C i) (ln i))
def qau(C:Nat->Nat->Sti)(ln:Nat->Nat):Nat->Bool
 |0=>true
 |i+1=>qau C ln i&&qaT C ln i
def chE(C:Nat->Nat->Sti)(ln:Nat->Nat)(h:Nat):Int:=if 31<h then 3 else if h%2=0 then 1 else if Y0 C ln h≠0 then Y0 C ln h else if qau C ln (h-1)=true then 0 else 14
theorem i55(C:Nat->Nat->Sti)(ln:Nat->Nat)(h:Nat)(i:Nat)(x:Int)(p:List T->T->Prop):qA P18 G18 A18 (qkA p x) 0 55 [] 6 (v55 C ln h i) [] =
( bif decide (ofNat i<ofNat h) then gD (decide (0<=ofNat i)&&decide (ofNat i<ofNat h))<|gD (qF (p [srV (C i) (ln i)
 none] (iI x)))<|bif !decide (x=0) then zR (w55 C ln h x) [] else
 zN (v55 C ln h (i64.wrap (ofNat i+1))) [] else
 zX 0 [chV C ln h,.undef] []):=by kernel_rfl
theorem j55(C:Nat->Nat->Sti)(ln:Nat->Nat)(h:Nat)(i:Nat)(x y:Int)(p q:List T->T->Prop):qA P18 G18 A18 (K66 p q x y) 0 55 [] 13 (w55 C ln h (i+1:Nat)) [] =
( bif decide (ofNat (i+1)<ofNat h) then gD (decide (0<=ofNat (i+1))&&decide (ofNat (i+1)<ofNat h))<|gD (qF (p [.view 5 (ln (i+1)) (fun j=>[uI (C (i+(1:Nat)) j).k,uI (C (i+(1:Nat)) j).y,iI (C (i+(1:Nat)) j).a,iI (C (i+(1:Nat)) j).b,.bool (C (i+(1:Nat)) j).f])
 none] (iI x)))<|gD (decide (0<=i64.wrap (ofNat (i+1)-(1:Int)))&&decide (i64.wrap (ofNat (i+1)-(1:Int))<ofNat h))<|gD (qF (q [.view 5 (ln (i64.wrap (ofNat (i+(1:Nat))-(1:Int))).toNat) (fun j=>[uI (C (i64.wrap (ofNat (i+(1:Nat))-(1:Int))).toNat j).k,uI (C (i64.wrap (ofNat (i+(1:Nat))-(1:Int))).toNat j).y,iI (C (i64.wrap (ofNat (i+(1:Nat))-(1:Int))).toNat j).a,iI (C (i64.wrap (ofNat (i+(1:Nat))-(1:Int))).toNat j).b,.bool (C (i64.wrap (ofNat (i+(1:Nat))-(1:Int))).toNat j).f])
 none] (iI y)))<|bif !decide (x=y) then zR [iI 14] [] else
 zN (w55 C ln h (i64.wrap (ofNat (i+1)+(1:Int)))) [] else
 zX 2 [.undef] []):=by kernel_rfl
theorem k55(C:Nat->Nat->Sti)(ln:Nat->Nat)(h:Nat)(x:Int):QB P18 G18 A18 qk 0 55 [(6,qE (v55 C ln h 0) [] .ret [chV C ln h,iI x] [])] [chV C ln h] =
( bif decide (31<ofNat h) then some (iI 3) else
 bif decide ((ofNat h).tmod 2=0) then some (iI 1) else
 gD (qS (v55 C ln h (0:Int)) [] (v55 C ln h (0:Int)) [])<|some (iI x)):=by kernel_rfl
theorem qor(C:Nat->Nat->Sti)(ln:Nat->Nat)(h:Nat):QB P18 G18 A18 qk 0 55 [(6,qE (v55 C ln h 0) [] (.exit 0) [chV C ln h,.undef] []),(13,qE (w55 C ln h 1) [] (.exit 2) [.undef] [])] [chV C ln h] =
( bif decide (31<ofNat h) then some (iI 3) else
 bif decide ((ofNat h).tmod 2=0) then some (iI 1) else
 gD (qS (v55 C ln h (0:Int)) [] (v55 C ln h (0:Int)) [])<|gD (qS (w55 C ln h (1:Int)) [] (w55 C ln h (1:Int)) [])<|some (iI 0)):=by kernel_rfl
theorem qos(C:Nat->Nat->Sti)(ln:Nat->Nat)(h:Nat):QB P18 G18 A18 qk 0 55 [(6,qE (v55 C ln h 0) [] (.exit 0) [chV C ln h,.undef] []),(13,qE (w55 C ln h 1) [] .ret [iI 14] [])] [chV C ln h] =
( bif decide (31<ofNat h) then some (iI 3) else
 bif decide ((ofNat h).tmod 2=0) then some (iI 1) else
 gD (qS (v55 C ln h (0:Int)) [] (v55 C ln h (0:Int)) [])<|gD (qS (w55 C ln h (1:Int)) [] (w55 C ln h (1:Int)) [])<|some (iI 14)):=by kernel_rfl
theorem kM(C:Nat->Nat->Sti)(ln:Nat->Nat):∀h,(∀i,i<h->rE (C i) (ln i)=0)->Y0 C ln h=0
 |0,_=>rfl
 |h+1,q=>by
  unfold Y0;rw[if_neg (by rw[kM C ln h fun i hi=>q i (by omega)];simp),q h (by omega)]
theorem qf7(C:Nat->Nat->Sti)(ln:Nat->Nat)(I:Nat)(hb:rE (C I) (ln I)≠0)(hlt:∀i,i<I->rE (C i) (ln i)=0):∀h,I<h->Y0 C ln h=rE (C I) (ln I)
 |h+1,hI=>by
  unfold Y0;by_cases q:h=I
  ·subst q;rw[if_neg (by rw[kM C ln h hlt];simp)]
  ·have ih:=qf7 C ln I hb hlt h (by omega);rw[if_pos (by rw[ih];exact hb),ih]
theorem Yg(C:Nat->Nat->Sti)(ln:Nat->Nat):∀n,qau C ln n=true↔∀i,i<n->qaT C ln i=true
 |0=>⟨fun _ i h=>by omega,fun _=>rfl⟩
 |n+1=>by
  have ih:=Yg C ln n;unfold qau;rw[Bool.and_eq_true,ih];constructor
  ·intro ⟨h1,h2⟩ i hi;by_cases e:i=n
   ·rw[e];exact h2
   ·exact h1 i (by omega)
  ·exact fun h=>⟨fun i hi=>h i (by omega),h n (by omega)⟩
theorem s55(C:Nat->Nat->Sti)(ln:Nat->Nat)(h:Nat)(hh:h<=1000)(p:List T->T->Prop)(hp:p=ToldOk P18 G18 66)(i:Nat)(hi:i<h)(t1:ToldOk P18 G18 66 [srV (C i) (ln i) none] (iI 0)):Step P18 G18 (A18 55) 55 6 0 (v55 C ln h i) [] (v55 C ln h (i+1:Nat)) []:=by
 refine Step.mk0 (A:=A18) (K:=qkA p 0) (m:=0) (qq qf (qj hp)) rfl rfl qh (h1:=[]) ?_ .nil;have ei:i64.wrap ((i:Int)+1)=((i+1:Nat):Int):=by rw[qI (by omega) (by omega)];omega
 rw[i55,qn i,ei];refine BT ?_;refine BT ?_;refine qm (qp hp t1) ?_;refine qZ (by simp) ?_;rfl
theorem KJ(h:Nat):decide ((ofNat h).tmod 2=0)=decide (h%2=0):=by
 rw[qn,Int.tmod_eq_emod_of_nonneg (by omega)];by_cases q:h%2=0
 ·rw[dT q,dT (by omega)]
 ·rw[dF q,dF (by omega)]
theorem qcK(C:Nat->Nat->Sti)(ln:Nat->Nat)(h:Nat)(hh:h<=1000)(hln:∀i,i<h->ln i<=1000)(hC:∀i j,(C i j).Ok):ToldOk P18 G18 55 [chV C ln h] (iI (chE C ln h)):=by
 unfold chE;obtain⟨p,hp⟩:=qD P18 G18 66;rcases Z9 (fun i=>decide (rE (C i) (ln i)=0)) h with hg|⟨I,hI,hb,hlt⟩
 ·have hg:∀i,i<h->rE (C i) (ln i)=0:=fun i hi=>by simpa using hg i hi
  rw[kM C ln h hg];have hl:LoopOk P18 G18 (A18 55) 55 6 (qE (v55 C ln h 0) [] (.exit 0) [chV C ln h,.undef] []):=by
   refine qz qv (by kernel_rfl) (fun i=>v55 C ln h i) (fun _=>[]) (n:=h) (fun i hi=>s55 C ln h hh p hp i hi (by have:=qat (C i) (ln i) none (hln i hi) (hC i);rw[hg i hi] at this;exact this)) ?_;refine Last.mk0 (A:=A18) (K:=qkA p 0) (m:=0) (qq qf (qj hp)) rfl rfl qh (h1:=[]) (by simp) ?_ .nil;rw[i55];refine BF ?_;rfl
  obtain⟨p1,hp1⟩:=qD P18 G18 56;obtain⟨p2,hp2⟩:=qD P18 G18 57;have hK:∀x y,OrcOk P18 G18 (K66 p1 p2 x y):=fun x y=>qq (qq qf (qj hp1)) (qj hp2);have tr:∀i,i<h->i+1<h->∀vs e,(∀q,(bif !decide (nR5 (C (i+1)) (ln (i+1))=mR5 (C i) (ln i)) then some (Ex.ret,[iI 14],([]:qg)) else some (Ex.normal,w55 C ln h (i+1+1:Nat),[]))=q->q=some (e,vs,[]))->qA P18 G18 A18 (K66 p1 p2 (nR5 (C (i+1)) (ln (i+1))) (mR5 (C i) (ln i))) 0 55 [] 13 (w55 C ln h (i+1:Nat)) []=some (e,vs,[]):=fun i hi hi2 vs e hq=>by
   have t1:=qas (C (i+1)) (ln (i+1)) none (hln (i+1) hi2) (hC (i+1));have t2:=K6 (C i) (ln i) none (hln i hi) (hC i);generalize nR5 (C (i+1)) (ln (i+1))=x at *
   generalize mR5 (C i) (ln i)=y at *
   have ei:i64.wrap (((i+1:Nat):Int)+1)=((i+1+1:Nat):Int):=by rw[qI (by omega) (by omega)];omega
   have ei2:(i64.wrap (((i+1:Nat):Int)-1)).toNat=i:=by rw[qI (by omega) (by omega)];omega
   have ei3:i64.wrap (((i+1:Nat):Int)-1)=(i:Int):=by rw[qI (by omega) (by omega)];omega
   rw[j55,qn (i+1),ei,ei2,ei3];refine BT ?_;refine BT ?_;refine qm (qp hp1 t1) ?_;refine BT ?_;refine qm (qp hp2 t2) ?_;exact hq _ rfl
  have st:∀i,i+1<h->qaT C ln i=true->Step P18 G18 (A18 55) 55 13 0 (w55 C ln h (i+1:Nat)) [] (w55 C ln h (i+1+1:Nat)) []:=fun i hi hk=>by
   refine Step.mk0 (A:=A18) (K:=K66 p1 p2 (nR5 (C (i+1)) (ln (i+1))) (mR5 (C i) (ln i))) (m:=0) (hK _ _) rfl rfl qh (h1:=[]) (tr i (by omega) hi _ _ fun q hq=>?_) .nil;unfold qaT at hk;rw[←hq,hk];rfl
  rcases Z9 (qaT C ln) (h-1) with hg2|⟨J,hJ,hb2,hlt2⟩
  ·rw[if_pos ((Yg C ln (h-1)).2 hg2)];by_cases h0:h=0
   ·subst h0;refine qJ qv q9 qf (A:=A18) (m:=0) (by kernel_rfl) (qK hl) ?_;rw[(show QB P18 G18 A18 qk 0 55 [(6,qE (v55 C ln 0 0) [] (.exit 0) [chV C ln 0,.undef] [])] [chV C ln 0] =
( some (iI 1)) from by kernel_rfl)]
    rfl
   ·have hl2:LoopOk P18 G18 (A18 55) 55 13 (qE (w55 C ln h 1) [] (.exit 2) [.undef] []):=by
     refine qz qv (by kernel_rfl) (fun i=>w55 C ln h (i+1:Nat)) (fun _=>[]) (n:=h-1) (fun i hi=>st i (by omega) (hg2 i hi)) ?_;refine Last.mk0 (A:=A18) (K:=K66 p1 p2 0 0) (m:=0) (hK _ _) rfl rfl qh (h1:=[]) (by simp) ?_ .nil;rw[j55];refine BF ?_;rfl
    refine qJ qv q9 qf (A:=A18) (m:=0) (by kernel_rfl) (zq hl (qK hl2)) ?_;rw[qor,KJ];by_cases q1:31<h
    ·rw[if_pos q1];exact BT rfl
    rw[if_neg q1];refine BF ?_;by_cases q2:h%2=0
    ·rw[if_pos q2];exact qm (dT q2) rfl
    rw[if_neg q2];refine qZ (by simpa using q2) ?_;refine qm (qw ⟨rfl,.refl _⟩) ?_;refine qm (qw ⟨rfl,.refl _⟩) ?_;rfl
  ·have hne:¬qau C ln (h-1)=true:=fun q=>by
    have:=(Yg C ln (h-1)).1 q J hJ;rw[hb2] at this;cases this
   rw[if_neg hne];have hl2:LoopOk P18 G18 (A18 55) 55 13 (qE (w55 C ln h 1) [] .ret [iI 14] []):=by
    refine qz qv (by kernel_rfl) (fun i=>w55 C ln h (i+1:Nat)) (fun _=>[]) (n:=J) (fun i hi=>st i (by omega) (hlt2 i hi)) ?_;refine Last.mk0 (A:=A18) (K:=K66 p1 p2 (nR5 (C (J+1)) (ln (J+1))) (mR5 (C J) (ln J))) (m:=0) (hK _ _) rfl rfl qh (h1:=[]) (by simp) (tr J (by omega) (by omega) _ _ fun q hq=>?_) .nil;unfold qaT at hb2;rw[←hq,hb2];rfl
   refine qJ qv q9 qf (A:=A18) (m:=0) (by kernel_rfl) (zq hl (qK hl2)) ?_;rw[qos,KJ];by_cases q1:31<h
   ·rw[if_pos q1];exact BT rfl
   rw[if_neg q1];refine BF ?_;by_cases q2:h%2=0
   ·rw[if_pos q2];exact qm (dT q2) rfl
   rw[if_neg q2];refine qZ (by simpa using q2) ?_;refine qm (qw ⟨rfl,.refl _⟩) ?_;refine qm (qw ⟨rfl,.refl _⟩) ?_;rfl
 ·have hb:rE (C I) (ln I)≠0:=by simpa using hb
  have hlt:∀i,i<I->rE (C i) (ln i)=0:=fun i hi=>by simpa using hlt i hi
  rw[qf7 C ln I hb hlt h hI,if_pos hb];have hl:LoopOk P18 G18 (A18 55) 55 6 (qE (v55 C ln h 0) [] .ret [chV C ln h,iI (rE (C I) (ln I))] []):=by
   refine qz qv (by kernel_rfl) (fun i=>v55 C ln h i) (fun _=>[]) (n:=I) (fun i hi=>s55 C ln h hh p hp i (by omega) (by have:=qat (C i) (ln i) none (hln i (by omega)) (hC i);rw[hlt i hi] at this;exact this)) ?_;have t1:=qat (C I) (ln I) none (hln I hI) (hC I);generalize rE (C I) (ln I)=x at *
   refine Last.mk0 (A:=A18) (K:=qkA p x) (m:=0) (qq qf (qj hp)) rfl rfl qh (h1:=[]) (by simp) ?_ .nil;rw[i55];refine BT ?_;refine BT ?_;refine qm (qp hp t1) ?_;refine qm (by simp[hb]) ?_;rfl
  generalize rE (C I) (ln I)=x at *
  refine qJ qv q9 qf (A:=A18) (m:=0) (by kernel_rfl) (qK hl) ?_;rw[k55,KJ];by_cases q1:31<h
  ·rw[if_pos q1];exact BT rfl
  rw[if_neg q1];refine BF ?_;by_cases q2:h%2=0
  ·rw[if_pos q2];exact qm (dT q2) rfl
  rw[if_neg q2];refine qZ (by simpa using q2) ?_;exact qm (qw ⟨rfl,.refl _⟩) rfl
def slV(B:Nat->Int)(n:Nat)(c:Option Nat):T:=.view 1 n (fun j=>[iI (B j)]) c
def zb(g:Nat->Int)(n:Nat):qg:=[⟨0,1,n,fun j=>[iI (g j)],true,false,none⟩]
def JU(s:Sti)(B:Nat->Int)(n:Nat)(c:Option Nat)(i:Int):List T:=[slV B n c,.reg s.c,slV B n c,iI n,iI i]
def qe2(s:Sti)(B:Nat->Int)(n:Nat)(c:Option Nat)(m:Nat)(i:Int):List T:=[slV B n c,.reg s.c,.own 0 0 0 m (some m),iI m,iI i]
noncomputable def K59(p q r:List T->T->Prop)(e:Bool)(x y:Int):Orc:=((qk.add 69 (qL p fun _=>some (iI (qir e)))).add 58 (qL q fun _=>some (iI x))).add 68 (qL r fun _=>some (iI y))
def qdS(B:Nat->Int)(j:Nat):Bool:=decide (1<=B j)&&decide (B j<=3)
def KK(B:Nat->Int):Nat->Bool
 |0=>true
 |j+1=>KK B j&&qdS B j
def Sti.mN(s:Sti):Nat:=s.m.toNat
def Sti.nN(s:Sti):Nat:=s.n.toNat
def ldE(s:Sti)(B:Nat->Int)(n:Nat):Int:=if vF s=false then 1 else if n≠s.nN then 5 else if KK B n=false then 1 else if s.k=4∨s.k=5 then(if 4<B 0+B 1 then 9 else 0) else if s.k=6 then(if B 0=3 then 9 else 0) else 0
def ldG(s:Sti)(B:Nat->Int)(j:Nat):Int:=if s.k=6/\j=0 then B 0+1 else if s.k=7/\j=0 then B 0 else 1
def ldR(s:Sti)(B:Nat->Int)(n:Nat):T:=if ldE s B n=0 then .tup [.fresh true 1 s.mN (fun j=>[iI (ldG s B j)]) s.mN (some s.mN),iI 0] else .tup [.nils,iI (ldE s B n)]
theorem i59(s:Sti)(B:Nat->Int)(n:Nat)(c:Option Nat)(i:Nat):qA P18 G18 A18 qk 0 59 [] 6 (JU s B n c i) [] =
( bif decide (ofNat i<ofNat n) then gD (decide (0<=ofNat i)&&decide (ofNat i<ofNat n))<|bif decide (B i<1) then zR [slV B n c,.reg s.c,.nils,iI 1] [] else
 bif decide ((3:Int)<B i) then zR [slV B n c,.reg s.c,.nils,iI 1] [] else
 zN (JU s B n c (i64.wrap (ofNat i+1))) [] else
 zX 0 [slV B n c,.reg s.c,.undef,.undef] []):=by kernel_rfl
theorem kP(B:Nat->Int):∀n,KK B n=true↔∀i,i<n->qdS B i=true
 |0=>⟨fun _ i h=>by omega,fun _=>rfl⟩
 |n+1=>by
  have ih:=kP B n;unfold KK;rw[Bool.and_eq_true,ih];constructor
  ·intro ⟨h1,h2⟩ i hi;by_cases e:i=n
   ·rw[e];exact h2
   ·exact h1 i (by omega)
  ·exact fun h=>⟨fun i hi=>h i (by omega),h n (by omega)⟩
theorem K7(B:Nat->Int)(j:Nat):qdS B j=true↔1<=B j/\B j<=3:=by
 unfold qdS;rw[Bool.and_eq_true,decide_eq_true_eq,decide_eq_true_eq]
theorem s59(s:Sti)(B:Nat->Int)(n:Nat)(c:Option Nat)(hn:n<=1000)(i:Nat)(hi:i<n)(hb:qdS B i=true):Step P18 G18 (A18 59) 59 6 0 (JU s B n c i) [] (JU s B n c (i+1:Nat)) []:=by
 rw[K7] at hb;refine Step.mk0 (A:=A18) (m:=0) qf rfl rfl qh (h1:=[]) ?_ .nil;have ei:i64.wrap ((i:Int)+1)=((i+1:Nat):Int):=by rw[qI (by omega) (by omega)];omega
 rw[i59,qn i,ei];refine BT ?_;refine BT ?_;refine BF ?_;refine BF ?_;rfl
theorem qot(s:Sti)(B:Nat->Int)(n:Nat)(c:Option Nat)(m:Nat)(hm:m<=1000):LoopOk P18 G18 (A18 59) 59 13 (qE (qe2 s B n c m 0) (zb (fun _=>0) m) (.exit 2) [slV B n c,.reg s.c,.own 0 0 0 m (some m)] (zb (fun _=>1) m)):=by
 refine qz qv (by kernel_rfl) (fun i=>qe2 s B n c m i) (fun i=>zb (fun e=>bif Nat.blt e i then 1 else 0) m) (n:=m) (fun i hi=>?_) ?_
 ·have e:(fun e=>bif Nat.blt e (i+1) then(1:Int) else 0)=fun e=>bif e==0+i then 1 else bif Nat.blt e i then 1 else 0:=by
   funext e;rw[Nat.zero_add];by_cases q:e=i
   ·subst q;rw[beq_self_eq_true,cond_true,Qy (by omega),cond_true]
   ·rw[show(e==i)=false by simpa using q,cond_false];by_cases q2:e<i
    ·rw[Qy q2,Qy (by omega)]
    ·rw[Zg (by omega),Zg (by omega)]
  rw[e];clear e;obtain⟨g,hg⟩:∃g:Nat->Int,g=fun e=>bif Nat.blt e i then(1:Int) else 0:=⟨_,rfl⟩;have e2:(fun e=>bif e==0+i then(1:Int) else bif Nat.blt e i then 1 else 0)=fun e=>bif e==0+i then 1 else g e:=by rw[hg]
  rw[e2,←hg];clear e2 hg;refine Step.mk0 (A:=A18) (m:=0) qf rfl rfl qh (h1:=zb (fun e=>bif e==0+i then 1 else g e) m) ?_ (.refl _);rw[(show qA P18 G18 A18 qk 0 59 [] 13 (qe2 s B n c m i) (zb g m) =
( bif decide (ofNat i<ofNat m) then gD (decide (0<=ofNat i)&&decide (ofNat i<ofNat m))<|gD (((0:Nat)+i).blt m&&true&&true&&true)<|zN (qe2 s B n c m (i64.wrap (ofNat i+1))) (zb (fun j =>
 bif j==0+i then(1:Int)
 else g j) m) else
 zX 2 [slV B n c,.reg s.c,.own 0 0 0 m (some m)] (zb g m)) from by kernel_rfl)]
  have ei:i64.wrap ((i:Int)+1)=((i+1:Nat):Int):=by rw[qI (by omega) (by omega)];omega
  rw[qn i,ei];refine BT ?_;refine BT ?_;refine BT ?_;rfl
 ·refine Last.mk0 (A:=A18) (m:=0) qf rfl rfl qh (h1:=zb (fun e=>bif Nat.blt e m then 1 else 0) m) (by simp) ?_ (.cons ⟨rfl,rfl,rfl,id,fun j hj=>?_⟩ .nil)
  ·generalize (fun e=>bif Nat.blt e m then(1:Int) else 0)=g at *
   rw[(show qA P18 G18 A18 qk 0 59 [] 13 (qe2 s B n c m m) (zb g m) =
( bif decide (ofNat m<ofNat m) then gD (decide (0<=ofNat m)&&decide (ofNat m<ofNat m))<|gD (((0:Nat)+m).blt m&&true&&true&&true)<|zN (qe2 s B n c m (i64.wrap (ofNat m+1))) (zb (fun j =>
 bif j==0+m then(1:Int)
 else g j) m) else
 zX 2 [slV B n c,.reg s.c,.own 0 0 0 m (some m)] (zb g m)) from by kernel_rfl)]
   (repeat (first|refine BT ?_|refine BG ?_))
   rfl
  ·show [iI 1]=[iI (bif Nat.blt j m then 1 else 0)];rw[Qy hj,cond_true]
theorem qjF{s:Sti}{B:Nat->Int}{n:Nat}(h:vF s=false):ldE s B n=1:=by simp[ldE,h]
theorem qkY{s:Sti}{B:Nat->Int}{n:Nat}(h:vF s=true)(h2:n≠s.nN):ldE s B n=5:=by simp[ldE,h,h2]
theorem qmK{s:Sti}{B:Nat->Int}{n:Nat}(h:vF s=true)(h2:n=s.nN)(h3:KK B n=false):ldE s B n=1:=by simp[ldE,h,←h2,h3]
theorem qkZ{s:Sti}{B:Nat->Int}{n:Nat}(h:vF s=true)(h2:n=s.nN)(h3:KK B n=true):ldE s B n=if s.k=4∨s.k=5 then(if 4<B 0+B 1 then 9 else 0) else if s.k=6 then(if B 0=3 then 9 else 0) else 0:=by simp[ldE,h,←h2,h3]
theorem qdT(s:Sti)(hs:s.Ok)(B:Nat->Int)(n:Nat)(c:Option Nat)(hn:n<=1000):ToldOk P18 G18 59 [s.t,slV B n c] (ldR s B n):=by
 obtain⟨p,hp⟩:=qD P18 G18 69;obtain⟨q,hq⟩:=qD P18 G18 58;obtain⟨r,hr⟩:=qD P18 G18 68;have t1:=YZ s;have t2:=K2 s;have t3:=qdR s;have hv:=s.v_iff hs;have hnb:=s.n_bd hs;have hmb:=s.m_bd hs;have hl2:=qot s B n c s.mN (by unfold Sti.mN;omega);have emN:s.m=((s.mN:Nat):Int):=by unfold Sti.mN;omega
 have enN:s.n=((s.nN:Nat):Int):=by unfold Sti.nN;omega
 have hn4:vF s=true->s.k=4∨s.k=5->s.n=2:=fun h1 h2=>by
  unfold Sti.n;rw[h1,cond_true];rcases h2 with h2|h2
  ·rw[dF (by omega),dT h2];rfl
  ·rw[dF (by omega),dF (by omega),dT h2];rfl
 have hn6:vF s=true->s.k=6∨s.k=7->s.n=1/\s.m=1:=fun h1 h2=>by
  unfold Sti.n Sti.m;rw[h1,cond_true,dF (by omega),dF (by omega),dF (by omega),dF (by omega)];exact⟨rfl,rfl⟩
 rw[emN] at t3;rw[enN] at t2;unfold ldR;have hmN:s.mN<=4:=by unfold Sti.mN;omega
 generalize hm:s.mN=m at *
 generalize hx:s.nN=x at *
 have hok:OrcOk P18 G18 (K59 p q r (vF s) x m):=qq (qq (qq qf (qj hp)) (qj hq)) (qj hr);rcases Z9 (qdS B) n with hg|⟨I,hI,hb,hlt⟩
 ·have hsl:=(kP B n).2 hg;have hB:∀i,i<n->1<=B i/\B i<=3:=fun i hi=>(K7 B i).1 (hg i hi);have hl:LoopOk P18 G18 (A18 59) 59 6 (qE (JU s B n c 0) [] (.exit 0) [slV B n c,.reg s.c,.undef,.undef] []):=by
   refine qz qv (by kernel_rfl) (fun i=>JU s B n c i) (fun _=>[]) (n:=n) (fun i hi=>s59 s B n c hn i hi (hg i hi)) ?_;refine Last.mk0 (A:=A18) (m:=0) qf rfl rfl qh (h1:=[]) (by simp) ?_ .nil;rw[i59];refine BF ?_;rfl
  refine qJ qv q9 hok (A:=A18) (m:=0) (by kernel_rfl) (zq hl (qK hl2)) ?_;rw[show vF s=vF s from rfl];generalize hvv:vF s=e at *
  rw[(show QB P18 G18 A18 (K59 p q r e x m) 0 59 [(6,qE (JU s B n c 0) [] (.exit 0) [slV B n c,.reg s.c,.undef,.undef] []),(13,qE (qe2 s B n c m 0) (zb (fun _=>0) m) (.exit 2) [slV B n c,.reg s.c,.own 0 0 0 m (some m)] (zb (fun _=>1) m))] [s.t,slV B n c] =
( gD (qF (p [.agg [uI s.k,uI s.y,iI s.a,iI s.b,.bool s.f]] (iI (bif e then(0:Int)
 else(1:Int)))))<|bif !decide ((bif e then(0:Int)
 else(1:Int))=(0:Int)) then some (.tup [.nils,iI 1]) else
 gD (qF (q [.agg [uI s.k,uI s.y,iI s.a,iI s.b,.bool s.f]] (iI (.ofNat x))))<|bif !decide (ofNat n=ofNat x) then some (.tup [.nils,iI 5]) else
 gD (qS (JU s B n c (0:Int)) [] (JU s B n c (0:Int)) [])<|gD (qF (r [.agg [uI s.k,uI s.y,iI s.a,iI s.b,.bool s.f]] (iI (.ofNat m))))<|gD (decide (0<=ofNat m)&&decide (ofNat m<=ofNat m)&&decide (ofNat m*8<=140737488355328)&&decide (ofNat m<=9223372036854775807))<|gD (qS (qe2 s B n c m (0:Int)) (zb (fun j=>(0:Int)) m) (qe2 s B n c m (0:Int)) (zb (fun j=>(0:Int)) m))<|bif decide (s.k=4) then gD (decide (0<ofNat n))<|gD (decide (1<ofNat n))<|bif decide (4<i64.wrap (B (0:Nat)+B (1:Nat))) then some (.tup [.nils,iI 9]) else
 some (.tup [bif ((0:Nat)+m).ble m then .fresh true (1:Nat) (m-0) (fun j=>[iI 1]) m (some m)
 else .undef,iI 0]) else
 bif decide (s.k=5) then gD (decide (0<ofNat n))<|gD (decide (1<ofNat n))<|bif decide (4<i64.wrap (B (0:Nat)+B (1:Nat))) then some (.tup [.nils,iI 9]) else
 some (.tup [bif ((0:Nat)+m).ble m then .fresh true (1:Nat) (m-0) (fun j=>[iI 1]) m (some m)
 else .undef,iI 0]) else
 bif decide (s.k=6) then gD (decide (0<ofNat n))<|bif decide (B (0:Nat)=(3:Int)) then some (.tup [.nils,iI 9]) else
 gD (decide (0<ofNat n))<|gD (decide (0<ofNat m))<|gD (Nat.blt 0 m&&[iI (i64.wrap (B (0:Nat)+(1:Int)))].length==(1:Nat)&&true&&true)<|some (.tup [bif ((0:Nat)+m).ble m then .fresh true (1:Nat) (m-0) (fun j=>[iI (bif 0+j==(0:Nat) then i64.wrap (B (0:Nat)+(1:Int))
 else(1:Int))]) m (some m)
 else .undef,iI 0]) else
 bif decide (s.k=7) then gD (decide (0<ofNat n))<|gD (decide (0<ofNat m))<|gD (Nat.blt 0 m&&[iI (B (0:Nat))].length==(1:Nat)&&true&&true)<|some (.tup [bif ((0:Nat)+m).ble m then .fresh true (1:Nat) (m-0) (fun j=>[iI (bif 0+j==(0:Nat) then B (0:Nat)
 else(1:Int))]) m (some m)
 else .undef,iI 0]) else
 some (.tup [bif ((0:Nat)+m).ble m then .fresh true (1:Nat) (m-0) (fun j=>[iI 1]) m (some m)
 else .undef,iI 0])) from by kernel_rfl)]
  refine qm (qp hp t1) ?_;cases e
  ·rw[qjF hvv];rfl
  refine qZ (by simp) ?_;refine qm (qp hq t2) ?_;by_cases h1:n=x
  case neg =>
   rw[qkY hvv (by omega),if_neg (by omega)];refine BT ?_;rfl
  have hE:=qkZ (B:=B) hvv (show n=s.nN by omega) hsl;refine qZ (by simp[h1]) ?_;refine qm (qw ⟨rfl,.refl _⟩) ?_;refine qm (qp hr t3) ?_;refine BT ?_;refine qm (qw ⟨rfl,.refl _⟩) ?_;simp only[Nat.zero_add,Nat.sub_zero,QZ (Nat.le_refl _),cond_true,Bool.and_true];have hv:=hv.1 rfl;have hn4:=hn4 rfl;have hn6:=hn6 rfl;by_cases k4:s.k=4
  ·have:=hn4 (.inl k4);have b0:=hB 0 (by omega);have b1:=hB 1 (by omega);rw[if_pos (.inl k4)] at hE;rw[qI (by omega) (by omega)];refine qm (dT k4) ?_;refine BT ?_;refine BT ?_;by_cases h9:4<B 0+B 1
   ·rw[if_pos h9] at hE;rw[hE];exact qm (dT h9) rfl
   ·rw[if_neg h9] at hE;refine qZ (by simpa using h9) ?_;rw[hE,if_pos rfl,show(fun j=>[iI (ldG s B j)])=fun j=>[iI 1] by funext j;unfold ldG;rw[if_neg (by omega),if_neg (by omega)]]
  by_cases k5:s.k=5
  ·have:=hn4 (.inr k5);have b0:=hB 0 (by omega);have b1:=hB 1 (by omega);rw[if_pos (.inr k5)] at hE;rw[qI (by omega) (by omega)];refine qZ (by simpa using k4) ?_;refine qm (dT k5) ?_;refine BT ?_;refine BT ?_;by_cases h9:4<B 0+B 1
   ·rw[if_pos h9] at hE;rw[hE];exact qm (dT h9) rfl
   ·rw[if_neg h9] at hE;refine qZ (by simpa using h9) ?_;rw[hE,if_pos rfl,show(fun j=>[iI (ldG s B j)])=fun j=>[iI 1] by funext j;unfold ldG;rw[if_neg (by omega),if_neg (by omega)]]
  rw[if_neg (by omega)] at hE;refine qZ (by simpa using k4) ?_;refine qZ (by simpa using k5) ?_;by_cases k6:s.k=6
  ·have h61:=hn6 (.inl k6);have b0:=hB 0 (by omega);rw[if_pos k6] at hE;refine qm (dT k6) ?_;refine BT ?_;by_cases h9:B 0=3
   ·rw[if_pos h9] at hE;rw[hE];exact qm (dT h9) rfl
   ·rw[if_neg h9] at hE;refine qZ (by simpa using h9) ?_;refine BT ?_;refine BT ?_;refine qm (by rw[Qy (by omega)];rfl) ?_;rw[qI (by omega) (by omega),hE,if_pos rfl,show(fun j=>[iI (ldG s B j)])=fun j=>[iI (bif j==0 then B 0+1 else 1)] by
     funext j;unfold ldG;by_cases hj:j=0
     ·rw[if_pos ⟨k6,hj⟩,hj];rfl
     ·rw[if_neg (by omega),if_neg (by omega),show(j==0)=false by simpa using hj];rfl]
  rw[if_neg k6] at hE;refine qZ (by simpa using k6) ?_;by_cases k7:s.k=7
  ·have h61:=hn6 (.inr k7);have b0:=hB 0 (by omega);refine qm (dT k7) ?_;refine BT ?_;refine BT ?_;refine qm (by rw[Qy (by omega)];rfl) ?_;rw[hE,if_pos rfl,show(fun j=>[iI (ldG s B j)])=fun j=>[iI (bif j==0 then B 0 else 1)] by
    funext j;unfold ldG;by_cases hj:j=0
    ·rw[if_neg (by omega),if_pos ⟨k7,hj⟩,hj];rfl
    ·rw[if_neg (by omega),if_neg (by omega),show(j==0)=false by simpa using hj];rfl]
  refine qZ (by simpa using k7) ?_;rw[hE,if_pos rfl,show(fun j=>[iI (ldG s B j)])=fun j=>[iI 1] by funext j;unfold ldG;rw[if_neg (by omega),if_neg (by omega)]]
 ·have hsl:KK B n=false:=by
   cases h:KK B n
   ·rfl
   ·have:=(kP B n).1 h I hI;rw[hb] at this;cases this
  have hl:LoopOk P18 G18 (A18 59) 59 6 (qE (JU s B n c 0) [] .ret [slV B n c,.reg s.c,.nils,iI 1] []):=by
   refine qz qv (by kernel_rfl) (fun i=>JU s B n c i) (fun _=>[]) (n:=I) (fun i hi=>s59 s B n c hn i (by omega) (hlt i hi)) ?_;refine Last.mk0 (A:=A18) (m:=0) qf rfl rfl qh (h1:=[]) (by simp) ?_ .nil;have hnb:¬(1<=B I/\B I<=3):=fun h=>by rw[(K7 B I).2 h] at hb;cases hb
   rw[i59];refine BT ?_;refine BT ?_;by_cases h1:B I<1
   ·exact qm (dT h1) rfl
   ·refine qZ (by simpa using h1) ?_;exact BT rfl
  refine qJ qv q9 hok (A:=A18) (m:=0) (by kernel_rfl) (qK hl) ?_;generalize hvv:vF s=e at *
  rw[(show QB P18 G18 A18 (K59 p q r e x m) 0 59 [(6,qE (JU s B n c 0) [] .ret [slV B n c,.reg s.c,.nils,iI 1] [])] [s.t,slV B n c] =
( gD (qF (p [.agg [uI s.k,uI s.y,iI s.a,iI s.b,.bool s.f]] (iI (bif e then(0:Int)
 else(1:Int)))))<|bif !decide ((bif e then(0:Int)
 else(1:Int))=(0:Int)) then some (.tup [.nils,iI 1]) else
 gD (qF (q [.agg [uI s.k,uI s.y,iI s.a,iI s.b,.bool s.f]] (iI (.ofNat x))))<|bif !decide (ofNat n=ofNat x) then some (.tup [.nils,iI 5]) else
 gD (qS (JU s B n c (0:Int)) [] (JU s B n c (0:Int)) [])<|some (.tup [.nils,iI 1])) from by kernel_rfl)]
  refine qm (qp hp t1) ?_;cases e
  ·rw[qjF hvv];rfl
  refine qZ (by simp) ?_;refine qm (qp hq t2) ?_;by_cases h1:n=x
  case neg =>
   rw[qkY hvv (by omega),if_neg (by omega)];refine BT ?_;rfl
  rw[qmK hvv (by omega) hsl,if_neg (by omega)];refine qZ (by simp[h1]) ?_;exact qm (qw ⟨rfl,.refl _⟩) rfl
def QF(L:Nat->Nat->Int)(W:Nat->Nat)(h:Nat):Blk:=⟨0,1,1+h,fun e=>[slV (L e) (W e) (some (W e))],false,false,none⟩
def zu(g:Nat->Int)(m:Nat):Blk:=⟨0,1,m,fun e=>[iI (g e)],true,false,none⟩
def qg5(C:Nat->Nat->Sti)(ln:Nat->Nat)(h:Nat)(n:Nat)(i:Int):List T:=[.reg [chV C ln h],.own 0 0 0 n (some n),iI n,iI i]
def jg(C:Nat->Nat->Sti)(ln:Nat->Nat)(h i:Nat):List T:=[.own 0 0 0 (i+1) (some (1+h)),iI 0,chV C ln h,iI h,iI i]
def jU(C:Nat->Nat->Sti)(ln:Nat->Nat)(h i:Nat)(B:Nat->Int)(w:Nat)(o m:Nat)(k:Nat):List T:=[.own 0 0 0 (i+1) (some (1+h)),iI 0,slV B w (some w),.own 1 0 0 o (some m),chV C ln h,iI h,iI i,srV (C i) (ln i) none,iI (ln i),iI k]
def x42(C:Nat->Nat->Sti)(ln:Nat->Nat)(h i m:Nat)(e:Int)(o:Nat):List T:=[.own 0 0 0 (i+1) (some (1+h)),iI e,.own 1 0 0 o (some m),chV C ln h,iI h,iI i]
noncomputable def qjG(p q:List T->T->Prop)(x:Nat)(r:T):Orc:=(qk.add 58 (qL p fun _=>some (iI x))).add 59 (qL q fun _=>some r)
noncomputable def qkB(p:List T->T->Prop)(m:Nat):Orc:=qk.add 57 (qL p fun _=>some (iI m))
noncomputable def K42(p q:List T->T->Prop)(e:Int)(n:Nat):Orc:=(qk.add 55 (qL p fun _=>some (iI e))).add 56 (qL q fun _=>some (iI n))
def Qr(r:Nat->Sti):Nat->Nat
 |0=>0
 |k+1=>Qr r k+(r k).nN
def Qs(r:Nat->Sti):Nat->Nat
 |0=>0
 |k+1=>Qs r k+(r k).mN
def Yi(r:Nat->Sti)(B:Nat->Int):Nat->Nat->Int
 |0=>fun _=>0
 |k+1=>fun j=>bif Nat.ble (Qs r k) j&&Nat.blt j (Qs r k+(r k).mN) then ldG (r k) (fun t=>B (Qr r k+t)) (j-Qs r k) else Yi r B k j
def erK(r:Nat->Sti)(B:Nat->Int)(k:Nat):Int:=ldE (r k) (fun j=>B (Qr r k+j)) (r k).nN
def ZX(r:Nat->Sti)(B:Nat->Int):Nat->Int
 |0=>0
 |k+1=>if ZX r B k≠0 then ZX r B k else erK r B k
def LD(C:Nat->Nat->Sti)(ln:Nat->Nat):Nat->Nat->Int
 |0=>fun _=>1
 |i+1=>Yi (C i) (LD C ln i) (ln i)
def WD(C:Nat->Nat->Sti)(ln:Nat->Nat):Nat->Nat
 |0=>Qr (C 0) (ln 0)
 |i+1=>Qs (C i) (ln i)
def qdf(C:Nat->Nat->Sti)(ln:Nat->Nat):Nat->Int
 |0=>0
 |i+1=>if qdf C ln i≠0 then qdf C ln i else ZX (C i) (LD C ln i) (ln i)
def W42(C:Nat->Nat->Sti)(ln:Nat->Nat)(i e:Nat):Nat:=bif Nat.ble e i then WD C ln e else 0
theorem qmL(C:Nat->Nat->Sti)(ln:Nat->Nat)(h n i:Nat)(g:Nat->Int):qA P18 G18 A18 qk 0 42 [] 6 (qg5 C ln h n i) (zb g n) =
( bif decide (ofNat i<ofNat n) then gD (decide (0<=ofNat i)&&decide (ofNat i<ofNat n))<|gD (((0:Nat)+i).blt n&&true&&true&&true)<|zN (qg5 C ln h n (i64.wrap (ofNat i+1))) (zb (fun j =>
 bif j==0+i then(1:Int)
 else g j) n) else
 zX 0 [.reg [chV C ln h],.own 0 0 0 n (some n)] (zb g n)):=by kernel_rfl
theorem kQ(r:Nat->Sti)(hr:∀j,(r j).Ok):∀n,nR5 r n=((Qr r n:Nat):Int)/\mR5 r n=((Qs r n:Nat):Int)
 |0=>⟨rfl,rfl⟩
 |n+1=>by
  obtain⟨h1,h2⟩:=kQ r hr n;have a1:=(r n).n_bd (hr n);have a2:=(r n).m_bd (hr n);have e1:nR5 r (n+1)=nR5 r n+(r n).n:=rfl;have e2:mR5 r (n+1)=mR5 r n+(r n).m:=rfl;have e3:Qr r (n+1)=Qr r n+(r n).n.toNat:=rfl;have e4:Qs r (n+1)=Qs r n+(r n).m.toNat:=rfl;rw[e1,e2,e3,e4,h1,h2];omega
theorem qe3(r:Nat->Sti){k n:Nat}(h:k<=n):Qr r k<=Qr r n/\Qs r k<=Qs r n:=by
 induction h with
 |refl=>exact⟨Nat.le_refl _,Nat.le_refl _⟩
 |step _ ih =>
  have e3:∀n,Qr r (n+1)=Qr r n+(r n).nN:=fun _=>rfl;have e4:∀n,Qs r (n+1)=Qs r n+(r n).mN:=fun _=>rfl;rw[e3,e4];omega
theorem kR(r:Nat->Sti)(B:Nat->Int):∀n,(∀i,i<n->erK r B i=0)->ZX r B n=0
 |0,_=>rfl
 |n+1,q=>by
  unfold ZX;rw[if_neg (by rw[kR r B n fun i hi=>q i (by omega)];simp),q n (by omega)]
theorem qcL(r:Nat->Sti)(B:Nat->Int)(I:Nat)(hb:erK r B I≠0)(hlt:∀i,i<I->erK r B i=0):∀n,I<n->ZX r B n=erK r B I
 |n+1,hI=>by
  unfold ZX;by_cases q:n=I
  ·subst q;rw[if_neg (by rw[kR r B n hlt];simp)]
  ·have ih:=qcL r B I hb hlt n (by omega);rw[if_pos (by rw[ih];exact hb),ih]
theorem K9(C:Nat->Nat->Sti)(ln:Nat->Nat):∀n,(∀i,i<n->ZX (C i) (LD C ln i) (ln i)=0)->qdf C ln n=0
 |0,_=>rfl
 |n+1,q=>by
  unfold qdf;rw[if_neg (by rw[K9 C ln n fun i hi=>q i (by omega)];simp),q n (by omega)]
theorem qhI(C:Nat->Nat->Sti)(ln:Nat->Nat)(I:Nat)(hb:ZX (C I) (LD C ln I) (ln I)≠0)(hlt:∀i,i<I->ZX (C i) (LD C ln i) (ln i)=0):∀n,I<n->qdf C ln n=ZX (C I) (LD C ln I) (ln I)
 |n+1,hI=>by
  unfold qdf;by_cases q:n=I
  ·subst q;rw[if_neg (by rw[K9 C ln n hlt];simp)]
  ·have ih:=qhI C ln I hb hlt n (by omega);rw[if_pos (by rw[ih];exact hb),ih]
theorem qmM{s:Sti}{B:Nat->Int}{n:Nat}(h:ldE s B n=0):vF s=true:=by
 cases q:vF s
 ·rw[qjF q] at h;exact absurd h (by decide)
 ·rfl
theorem qou(C:Nat->Nat->Sti)(ln:Nat->Nat)(h n:Nat)(hn:n<=1000):LoopOk P18 G18 (A18 42) 42 6 (qE (qg5 C ln h n 0) (zb (fun _=>0) n) (.exit 0) [.reg [chV C ln h],.own 0 0 0 n (some n)] (zb (fun _=>1) n)):=by
 refine qz qv (by kernel_rfl) (fun i=>qg5 C ln h n i) (fun i=>zb (fun e=>bif Nat.blt e i then 1 else 0) n) (n:=n) (fun i hi=>?_) ?_
 ·have e:(fun e=>bif Nat.blt e (i+1) then(1:Int) else 0)=fun e=>bif e==0+i then 1 else bif Nat.blt e i then 1 else 0:=by
   funext e;rw[Nat.zero_add];by_cases q:e=i
   ·subst q;rw[beq_self_eq_true,cond_true,Qy (by omega),cond_true]
   ·rw[show(e==i)=false by simpa using q,cond_false];by_cases q2:e<i
    ·rw[Qy q2,Qy (by omega)]
    ·rw[Zg (by omega),Zg (by omega)]
  rw[e];clear e;obtain⟨g,hg⟩:∃g:Nat->Int,g=fun e=>bif Nat.blt e i then(1:Int) else 0:=⟨_,rfl⟩;have e2:(fun e=>bif e==0+i then(1:Int) else bif Nat.blt e i then 1 else 0)=fun e=>bif e==0+i then 1 else g e:=by rw[hg]
  rw[e2,←hg];clear e2 hg;refine Step.mk0 (A:=A18) (m:=0) qf rfl rfl qh (h1:=zb (fun e=>bif e==0+i then 1 else g e) n) ?_ (.refl _);have ei:i64.wrap ((i:Int)+1)=((i+1:Nat):Int):=by rw[qI (by omega) (by omega)];omega
  rw[qmL,qn i,ei];refine BT ?_;refine BT ?_;refine BT ?_;rfl
 ·refine Last.mk0 (A:=A18) (m:=0) qf rfl rfl qh (h1:=zb (fun e=>bif Nat.blt e n then 1 else 0) n) (by simp) ?_ (.cons ⟨rfl,rfl,rfl,id,fun j hj=>?_⟩ .nil)
  ·rw[qmL];refine BF ?_;rfl
  ·show [iI 1]=[iI (bif Nat.blt j n then 1 else 0)];rw[Qy hj,cond_true]
theorem qov(C:Nat->Nat->Sti)(ln:Nat->Nat)(h i:Nat)(B g:Nat->Int)(w o m k x y:Nat)(G:Nat->Int)(L:Nat->Nat->Int)(W:Nat->Nat)(p q:List T->T->Prop):qA P18 G18 A18 (qjG p q x (.tup [.new (slV G y (some y)),iI 0])) 0 42 [] 19 (jU C ln h i B w o m k) [QF L W h,zu g m] =
( bif decide (ofNat k<ofNat (ln i)) then gD (decide (0<=ofNat k)&&decide (ofNat k<ofNat (ln i)))<|gD (qF (p [.agg [uI (C i k).k,uI (C i k).y,iI (C i k).a,iI (C i k).b,.bool (C i k).f]] (iI (.ofNat x))))<|gD (decide (0<=ofNat x)&&decide (ofNat x<=ofNat w))<|gD (x.ble w)<|gD (qF (q [.agg [uI (C i k).k,uI (C i k).y,iI (C i k).a,iI (C i k).b,.bool (C i k).f],.view 1 (x-0) (fun j=>[iI (B (0+j))]) (some (w-0))] (.tup [(T.view 1 y (fun j=>[iI (G j)]) (some y)).new,iI 0])))<|gD (decide (0<=ofNat x)&&decide (ofNat x<=ofNat w)&&decide (ofNat w<=ofNat w))<|gD (w.ble w)<|gD (((0:Nat)+o).ble m)<|bif y==(0:Nat) then zN [.own 0 0 0 (i+1) (some (1+h)),iI 0,slV (fun j=>B (x+j)) (w-x) (some (w-x)),.own 1 0 0 o (some m),chV C ln h,iI (.ofNat h),iI (.ofNat i),srV (C i) (ln i)
 none,iI (.ofNat (ln i)),iI (i64.wrap (ofNat k+1))] (QF L W h::zb g m) else
 gD (((o+y)*(9:Nat)).ble 70368744177664)<|bif (o+y).ble m then gD (((0:Nat)+o+y).ble m)<|zN [.own 0 0 0 (i+1) (some (1+h)),iI 0,slV (fun j=>B (x+j)) (w-x) (some (w-x)),.own 1 0 0 (o+y) (some m),chV C ln h,iI (.ofNat h),iI (.ofNat i),srV (C i) (ln i)
 none,iI (.ofNat (ln i)),iI (i64.wrap (ofNat k+1))] [QF L W h,.mk 0 1 m (fun j =>
 bif ((0:Nat)+o).ble j&&j.blt (0+o+y) then [iI (G (j-(0+o)))]
 else [iI (g j)]) true false
 none] else
 zN [.own 0 0 0 (i+1) (some (1+h)),iI 0,slV (fun j=>B (x+j)) (w-x) (some (w-x)),.own (QF L W h::zb g m).length (0:Nat) (0:Nat) (o+y)
 none,chV C ln h,iI (.ofNat h),iI (.ofNat i),srV (C i) (ln i)
 none,iI (.ofNat (ln i)),iI (i64.wrap (ofNat k+1))] [QF L W h,zu g m,.mk 0 1 (o+y) (fun j =>
 bif j.blt o then [iI (g (0+j))]
 else [iI (G (j-o))]) true false
 none] else
 zX 4 (x42 C ln h i m (0:Int) o) (QF L W h::zb g m)):=by kernel_rfl
theorem qmN(C:Nat->Nat->Sti)(ln:Nat->Nat)(h i:Nat)(B g:Nat->Int)(w o m k x:Nat)(e:Int)(L:Nat->Nat->Int)(W:Nat->Nat)(p q:List T->T->Prop):qA P18 G18 A18 (qjG p q x (.tup [.nils,iI e])) 0 42 [] 19 (jU C ln h i B w o m k) [QF L W h,zu g m] =
( bif decide (ofNat k<ofNat (ln i)) then gD (decide (0<=ofNat k)&&decide (ofNat k<ofNat (ln i)))<|gD (qF (p [.agg [uI (C i k).k,uI (C i k).y,iI (C i k).a,iI (C i k).b,.bool (C i k).f]] (iI (.ofNat x))))<|gD (decide (0<=ofNat x)&&decide (ofNat x<=ofNat w))<|gD (x.ble w)<|gD (qF (q [.agg [uI (C i k).k,uI (C i k).y,iI (C i k).a,iI (C i k).b,.bool (C i k).f],.view 1 (x-0) (fun j=>[iI (B (0+j))]) (some (w-0))] (.tup [.nils,iI e])))<|bif !decide (e=0) then zX 2 (x42 C ln h i m e o) (QF L W h::zb g m) else
 gD (decide (0<=ofNat x)&&decide (ofNat x<=ofNat w)&&decide (ofNat w<=ofNat w))<|gD (w.ble w)<|gD (((0:Nat)+o).ble m)<|zN [.own 0 0 0 (i+1) (some (1+h)),iI 0,slV (fun j=>B (x+j)) (w-x) (some (w-x)),.own 1 0 0 o (some m),chV C ln h,iI (.ofNat h),iI (.ofNat i),srV (C i) (ln i)
 none,iI (.ofNat (ln i)),iI (i64.wrap (ofNat k+1))] (QF L W h::zb g m) else
 zX 4 (x42 C ln h i m (0:Int) o) (QF L W h::zb g m)):=by kernel_rfl
section
variable (C:Nat->Nat->Sti) (ln:Nat->Nat) (h i:Nat) (B:Nat->Int) (L:Nat->Nat->Int) (W:Nat->Nat)
theorem qmO(hC:∀i j,(C i j).Ok)(hln:ln i<=16)(hout:Qs (C i) (ln i)<=16)(k:Nat)(hk:k<ln i)(he:erK (C i) B k=0):Step P18 G18 (A18 42) 42 19 2 (jU C ln h i (fun j=>B (Qr (C i) k+j)) (Qr (C i) (ln i)-Qr (C i) k) (Qs (C i) k) (Qs (C i) (ln i)) k) [QF L W h,zu (Yi (C i) B k) (Qs (C i) (ln i))]
 (jU C ln h i (fun j=>B (Qr (C i) (k+1)+j)) (Qr (C i) (ln i)-Qr (C i) (k+1)) (Qs (C i) (k+1)) (Qs (C i) (ln i)) (k+1)) [QF L W h,zu (Yi (C i) B (k+1)) (Qs (C i) (ln i))]:=by
 obtain⟨p,hp⟩:=qD P18 G18 58;obtain⟨q,hq⟩:=qD P18 G18 59;have t1:=K2 (C i k);have hnb:=(C i k).n_bd (hC i k);have hmb:=(C i k).m_bd (hC i k);rw[show(C i k).n=(((C i k).nN:Nat):Int) by unfold Sti.nN;omega] at t1;have t2:=qdT (C i k) (hC i k) (fun j=>B (Qr (C i) k+j)) (C i k).nN (some (Qr (C i) (ln i)-Qr (C i) k)) (by unfold Sti.nN;omega);have he2:=he;unfold erK at he2;have hm1:1<=(C i k).mN:=by
  have hv:=qmM he2;have hv2:=((C i k).v_iff (hC i k)).1 hv;unfold Sti.mN Sti.m;rw[hv,cond_true];by_cases h8:(C i k).k=8
  ·rw[dT h8,cond_true,qI (by omega) (by omega)];omega
  ·rw[dF h8,cond_false];decide
 unfold ldR at t2;rw[if_pos he2] at t2;have t2:=t2.frz;change ToldOk P18 G18 59 _ (.tup [.new (slV (ldG (C i k) (fun j=>B (Qr (C i) k+j))) (C i k).mN (some (C i k).mN)),iI 0]) at t2;have l1:=(qe3 (C i) (show k+1<=ln i from hk)).1;have l2:=(qe3 (C i) (show k+1<=ln i from hk)).2;have e1:Qr (C i) (k+1)=Qr (C i) k+(C i k).nN:=rfl;have e2:Qs (C i) (k+1)=Qs (C i) k+(C i k).mN:=rfl;rw[e1] at l1;rw[e2] at l2;have ec:Yi (C i) B (k+1)=fun j=>bif Nat.ble (Qs (C i) k) j&&Nat.blt j (Qs (C i) k+(C i k).mN) then ldG (C i k) (fun t=>B (Qr (C i) k+t)) (j-Qs (C i) k) else Yi (C i) B k j:=rfl;rw[ec,e1,e2,show(fun j=>B (Qr (C i) k+(C i k).nN+j))=fun j=>B (Qr (C i) k+((C i k).nN+j)) by funext j;rw[Nat.add_assoc],show Qr (C i) (ln i)-(Qr (C i) k+(C i k).nN)=Qr (C i) (ln i)-Qr (C i) k-(C i k).nN by omega];clear ec e1 e2 he he2;generalize ldG (C i k) (fun t=>B (Qr (C i) k+t))=G at *
 generalize Yi (C i) B k=g at *
 generalize (C i k).mN=y at *
 generalize (C i k).nN=x at *
 generalize Qs (C i) (ln i)=m at *
 generalize Qs (C i) k=o at *
 have hxw:x<=Qr (C i) (ln i)-Qr (C i) k:=by omega
 generalize Qr (C i) (ln i)-Qr (C i) k=w at *
 obtain⟨B2,hB2⟩:∃B2:Nat->Int,B2=fun j=>B (Qr (C i) k+j):=⟨_,rfl⟩;rw[show(fun j=>B (Qr (C i) k+(x+j)))=fun j=>B2 (x+j) by rw[hB2],←hB2];rw[←hB2] at t2;clear hB2 l1;refine Step.mk0 (A:=A18) (K:=qjG p q x (.tup [.new (slV G y (some y)),iI 0])) (m:=0) (qq (qq qf (qj hp)) (qj hq)) rfl rfl qh (h1:=[QF L W h,⟨0,1,m,fun j=>bif Nat.ble o j&&Nat.blt j (o+y) then [iI (G (j-o))] else [iI (g j)],true,false,none⟩]) ?_ (.cons ⟨rfl,rfl,rfl,id,fun _ _=>rfl⟩ (.cons ⟨rfl,rfl,rfl,id,fun j hj=>?_⟩ .nil))
 ·have ek:i64.wrap ((k:Int)+1)=((k+1:Nat):Int):=by rw[qI (by omega) (by omega)];omega
  rw[qov,qn k,ek];simp only[Nat.zero_add,Nat.sub_zero];refine BT ?_;refine BT ?_;refine qm (qp hp t1) ?_;refine BT ?_;refine BT ?_;refine qm (qp hq t2) ?_;refine BT ?_;refine BT ?_;refine BT ?_;refine BF ?_;refine BT ?_;refine BT ?_;refine BT ?_;rfl
 ·show [iI (bif Nat.ble o j&&Nat.blt j (o+y) then G (j-o) else g j)]=bif Nat.ble o j&&Nat.blt j (o+y) then [iI (G (j-o))] else [iI (g j)];cases Nat.ble o j&&Nat.blt j (o+y)<;>rfl
theorem qow(hC:∀i j,(C i j).Ok)(hln:ln i<=16)(hout:Qs (C i) (ln i)<=16)(k:Nat)(hk:k<ln i)(he:erK (C i) B k≠0):Last P18 G18 (A18 42) 42 19 2 (jU C ln h i (fun j=>B (Qr (C i) k+j)) (Qr (C i) (ln i)-Qr (C i) k) (Qs (C i) k) (Qs (C i) (ln i)) k) [QF L W h,zu (Yi (C i) B k) (Qs (C i) (ln i))]
 (.exit 2) (x42 C ln h i (Qs (C i) (ln i)) (erK (C i) B k) (Qs (C i) k)) [QF L W h,zu (Yi (C i) B k) (Qs (C i) (ln i))]:=by
 obtain⟨p,hp⟩:=qD P18 G18 58;obtain⟨q,hq⟩:=qD P18 G18 59;have t1:=K2 (C i k);have hnb:=(C i k).n_bd (hC i k);rw[show(C i k).n=(((C i k).nN:Nat):Int) by unfold Sti.nN;omega] at t1;have t2:=qdT (C i k) (hC i k) (fun j=>B (Qr (C i) k+j)) (C i k).nN (some (Qr (C i) (ln i)-Qr (C i) k)) (by unfold Sti.nN;omega);unfold ldR at t2;rw[if_neg (show ¬ldE (C i k) (fun j=>B (Qr (C i) k+j)) (C i k).nN=0 from he)] at t2;change ToldOk P18 G18 59 _ (.tup [.nils,iI (erK (C i) B k)]) at t2;generalize erK (C i) B k=e at *
 have l1:=(qe3 (C i) (show k+1<=ln i from hk)).1;have e1:Qr (C i) (k+1)=Qr (C i) k+(C i k).nN:=rfl;rw[e1] at l1;generalize Yi (C i) B k=g at *
 generalize (C i k).nN=x at *
 generalize Qs (C i) (ln i)=m at *
 generalize Qs (C i) k=o at *
 have hxw:x<=Qr (C i) (ln i)-Qr (C i) k:=by omega
 generalize Qr (C i) (ln i)-Qr (C i) k=w at *
 generalize (fun j=>B (Qr (C i) k+j))=B2 at *
 clear l1 e1;refine Last.mk0 (A:=A18) (K:=qjG p q x (.tup [.nils,iI e])) (m:=0) (qq (qq qf (qj hp)) (qj hq)) rfl rfl qh (h1:=[QF L W h,zu g m]) (by simp) ?_ (.refl _);rw[qmN];simp only[Nat.zero_add,Nat.sub_zero];refine BT ?_;refine BT ?_;refine qm (qp hp t1) ?_;refine BT ?_;refine BT ?_;refine qm (qp hq t2) ?_;refine qm (by simp[he]) ?_;rfl
end
def qg6(C:Nat->Nat->Sti)(ln:Nat->Nat)(h:Nat):T:=.tup [.fresh false 1 (1+h) (fun e=>[slV (LD C ln e) (WD C ln e) (some (WD C ln e))]) (1+h) (some (1+h)),iI 0]
section
variable (C:Nat->Nat->Sti) (ln:Nat->Nat) (h i:Nat) (B:Nat->Int) (L:Nat->Nat->Int) (W:Nat->Nat)
theorem qox(hC:∀i j,(C i j).Ok)(hln:ln i<=16)(hout:Qs (C i) (ln i)<=16)(hg:∀k,k<ln i->erK (C i) B k=0):LoopOk P18 G18 (A18 42) 42 19 (qE (jU C ln h i B (Qr (C i) (ln i)) 0 (Qs (C i) (ln i)) 0) [QF L W h,zu (fun _=>0) (Qs (C i) (ln i))] (.exit 4) (x42 C ln h i (Qs (C i) (ln i)) 0 (Qs (C i) (ln i))) [QF L W h,zu (Yi (C i) B (ln i)) (Qs (C i) (ln i))]):=by
 have key:=qz (P:=P18) (Gl:=G18) (f:=42) (r:=19) qv (by kernel_rfl) (an:=A18 42) (fun k=>jU C ln h i (fun j=>B (Qr (C i) k+j)) (Qr (C i) (ln i)-Qr (C i) k) (Qs (C i) k) (Qs (C i) (ln i)) k) (fun k=>[QF L W h,zu (Yi (C i) B k) (Qs (C i) (ln i))]) (n:=ln i) (e1:=.exit 4) (vs1:=x42 C ln h i (Qs (C i) (ln i)) 0 (Qs (C i) (ln i))) (h1:=[QF L W h,zu (Yi (C i) B (ln i)) (Qs (C i) (ln i))]) (fun k hk=>qmO C ln h i B L W hC hln hout k hk (hg k hk)) ?_
 ·rw[show(fun j=>B (Qr (C i) 0+j))=B by funext j;rw[show Qr (C i) 0=0 from rfl,Nat.zero_add]] at key;exact key
 ·refine Last.mk0 (A:=A18) (K:=qjG (ToldOk P18 G18 58) (ToldOk P18 G18 59) 0 (.tup [.nils,iI 0])) (m:=0) (qq (qq qf (qj rfl)) (qj rfl)) rfl rfl qh (h1:=[QF L W h,zu (Yi (C i) B (ln i)) (Qs (C i) (ln i))]) (by simp) ?_ (.refl _);rw[qmN];refine BF ?_;rfl
theorem qoy(hC:∀i j,(C i j).Ok)(hln:ln i<=16)(hout:Qs (C i) (ln i)<=16)(I:Nat)(hI:I<ln i)(hb:erK (C i) B I≠0)(hg:∀k,k<I->erK (C i) B k=0):LoopOk P18 G18 (A18 42) 42 19 (qE (jU C ln h i B (Qr (C i) (ln i)) 0 (Qs (C i) (ln i)) 0) [QF L W h,zu (fun _=>0) (Qs (C i) (ln i))] (.exit 2) (x42 C ln h i (Qs (C i) (ln i)) (erK (C i) B I) (Qs (C i) I)) [QF L W h,zu (Yi (C i) B I) (Qs (C i) (ln i))]):=by
 have key:=qz (P:=P18) (Gl:=G18) (f:=42) (r:=19) qv (by kernel_rfl) (an:=A18 42) (fun k=>jU C ln h i (fun j=>B (Qr (C i) k+j)) (Qr (C i) (ln i)-Qr (C i) k) (Qs (C i) k) (Qs (C i) (ln i)) k) (fun k=>[QF L W h,zu (Yi (C i) B k) (Qs (C i) (ln i))]) (n:=I) (e1:=.exit 2) (vs1:=x42 C ln h i (Qs (C i) (ln i)) (erK (C i) B I) (Qs (C i) I)) (h1:=[QF L W h,zu (Yi (C i) B I) (Qs (C i) (ln i))]) (fun k hk=>qmO C ln h i B L W hC hln hout k (by omega) (hg k hk)) (qow C ln h i B L W hC hln hout I hI hb);rw[show(fun j=>B (Qr (C i) 0+j))=B by funext j;rw[show Qr (C i) 0=0 from rfl,Nat.zero_add]] at key;exact key
end
theorem j42(C:Nat->Nat->Sti)(ln:Nat->Nat)(h i:Nat)(g:Nat->Int)(m:Nat)(L:Nat->Nat->Int)(W:Nat->Nat)(p:List T->T->Prop):qA P18 G18 A18 (qkB p m) 0 42 [(19,qE (jU C ln h i (L i) (W i) 0 m 0) [QF L W h,zu (fun _=>0) m] (.exit 4) (x42 C ln h i m 0 m) [QF L W h,zu g m])] 14 (jg C ln h i) [QF L W h] =
( bif decide (ofNat i<ofNat h) then gD (decide (0<=ofNat i)&&decide (ofNat i<ofNat h))<|gD (decide (0<=ofNat i)&&decide (ofNat i<ofNat (i+1)))<|gD (((0:Nat)+i).blt (1+h))<|gD (qF (p [srV (C i) (ln i)
 none] (iI (.ofNat m))))<|gD (decide (0<=ofNat m)&&decide (ofNat m*8<=140737488355328)&&decide (ofNat m<=9223372036854775807))<|gD (qS (jU C ln h i (L (0+i)) (W (0+i)) (0:Nat) m (nat_lit 0)) (QF L W h::zb (fun j=>(0:Int)) m) (jU C ln h i (L i) (W i) (0:Nat) m (nat_lit 0)) (QF L W h::zb (fun j=>(0:Int)) m))<|gD (((0:Nat)+(i+(1:Nat))).ble (1+h))<|gD (((i+(1:Nat)+(1:Nat))*(25:Nat)).ble 70368744177664)<|bif (i+(1:Nat)+(1:Nat)).ble (1+h) then gD (((0:Nat)+(i+(1:Nat))+(1:Nat)).ble (1+h))<|zN [.own 0 0 0 (i+1+(1:Nat)) (some (1+h)),iI 0,chV C ln h,iI (.ofNat h),iI (i64.wrap (ofNat i+1))] [.mk 0 1 (1+h) (fun j =>
 bif ((0:Nat)+(i+(1:Nat))).ble j&&j.blt ((0:Nat)+(i+1)+(1:Nat)) then [[T.own 1 0 0 m (some m)]].getD ((0:Nat)+(j-((0:Nat)+(i+1)))) []
 else [slV (L j) (W j) (some (W j))]) false false
 none,zu g m,.mk 0 1 1 (fun j=>[[T.own 1 0 0 m (some m)]].getD j []) false true
 none] else
 zN [.own [QF L W h,zu g m,Blk.mk 0 1 1 (fun j=>[[T.own 1 0 0 m (some m)]].getD j []) false true
 none].length (0:Nat) (0:Nat) (i+1+(1:Nat))
 none,iI 0,chV C ln h,iI (.ofNat h),iI (i64.wrap (ofNat i+1))] [QF L W h,zu g m,.mk 0 1 1 (fun j=>[[T.own 1 0 0 m (some m)]].getD j []) false true
 none,.mk 0 1 (i+1+(1:Nat)) (fun j =>
 bif j.blt (i+1) then [slV (L (0+j)) (W (0+j)) (some (W (0+j)))]
 else [[T.own 1 0 0 m (some m)]].getD ((0:Nat)+(j-(i+1))) []) false false
 none] else
 zX 2 [.own 0 0 0 (i+1) (some (1+h)),iI 0] (h14 (1+h) fun e=>slV (L e) (W e) (some (W e)))):=by kernel_rfl
theorem qoz(C:Nat->Nat->Sti)(ln:Nat->Nat)(h i o:Nat)(e:Int)(g:Nat->Int)(m:Nat)(L:Nat->Nat->Int)(W:Nat->Nat)(p:List T->T->Prop):qA P18 G18 A18 (qkB p m) 0 42 [(19,qE (jU C ln h i (L i) (W i) 0 m 0) [QF L W h,zu (fun _=>0) m] (.exit 2) (x42 C ln h i m e o) [QF L W h,zu g m])] 14 (jg C ln h i) [QF L W h] =
( bif decide (ofNat i<ofNat h) then gD (decide (0<=ofNat i)&&decide (ofNat i<ofNat h))<|gD (decide (0<=ofNat i)&&decide (ofNat i<ofNat (i+1)))<|gD (((0:Nat)+i).blt (1+h))<|gD (qF (p [srV (C i) (ln i)
 none] (iI (.ofNat m))))<|gD (decide (0<=ofNat m)&&decide (ofNat m*8<=140737488355328)&&decide (ofNat m<=9223372036854775807))<|gD (qS (jU C ln h i (L (0+i)) (W (0+i)) (0:Nat) m (nat_lit 0)) (QF L W h::zb (fun j=>(0:Int)) m) (jU C ln h i (L i) (W i) (0:Nat) m (nat_lit 0)) (QF L W h::zb (fun j=>(0:Int)) m))<|zX 2 [.own 0 0 0 (i+1) (some (1+h)),iI e] (QF L W h::zb g m) else
 zX 2 [.own 0 0 0 (i+1) (some (1+h)),iI 0] (h14 (1+h) fun e=>slV (L e) (W e) (some (W e)))):=by kernel_rfl
theorem qoA(C:Nat->Nat->Sti)(ln:Nat->Nat)(h:Nat)(L:Nat->Nat->Int)(W:Nat->Nat):qA P18 G18 A18 qk 0 42 [] 14 (jg C ln h h) [QF L W h]=some (.exit 2,[.own 0 0 0 (h+1) (some (1+h)),iI 0],[QF L W h]):=by
 rw[(show qA P18 G18 A18 qk 0 42 [] 14 (jg C ln h h) [QF L W h] =
( bif decide (ofNat h<ofNat h) then gD (decide (0<=ofNat h)&&decide (ofNat h<ofNat h))<|gD (decide (0<=ofNat h)&&decide (ofNat h<ofNat (h+1)))<|gD (((0:Nat)+h).blt (1+h)) none else
 zX 2 [.own 0 0 0 (h+1) (some (1+h)),iI 0] (h14 (1+h) fun e=>slV (L e) (W e) (some (W e)))) from by kernel_rfl)]
 refine BF ?_;rfl
theorem qg7(C:Nat->Nat->Sti)(ln:Nat->Nat)(h:Nat)(hh:h<=1000)(hln:∀i,i<h->ln i<=1000)(hC:∀i j,(C i j).Ok)(hb:chE C ln h≠0):ToldOk P18 G18 42 [.agg [chV C ln h]] (.tup [.nils,iI (chE C ln h)]):=by
 obtain⟨p,hp⟩:=qD P18 G18 55;obtain⟨q,hq⟩:=qD P18 G18 56;have t1:=qcK C ln h hh hln hC;generalize chE C ln h=e at *
 refine qJ qv q9 (K:=K42 p q e 0) (qq (qq qf (qj hp)) (qj hq)) (A:=A18) (m:=0) (by kernel_rfl) qh ?_;rw[(show QB P18 G18 A18 (K42 p q e 0) 0 42 [] [.agg [chV C ln h]] =
( gD (qF (p [.view 1 h (fun i=>[srV (C i) (ln i)
 none])
 none] (iI e)))<|bif !decide (e=0) then some (.tup [.nils,iI e]) else
 gD (decide (0<ofNat h))<|gD (qF (q [.view 5 (ln (0:Nat)) (fun j=>[uI (C (0:Nat) j).k,uI (C (0:Nat) j).y,iI (C (0:Nat) j).a,iI (C (0:Nat) j).b,.bool (C (0:Nat) j).f])
 none] (iI 0))) none) from by kernel_rfl)]
 refine qm (qp hp t1) ?_;exact qm (by simp[hb]) rfl
noncomputable def c42:Code:=match P18.funcs[42]? with|some fn=>fn.body.getD .skip|none=>.skip
def qcM(k:Nat)(c:Code):Code:=match k with
 |0=>inB (sq2 c)
 |k+1=>sq2 (qcM k c)
def qcN(k:Nat)(c:Code):Code:=sq1 (qcM k c)
def y42(C:Nat->Nat->Sti)(ln:Nat->Nat)(h i:Nat):List T:=[.reg [chV C ln h],.own 0 0 0 (i+1) (some (1+h)),iI 0]
theorem g0(C:Nat->Nat->Sti)(ln:Nat->Nat)(h:Nat):qy P18 G18 A18 qk 0 42 [] sq1 [0] [.agg [chV C ln h]] [] [1] =
( zN [.reg [chV C ln h]] []):=by kernel_rfl
theorem g1(C:Nat->Nat->Sti)(ln:Nat->Nat)(h:Nat)(n:Nat)(p q:List T->T->Prop):qy P18 G18 A18 (K42 p q 0 n) 0 42 [] (qcN 0) [1] [.reg [chV C ln h]] [] [1] =
( gD (qF (p [.view 1 h (fun i=>[srV (C i) (ln i)
 none])
 none] (iI 0)))<|zN [.reg [chV C ln h]] []):=by kernel_rfl
theorem g2(C:Nat->Nat->Sti)(ln:Nat->Nat)(h:Nat)(n:Nat)(p q:List T->T->Prop):qy P18 G18 A18 (K42 p q 0 n) 0 42 [] (qcN 1) [1] [.reg [chV C ln h]] [] [1,5] =
( gD (decide (0<ofNat h))<|gD (qF (q [.view 5 (ln (0:Nat)) (fun j=>[uI (C (0:Nat) j).k,uI (C (0:Nat) j).y,iI (C (0:Nat) j).a,iI (C (0:Nat) j).b,.bool (C (0:Nat) j).f])
 none] (iI (.ofNat n))))<|gD (decide (0<=ofNat n)&&decide (ofNat n<=ofNat n)&&decide (ofNat n*8<=140737488355328)&&decide (ofNat n<=9223372036854775807))<|zN [.reg [chV C ln h],.own 0 0 0 n (some n)] (zb (fun j=>(0:Int)) n)):=by kernel_rfl
theorem g3(C:Nat->Nat->Sti)(ln:Nat->Nat)(h:Nat)(n:Nat):qy P18 G18 A18 qk 0 42 [(6,qE (qg5 C ln h n 0) (zb (fun _=>0) n) (.exit 0) [.reg [chV C ln h],.own 0 0 0 n (some n)] (zb (fun _=>1) n))] (qcN 2) [1,5] [.reg [chV C ln h],.own 0 0 0 n (some n)] (zb (fun _=>0) n) [1,5] =
( gD (qS (qg5 C ln h n (0:Int)) (zb (fun j=>(0:Int)) n) (qg5 C ln h n (0:Int)) (zb (fun j=>(0:Int)) n))<|zN [.reg [chV C ln h],.own 0 0 0 n (some n)] (zb (fun j=>(1:Int)) n)):=by kernel_rfl
theorem g4(C:Nat->Nat->Sti)(ln:Nat->Nat)(h:Nat)(n:Nat):qy P18 G18 A18 qk 0 42 [] (qcN 3) [1,5] [.reg [chV C ln h],.own 0 0 0 n (some n)] (zb (fun _=>1) n) [1,5,7] =
( gD (decide (1<=i64.wrap (1+ofNat h))&&decide (i64.wrap (1+ofNat h)*(24:Int)<=(140737488355328:Int))&&decide (i64.wrap (1+ofNat h)<=(9223372036854775807:Int)))<|zN [.reg [chV C ln h],.own 0 0 0 n (some n),.own (List.length (zb (fun j=>(1:Int)) n)) (0:Nat) (0:Nat) (1:Nat) (some (i64.wrap ((1:Int)+ofNat h)).toNat)] (zu (fun e=>(1:Int)) n::h14 (i64.wrap ((1:Int)+ofNat h)).toNat fun e=>.nils)):=by kernel_rfl
theorem g5(C:Nat->Nat->Sti)(ln:Nat->Nat)(h:Nat)(n m:Nat):qy P18 G18 A18 qk 0 42 [] (qcN 4) [1,5,7] [.reg [chV C ln h],.own 0 0 0 n (some n),.own 1 0 0 1 (some m)] [zu (fun _=>1) n,⟨0,1,m,fun _=>[.nils],false,false,none⟩] [1,7] =
( gD (Nat.blt 0 m&&[T.own 0 0 0 n (some n)].length==(1:Nat)&&true&&true)<|zN [.reg [chV C ln h],.own 1 0 0 1 (some m)] (zu (fun e=>(1:Int)) n::h14 m fun e =>
 bif e==(0:Nat) then .own 0 0 0 n (some n)
 else .nils)):=by kernel_rfl
theorem g6(C:Nat->Nat->Sti)(ln:Nat->Nat)(h:Nat)(n m:Nat):qy P18 G18 A18 qk 0 42 [] (qcN 5) [1,7] [.reg [chV C ln h],.own 1 0 0 1 (some m)] [zu (fun _=>1) n,⟨0,1,m,fun e=>[bif e==0 then .own 0 0 0 n (some n) else .nils],false,false,none⟩] [1,7,8] =
( zN [.reg [chV C ln h],.own 1 0 0 1 (some m),iI 0] (zu (fun e=>(1:Int)) n::h14 m fun e =>
 bif e==(0:Nat) then .own 0 0 0 n (some n)
 else .nils)):=by kernel_rfl
theorem g7(C:Nat->Nat->Sti)(ln:Nat->Nat)(h i:Nat)(e:Int)(L L2:Nat->Nat->Int)(W W2:Nat->Nat):qy P18 G18 A18 qk 0 42 [(14,qE (jg C ln h 0) [QF L W h] (.exit 2) [.own 0 0 0 (i+1) (some (1+h)),iI e] [QF L2 W2 h])] (qcM 6) [1,7,8] (y42 C ln h 0) [QF L W h] [2,3] =
( gD (qS (jg C ln h (0:Nat)) (h14 (1+h) fun e=>slV (L e) (W e) (some (W e))) (jg C ln h (0:Nat)) (h14 (1+h) fun e=>slV (L e) (W e) (some (W e))))<|bif !decide (e=0) then zR [.nils,iI e] (h14 (1+h) fun e=>slV (L2 e) (W2 e) (some (W2 e))) else
 zR [.own 0 0 0 (i+1) (some (1+h)),iI 0] (h14 (1+h) fun e=>slV (L2 e) (W2 e) (some (W2 e)))):=by kernel_rfl
theorem qbl{r:Nat->Sti}{n:Nat}(h:rE r n=0):1<=n/\n<=16/\qg4 r n=true/\(1<=nR5 r n/\nR5 r n<=16)/\1<=mR5 r n/\mR5 r n<=16:=by
 unfold rE at h;by_cases h1:16<n
 ·rw[if_pos h1] at h;omega
 rw[if_neg h1] at h;by_cases h2:n=0
 ·rw[if_pos h2] at h;omega
 rw[if_neg h2] at h;by_cases h3:qg4 r n=true
 ·rw[if_pos h3] at h;by_cases h4:wOk (nR5 r n)=true/\wOk (mR5 r n)=true
  ·unfold wOk at h4;simp only[Bool.and_eq_true,decide_eq_true_eq] at h4;exact⟨by omega,by omega,h3,h4.1,h4.2⟩
  ·rw[if_neg h4] at h;omega
 ·rw[if_neg h3] at h;omega
theorem qdU(C:Nat->Nat->Sti)(ln:Nat->Nat):∀h,Y0 C ln h=0->∀i,i<h->rE (C i) (ln i)=0
 |0,_=>fun i h=>by omega
 |h+1,q=>by
  unfold Y0 at q;by_cases q1:Y0 C ln h≠0
  ·rw[if_pos q1] at q;exact absurd q q1
  ·rw[if_neg q1] at q;have q1:Y0 C ln h=0:=by omega
   intro i hi;by_cases e:i=h
   ·rw[e];exact q
   ·exact qdU C ln h q1 i (by omega)
structure ChOk(C:Nat->Nat->Sti)(ln:Nat->Nat)(h:Nat):Prop where
 h1:1<=h
 h31:h<=31
 odd:h%2=1
 row:∀i,i<h->rE (C i) (ln i)=0
 link:∀i,i+1<h->nR5 (C (i+1)) (ln (i+1))=mR5 (C i) (ln i)
theorem qcO{C:Nat->Nat->Sti}{ln:Nat->Nat}{h:Nat}(q:chE C ln h=0):ChOk C ln h:=by
 unfold chE at q;by_cases h1:31<h
 ·rw[if_pos h1] at q;omega
 rw[if_neg h1] at q;by_cases h2:h%2=0
 ·rw[if_pos h2] at q;omega
 rw[if_neg h2] at q;by_cases h3:Y0 C ln h≠0
 ·rw[if_pos h3] at q;exact absurd q h3
 rw[if_neg h3] at q;by_cases h4:qau C ln (h-1)=true
 ·refine⟨by omega,by omega,by omega,qdU C ln h (by omega),fun i hi=>?_⟩;have:=(Yg C ln (h-1)).1 h4 i (by omega);unfold qaT at this;simpa using this
 ·rw[if_neg h4] at q;omega
theorem ChOk.wd{C:Nat->Nat->Sti}{ln:Nat->Nat}{h:Nat}(ok:ChOk C ln h)(hC:∀i j,(C i j).Ok):∀i,i<h->WD C ln i=Qr (C i) (ln i)
 |0,_=>rfl
 |i+1,hi=>by
  have:=ok.link i hi;have h1:=(kQ (C (i+1)) (hC (i+1)) (ln (i+1))).1;have h2:=(kQ (C i) (hC i) (ln i)).2;show Qs (C i) (ln i)=_;omega
theorem ChOk.out{C:Nat->Nat->Sti}{ln:Nat->Nat}{h:Nat}(ok:ChOk C ln h)(hC:∀i j,(C i j).Ok){i:Nat}(hi:i<h):Qs (C i) (ln i)<=16/\1<=Qs (C i) (ln i)/\Qr (C i) (ln i)<=16/\1<=Qr (C i) (ln i):=by
 obtain⟨_,_,_,h3,h4⟩:=qbl (ok.row i hi);have h1:=kQ (C i) (hC i) (ln i);omega
theorem qhJ{σ:List Nat}{h:qg}{ix m:Nat}{g:Nat->Int}(hp:zc σ ix=none)(hc:σ.contains ix=false)(hi:h[ix]?=some (zu g m)):QN σ h (.own ix 0 0 m (some m))=slV g m (some m):=by
 unfold zu at hi;simp only[QN,hp,resolve,hc,cond_false,hi,beq_self_eq_true,Bool.true_and,Option.isNone_none];rw[show Nat.ble (0+m) m=true from QZ (by omega)];simp only[cond_true,Nat.zero_add];rfl
section
variable (C:Nat->Nat->Sti) (ln:Nat->Nat) (h:Nat)
theorem jV{i j:Nat}(hj:j<=i):W42 C ln i j=WD C ln j:=by unfold W42;rw[QZ hj];rfl
theorem qg8{i j:Nat}(hj:i<j):W42 C ln i j=0:=by unfold W42;rw[qa2 (by omega)];rfl
theorem s42(ok:ChOk C ln h)(hC:∀i j,(C i j).Ok)(i:Nat)(hi:i<h)(hg:ZX (C i) (LD C ln i) (ln i)=0):Step P18 G18 (A18 42) 42 14 1 (jg C ln h i) [QF (LD C ln) (W42 C ln i) h] (jg C ln h (i+1)) [QF (LD C ln) (W42 C ln (i+1)) h]:=by
 obtain⟨p,hp⟩:=qD P18 G18 57;obtain⟨o1,o2,o3,o4⟩:=ok.out hC hi;obtain⟨r1,r2,_,_,_⟩:=qbl (ok.row i hi);have h31:=ok.h31;have hg2:∀k,k<ln i->erK (C i) (LD C ln i) k=0:=fun k hk=>by
  rcases Z9 (fun k=>decide (erK (C i) (LD C ln i) k=0)) (ln i) with q|⟨I,q1,q2,q3⟩
  ·simpa using q k hk
  ·exfalso;have:=qcL (C i) (LD C ln i) I (by simpa using q2) (fun j hj=>by simpa using q3 j hj) (ln i) q1;rw[hg] at this;have q2:¬erK (C i) (LD C ln i) I=0:=by simpa using q2
   exact q2 this.symm
 have hl:=qox C ln h i (LD C ln i) (LD C ln) (W42 C ln i) hC r2 o1 hg2;have t1:=K6 (C i) (ln i) none (by omega) (hC i);rw[(kQ (C i) (hC i) (ln i)).2] at t1;have ew:W42 C ln i i=Qr (C i) (ln i):=by rw[jV C ln (Nat.le_refl i),ok.wd hC i hi]
 rw[←ew] at hl;have eW:∀j,j≠i+1->W42 C ln (i+1) j=W42 C ln i j:=fun j hj=>by
  by_cases q:j<=i
  ·rw[jV C ln q,jV C ln (by omega)]
  ·rw[qg8 C ln (by omega),qg8 C ln (by omega)]
 have em:W42 C ln (i+1) (i+1)=Qs (C i) (ln i):=jV C ln (Nat.le_refl _);have eg:LD C ln (i+1)=Yi (C i) (LD C ln i) (ln i):=rfl;generalize Yi (C i) (LD C ln i) (ln i)=g at *
 generalize Qs (C i) (ln i)=m at *
 generalize W42 C ln (i+1)=W' at *
 generalize W42 C ln i=W at *
 generalize LD C ln=L at *
 refine Step.mkC (A:=A18) (K:=qkB p m) (m:=0) (qq qf (qj hp)) rfl rfl (qK hl) [0] (v1:=jg C ln h (i+1)) (h1:=[⟨0,1,1+h,fun j=>bif Nat.ble (0+(i+1)) j&&Nat.blt j (0+(i+1)+1) then [[T.own 1 0 0 m (some m)]].getD (0+(j-(0+(i+1)))) [] else [slV (L j) (W j) (some (W j))],false,false,none⟩,zu g m,⟨0,1,1,fun j=>[[T.own 1 0 0 m (some m)]].getD j [],false,true,none⟩]) ?_ (by kernel_rfl) (v2:=jg C ln h (i+1)) (by rfl) rfl fun nt=>.same (.cons ⟨rfl,rfl,rfl,id,fun j hj=>?_⟩ .nil)
 ·have ei:i64.wrap ((i:Int)+1)=((i+1:Nat):Int):=by rw[qI (by omega) (by omega)];omega
  rw[j42,qn i,ei];rw[Nat.zero_add i];refine qm (dT (by rw[qn];omega)) ?_;refine qm (by rw[dT (by omega),dT (by rw[qn];omega)];rfl) ?_;refine qm (by rw[dT (by omega),dT (by rw[qn];omega)];rfl) ?_;refine qm (Qy (by omega)) ?_;refine qm (qp hp t1) ?_;refine qm (by rw[qn,dT (by omega),dT (by omega),dT (by omega)];rfl) ?_;refine qm (qw ⟨rfl,.refl _⟩) ?_;refine qm (QZ (by omega)) ?_;refine qm (QZ (by omega)) ?_;refine qm (QZ (by omega)) ?_;refine qm (QZ (by omega)) ?_;rfl
 ·show [slV (L j) (W' j) (some (W' j))]=List.map (QN [0] _) (bif Nat.ble (0+(i+1)) j&&Nat.blt j (0+(i+1)+1) then [[T.own 1 0 0 m (some m)]].getD (0+(j-(0+(i+1)))) [] else [slV (L j) (W j) (some (W j))]);by_cases q:j=i+1
  ·subst q;rw[Nat.zero_add,QZ (Nat.le_refl _),Qy (by omega),Nat.sub_self];show _=[QN [0] _ (T.own 1 0 0 m (some m))];rw[qhJ (g:=g) rfl rfl rfl,em,eg]
  ·rw[Nat.zero_add,show(Nat.ble (i+1) j&&Nat.blt j (i+1+1))=false by
    by_cases q2:i+1<=j
    ·rw[Zg (by omega),Bool.and_false]
    ·rw[qa2 (by omega),Bool.false_and],cond_false,eW j q]
   rfl
theorem e42(ok:ChOk C ln h)(hC:∀i j,(C i j).Ok)(i:Nat)(hi:i<h)(hg:ZX (C i) (LD C ln i) (ln i)≠0):Last P18 G18 (A18 42) 42 14 1 (jg C ln h i) [QF (LD C ln) (W42 C ln i) h] (.exit 2) [.own 0 0 0 (i+1) (some (1+h)),iI (ZX (C i) (LD C ln i) (ln i))] [QF (LD C ln) (W42 C ln i) h]:=by
 obtain⟨p,hp⟩:=qD P18 G18 57;obtain⟨o1,o2,o3,o4⟩:=ok.out hC hi;obtain⟨r1,r2,_,_,_⟩:=qbl (ok.row i hi);have h31:=ok.h31;obtain⟨I,q1,q2,q3⟩:∃I,I<ln i/\erK (C i) (LD C ln i) I≠0/\∀k,k<I->erK (C i) (LD C ln i) k=0:=by
  rcases Z9 (fun k=>decide (erK (C i) (LD C ln i) k=0)) (ln i) with q|⟨I,q1,q2,q3⟩
  ·exact absurd (kR (C i) (LD C ln i) (ln i) fun k hk=>by simpa using q k hk) hg
  ·exact⟨I,q1,by simpa using q2,fun j hj=>by simpa using q3 j hj⟩
 rw[qcL (C i) (LD C ln i) I q2 q3 (ln i) q1];have hl:=qoy C ln h i (LD C ln i) (LD C ln) (W42 C ln i) hC r2 o1 I q1 q2 q3;have t1:=K6 (C i) (ln i) none (by omega) (hC i);rw[(kQ (C i) (hC i) (ln i)).2] at t1;have ew:W42 C ln i i=Qr (C i) (ln i):=by rw[jV C ln (Nat.le_refl i),ok.wd hC i hi]
 rw[←ew] at hl;generalize Yi (C i) (LD C ln i) I=g at *
 generalize Qs (C i) (ln i)=m at *
 generalize Qs (C i) I=o at *
 generalize erK (C i) (LD C ln i) I=e at *
 generalize W42 C ln i=W at *
 generalize LD C ln=L at *
 refine Last.mkC (A:=A18) (K:=qkB p m) (m:=0) (qq qf (qj hp)) rfl rfl (qK hl) (by simp) [0] (v1:=[.own 0 0 0 (i+1) (some (1+h)),iI e]) (h1:=[QF L W h,zu g m]) ?_ (by kernel_rfl) (v2:=[.own 0 0 0 (i+1) (some (1+h)),iI e]) (by rfl) rfl fun nt=>.same (.cons ⟨rfl,rfl,rfl,id,fun j hj=>rfl⟩ .nil);rw[qoz];rw[Nat.zero_add i];refine qm (dT (by rw[qn,qn];omega)) ?_;refine qm (by rw[qn,dT (by omega),dT (by rw[qn];omega)];rfl) ?_;refine qm (by rw[qn,dT (by omega),dT (by rw[qn];omega)];rfl) ?_;refine qm (Qy (by omega)) ?_;refine qm (qp hp t1) ?_;refine qm (by rw[qn,dT (by omega),dT (by omega),dT (by omega)];rfl) ?_;refine qm (qw ⟨rfl,.refl _⟩) ?_;rfl
end
theorem qoB(C:Nat->Nat->Sti)(ln:Nat->Nat)(h n:Nat)(hn:n=WD C ln 0)(Gl:Nat->Option (List T))(prom:List Nat)(nt:Nat)(l:List Nat):WeakTo Gl prom nt l 0 [.reg [chV C ln h],.own 1 0 0 1 (some (1+h)),iI 0] [zu (fun _=>1) n,⟨0,1,1+h,fun e=>[bif e==0 then .own 0 0 0 n (some n) else .nils],false,false,none⟩] (y42 C ln h 0) [QF (LD C ln) (W42 C ln 0) h]:=by
 refine .trans (.canon [1] (by kernel_rfl)) ?_;show WeakTo Gl prom nt l 0 (y42 C ln h 0) [⟨0,1,1+h,fun e=>[QN [1] [zu (fun _=>1) n,⟨0,1,1+h,fun e=>[bif e==0 then .own 0 0 0 n (some n) else .nils],false,false,none⟩] (bif e==0 then .own 0 0 0 n (some n) else .nils)],false,false,none⟩] _ _;refine .simAll rfl (fun i x y h1 h2=>by rw[h1] at h2;cases h2;exact .refl _) (.cons ⟨rfl,rfl,rfl⟩ (fun h=>by cases h) (fun j hj=>?_) .nil);by_cases q:j=0
 ·subst q;show SimL [QN [1] _ (.own 0 0 0 n (some n))] [slV (LD C ln 0) (W42 C ln 0 0) (some (W42 C ln 0 0))];rw[qhJ (g:=fun _=>1) rfl rfl rfl,jV C ln (Nat.le_refl 0),←hn];exact .refl _
 ·show SimL [QN [1] _ (bif j==0 then .own 0 0 0 n (some n) else .nils)] [slV (LD C ln j) (W42 C ln 0 j) (some (W42 C ln 0 j))];rw[show(j==0)=false by simpa using q,cond_false,qg8 C ln (by omega)];exact .cons (.inr ⟨rfl,.nilv _ _ (.inr rfl),rfl⟩) .nil
theorem b42:Try.f42.body=some c42:=by kernel_rfl
theorem jW(c:Code):∀k,∀b∈qC (qcM k c),b∈qC c
 |0=>fun b hb=>ZC _ _ (YV _ _ hb)
 |k+1=>fun b hb=>jW c k b (ZC _ _ hb)
theorem qis{K:Orc}(hK:OrcOk P18 G18 K){lo:List (Nat×(List T->qg->LT))}(hL:∀p∈lo,LoopOk P18 G18 (A18 42) 42 p.1 p.2)(k:Nat){l l':List Nat}{vs vs':List T}{h h':qg}{e:Ex}(hk:qy P18 G18 A18 K 0 42 lo (qcN k) l vs h l'=some (e,vs',h')):CodeGoes P18 G18 (A18 42).prom Try.f42.ntmps (qcN k c42) (qM l vs h) e (qM l' vs' h') :=
 Z8 qv hK Try.func42 b42 (Nat.le_of_ble_eq_true (by kernel_rfl)) (by kernel_rfl) hL (qcN k) rfl (fun b hb=>jW _ k b (YS _ _ hb)) hk
theorem qjH:c42 = .seq (sq1 c42) (.scope (qcM 0 c42)):=by kernel_rfl
theorem qlz:∀k,k<6->qcM k c42 = .seq (qcN k c42) (qcM (k+1) c42):=by
 intro k hk;obtain rfl|rfl|rfl|rfl|rfl|rfl:k=0∨k=1∨k=2∨k=3∨k=4∨k=5:=by omega
 all_goals kernel_rfl
theorem qav{k:Nat}(hk:k<6){s s1 s':St}(h1:CodeGoes P18 G18 (A18 42).prom Try.f42.ntmps (qcN k c42) s .normal s1)(h2:Qj P18 G18 (A18 42).prom Try.f42.ntmps [] (qcM (k+1) c42) s1 .ret s'):Qj P18 G18 (A18 42).prom Try.f42.ntmps [] (qcM k c42) s .ret s':=by
 rw[qlz k hk];exact qfZ h1 h2
theorem qlA(C:Nat->Nat->Sti)(ln:Nat->Nat)(h:Nat)(hC:∀i j,(C i j).Ok)(hg:chE C ln h=0){vs':List T}{h':qg}(hy:CodeGoes P18 G18 (A18 42).prom Try.f42.ntmps (qcM 6 c42) (qM [1,7,8] (y42 C ln h 0) [QF (LD C ln) (W42 C ln 0) h]) .ret (qM [2,3] vs' h')){r:T}(hr:jE P18 G18 (A18 42).prom Try.f42 (qM [2,3] vs' h') (fun v=>some (jC h' v))=some r):ToldOk P18 G18 42 [.agg [chV C ln h]] r:=by
 have ok:=qcO hg;have h31:=ok.h31;have h1:=ok.h1;obtain⟨p,hp⟩:=qD P18 G18 55;obtain⟨q,hq⟩:=qD P18 G18 56;have hln:∀i,i<h->ln i<=1000:=fun i hi=>by have:=qbl (ok.row i hi);omega
 have t1:=qcK C ln h (by omega) hln hC;rw[hg] at t1;have t2:=qas (C 0) (ln 0) none (hln 0 (by omega)) (hC 0);rw[(kQ (C 0) (hC 0) (ln 0)).1,show Qr (C 0) (ln 0)=WD C ln 0 from rfl] at t2;have hn16:=(ok.out hC (show 0<h by omega)).2.2.1;change WD C ln 0<=16 at hn16;have hl1:=qou C ln h (WD C ln 0) (by omega);have hin:=qoB C ln h (WD C ln 0) rfl;generalize WD C ln 0=n at *
 have ei:(i64.wrap (1+(h:Int))).toNat=1+h:=by rw[qI (by omega) (by omega)];omega
 have ew:i64.wrap (1+(h:Int))=((1+h:Nat):Int):=by rw[qI (by omega) (by omega)];omega
 have hK:OrcOk P18 G18 (K42 p q 0 n):=qq (qq qf (qj hp)) (qj hq);have a0:CodeGoes P18 G18 (A18 42).prom Try.f42.ntmps (sq1 c42) (qM [0] [.agg [chV C ln h]] []) .normal (qM [1] [.reg [chV C ln h]] []):=Z8 qv qf Try.func42 b42 (Nat.le_of_ble_eq_true (by kernel_rfl)) (by kernel_rfl) qh sq1 rfl (fun b hb=>YS _ _ hb) (g0 C ln h);have a1:=qis hK qh 0 (l:=[1]) (l':=[1]) (vs:=[.reg [chV C ln h]]) (h:=[]) (vs':=[.reg [chV C ln h]]) (h':=[]) (e:=.normal) (by
  rw[g1];exact qm (qp hp t1) rfl)
 have a2:=qis hK qh 1 (l:=[1]) (l':=[1,5]) (vs:=[.reg [chV C ln h]]) (h:=[]) (vs':=[.reg [chV C ln h],.own 0 0 0 n (some n)]) (h':=zb (fun _=>0) n) (e:=.normal) (by
  rw[g2];refine qm (dT (by rw[qn];omega)) ?_;refine qm (qp hq t2) ?_;refine qm (by rw[qn,dT (by omega),dT (by omega),dT (by omega),dT (by omega)];rfl) ?_;rfl)
 have a3:=qis (K:=qk) qf (qK hl1) 2 (l:=[1,5]) (l':=[1,5]) (vs:=[.reg [chV C ln h],.own 0 0 0 n (some n)]) (h:=zb (fun _=>0) n) (vs':=[.reg [chV C ln h],.own 0 0 0 n (some n)]) (h':=zb (fun _=>1) n) (e:=.normal) (by
  rw[g3];exact qm (qw ⟨rfl,.refl _⟩) rfl)
 have a4:=qis (K:=qk) qf qh 3 (l:=[1,5]) (l':=[1,5,7]) (vs:=[.reg [chV C ln h],.own 0 0 0 n (some n)]) (h:=zb (fun _=>1) n) (vs':=[.reg [chV C ln h],.own 0 0 0 n (some n),.own 1 0 0 1 (some (1+h))]) (h':=[zu (fun _=>1) n,⟨0,1,1+h,fun _=>[.nils],false,false,none⟩]) (e:=.normal) (by
  rw[g4,qn h,ei,ew];exact qm (by rw[dT (by omega),dT (by omega),dT (by omega)];rfl) rfl)
 have a5:=qis (K:=qk) qf qh 4 (l:=[1,5,7]) (l':=[1,7]) (vs:=[.reg [chV C ln h],.own 0 0 0 n (some n),.own 1 0 0 1 (some (1+h))]) (h:=[zu (fun _=>1) n,⟨0,1,1+h,fun _=>[.nils],false,false,none⟩]) (vs':=[.reg [chV C ln h],.own 1 0 0 1 (some (1+h))]) (h':=[zu (fun _=>1) n,⟨0,1,1+h,fun e=>[bif e==0 then .own 0 0 0 n (some n) else .nils],false,false,none⟩]) (e:=.normal) (by
  rw[g5];exact qm (by rw[Qy (by omega)];rfl) rfl)
 have a6:=qis (K:=qk) qf qh 5 (l:=[1,7]) (l':=[1,7,8]) (vs:=[.reg [chV C ln h],.own 1 0 0 1 (some (1+h))]) (h:=[zu (fun _=>1) n,⟨0,1,1+h,fun e=>[bif e==0 then .own 0 0 0 n (some n) else .nils],false,false,none⟩]) (vs':=[.reg [chV C ln h],.own 1 0 0 1 (some (1+h)),iI 0]) (h':=[zu (fun _=>1) n,⟨0,1,1+h,fun e=>[bif e==0 then .own 0 0 0 n (some n) else .nils],false,false,none⟩]) (e:=.normal) (g6 C ln h n (1+h));have all:Qj P18 G18 (A18 42).prom Try.f42.ntmps [] c42 (qM [0] [.agg [chV C ln h]] []) .ret (qM [2,3] vs' h'):=by
  rw[qjH];exact qfZ a0 (qcE (qav (by omega) a1 (qav (by omega) a2 (qav (by omega) a3 (qav (by omega) a4 (qav (by omega) a5 (qav (by omega) a6 (qdM (hin G18 (A18 42).prom Try.f42.ntmps [1,7,8]) (qfY hy)))))))))
 exact qdN q9 Try.func42 b42 (by kernel_rfl) (qaq all) hr
theorem qlB(C:Nat->Nat->Sti)(ln:Nat->Nat)(h:Nat)(hC:∀i j,(C i j).Ok)(hg:chE C ln h=0):ToldOk P18 G18 42 [.agg [chV C ln h]] (if qdf C ln h=0 then qg6 C ln h else .tup [.nils,iI (qdf C ln h)]):=by
 have ok:=qcO hg
 have key:∀{i:Nat} {e:Int} {L2:Nat->Nat->Int} {W2:Nat->Nat} {vs':List T} {h':qg} {r:T},LoopOk P18 G18 (A18 42) 42 14 (qE (jg C ln h 0) [QF (LD C ln) (W42 C ln 0) h] (.exit 2) [.own 0 0 0 (i+1) (some (1+h)),iI e] [QF L2 W2 h]) →
  (bif !decide (e=(0:Int)) then some (Ex.ret,[T.nils,iI e],[QF L2 W2 h]) else some (Ex.ret,[T.own 0 0 0 (i+1) (some (1+h)),iI 0],[QF L2 W2 h]))=some (.ret,vs',h')->jE P18 G18 (A18 42).prom Try.f42 (qM [2,3] vs' h') (fun v=>some (jC h' v))=some r->ToldOk P18 G18 42 [.agg [chV C ln h]] r:=fun {i e L2 W2 vs' h' r} hl hx hr =>
  qlA C ln h hC hg (Z8 qv qf Try.func42 b42 (Nat.le_of_ble_eq_true (by kernel_rfl)) (by kernel_rfl) (qK hl) (qcM 6) rfl (fun b hb=>jW _ 6 b hb) (by
   rw[g7];exact qm (qw ⟨rfl,.refl _⟩) hx)) hr
 rcases Z9 (fun i=>decide (ZX (C i) (LD C ln i) (ln i)=0)) h with hgood|⟨I,hI,hb,hlt⟩
 ·have hgood:∀i,i<h->ZX (C i) (LD C ln i) (ln i)=0:=fun i hi=>by simpa using hgood i hi
  rw[if_pos (K9 C ln h hgood)];have hl2:LoopOk P18 G18 (A18 42) 42 14 (qE (jg C ln h 0) [QF (LD C ln) (W42 C ln 0) h] (.exit 2) [.own 0 0 0 (h+1) (some (1+h)),iI 0] [QF (LD C ln) (WD C ln) h]):=by
   refine qz qv (by kernel_rfl) (fun i=>jg C ln h i) (fun i=>[QF (LD C ln) (W42 C ln i) h]) (n:=h) (fun i hi=>s42 C ln h ok hC i hi (hgood i hi)) ?_;refine Last.mk0 (A:=A18) (m:=0) qf rfl rfl qh (h1:=[QF (LD C ln) (W42 C ln h) h]) (by simp) ?_ (.cons ⟨rfl,rfl,rfl,id,fun j hj=>?_⟩ .nil)
   ·exact qoA C ln h (LD C ln) (W42 C ln h)
   ·have hj:j<1+h:=hj;show [slV (LD C ln j) (WD C ln j) (some (WD C ln j))]=[slV (LD C ln j) (W42 C ln h j) (some (W42 C ln h j))];rw[jV C ln (by omega)]
  refine key hl2 rfl ?_;have e:(show List T×qg->Option T from fun x=>jE P18 G18 (A18 42).prom Try.f42 (qM [2,3] x.1 x.2) (fun v=>some (jC x.2 v))) ([.own 0 0 0 (h+1) (some (1+h)),iI 0],[QF (LD C ln) (WD C ln) h])=some (.tup [bif Nat.ble (0+(h+1)) (1+h) then .fresh false 1 (1+h-0) (fun j=>[slV (LD C ln (0+j)) (WD C ln (0+j)) (some (WD C ln (0+j)))]) (h+1) (some (1+h)) else .undef,iI 0]):=by kernel_rfl
  refine e.trans ?_;unfold qg6;simp only[Nat.zero_add,Nat.sub_zero];rw[QZ (by omega),Nat.add_comm h 1];rfl
 ·have hb:ZX (C I) (LD C ln I) (ln I)≠0:=by simpa using hb
  have hlt:∀i,i<I->ZX (C i) (LD C ln i) (ln i)=0:=fun i hi=>by simpa using hlt i hi
  rw[qhI C ln I hb hlt h hI,if_neg hb];have hl2:=qz (P:=P18) (Gl:=G18) (f:=42) (r:=14) qv (by kernel_rfl) (an:=A18 42) (fun i=>jg C ln h i) (fun i=>[QF (LD C ln) (W42 C ln i) h]) (n:=I) (fun i hi=>s42 C ln h ok hC i (by omega) (hlt i hi)) (e42 C ln h ok hC I hI hb);refine key hl2 (qm (by simp[hb]) rfl) ?_
  kernel_rfl
def qcP(C:Nat->Nat->Sti)(ln:Nat->Nat)(h:Nat):Int:=if chE C ln h≠0 then chE C ln h else qdf C ln h
noncomputable def K25(p:List T->T->Prop)(r:T):Orc:=qk.add 42 (qL p fun _=>some r)
theorem qaU(C:Nat->Nat->Sti)(ln:Nat->Nat)(h:Nat)(hh:h<=1000)(hln:∀i,i<h->ln i<=1000)(hC:∀i j,(C i j).Ok):ToldOk P18 G18 25 [.agg [chV C ln h]] (iI (qcP C ln h)):=by
 obtain⟨p,hp⟩:=qD P18 G18 42;have bad:∀e,ToldOk P18 G18 42 [.agg [chV C ln h]] (.tup [.nils,iI e])->ToldOk P18 G18 25 [.agg [chV C ln h]] (iI e):=fun e t1=>by
  refine qP qv q9 (qq qf (qj hp)) (K:=K25 p (.tup [.nils,iI e])) (A:=A18) (m:=0) ?_;rw[(show QU P18 G18 A18 (K25 p (.tup [.nils,iI e])) 0 25 [.agg [chV C ln h]] =
( gD (qF (p [.agg [.view 1 h (fun i=>[srV (C i) (ln i)
 none])
 none]] (.tup [.nils,iI e])))<|some (iI e)) from by kernel_rfl)]
  exact qm (qp hp t1) rfl
 unfold qcP;by_cases h1:chE C ln h=0
 ·rw[if_neg (by omega)];have t1:=qlB C ln h hC h1;by_cases h2:qdf C ln h=0
  ·rw[if_pos h2] at t1;rw[h2];unfold qg6 at t1;generalize LD C ln=L at *
   generalize WD C ln=W at *
   refine qP qv q9 (qq qf (qj hp)) (K:=K25 p (.tup [.fresh false 1 (1+h) (fun e=>[slV (L e) (W e) (some (W e))]) (1+h) (some (1+h)),iI 0])) (A:=A18) (m:=0) ?_;rw[(show QU P18 G18 A18 (K25 p (.tup [.fresh false 1 (1+h) (fun e=>[slV (L e) (W e) (some (W e))]) (1+h) (some (1+h)),iI 0])) 0 25 [.agg [chV C ln h]] =
( gD (qF (p [.agg [.view 1 h (fun i=>[srV (C i) (ln i)
 none])
 none]] (.tup [.fresh false (1:Nat) (1+h) (fun e=>[.view 1 (W e) (fun j=>[iI (L e j)]) (some (W e))]) (1+h) (some (1+h)),iI 0])))<|some (iI 0)) from by kernel_rfl)]
   exact qm (qp hp t1) rfl
  ·rw[if_neg h2] at t1;exact bad _ t1
 ·rw[if_pos h1];exact bad _ (qg7 C ln h hh hln hC h1)
def Y3(y:Int):Sti:=⟨1,y,0,0,false⟩
def knR(R:Nat->Nat->Int)(i j:Nat):Sti:=Y3 (R i j)
def b24(w:Nat->T)(h i n:Nat):Blk:=⟨0,1,h,fun e=>[bif e==i then .own 1 0 0 n (some n) else w e],false,false,none⟩
def w24(w:Nat->T)(h:Nat):Blk:=⟨0,1,h,fun e=>[w e],false,false,none⟩
def c24(kf yf af bf:Nat->Int)(ff:Nat->Bool)(n:Nat):Blk:=⟨0,5,n,fun e=>[uI (kf e),uI (yf e),iI (af e),iI (bf e),.bool (ff e)],true,false,none⟩
def jh{α:Type}(k:Nat)(x:α)(f:Nat->α)(e:Nat):α:=bif e==0+k then x else f e
def v24(R:Nat->Nat->Int)(n h:Nat)(rc c:Option Nat)(i:Nat):List T:=[.reg [.nils],.reg [.own 0 0 0 h (some h)],qR R n h rc c,iI h,iI i]
def qg9(R:Nat->Nat->Int)(n h:Nat)(rc c:Option Nat)(i k:Nat):List T:=[.reg [.nils],.reg [.own 0 0 0 h (some h)],iI i,qR R n h rc c,iI h,iI i,qB (R i) n rc,iI n,iI k]
noncomputable def K24(p:List T->T->Prop)(e:Int):Orc:=qk.add 29 (qL p fun _=>some (iI e))
def ji(R:Nat->Nat->Int)(n i e:Nat):T:=bif Nat.blt e i then srV (knR R e) n (some n) else .nils
def qjI(R:Nat->Nat->Int)(n e:Nat):T:=srV (knR R e) n (some n)
theorem qha{α:Type}(k:Nat)(f:Nat->α)(z:α):jh k (f k) (fun e=>bif Nat.blt e k then f e else z)=fun e=>bif Nat.blt e (k+1) then f e else z:=by
 funext e;unfold jh;rw[Nat.zero_add];by_cases q:e=k
 ·subst q;rw[beq_self_eq_true,cond_true,Qy (by omega),cond_true]
 ·rw[show(e==k)=false by simpa using q,cond_false];show(bif Nat.blt e k then f e else z)=_;by_cases q2:e<k
  ·rw[Qy q2,Qy (by omega)]
  ·rw[Zg (by omega),Zg (by omega)]
theorem qf8{α:Type}(k:Nat)(z:α):jh k z (fun _=>z)=fun _=>z:=by
 funext e;unfold jh;cases e==0+k<;>rfl
theorem q24(R:Nat->Nat->Int)(n h k:Nat)(rc c:Option Nat)(w:Nat->T)(kf yf af bf:Nat->Int)(ff:Nat->Bool):∀i,i<31->qA P18 G18 A18 qk 0 24 [] 10 (qg9 R n h rc c i k) [b24 w h i n,c24 kf yf af bf ff n] =
 bif decide ((k:Int)<n) then bif decide ((0:Int)<=k)&&decide ((k:Int)<n) then bif decide ((i:Int)<h) then bif Nat.blt i h then bif decide ((0:Int)<=k)&&decide ((k:Int)<n) then bif Nat.blt (0+k) n&&true&&true&&true then
  some (.normal,qg9 R n h rc c i k |>.set 8 (iI (i64.wrap ((k:Int)+1))),[b24 w h i n,c24 (jh k 1 kf) (jh k (R i k) yf) (jh k 0 af) (jh k 0 bf) (jh k false ff) n])
  else none else none else none else none else none else some (.exit 2,v24 R n h rc c i,[b24 w h i n,c24 kf yf af bf ff n]):=by
 intro i hi;obtain rfl|rfl|rfl|rfl|rfl|rfl|rfl|rfl|rfl|rfl|rfl|rfl|rfl|rfl|rfl|rfl|rfl|rfl|rfl|rfl|rfl|rfl|rfl|rfl|rfl|rfl|rfl|rfl|rfl|rfl|rfl:i=0∨i=1∨i=2∨i=3∨i=4∨i=5∨i=6∨i=7∨i=8∨i=9∨i=10∨i=11∨i=12∨i=13∨i=14∨i=15∨i=16∨i=17∨i=18∨i=19∨i=20∨i=21∨i=22∨i=23∨i=24∨i=25∨i=26∨i=27∨i=28∨i=29∨i=30:=by omega
 all_goals kernel_rfl
theorem qoC(R:Nat->Nat->Int)(n h:Nat)(rc c:Option Nat)(w:Nat->T)(i:Nat)(hi:i<31)(hih:i<h)(hn:n<=1000):LoopOk P18 G18 (A18 24) 24 10 (qE (qg9 R n h rc c i 0) [b24 w h i n,c24 (fun _=>0) (fun _=>0) (fun _=>0) (fun _=>0) (fun _=>false) n] (.exit 2) (v24 R n h rc c i) [b24 w h i n,c24 (fun _=>1) (R i) (fun _=>0) (fun _=>0) (fun _=>false) n]):=by
 refine qz qv (by kernel_rfl) (fun k=>qg9 R n h rc c i k) (fun k=>[b24 w h i n,c24 (fun e=>bif Nat.blt e k then 1 else 0) (fun e=>bif Nat.blt e k then R i e else 0) (fun _=>0) (fun _=>0) (fun _=>false) n]) (n:=n) (fun k hk=>?_) ?_
 ·rw[←qha k (fun _=>(1:Int)) 0,←qha k (R i) 0];refine Step.mk0 (A:=A18) (m:=0) qf rfl rfl qh (h1:=[b24 w h i n,c24 (jh k 1 fun e=>bif Nat.blt e k then 1 else 0) (jh k (R i k) fun e=>bif Nat.blt e k then R i e else 0) (jh k 0 fun _=>0) (jh k 0 fun _=>0) (jh k false fun _=>false) n]) ?_ (by rw[qf8,qf8];exact .refl _);rw[q24 R n h k rc c w _ _ _ _ _ i hi];have ek:i64.wrap ((k:Int)+1)=((k+1:Nat):Int):=by rw[qI (by omega) (by omega)];omega
  rw[ek];refine BT ?_;refine BT ?_;refine BT ?_;refine BT ?_;refine BT ?_;refine BT ?_;rfl
 ·refine Last.mk0 (A:=A18) (m:=0) qf rfl rfl qh (h1:=[b24 w h i n,c24 (fun e=>bif Nat.blt e n then 1 else 0) (fun e=>bif Nat.blt e n then R i e else 0) (fun _=>0) (fun _=>0) (fun _=>false) n]) (by simp) ?_ (.cons ⟨rfl,rfl,rfl,id,fun j hj=>rfl⟩ (.cons ⟨rfl,rfl,rfl,id,fun j hj=>?_⟩ .nil))
  ·rw[q24 R n h n rc c w _ _ _ _ _ i hi];refine BF ?_;rfl
  ·show [uI 1,uI (R i j),_,_,_]=[uI (bif Nat.blt j n then 1 else 0),uI (bif Nat.blt j n then R i j else 0),_,_,_];rw[Qy (show j<n from hj)];rfl
theorem i24(R:Nat->Nat->Int)(n h i:Nat)(rc c:Option Nat)(w:Nat->T):qA P18 G18 A18 qk 0 24 [(10,qE (qg9 R n h rc c i 0) [b24 w h i n,c24 (fun _=>0) (fun _=>0) (fun _=>0) (fun _=>0) (fun _=>false) n] (.exit 2) (v24 R n h rc c i) [b24 w h i n,c24 (fun _=>1) (R i) (fun _=>0) (fun _=>0) (fun _=>false) n])] 6 (v24 R n h rc c i) [w24 w h] =
( bif decide (ofNat i<ofNat h) then gD (decide (0<=ofNat i)&&decide (ofNat i<ofNat h))<|gD (decide (0<=ofNat n)&&decide (ofNat n<=ofNat n)&&decide (ofNat n*32<=140737488355328)&&decide (ofNat n<=9223372036854775807))<|gD (decide (0<=ofNat i)&&decide (ofNat i<ofNat h))<|gD (((0:Nat)+i).blt h&&[T.own (List.length (h14 h w)) (0:Nat) (0:Nat) n (some n)].length==(1:Nat)&&true&&true)<|gD (qS (qg9 R n h rc c i (nat_lit 0)) [b24 w h (0+i) n,c24 (fun e=>(0:Int)) (fun e=>(0:Int)) (fun e=>(0:Int)) (fun e=>(0:Int)) (fun e=>false) n] (qg9 R n h rc c i (nat_lit 0)) [b24 w h i n,c24 (fun e=>(0:Int)) (fun e=>(0:Int)) (fun e=>(0:Int)) (fun e=>(0:Int)) (fun e=>false) n])<|zN (.reg [.nils]::.reg [.own 0 0 0 h (some h)]::qeT R n h rc c (i64.wrap (ofNat i+1))) [b24 w h i n,c24 (fun e=>(1:Int)) (R i) (fun e=>(0:Int)) (fun e=>(0:Int)) (fun e=>false) n] else
 zX 0 [.reg [.nils],.reg [.own 0 0 0 h (some h)]] (h14 h w)):=by kernel_rfl
theorem qjJ{σ:List Nat}{h:qg}{ix n:Nat}{kf yf af bf:Nat->Int}{ff:Nat->Bool}(hp:zc σ ix=none)(hc:σ.contains ix=false)(hi:h[ix]?=some (c24 kf yf af bf ff n)):QN σ h (.own ix 0 0 n (some n)) = .view 5 n (fun e=>[uI (kf e),uI (yf e),iI (af e),iI (bf e),.bool (ff e)]) (some n):=by
 unfold c24 at hi;simp only[QN,hp,resolve,hc,cond_false,hi,beq_self_eq_true,Bool.true_and,Option.isNone_none];rw[show Nat.ble (0+n) n=true from QZ (by omega)];simp only[cond_true,Nat.zero_add]
theorem l24(R:Nat->Nat->Int)(n h:Nat)(rc c:Option Nat)(hh:h<=31)(hn:n<=1000):LoopOk P18 G18 (A18 24) 24 6 (qE (v24 R n h rc c 0) [w24 (fun _=>.nils) h] (.exit 0) [.reg [.nils],.reg [.own 0 0 0 h (some h)]] [w24 (qjI R n) h]):=by
 refine qz qv (by kernel_rfl) (fun i=>v24 R n h rc c i) (fun i=>[w24 (ji R n i) h]) (n:=h) (fun i hi=>?_) ?_
 ·have hl:=qoC R n h rc c (ji R n i) i (by omega) hi hn;have hren:∀σ hp e,QN σ hp (ji R n i e)=ji R n i e:=fun σ hp e=>by unfold ji;cases Nat.blt e i<;>rfl
  have hnew:∀e,e≠i->ji R n (i+1) e=ji R n i e:=fun e he=>by
   unfold ji;by_cases q:e<i
   ·rw[Qy q,Qy (by omega)]
   ·rw[Zg (by omega),Zg (by omega)]
  have hat:ji R n (i+1) i=srV (knR R i) n (some n):=by unfold ji;rw[Qy (by omega)];rfl
  generalize ji R n (i+1)=w2 at *
  generalize ji R n i=w at *
  refine Step.mkC (A:=A18) (m:=0) qf rfl rfl (qK hl) [0] (v1:=v24 R n h rc c (i+1)) (h1:=[b24 w h i n,c24 (fun _=>1) (R i) (fun _=>0) (fun _=>0) (fun _=>false) n]) ?_ (by kernel_rfl) (v2:=v24 R n h rc c (i+1)) (by rfl) rfl fun nt=>.same (.cons ⟨rfl,rfl,rfl,id,fun j hj=>?_⟩ .nil)
  ·have ei:i64.wrap ((i:Int)+1)=((i+1:Nat):Int):=by rw[qI (by omega) (by omega)];omega
   rw[i24,qn i,ei,Nat.zero_add];refine BT ?_;refine BT ?_;refine BT ?_;refine BT ?_;refine qm (by rw[Qy hi];rfl) ?_;refine qm (qw ⟨rfl,.refl _⟩) ?_;rfl
  ·show [w2 j]=[QN [0] _ (bif j==i then .own 1 0 0 n (some n) else w j)];by_cases q:j=i
   ·subst q;rw[beq_self_eq_true,cond_true,qjJ rfl rfl rfl,hat];rfl
   ·rw[show(j==i)=false by simpa using q,cond_false,hren,hnew j q]
 ·refine Last.mk0 (A:=A18) (m:=0) qf rfl rfl qh (h1:=[w24 (ji R n h) h]) (by simp) ?_ (.cons ⟨rfl,rfl,rfl,id,fun j hj=>?_⟩ .nil)
  ·generalize ji R n h=w;rw[(show qA P18 G18 A18 qk 0 24 [] 6 (v24 R n h rc c h) [w24 w h] =
( bif decide (ofNat h<ofNat h) then gD (decide (0<=ofNat h)&&decide (ofNat h<ofNat h))<|gD (decide (0<=ofNat n)&&decide (ofNat n<=ofNat n)&&decide (ofNat n*32<=140737488355328)&&decide (ofNat n<=9223372036854775807))<|gD (decide (0<=ofNat h)&&decide (ofNat h<ofNat h))<|gD (((0:Nat)+h).blt h&&[T.own (List.length (h14 h w)) (0:Nat) (0:Nat) n (some n)].length==(1:Nat)&&true&&true) none else
 zX 0 [.reg [.nils],.reg [.own 0 0 0 h (some h)]] (h14 h w)) from by kernel_rfl)]
   refine BF ?_;rfl
  ·show [qjI R n j]=[ji R n h j];unfold ji;rw[Qy (show j<h from hj)];rfl
theorem qjK(R:Nat->Nat->Int)(n h:Nat)(rc c:Option Nat)(ok:PicOk R n h):ToldOk P18 G18 24 [qR R n h rc c] (.tup [.agg [.view 1 h (fun i=>[srV (knR R i) n (some n)]) (some h)],iI 0]):=by
 refine ToldOk.frz (r:=.tup [.agg [.fresh false 1 h (fun i=>[srV (knR R i) n (some n)]) h (some h)],iI 0]) ?_;obtain⟨p,hp⟩:=qD P18 G18 29;have hh:=ok.h1;have hn:=ok.nm;unfold ZS at hn;have t1:=qcr R n h rc c ok;have hl:=l24 R n h rc c hh (by omega);refine qJ qv q9 (qq qf (qj hp)) (K:=K24 p 0) (A:=A18) (m:=0) (by kernel_rfl) (qK hl) ?_;rw[(show QB P18 G18 A18 (K24 p 0) 0 24 [(6,qE (v24 R n h rc c 0) [w24 (fun _=>.nils) h] (.exit 0) [.reg [.nils],.reg [.own 0 0 0 h (some h)]] [w24 (qjI R n) h])] [qR R n h rc c] =
( gD (qF (p [.view 1 h (fun i=>[.view 1 n (fun j=>[uI (R i j)]) rc]) c] (iI 0)))<|gD (decide (0<=ofNat h)&&decide (ofNat h<=ofNat h)&&decide (ofNat h*24<=140737488355328)&&decide (ofNat h<=9223372036854775807))<|gD (qS (v24 R n h rc c (nat_lit 0)) (h14 h fun e=>.nils) (v24 R n h rc c (nat_lit 0)) (h14 h fun e=>.nils))<|some (.tup [.agg [bif ((0:Nat)+h).ble h then .fresh false (1:Nat) (h-0) (fun j=>[qjI R n (0+j)]) h (some h)
 else .undef],iI 0])) from by kernel_rfl)]
 refine qm (qp hp t1) ?_;refine BT ?_;refine qm (qw ⟨rfl,.refl _⟩) ?_;simp only[Nat.zero_add,Nat.sub_zero];rw[QZ (Nat.le_refl _)];rfl
def pgV(R:Nat->Nat->Int)(ln:Nat->Nat)(h:Nat)(rc:Nat->Option Nat)(c:Option Nat):T:=.view 1 h (fun i=>[qB (R i) (ln i) (rc i)]) c
def jX(R:Nat->Nat->Int)(ln:Nat->Nat)(h:Nat)(rc:Nat->Option Nat)(c:Option Nat)(i:Int):List T:=[pgV R ln h rc c,pgV R ln h rc c,iI h,iI i]
def qhb(R:Nat->Nat->Int)(ln:Nat->Nat)(h:Nat)(rc:Nat->Option Nat)(c:Option Nat)(i:Int):List T:=[pgV R ln h rc c,iI h,iI i]
def pA(ln:Nat->Nat)(i:Nat):Bool:=decide (ln i<=16)
def pB(R:Nat->Nat->Int)(ln:Nat->Nat)(i:Nat):Bool:=!(decide (ln i=0) || decide (mnF (R i) (ln i-1)<1) || decide (6<mxF (R i) (ln i-1)))
def pC(ln:Nat->Nat)(i:Nat):Bool:=decide (ln i=ln 0)
def pD(R:Nat->Nat->Int)(ln:Nat->Nat)(i:Nat):Bool:=decide (kK (R i) (ln i)<=2)
def pcE(R:Nat->Nat->Int)(ln:Nat->Nat)(h:Nat):Int:=bif decide (31<h) then 3 else bif Qg (pA ln) h then(bif decide (h%2=0) then 1 else bif Qg (pB R ln) h then(bif Qg (pC ln) h then(bif Qg (pD R ln) h then 0 else 14) else 5) else 1) else 3
noncomputable def l29(x y z t:List T->qg->Ex->List T->qg->Prop)(R:Nat->Nat->Int)(ln:Nat->Nat)(h:Nat)(rc:Nat->Option Nat)(c:Option Nat):List (Nat×(List T->qg->LT)) :=
 [(4,yy x (.ite (Qg (pA ln) h) (.ret (.exit 0) [pgV R ln h rc c,.undef] []) (.ret .ret [pgV R ln h rc c,iI 3] []))),
  (12,yy y (.ite (Qg (pB R ln) h) (.ret (.exit 2) [pgV R ln h rc c,.undef] []) (.ret .ret [pgV R ln h rc c,iI 1] []))),
  (18,yy z (.ite (Qg (pC ln) h) (.ret (.exit 4) [pgV R ln h rc c,.undef] []) (.ret .ret [pgV R ln h rc c,iI 5] []))),
  (24,yy t (.ite (Qg (pD R ln) h) (.ret (.exit 6) [.undef] []) (.ret .ret [iI 14] [])))]
section
variable (R:Nat->Nat->Int) (ln:Nat->Nat) (h:Nat) (rc:Nat->Option Nat) (c:Option Nat)
theorem qlC(i:Nat):qA P18 G18 A18 qk 0 29 [] 4 (jX R ln h rc c i) [] =
( bif decide (ofNat i<ofNat h) then gD (decide (0<=ofNat i)&&decide (ofNat i<ofNat h))<|bif decide (16<ofNat (ln i)) then zR [pgV R ln h rc c,iI 3] [] else
 zN (jX R ln h rc c (i64.wrap (ofNat i+1))) [] else
 zX 0 [pgV R ln h rc c,.undef] []):=by kernel_rfl
theorem qkC(i:Nat)(a b:Int)(p q:List T->T->Prop):qA P18 G18 A18 (K29 p q a b) 0 29 [] 12 (jX R ln h rc c i) [] =
( bif decide (ofNat i<ofNat h) then gD (decide (0<=ofNat i)&&decide (ofNat i<ofNat h))<|bif decide (ofNat (ln i)=0) then zR [pgV R ln h rc c,iI 1] [] else
 gD (qF (p [.view 1 (ln i) (fun j=>[uI (R i j)]) (rc i)] (uI a)))<|bif decide (a<1) then zR [pgV R ln h rc c,iI 1] [] else
 gD (qF (q [.view 1 (ln i) (fun j=>[uI (R i j)]) (rc i)] (uI b)))<|bif decide (6<b) then zR [pgV R ln h rc c,iI 1] [] else
 zN (jX R ln h rc c (i64.wrap (ofNat i+1))) [] else
 zX 2 [pgV R ln h rc c,.undef] []):=by kernel_rfl
theorem qlD(i:Nat):qA P18 G18 A18 qk 0 29 [] 18 (jX R ln h rc c i) [] =
( bif decide (ofNat i<ofNat h) then gD (decide (0<=ofNat i)&&decide (ofNat i<ofNat h))<|gD (decide (0<ofNat h))<|bif !decide (ofNat (ln i)=ofNat (ln (0:Nat))) then zR [pgV R ln h rc c,iI 5] [] else
 zN (jX R ln h rc c (i64.wrap (ofNat i+1))) [] else
 zX 4 [pgV R ln h rc c,.undef] []):=by kernel_rfl
theorem qmP(i k:Nat)(cs:Nat->Int)(p:List T->T->Prop):qA P18 G18 A18 (qgW p (.new (qB cs k none))) 0 29 [] 24 (qhb R ln h rc c i) [] =
( bif decide (ofNat i<ofNat h) then gD (decide (0<=ofNat i)&&decide (ofNat i<ofNat h))<|gD (qF (p [.view 1 (ln i) (fun j=>[uI (R i j)]) (rc i)] (qB cs k
 none).new))<|bif decide (2<ofNat k) then zR [iI 14] [] else
 zN (qhb R ln h rc c (i64.wrap (ofNat i+1))) [] else
 zX 6 [.undef] []):=by kernel_rfl
theorem k29(x y z t:List T->qg->Ex->List T->qg->Prop):QB P18 G18 A18 qk 0 29 (l29 x y z t R ln h rc c) [pgV R ln h rc c] =
( bif decide (31<ofNat h) then some (iI 3) else
 bif Qg (pA ln) h then gD (qF (x [.view 1 h (fun i=>[.view 1 (ln i) (fun j=>[uI (R i j)]) (rc i)]) c,.view 1 h (fun i=>[.view 1 (ln i) (fun j=>[uI (R i j)]) (rc i)]) c,iI (.ofNat h),iI 0] [] (.exit 0) [.view 1 h (fun i=>[.view 1 (ln i) (fun j=>[uI (R i j)]) (rc i)]) c,.undef] []))<|bif decide ((ofNat h).tmod 2=0) then some (iI 1) else
 bif Qg (pB R ln) h then gD (qF (y [.view 1 h (fun i=>[.view 1 (ln i) (fun j=>[uI (R i j)]) (rc i)]) c,.view 1 h (fun i=>[.view 1 (ln i) (fun j=>[uI (R i j)]) (rc i)]) c,iI (.ofNat h),iI 0] [] (.exit 2) [.view 1 h (fun i=>[.view 1 (ln i) (fun j=>[uI (R i j)]) (rc i)]) c,.undef] []))<|bif Qg (pC ln) h then gD (qF (z [.view 1 h (fun i=>[.view 1 (ln i) (fun j=>[uI (R i j)]) (rc i)]) c,.view 1 h (fun i=>[.view 1 (ln i) (fun j=>[uI (R i j)]) (rc i)]) c,iI (.ofNat h),iI 0] [] (.exit 4) [.view 1 h (fun i=>[.view 1 (ln i) (fun j=>[uI (R i j)]) (rc i)]) c,.undef] []))<|bif Qg (pD R ln) h then gD (qF (t [.view 1 h (fun i=>[.view 1 (ln i) (fun j=>[uI (R i j)]) (rc i)]) c,iI (.ofNat h),iI 0] [] (.exit 6) [.undef] []))<|some (iI 0) else
 gD (qF (t [.view 1 h (fun i=>[.view 1 (ln i) (fun j=>[uI (R i j)]) (rc i)]) c,iI (.ofNat h),iI 0] [] .ret [iI 14] []))<|some (iI 14) else
 gD (qF (z [.view 1 h (fun i=>[.view 1 (ln i) (fun j=>[uI (R i j)]) (rc i)]) c,.view 1 h (fun i=>[.view 1 (ln i) (fun j=>[uI (R i j)]) (rc i)]) c,iI (.ofNat h),iI 0] [] .ret [.view 1 h (fun i=>[.view 1 (ln i) (fun j=>[uI (R i j)]) (rc i)]) c,iI 5] []))<|some (iI 5) else
 gD (qF (y [.view 1 h (fun i=>[.view 1 (ln i) (fun j=>[uI (R i j)]) (rc i)]) c,.view 1 h (fun i=>[.view 1 (ln i) (fun j=>[uI (R i j)]) (rc i)]) c,iI (.ofNat h),iI 0] [] .ret [.view 1 h (fun i=>[.view 1 (ln i) (fun j=>[uI (R i j)]) (rc i)]) c,iI 1] []))<|some (iI 1) else
 gD (qF (x [.view 1 h (fun i=>[.view 1 (ln i) (fun j=>[uI (R i j)]) (rc i)]) c,.view 1 h (fun i=>[.view 1 (ln i) (fun j=>[uI (R i j)]) (rc i)]) c,iI (.ofNat h),iI 0] [] .ret [.view 1 h (fun i=>[.view 1 (ln i) (fun j=>[uI (R i j)]) (rc i)]) c,iI 3] []))<|some (iI 3)):=by kernel_rfl
end
theorem qjL{R:Nat->Nat->Int}{ln:Nat->Nat}{h:Nat}{rc:Nat->Option Nat}{c:Option Nat}(hh:h<=1000):(Qg (pA ln) h=true->LoopOk P18 G18 (A18 29) 29 4 (qE (jX R ln h rc c 0) [] (.exit 0) [pgV R ln h rc c,.undef] []))/\(Qg (pA ln) h=false->LoopOk P18 G18 (A18 29) 29 4 (qE (jX R ln h rc c 0) [] .ret [pgV R ln h rc c,iI 3] [])):=by
 refine zD qv (by kernel_rfl) (fun i=>jX R ln h rc c i) (fun _=>[]) (pA ln) (n:=h) (fun i hi _ hg=>?_) (fun i hi _ hg=>?_) (fun _=>?_)
 ·have hg:ln i<=16:=of_decide_eq_true hg;refine Step.mk0 (A:=A18) (m:=0) qf rfl rfl qh (h1:=[]) ?_ .nil;rw[qlC,qn i,qeX hi (by omega)];refine BT ?_;refine BT ?_;refine BF ?_;rfl
 ·have hg:¬ln i<=16:=of_decide_eq_false hg;refine Last.mk0 (A:=A18) (m:=0) qf rfl rfl qh (h1:=[]) (by simp) ?_ .nil;rw[qlC];refine BT ?_;refine BT ?_;refine BT ?_;rfl
 ·refine Last.mk0 (A:=A18) (m:=0) qf rfl rfl qh (h1:=[]) (by simp) ?_ .nil;rw[qlC];refine BF ?_;rfl
theorem qjM{R:Nat->Nat->Int}{ln:Nat->Nat}{h:Nat}{rc:Nat->Option Nat}{c:Option Nat}(hh:h<=1000)(hln:∀i,i<h->ln i<=1000):(Qg (pB R ln) h=true->LoopOk P18 G18 (A18 29) 29 12 (qE (jX R ln h rc c 0) [] (.exit 2) [pgV R ln h rc c,.undef] []))/\(Qg (pB R ln) h=false->LoopOk P18 G18 (A18 29) 29 12 (qE (jX R ln h rc c 0) [] .ret [pgV R ln h rc c,iI 1] [])):=by
 obtain⟨p,hp⟩:=qD P18 G18 45;obtain⟨q,hq⟩:=qD P18 G18 46;have hK:∀a b,OrcOk P18 G18 (K29 p q a b):=fun a b=>qq (qq qf (qj hp)) (qj hq);refine zD qv (by kernel_rfl) (fun i=>jX R ln h rc c i) (fun _=>[]) (pB R ln) (n:=h) (fun i hi _ hg=>?_) (fun i hi _ hg=>?_) (fun _=>?_)
 ·simp only[pB,Bool.not_eq_true',Bool.or_eq_false_iff,decide_eq_false_iff_not] at hg;obtain⟨⟨g1,g2⟩,g3⟩:=hg;have t1:=qln (R i) (ln i) (rc i) (by omega) (hln i hi);have t2:=qlo (R i) (ln i) (rc i) (by omega) (hln i hi);generalize mnF (R i) (ln i-1)=a at *
  generalize mxF (R i) (ln i-1)=b at *
  clear hln;refine Step.mk0 (A:=A18) (m:=0) (hK a b) rfl rfl qh (h1:=[]) ?_ .nil;rw[qkC,qn i,qeX hi (by omega)];refine BT ?_;refine BT ?_;refine BF ?_;refine qm (qp hp t1) ?_;refine BF ?_;refine qm (qp hq t2) ?_;refine BF ?_;rfl
 ·by_cases g1:ln i=0
  ·refine Last.mk0 (A:=A18) (m:=0) (hK 0 0) rfl rfl qh (h1:=[]) (by simp) ?_ .nil;clear hln hg;rw[qkC];refine BT ?_;refine BT ?_;refine BT ?_;rfl
  have t1:=qln (R i) (ln i) (rc i) (by omega) (hln i hi);have t2:=qlo (R i) (ln i) (rc i) (by omega) (hln i hi);unfold pB at hg;generalize mnF (R i) (ln i-1)=a at *
  generalize mxF (R i) (ln i-1)=b at *
  clear hln;refine Last.mk0 (A:=A18) (m:=0) (hK a b) rfl rfl qh (h1:=[]) (by simp) ?_ .nil;rw[qkC];rw[dF g1] at hg;refine BT ?_;refine BT ?_;refine BF ?_;refine qm (qp hp t1) ?_;by_cases g2:a<1
  ·exact qm (dT g2) rfl
  refine qZ (by simpa using g2) ?_;refine qm (qp hq t2) ?_;rw[dF g2] at hg;refine qm (by simpa using hg) ?_;rfl
 ·clear hln;refine Last.mk0 (A:=A18) (m:=0) (hK 0 0) rfl rfl qh (h1:=[]) (by simp) ?_ .nil;rw[qkC];refine BF ?_;rfl
theorem qjN{R:Nat->Nat->Int}{ln:Nat->Nat}{h:Nat}{rc:Nat->Option Nat}{c:Option Nat}(hh:h<=1000):(Qg (pC ln) h=true->LoopOk P18 G18 (A18 29) 29 18 (qE (jX R ln h rc c 0) [] (.exit 4) [pgV R ln h rc c,.undef] []))/\(Qg (pC ln) h=false->LoopOk P18 G18 (A18 29) 29 18 (qE (jX R ln h rc c 0) [] .ret [pgV R ln h rc c,iI 5] [])):=by
 refine zD qv (by kernel_rfl) (fun i=>jX R ln h rc c i) (fun _=>[]) (pC ln) (n:=h) (fun i hi _ hg=>?_) (fun i hi _ hg=>?_) (fun _=>?_)
 ·have hg:ln i=ln 0:=of_decide_eq_true hg;refine Step.mk0 (A:=A18) (m:=0) qf rfl rfl qh (h1:=[]) ?_ .nil;rw[qlD,qn i,qeX hi (by omega)];refine BT ?_;refine BT ?_;refine BT ?_;refine qZ (by rw[hg];simp) ?_;rfl
 ·have hg:¬ln i=ln 0:=of_decide_eq_false hg;refine Last.mk0 (A:=A18) (m:=0) qf rfl rfl qh (h1:=[]) (by simp) ?_ .nil;rw[qlD];refine BT ?_;refine BT ?_;refine BT ?_;refine qm (by simp only[qn,Bool.not_eq_true',decide_eq_false_iff_not];omega) ?_;rfl
 ·refine Last.mk0 (A:=A18) (m:=0) qf rfl rfl qh (h1:=[]) (by simp) ?_ .nil;rw[qlD];refine BF ?_;rfl
theorem qjO{R:Nat->Nat->Int}{ln:Nat->Nat}{h:Nat}{rc:Nat->Option Nat}{c:Option Nat}(hh:h<=1000)(hln:∀i,i<h->1<=ln i/\ln i<=16)(hR:∀i,i<h->∀j,j<ln i->0<=R i j/\R i j<256):(Qg (pD R ln) h=true->LoopOk P18 G18 (A18 29) 29 24 (qE (qhb R ln h rc c 0) [] (.exit 6) [.undef] []))/\(Qg (pD R ln) h=false->LoopOk P18 G18 (A18 29) 29 24 (qE (qhb R ln h rc c 0) [] .ret [iI 14] [])):=by
 obtain⟨p,hp⟩:=qD P18 G18 47;refine zD qv (by kernel_rfl) (fun i=>qhb R ln h rc c i) (fun _=>[]) (pD R ln) (n:=h) (fun i hi _ hg=>?_) (fun i hi _ hg=>?_) (fun _=>?_)
 ·have hg:kK (R i) (ln i)<=2:=of_decide_eq_true hg;have t1:=qeS (R i) (ln i) (rc i) (hln i hi).1 (by unfold ZS;have:=(hln i hi).2;omega) (hR i hi);generalize kK (R i) (ln i)=k at *
  generalize csK (R i) (ln i)=cs at *
  clear hln hR;refine Step.mk0 (A:=A18) (K:=qgW p (.new (qB cs k none))) (m:=0) (qq qf (qj hp)) rfl rfl qh (h1:=[]) ?_ .nil;rw[qmP,qn i,qeX hi (by omega)];refine BT ?_;refine BT ?_;refine qm (qp hp t1) ?_;refine BF ?_;rfl
 ·have hg:¬kK (R i) (ln i)<=2:=of_decide_eq_false hg;have t1:=qeS (R i) (ln i) (rc i) (hln i hi).1 (by unfold ZS;have:=(hln i hi).2;omega) (hR i hi);generalize kK (R i) (ln i)=k at *
  generalize csK (R i) (ln i)=cs at *
  clear hln hR;refine Last.mk0 (A:=A18) (K:=qgW p (.new (qB cs k none))) (m:=0) (qq qf (qj hp)) rfl rfl qh (h1:=[]) (by simp) ?_ .nil;rw[qmP];refine BT ?_;refine BT ?_;refine qm (qp hp t1) ?_;refine BT ?_;rfl
 ·clear hln hR;refine Last.mk0 (A:=A18) (K:=qgW p .nils) (m:=0) (qq qf (qj hp)) rfl rfl qh (h1:=[]) (by simp) ?_ .nil;rw[(show qA P18 G18 A18 (qgW p .nils) 0 29 [] 24 (qhb R ln h rc c h) [] =
( bif decide (ofNat h<ofNat h) then gD (decide (0<=ofNat h)&&decide (ofNat h<ofNat h))<|gD (qF (p [.view 1 (ln h) (fun j=>[uI (R h j)]) (rc h)] .nils))<|zN (qhb R ln h rc c (i64.wrap (ofNat h+1))) [] else
 zX 6 [.undef] []) from by kernel_rfl)]
  refine BF ?_;rfl
theorem JV(R:Nat->Nat->Int)(ln:Nat->Nat)(h:Nat)(rc:Nat->Option Nat)(c:Option Nat)(hh:h<=1000)(hln:∀i,i<h->ln i<=1000)(hR:∀i,i<h->∀j,j<ln i->0<=R i j/\R i j<256):ToldOk P18 G18 29 [pgV R ln h rc c] (iI (pcE R ln h)):=by
 obtain⟨x,hx⟩:=ZQ P18 G18 (A18 29) 29 4;obtain⟨y,hy⟩:=ZQ P18 G18 (A18 29) 29 12;obtain⟨z,hz⟩:=ZQ P18 G18 (A18 29) 29 18;obtain⟨t,ht⟩:=ZQ P18 G18 (A18 29) 29 24;refine qJ qv q9 qf (A:=A18) (m:=0) (l:=l29 x y z t R ln h rc c) (by kernel_rfl) (zq (QS hx _) (zq (QS hy _) (zq (QS hz _) (qK (QS ht _))))) ?_;rw[k29,KJ];have ha:=qjL (R:=R) (ln:=ln) (rc:=rc) (c:=c) hh;have hb:=qjM (R:=R) (ln:=ln) (rc:=rc) (c:=c) hh hln;have hc:=qjN (R:=R) (ln:=ln) (rc:=rc) (c:=c) hh;have hd:=fun q1=>qjO (R:=R) (ln:=ln) (rc:=rc) (c:=c) hh q1 hR;have hAB:Qg (pA ln) h=true->Qg (pB R ln) h=true->∀i,i<h->1<=ln i/\ln i<=16:=fun h1 h2 i hi=>by
  have h1:=of_decide_eq_true ((QD _ _).1 h1 i hi);have h2:=(QD _ _).1 h2 i hi;simp only[pB,Bool.not_eq_true',Bool.or_eq_false_iff,decide_eq_false_iff_not] at h2;omega
 clear hln hR;unfold pcE;have key:decide ((31:Int)<ofNat h)=decide (31<h):=by
  by_cases q:31<h
  ·rw[dT q,dT (by rw[qn];omega)]
  ·rw[dF q,dF (by rw[qn];omega)]
 rw[key];cases decide (31<h)
 ·rw[cond_false,cond_false];cases qa:Qg (pA ln) h
  ·rw[cond_false,cond_false];exact qm (Qz hx (ha.2 qa)) rfl
  ·rw[cond_true,cond_true];refine qm (Qz hx (ha.1 qa)) ?_;cases decide (h%2=0)
   ·rw[cond_false,cond_false];cases qb:Qg (pB R ln) h
    ·rw[cond_false,cond_false];exact qm (Qz hy (hb.2 qb)) rfl
    ·rw[cond_true,cond_true];refine qm (Qz hy (hb.1 qb)) ?_;have hd:=hd (hAB qa qb);cases qc:Qg (pC ln) h
     ·rw[cond_false,cond_false];exact qm (Qz hz (hc.2 qc)) rfl
     ·rw[cond_true,cond_true];refine qm (Qz hz (hc.1 qc)) ?_;cases qd:Qg (pD R ln) h
      ·rw[cond_false,cond_false];exact qm (Qz ht (hd.2 qd)) rfl
      ·rw[cond_true,cond_true];exact qm (Qz ht (hd.1 qd)) rfl
   ·rfl
 ·rfl
end Go.Ab

