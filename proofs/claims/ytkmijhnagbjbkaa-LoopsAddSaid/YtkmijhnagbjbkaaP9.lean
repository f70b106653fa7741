/- A part of the proof: nothing is assumed. -/
import Derived.Test.YtkmijhnagbjbkaaP7
import Derived.Test.YtkmijhnagbjbkaaP8
set_option linter.all false
namespace Go.Ab
open Go.Proofs
structure Ll where
 (y:Int) (b w:Bool) (th:Nat->Int) (nt:Nat) (ps:Nat->Int) (np:Nat)
def u8V (g:Nat->Int) (n:Nat) (c:Option Nat):T:=.view 1 n (fun j=>[.int .u8 (g j)]) c
def Ll.c (l:Ll):List T:=[.int .u8 l.y,.bool l.b,.bool l.w,u8V l.th l.nt none,u8V l.ps l.np none]
def llV (X:Nat->Ll) (n:Nat) (c:Option Nat):T:=.view 5 n (fun j=>(X j).c) c
def id0:Idd:=⟨0,0⟩
def ps0:Pss:=⟨0,0,false,0⟩
def lp0:Lpp:=⟨0,false,fun _=>id0,0,fun _=>ps0,0⟩
def rowB (v:Nat) (r:List Lpp):Blk:=⟨v,4,r.length,fun j=>(r.getD j lp0).c,false,false,none⟩
def idB (v:Nat) (l:List Idd):Blk:=⟨v,2,l.length,fun j=>(l.getD j id0).c,true,false,none⟩
def psB (v:Nat) (l:List Pss):Blk:=⟨v,4,l.length,fun j=>(l.getD j ps0).c,true,false,none⟩
def tbB (vr:Nat->Nat) (rw:Nat->List Lpp):Blk:=⟨0,1,6,fun e=>[.own (3+e) (vr e) 0 (rw e).length none],false,true,none⟩
def rws (vr:Nat->Nat) (rw:Nat->List Lpp):Heap:=[rowB (vr 0) (rw 0),rowB (vr 1) (rw 1),rowB (vr 2) (rw 2),rowB (vr 3) (rw 3),rowB (vr 4) (rw 4),rowB (vr 5) (rw 5)]
def h8 (vr:Nat->Nat) (rw:Nat->List Lpp) (vf:Nat) (fr:List Idd) (vm:Nat) (md:List Idd):Heap:=tbB vr rw :: idB vf fr :: idB vm md :: rws vr rw
def v8 (x:T) (vf:Nat) (fr:List Idd) (vm:Nat) (md:List Idd) (i:Nat):List T:=[x,.own 0 0 0 6 (some 6),.own 1 vf 0 fr.length none,.own 2 vm 0 md.length none,.int .i64 i]
def LB8:List Nat:=[0,0,2,1,2,2,2]
def B8:List Nat:=[0,1,2] ++ LB8
def C8:List Nat:=[1,2,2,2] ++ B8
def LC8:List Nat:=0 :: 0 :: 2 :: C8
def D8:List Nat:=0 :: 1 :: 2 :: LC8
def E8:List Nat:=[1,2,2,2,2] ++ B8
def LE8:List Nat:=0 :: 0 :: 2 :: E8
def F8:List Nat:=0 :: 1 :: 2 :: LE8
def R8:List Nat:=[2,2,2,2,2] ++ B8
def idL (l:List Idd):T:=idV (fun j=>l.getD j id0) l.length none
def psL (l:List Pss):T:=psV (fun j=>l.getD j ps0) l.length none
def w8 (x:T) (vf:Nat) (fr:List Idd) (vm:Nat) (md:List Idd) (i y:Nat) (b:Int) (w:Bool) (p q:T):List T:=[x,.own 0 0 0 6 (some 6),.own 1 vf 0 fr.length none,.own 2 vm 0 md.length none,.int .i64 i,.int .i64 y,.reg [.int .u8 b,.bool w,p,q]]
def u8 (x:T) (vf:Nat) (fr:List Idd) (vm:Nat) (md:List Idd) (i y:Nat):List T:=[x,.own 0 0 0 6 (some 6),.own 1 vf 0 fr.length none,.own 2 vm 0 md.length none,.int .i64 i,.int .i64 y]
def x8 (x:T) (vf:Nat) (fr:List Idd) (vm:Nat) (md:List Idd) (i y:Nat) (b:Int) (w:Bool) (p q:T) (z:T):List T:=[x,.own 0 0 0 6 (some 6),.own 1 vf 0 fr.length none,.own 2 vm 0 md.length none,.int .i64 i,.int .i64 y,.reg [.int .u8 b,.bool w,p,q],z]
def z8 (x:T) (vf:Nat) (fr:List Idd) (vm:Nat) (md:List Idd) (i y:Nat) (b:Int) (w:Bool) (p q:T) (z z2:T):List T:=[x,.own 0 0 0 6 (some 6),.own 1 vf 0 fr.length none,.own 2 vm 0 md.length none,.int .i64 i,.int .i64 y,.reg [.int .u8 b,.bool w,p,q],z,z2]
def h9 (vr:Nat->Nat) (rw:Nat->List Lpp) (vf:Nat) (fr:List Idd) (vm:Nat) (md:List Idd) (x:Blk):Heap:=[tbB vr rw,idB vf fr,idB vm md,rowB (vr 0) (rw 0),rowB (vr 1) (rw 1),rowB (vr 2) (rw 2),rowB (vr 3) (rw 3),rowB (vr 4) (rw 4),rowB (vr 5) (rw 5),x]
def hX (vr:Nat->Nat) (rw:Nat->List Lpp) (vf:Nat) (fr:List Idd) (vm:Nat) (md:List Idd) (x x2:Blk):Heap:=[tbB vr rw,idB vf fr,idB vm md,rowB (vr 0) (rw 0),rowB (vr 1) (rw 1),rowB (vr 2) (rw 2),rowB (vr 3) (rw 3),rowB (vr 4) (rw 4),rowB (vr 5) (rw 5),x,x2]
def hY (vr:Nat->Nat) (rw:Nat->List Lpp) (vf:Nat) (fr:List Idd) (vm:Nat) (md:List Idd) (x x2 x3:Blk):Heap:=[tbB vr rw,idB vf fr,idB vm md,rowB (vr 0) (rw 0),rowB (vr 1) (rw 1),rowB (vr 2) (rw 2),rowB (vr 3) (rw 3),rowB (vr 4) (rw 4),rowB (vr 5) (rw 5),x,x2,x3]
def y8 (x:T) (vf:Nat) (fr:List Idd) (vm:Nat) (md:List Idd) (i:Nat) (z:T):List T:=[x,.own 0 0 0 6 (some 6),.own 1 vf 0 fr.length none,.own 2 vm 0 md.length none,.int .i64 i,z]
section
theorem g8a (X:Nat->Ll) (n i:Nat) (vr:Nat->Nat) (rw:Nat->List Lpp) (vf vm:Nat) (fr md:List Idd):codeL P05 G05 A05 noneO 0 8 [] (nav (1 :: LB8)) [0,4,5,6,7] (v8 (llV X n none) vf fr vm md i) (h8 vr rw vf fr vm md) [0,4,5,6,7] =
(
 bif decide (Int.ofNat i<Int.ofNat n) then
 bif decide (Int.ofNat i<60) then
 some ((.normal,v8 (llV X n
 none) vf fr vm md i,h8 vr rw vf fr vm md))
 else
 some ((.exit 0,v8 (llV X n
 none) vf fr vm md i,h8 vr rw vf fr vm md))
 else
 some ((.exit 0,v8 (llV X n
 none) vf fr vm md i,h8 vr rw vf fr vm md))):=by kernel_rfl
theorem g8b (X:Nat->Ll) (n i:Nat) (vr:Nat->Nat) (rw:Nat->List Lpp) (vf vm:Nat) (fr md:List Idd):codeL P05 G05 A05 noneO 0 8 [] (nav (1 :: B8)) [0,4,5,6,7] (v8 (llV X n none) vf fr vm md i) (h8 vr rw vf fr vm md) [0,4,5,6,7,8] =
(
 bif decide (0<=Int.ofNat i)&&decide (Int.ofNat i<Int.ofNat n) then
 some ((.normal,y8 (llV X n
 none) vf fr vm md i (.int .i64 (IntKind.i64.wrap ((X i).y.tmod 6))),h8 vr rw vf fr vm md))
 else
 none):=by kernel_rfl
theorem g8c (X:Nat->Ll) (n i y:Nat) (vr:Nat->Nat) (rw:Nat->List Lpp) (vf vm:Nat) (fr md:List Idd):codeL P05 G05 A05 noneO 0 8 [] (nav (1 :: 2 :: B8)) [0,4,5,6,7,8] (u8 (llV X n none) vf fr vm md i y) (h8 vr rw vf fr vm md) [0,4,5,6,7,8,9] =
(
 bif decide (0<=Int.ofNat i)&&decide (Int.ofNat i<Int.ofNat n) then
 bif (X i).w then
 some ((.normal,w8 (llV X n
 none) vf fr vm md i y (0:Int) true .nils .nils,h8 vr rw vf fr vm md))
 else
 bif decide (0<=Int.ofNat y)&&decide (Int.ofNat y<6) then
 bif 0+y==(5:Nat) then
 bif vr (5:Nat)==vr (5:Nat)&&true then
 bif decide (Int.ofNat (rw (5:Nat)).length = 0) then
 some ((.normal,w8 (llV X n
 none) vf fr vm md i y (0:Int) true .nils .nils,h8 vr rw vf fr vm md))
 else
 some ((.normal,w8 (llV X n
 none) vf fr vm md i y (0:Int) false .nils .nils,h8 vr rw vf fr vm md))
 else none else
 bif 0+y==(4:Nat) then
 bif vr (4:Nat)==vr (4:Nat)&&true then
 bif decide (Int.ofNat (rw (4:Nat)).length = 0) then
 some ((.normal,w8 (llV X n
 none) vf fr vm md i y (0:Int) true .nils .nils,h8 vr rw vf fr vm md))
 else
 some ((.normal,w8 (llV X n
 none) vf fr vm md i y (0:Int) false .nils .nils,h8 vr rw vf fr vm md))
 else none else
 bif 0+y==(3:Nat) then
 bif vr (3:Nat)==vr (3:Nat)&&true then
 bif decide (Int.ofNat (rw (3:Nat)).length = 0) then
 some ((.normal,w8 (llV X n
 none) vf fr vm md i y (0:Int) true .nils .nils,h8 vr rw vf fr vm md))
 else
 some ((.normal,w8 (llV X n
 none) vf fr vm md i y (0:Int) false .nils .nils,h8 vr rw vf fr vm md))
 else none else
 bif 0+y==(2:Nat) then
 bif vr (2:Nat)==vr (2:Nat)&&true then
 bif decide (Int.ofNat (rw (2:Nat)).length = 0) then
 some ((.normal,w8 (llV X n
 none) vf fr vm md i y (0:Int) true .nils .nils,h8 vr rw vf fr vm md))
 else
 some ((.normal,w8 (llV X n
 none) vf fr vm md i y (0:Int) false .nils .nils,h8 vr rw vf fr vm md))
 else none else
 bif 0+y==(1:Nat) then
 bif vr (1:Nat)==vr (1:Nat)&&true then
 bif decide (Int.ofNat (rw (1:Nat)).length = 0) then
 some ((.normal,w8 (llV X n
 none) vf fr vm md i y (0:Int) true .nils .nils,h8 vr rw vf fr vm md))
 else
 some ((.normal,w8 (llV X n
 none) vf fr vm md i y (0:Int) false .nils .nils,h8 vr rw vf fr vm md))
 else none else
 bif vr (0:Nat)==vr (0:Nat)&&true then
 bif decide (Int.ofNat (rw (0:Nat)).length = 0) then
 some ((.normal,w8 (llV X n
 none) vf fr vm md i y (0:Int) true .nils .nils,h8 vr rw vf fr vm md))
 else
 some ((.normal,w8 (llV X n
 none) vf fr vm md i y (0:Int) false .nils .nils,h8 vr rw vf fr vm md))
 else none else none else
 none):=by kernel_rfl
theorem g8d (X:Nat->Ll) (n i y:Nat) (vr:Nat->Nat) (rw:Nat->List Lpp) (vf vm:Nat) (fr md:List Idd) (w:Bool):codeL P05 G05 A05 noneO 0 8 [] (nav (1 :: 2 :: 2 :: B8)) [0,4,5,6,7,8,9] (w8 (llV X n none) vf fr vm md i y 0 w (.nils) (.nils)) (h8 vr rw vf fr vm md) [0,4,5,6,7,8,9] =
(
 bif decide (0<=Int.ofNat i)&&decide (Int.ofNat i<Int.ofNat n) then
 bif (X i).b then
 some ((.normal,w8 (llV X n
 none) vf fr vm md i y (1:Int) w .nils .nils,h8 vr rw vf fr vm md))
 else
 some ((.normal,w8 (llV X n
 none) vf fr vm md i y (0:Int) w .nils .nils,h8 vr rw vf fr vm md))
 else
 none):=by kernel_rfl
theorem g8e (X:Nat->Ll) (n i y:Nat) (vr:Nat->Nat) (rw:Nat->List Lpp) (vf vm:Nat) (fr md:List Idd) (b:Int) (w:Bool):codeL P05 G05 A05 noneO 0 8 [] (nav (1 :: C8)) [0,4,5,6,7,8,9] (w8 (llV X n none) vf fr vm md i y b w (.nils) (.nils)) (h8 vr rw vf fr vm md) [0,4,5,6,7,8,9,10] =
(
 some ((.normal,x8 (llV X n
 none) vf fr vm md i y b w .nils .nils (.int .i64 0),h8 vr rw vf fr vm md))):=by kernel_rfl
theorem g8f (X:Nat->Ll) (n i y:Nat) (vr:Nat->Nat) (rw:Nat->List Lpp) (vf vm:Nat) (fr md:List Idd) (b:Int) (w:Bool) (th:List Idd) (vt k:Nat):codeL P05 G05 A05 noneO 0 8 [] (nav (1 :: LC8)) [0,4,5,6,7,8,9,10] (x8 (llV X n none) vf fr vm md i y b w (.own 9 vt 0 th.length none) (.nils) (.int .i64 k)) (h9 vr rw vf fr vm md (idB vt th)) [0,4,5,6,7,8,9,10] =
(
 bif decide (0<=Int.ofNat i)&&decide (Int.ofNat i<Int.ofNat n) then
 bif decide (Int.ofNat k<Int.ofNat (X i).nt) then
 bif decide (Int.ofNat k<4) then
 bif vf==vf&&true then
 bif decide (0<Int.ofNat fr.length) then
 some ((.normal,x8 (llV X n
 none) vf fr vm md i y b w (.own 9 vt 0 th.length
 none) .nils (.int .i64 (.ofNat k)),h9 vr rw vf fr vm md (idB vt th)))
 else
 some ((.exit 2,x8 (llV X n
 none) vf fr vm md i y b w (.own 9 vt 0 th.length
 none) .nils (.int .i64 (.ofNat k)),h9 vr rw vf fr vm md (idB vt th)))
 else none else
 some ((.exit 2,x8 (llV X n
 none) vf fr vm md i y b w (.own 9 vt 0 th.length
 none) .nils (.int .i64 (.ofNat k)),h9 vr rw vf fr vm md (idB vt th)))
 else
 some ((.exit 2,x8 (llV X n
 none) vf fr vm md i y b w (.own 9 vt 0 th.length
 none) .nils (.int .i64 (.ofNat k)),h9 vr rw vf fr vm md (idB vt th)))
 else
 none):=by kernel_rfl
theorem g8g (X:Nat->Ll) (n i y:Nat) (vr:Nat->Nat) (rw:Nat->List Lpp) (vf vm:Nat) (fr md:List Idd) (b:Int) (w:Bool) (th:List Idd) (vt k:Nat):codeL P05 G05 A05 noneO 0 8 [] (nav (1 :: D8)) [0,4,5,6,7,8,9,10] (x8 (llV X n none) vf fr vm md i y b w (.own 9 vt 0 th.length none) (.nils) (.int .i64 k)) (h9 vr rw vf fr vm md (idB vt th)) [0,4,5,6,7,8,9,10,11] =
(
 bif decide (0<=Int.ofNat i)&&decide (Int.ofNat i<Int.ofNat n) then
 bif decide (0<=Int.ofNat k)&&decide (Int.ofNat k<Int.ofNat (X i).nt) then
 bif vf==vf&&true then
 bif decide (Int.ofNat fr.length = 0) then none else
 some ((.normal,z8 (llV X n
 none) vf fr vm md i y b w (.own 9 vt 0 th.length
 none) .nils (.int .i64 (.ofNat k)) (.int .i64 ((IntKind.i64.wrap ((X i).th k)).tmod (Int.ofNat fr.length))),h9 vr rw vf fr vm md (idB vt th)))
 else none else none else
 none):=by kernel_rfl
theorem g8h (X:Nat->Ll) (n i y:Nat) (vr:Nat->Nat) (rw:Nat->List Lpp) (vf vm:Nat) (fr md:List Idd) (b:Int) (w:Bool) (th:List Idd) (vt k:Nat) (q:Nat):codeL P05 G05 A05 noneO 0 8 [] (nav (1 :: 2 :: D8)) [0,4,5,6,7,8,9,10,11] (z8 (llV X n none) vf fr vm md i y b w (.own 9 vt 0 th.length none) (.nils) (.int .i64 k) (.int .i64 q)) (h9 vr rw vf fr vm md (idB vt th)) [0,4,5,6,7,8,9,10,11] =
(
 bif vf==vf&&true then
 bif decide (0<=Int.ofNat q)&&decide (Int.ofNat q<Int.ofNat fr.length) then
 bif vf==vf&&true then
 bif ((0:Nat)+q).blt fr.length then
 bif vt==vt&&true then
 bif ((0:Nat)+th.length).ble th.length then
 bif ((th.length+(1:Nat)) * (17:Nat)).ble 70368744177664 then
 bif ((0:Nat)+th.length+(1:Nat)).ble th.length then
 some ((.normal,z8 (llV X n
 none) vf fr vm md i y b w (.own 9 vt 0 (th.length+1)
 none) .nils (.int .i64 (.ofNat k)) (.int .i64 (.ofNat q)),hX vr rw vf fr vm md (.mk vt 2 th.length (fun j =>
 bif ((0:Nat)+th.length).ble j&&j.blt (0+th.length+1) then [(fr.getD ((0:Nat)+q) (Idd.mk (0:Int) (0:Int))).c].getD ((0:Nat)+(j - (0+th.length))) []
 else (th.getD j (Idd.mk (0:Int) (0:Int))).c) true false
 none) (tmpI (fr.getD (0+q) (Idd.mk (0:Int) (0:Int))))))
 else
 some ((.normal,z8 (llV X n
 none) vf fr vm md i y b w (.own 9 (vt+1) (0:Nat) (th.length+1)
 none) .nils (.int .i64 (.ofNat k)) (.int .i64 (.ofNat q)),hX vr rw vf fr vm md (.mk (vt+1) (2:Nat) (th.length+1) (fun j =>
 bif j.blt th.length then (th.getD ((0:Nat)+j) (Idd.mk (0:Int) (0:Int))).c
 else [(fr.getD ((0:Nat)+q) (Idd.mk (0:Int) (0:Int))).c].getD ((0:Nat)+(j - th.length)) []) true false
 none) (tmpI (fr.getD (0+q) (Idd.mk (0:Int) (0:Int))))))
 else none else none else none else none else none else none else
 none):=by kernel_rfl
theorem g8i (X:Nat->Ll) (n i y:Nat) (vr:Nat->Nat) (rw:Nat->List Lpp) (vf vm:Nat) (fr md:List Idd) (b:Int) (w:Bool) (th:List Idd) (vt k:Nat) (q:Nat):codeL P05 G05 A05 noneO 0 8 [] (nav (2 :: 2 :: D8)) [0,4,5,6,7,8,9,10,11] (z8 (llV X n none) vf fr vm md i y b w (.own 9 vt 0 th.length none) (.nils) (.int .i64 k) (.int .i64 q)) (h9 vr rw vf fr vm md (idB vt th)) [0,4,5,6,7,8,9,10] =
(
 bif vf==vf&&true then
 bif decide (0<=Int.ofNat q)&&decide (Int.ofNat q<=Int.ofNat fr.length) then
 bif vf==vf&&true then
 bif ((0:Nat)+q).ble fr.length then
 bif q==(0:Nat) then
 bif vf==vf&&true then
 bif decide (0<=IntKind.i64.wrap (Int.ofNat q+1))&&decide (IntKind.i64.wrap (Int.ofNat q+1)<=Int.ofNat fr.length)&&decide (Int.ofNat fr.length<=Int.ofNat fr.length) then
 bif vf==vf&&true then
 bif ((0:Nat)+(IntKind.i64.wrap (Int.ofNat q+(1:Int))).toNat+(fr.length - (IntKind.i64.wrap (Int.ofNat q+(1:Int))).toNat)).ble fr.length then
 bif fr.length - (IntKind.i64.wrap (Int.ofNat q+(1:Int))).toNat==(0:Nat) then
 some ((.normal,[llV X n
 none,.own 0 0 0 6 (some 6),.own 10 0 0 0 (some 0),.own 2 vm 0 md.length
 none,.int .i64 (.ofNat i),.int .i64 (.ofNat y),.reg [.int .u8 b,.bool w,.own 9 vt 0 th.length
 none,.nils],.int .i64 (.ofNat k)],hX vr rw vf fr vm md (idB vt th) (.mk 0 2 0 (fun j=>[]) true true
 none)))
 else
 bif (((0:Nat)+(fr.length - (IntKind.i64.wrap (Int.ofNat q+(1:Int))).toNat)) * (17:Nat)).ble 70368744177664 then
 bif ((0:Nat)+(fr.length - (IntKind.i64.wrap (Int.ofNat q+(1:Int))).toNat)).ble 0 then
 bif ((0:Nat)+(fr.length - (IntKind.i64.wrap (Int.ofNat q+(1:Int))).toNat)).ble 0 then
 some ((.normal,[llV X n
 none,.own 0 0 0 6 (some 6),.own 10 0 0 ((0:Nat)+(fr.length - (IntKind.i64.wrap (Int.ofNat q+(1:Int))).toNat)) (some 0),.own 2 vm 0 md.length
 none,.int .i64 (.ofNat i),.int .i64 (.ofNat y),.reg [.int .u8 b,.bool w,.own 9 vt 0 th.length
 none,.nils],.int .i64 (.ofNat k)],hX vr rw vf fr vm md (idB vt th) (.mk 0 2 0 (fun j =>
 bif Nat.ble 0 j&&j.blt ((0:Nat)+(fr.length - (IntKind.i64.wrap (Int.ofNat q+(1:Int))).toNat)) then (fr.getD ((0:Nat)+(IntKind.i64.wrap (Int.ofNat q+(1:Int))).toNat+j) (Idd.mk (0:Int) (0:Int))).c
 else []) true true
 none)))
 else none else
 some ((.normal,[llV X n
 none,.own 0 0 0 6 (some 6),.own 11 0 0 ((0:Nat)+(fr.length - (IntKind.i64.wrap (Int.ofNat q+(1:Int))).toNat))
 none,.own 2 vm 0 md.length
 none,.int .i64 (.ofNat i),.int .i64 (.ofNat y),.reg [.int .u8 b,.bool w,.own 9 vt 0 th.length
 none,.nils],.int .i64 (.ofNat k)],hY vr rw vf fr vm md (idB vt th) (.mk 0 2 0 (fun j=>[]) true true
 none) (bkR (fun e=>fr.getD ((0:Nat)+(IntKind.i64.wrap (Int.ofNat q+(1:Int))).toNat+e) (Idd.mk (0:Int) (0:Int))) ((0:Nat)+(fr.length - (IntKind.i64.wrap (Int.ofNat q+(1:Int))).toNat)))))
 else none else none else none else none else none else
 bif (((0:Nat)+q) * (17:Nat)).ble 70368744177664 then
 bif ((0:Nat)+q).ble 0 then
 bif ((0:Nat)+q).ble 0 then
 bif vf==vf&&true then
 bif decide (0<=IntKind.i64.wrap (Int.ofNat q+1))&&decide (IntKind.i64.wrap (Int.ofNat q+1)<=Int.ofNat fr.length)&&decide (Int.ofNat fr.length<=Int.ofNat fr.length) then
 bif vf==vf&&true then
 bif ((0:Nat)+(IntKind.i64.wrap (Int.ofNat q+(1:Int))).toNat+(fr.length - (IntKind.i64.wrap (Int.ofNat q+(1:Int))).toNat)).ble fr.length then
 bif ((0:Nat)+((0:Nat)+q)).ble 0 then
 bif fr.length - (IntKind.i64.wrap (Int.ofNat q+(1:Int))).toNat==(0:Nat) then
 some ((.normal,[llV X n
 none,.own 0 0 0 6 (some 6),.own 10 0 0 (0+q) (some 0),.own 2 vm 0 md.length
 none,.int .i64 (.ofNat i),.int .i64 (.ofNat y),.reg [.int .u8 b,.bool w,.own 9 vt 0 th.length
 none,.nils],.int .i64 (.ofNat k)],hX vr rw vf fr vm md (idB vt th) (.mk 0 2 0 (fun j =>
 bif Nat.ble 0 j&&j.blt (0+q) then (fr.getD ((0:Nat)+j) (Idd.mk (0:Int) (0:Int))).c
 else []) true true
 none)))
 else
 bif (((0:Nat)+q+(fr.length - (IntKind.i64.wrap (Int.ofNat q+(1:Int))).toNat)) * (17:Nat)).ble 70368744177664 then
 bif ((0:Nat)+q+(fr.length - (IntKind.i64.wrap (Int.ofNat q+(1:Int))).toNat)).ble 0 then
 bif ((0:Nat)+((0:Nat)+q)+(fr.length - (IntKind.i64.wrap (Int.ofNat q+(1:Int))).toNat)).ble 0 then
 some ((.normal,[llV X n
 none,.own 0 0 0 6 (some 6),.own 10 0 0 (0+q+(fr.length - (IntKind.i64.wrap (Int.ofNat q+(1:Int))).toNat)) (some 0),.own 2 vm 0 md.length
 none,.int .i64 (.ofNat i),.int .i64 (.ofNat y),.reg [.int .u8 b,.bool w,.own 9 vt 0 th.length
 none,.nils],.int .i64 (.ofNat k)],hX vr rw vf fr vm md (idB vt th) (.mk 0 2 0 (fun j =>
 bif ((0:Nat)+((0:Nat)+q)).ble j&&j.blt ((0:Nat)+(0+q)+(fr.length - (IntKind.i64.wrap (Int.ofNat q+(1:Int))).toNat)) then (fr.getD ((0:Nat)+(IntKind.i64.wrap (Int.ofNat q+(1:Int))).toNat+(j - ((0:Nat)+((0:Nat)+q)))) (Idd.mk (0:Int) (0:Int))).c
 else
 bif Nat.ble 0 j&&j.blt (0+q) then (fr.getD ((0:Nat)+j) (Idd.mk (0:Int) (0:Int))).c
 else []) true true
 none)))
 else none else
 some ((.normal,[llV X n
 none,.own 0 0 0 6 (some 6),.own 11 0 0 (0+q+(fr.length - (IntKind.i64.wrap (Int.ofNat q+(1:Int))).toNat))
 none,.own 2 vm 0 md.length
 none,.int .i64 (.ofNat i),.int .i64 (.ofNat y),.reg [.int .u8 b,.bool w,.own 9 vt 0 th.length
 none,.nils],.int .i64 (.ofNat k)],hY vr rw vf fr vm md (idB vt th) (.mk 0 2 0 (fun j =>
 bif Nat.ble 0 j&&j.blt (0+q) then (fr.getD ((0:Nat)+j) (Idd.mk (0:Int) (0:Int))).c
 else []) true true
 none) (.mk 0 2 (0+q+(fr.length - (IntKind.i64.wrap (Int.ofNat q+(1:Int))).toNat)) (fun j =>
 bif j.blt (0+q) then
 bif Nat.ble 0 (0+j)&&((0:Nat)+j).blt (0+q) then (fr.getD ((0:Nat)+((0:Nat)+j)) (Idd.mk (0:Int) (0:Int))).c
 else []
 else (fr.getD ((0:Nat)+(IntKind.i64.wrap (Int.ofNat q+(1:Int))).toNat+(j - ((0:Nat)+q))) (Idd.mk (0:Int) (0:Int))).c) true false
 none)))
 else none else none else none else none else none else none else none else
 bif vf==vf&&true then
 bif decide (0<=IntKind.i64.wrap (Int.ofNat q+1))&&decide (IntKind.i64.wrap (Int.ofNat q+1)<=Int.ofNat fr.length)&&decide (Int.ofNat fr.length<=Int.ofNat fr.length) then
 bif vf==vf&&true then
 bif ((0:Nat)+(IntKind.i64.wrap (Int.ofNat q+(1:Int))).toNat+(fr.length - (IntKind.i64.wrap (Int.ofNat q+(1:Int))).toNat)).ble fr.length then
 bif ((0:Nat)+((0:Nat)+q)).ble (0+q) then
 bif fr.length - (IntKind.i64.wrap (Int.ofNat q+(1:Int))).toNat==(0:Nat) then
 some ((.normal,[llV X n
 none,.own 0 0 0 6 (some 6),.own 11 0 0 (0+q)
 none,.own 2 vm 0 md.length
 none,.int .i64 (.ofNat i),.int .i64 (.ofNat y),.reg [.int .u8 b,.bool w,.own 9 vt 0 th.length
 none,.nils],.int .i64 (.ofNat k)],hY vr rw vf fr vm md (idB vt th) (.mk 0 2 0 (fun j=>[]) true true
 none) (bkR (fun e=>fr.getD (0+e) (Idd.mk (0:Int) (0:Int))) (0+q))))
 else
 bif (((0:Nat)+q+(fr.length - (IntKind.i64.wrap (Int.ofNat q+(1:Int))).toNat)) * (17:Nat)).ble 70368744177664 then
 bif ((0:Nat)+((0:Nat)+q)+(fr.length - (IntKind.i64.wrap (Int.ofNat q+(1:Int))).toNat)).ble (0+q) then
 some ((.normal,[llV X n
 none,.own 0 0 0 6 (some 6),.own 11 0 0 (0+q+(fr.length - (IntKind.i64.wrap (Int.ofNat q+(1:Int))).toNat))
 none,.own 2 vm 0 md.length
 none,.int .i64 (.ofNat i),.int .i64 (.ofNat y),.reg [.int .u8 b,.bool w,.own 9 vt 0 th.length
 none,.nils],.int .i64 (.ofNat k)],hY vr rw vf fr vm md (idB vt th) (.mk 0 2 0 (fun j=>[]) true true
 none) (.mk 0 2 (0+q) (fun j =>
 bif ((0:Nat)+((0:Nat)+q)).ble j&&j.blt ((0:Nat)+(0+q)+(fr.length - (IntKind.i64.wrap (Int.ofNat q+(1:Int))).toNat)) then (fr.getD ((0:Nat)+(IntKind.i64.wrap (Int.ofNat q+(1:Int))).toNat+(j - ((0:Nat)+((0:Nat)+q)))) (Idd.mk (0:Int) (0:Int))).c
 else (fr.getD ((0:Nat)+j) (Idd.mk (0:Int) (0:Int))).c) true false
 none)))
 else
 some ((.normal,[llV X n
 none,.own 0 0 0 6 (some 6),.own 11 1 0 (0+q+(fr.length - (IntKind.i64.wrap (Int.ofNat q+(1:Int))).toNat))
 none,.own 2 vm 0 md.length
 none,.int .i64 (.ofNat i),.int .i64 (.ofNat y),.reg [.int .u8 b,.bool w,.own 9 vt 0 th.length
 none,.nils],.int .i64 (.ofNat k)],hY vr rw vf fr vm md (idB vt th) (.mk 0 2 0 (fun j=>[]) true true
 none) (.mk 1 2 (0+q+(fr.length - (IntKind.i64.wrap (Int.ofNat q+(1:Int))).toNat)) (fun j =>
 bif j.blt (0+q) then (fr.getD ((0:Nat)+((0:Nat)+j)) (Idd.mk (0:Int) (0:Int))).c
 else (fr.getD ((0:Nat)+(IntKind.i64.wrap (Int.ofNat q+(1:Int))).toNat+(j - ((0:Nat)+q))) (Idd.mk (0:Int) (0:Int))).c) true false
 none)))
 else none else none else none else none else none else none else none else none else none else none else
 none):=by kernel_rfl
theorem g8j (X:Nat->Ll) (n i y:Nat) (vr:Nat->Nat) (rw:Nat->List Lpp) (vf vm:Nat) (fr md:List Idd) (b:Int) (w:Bool) (th:List Idd) (vt k:Nat):codeL P05 G05 A05 noneO 0 8 [] (nav (2 :: 2 :: LC8)) [0,4,5,6,7,8,9,10] (x8 (llV X n none) vf fr vm md i y b w (.own 9 vt 0 th.length none) (.nils) (.int .i64 k)) (h9 vr rw vf fr vm md (idB vt th)) [0,4,5,6,7,8,9,10] =
(
 some ((.normal,x8 (llV X n
 none) vf fr vm md i y b w (.own 9 vt 0 th.length
 none) .nils (.int .i64 (IntKind.i64.wrap (Int.ofNat k+1))),h9 vr rw vf fr vm md (idB vt th)))):=by kernel_rfl
theorem g8l (X:Nat->Ll) (n i y:Nat) (vr:Nat->Nat) (rw:Nat->List Lpp) (vf vm:Nat) (fr md:List Idd) (b:Int) (w:Bool) (th:List Idd) (ps:List Pss) (vt k:Nat):codeL P05 G05 A05 noneO 0 8 [] (nav (1 :: LE8)) [0,4,5,6,7,8,9,12] (x8 (llV X n none) vf fr vm md i y b w (idL th) (.own 9 vt 0 ps.length none) (.int .i64 k)) (h9 vr rw vf fr vm md (psB vt ps)) [0,4,5,6,7,8,9,12] =
(
 bif decide (0<=Int.ofNat i)&&decide (Int.ofNat i<Int.ofNat n) then
 bif decide (Int.ofNat k<Int.ofNat (X i).np) then
 bif decide (Int.ofNat k<5) then
 bif vm==vm&&true then
 bif decide (0<Int.ofNat md.length) then
 some ((.normal,x8 (llV X n
 none) vf fr vm md i y b w (idL th) (.own 9 vt 0 ps.length
 none) (.int .i64 (.ofNat k)),h9 vr rw vf fr vm md (psB vt ps)))
 else
 some ((.exit 4,x8 (llV X n
 none) vf fr vm md i y b w (idL th) (.own 9 vt 0 ps.length
 none) (.int .i64 (.ofNat k)),h9 vr rw vf fr vm md (psB vt ps)))
 else none else
 some ((.exit 4,x8 (llV X n
 none) vf fr vm md i y b w (idL th) (.own 9 vt 0 ps.length
 none) (.int .i64 (.ofNat k)),h9 vr rw vf fr vm md (psB vt ps)))
 else
 some ((.exit 4,x8 (llV X n
 none) vf fr vm md i y b w (idL th) (.own 9 vt 0 ps.length
 none) (.int .i64 (.ofNat k)),h9 vr rw vf fr vm md (psB vt ps)))
 else
 none):=by kernel_rfl
theorem g8m (X:Nat->Ll) (n i y:Nat) (vr:Nat->Nat) (rw:Nat->List Lpp) (vf vm:Nat) (fr md:List Idd) (b:Int) (w:Bool) (th:List Idd) (ps:List Pss) (vt k:Nat):codeL P05 G05 A05 noneO 0 8 [] (nav (1 :: F8)) [0,4,5,6,7,8,9,12] (x8 (llV X n none) vf fr vm md i y b w (idL th) (.own 9 vt 0 ps.length none) (.int .i64 k)) (h9 vr rw vf fr vm md (psB vt ps)) [0,4,5,6,7,8,9,12,13] =
(
 bif decide (0<=Int.ofNat i)&&decide (Int.ofNat i<Int.ofNat n) then
 bif decide (0<=Int.ofNat k)&&decide (Int.ofNat k<Int.ofNat (X i).np) then
 some ((.normal,z8 (llV X n
 none) vf fr vm md i y b w (idL th) (.own 9 vt 0 ps.length
 none) (.int .i64 (.ofNat k)) (.int .u8 ((X i).ps k)),h9 vr rw vf fr vm md (psB vt ps)))
 else none else
 none):=by kernel_rfl
theorem g8n (X:Nat->Ll) (n i y:Nat) (vr:Nat->Nat) (rw:Nat->List Lpp) (vf vm:Nat) (fr md:List Idd) (b:Int) (w:Bool) (th:List Idd) (ps:List Pss) (vt k:Nat) (q:Int):codeL P05 G05 A05 noneO 0 8 [] (nav (2 :: F8)) [0,4,5,6,7,8,9,12,13] (z8 (llV X n none) vf fr vm md i y b w (idL th) (.own 9 vt 0 ps.length none) (.int .i64 k) (.int .u8 q)) (h9 vr rw vf fr vm md (psB vt ps)) [0,4,5,6,7,8,9,12] =
(
 bif vm==vm&&true then
 bif decide (Int.ofNat md.length = 0) then none else
 bif vm==vm&&true then
 bif decide ((0:Int)<=(IntKind.i64.wrap (IntKind.u8.wrap (q.tdiv (2:Int)))).tmod (Int.ofNat md.length))&&decide ((IntKind.i64.wrap (IntKind.u8.wrap (q.tdiv (2:Int)))).tmod (Int.ofNat md.length)<Int.ofNat md.length) then
 bif vm==vm&&true then
 bif ((0:Nat)+((IntKind.i64.wrap (IntKind.u8.wrap (q.tdiv (2:Int)))).tmod (Int.ofNat md.length)).toNat).blt md.length then
 bif decide (q.tmod 2 = 1) then
 bif decide (0<=Int.ofNat i)&&decide (Int.ofNat i<Int.ofNat n) then
 bif vt==vt&&true then
 bif ((0:Nat)+ps.length).ble ps.length then
 bif ((ps.length+(1:Nat)) * (25:Nat)).ble 70368744177664 then
 bif ((0:Nat)+ps.length+(1:Nat)).ble ps.length then
 some ((.normal,x8 (llV X n
 none) vf fr vm md i y b w (idL th) (.own 9 vt 0 (ps.length+1)
 none) (.int .i64 (.ofNat k)),hX vr rw vf fr vm md (.mk vt 4 ps.length (fun j =>
 bif ((0:Nat)+ps.length).ble j&&j.blt (0+ps.length+1) then [[T.int .u8 (md.getD ((0:Nat)+((IntKind.i64.wrap (IntKind.u8.wrap (q.tdiv (2:Int)))).tmod (Int.ofNat md.length)).toNat) (Idd.mk (0:Int) (0:Int))).y,T.int .i64 (md.getD ((0:Nat)+((IntKind.i64.wrap (IntKind.u8.wrap (q.tdiv (2:Int)))).tmod (Int.ofNat md.length)).toNat) (Idd.mk (0:Int) (0:Int))).n,T.bool true,T.int .u8 ((IntKind.u8.wrap ((X i).y.tdiv (6:Int))).tmod (2:Int))]].getD ((0:Nat)+(j - (0+ps.length))) []
 else (ps.getD j (Pss.mk (0:Int) (0:Int) false (0:Int))).c) true false
 none) (.mk 0 4 1 (fun j=>[[T.int .u8 (md.getD ((0:Nat)+((IntKind.i64.wrap (IntKind.u8.wrap (q.tdiv (2:Int)))).tmod (Int.ofNat md.length)).toNat) (Idd.mk (0:Int) (0:Int))).y,T.int .i64 (md.getD ((0:Nat)+((IntKind.i64.wrap (IntKind.u8.wrap (q.tdiv (2:Int)))).tmod (Int.ofNat md.length)).toNat) (Idd.mk (0:Int) (0:Int))).n,T.bool true,T.int .u8 ((IntKind.u8.wrap ((X i).y.tdiv (6:Int))).tmod (2:Int))]].getD j []) true true
 none)))
 else
 some ((.normal,x8 (llV X n
 none) vf fr vm md i y b w (idL th) (.own 9 (vt+1) (0:Nat) (ps.length+1)
 none) (.int .i64 (.ofNat k)),hX vr rw vf fr vm md (.mk (vt+1) (4:Nat) (ps.length+1) (fun j =>
 bif j.blt ps.length then (ps.getD ((0:Nat)+j) (Pss.mk (0:Int) (0:Int) false (0:Int))).c
 else [[T.int .u8 (md.getD ((0:Nat)+((IntKind.i64.wrap (IntKind.u8.wrap (q.tdiv (2:Int)))).tmod (Int.ofNat md.length)).toNat) (Idd.mk (0:Int) (0:Int))).y,T.int .i64 (md.getD ((0:Nat)+((IntKind.i64.wrap (IntKind.u8.wrap (q.tdiv (2:Int)))).tmod (Int.ofNat md.length)).toNat) (Idd.mk (0:Int) (0:Int))).n,T.bool true,T.int .u8 ((IntKind.u8.wrap ((X i).y.tdiv (6:Int))).tmod (2:Int))]].getD ((0:Nat)+(j - ps.length)) []) true false
 none) (.mk 0 4 1 (fun j=>[[T.int .u8 (md.getD ((0:Nat)+((IntKind.i64.wrap (IntKind.u8.wrap (q.tdiv (2:Int)))).tmod (Int.ofNat md.length)).toNat) (Idd.mk (0:Int) (0:Int))).y,T.int .i64 (md.getD ((0:Nat)+((IntKind.i64.wrap (IntKind.u8.wrap (q.tdiv (2:Int)))).tmod (Int.ofNat md.length)).toNat) (Idd.mk (0:Int) (0:Int))).n,T.bool true,T.int .u8 ((IntKind.u8.wrap ((X i).y.tdiv (6:Int))).tmod (2:Int))]].getD j []) true true
 none)))
 else none else none else none else none else
 bif decide (0<=Int.ofNat i)&&decide (Int.ofNat i<Int.ofNat n) then
 bif vt==vt&&true then
 bif ((0:Nat)+ps.length).ble ps.length then
 bif ((ps.length+(1:Nat)) * (25:Nat)).ble 70368744177664 then
 bif ((0:Nat)+ps.length+(1:Nat)).ble ps.length then
 some ((.normal,x8 (llV X n
 none) vf fr vm md i y b w (idL th) (.own 9 vt 0 (ps.length+1)
 none) (.int .i64 (.ofNat k)),hX vr rw vf fr vm md (.mk vt 4 ps.length (fun j =>
 bif ((0:Nat)+ps.length).ble j&&j.blt (0+ps.length+1) then [[T.int .u8 (md.getD ((0:Nat)+((IntKind.i64.wrap (IntKind.u8.wrap (q.tdiv (2:Int)))).tmod (Int.ofNat md.length)).toNat) (Idd.mk (0:Int) (0:Int))).y,T.int .i64 (md.getD ((0:Nat)+((IntKind.i64.wrap (IntKind.u8.wrap (q.tdiv (2:Int)))).tmod (Int.ofNat md.length)).toNat) (Idd.mk (0:Int) (0:Int))).n,T.bool false,T.int .u8 ((IntKind.u8.wrap ((X i).y.tdiv (6:Int))).tmod (2:Int))]].getD ((0:Nat)+(j - (0+ps.length))) []
 else (ps.getD j (Pss.mk (0:Int) (0:Int) false (0:Int))).c) true false
 none) (.mk 0 4 1 (fun j=>[[T.int .u8 (md.getD ((0:Nat)+((IntKind.i64.wrap (IntKind.u8.wrap (q.tdiv (2:Int)))).tmod (Int.ofNat md.length)).toNat) (Idd.mk (0:Int) (0:Int))).y,T.int .i64 (md.getD ((0:Nat)+((IntKind.i64.wrap (IntKind.u8.wrap (q.tdiv (2:Int)))).tmod (Int.ofNat md.length)).toNat) (Idd.mk (0:Int) (0:Int))).n,T.bool false,T.int .u8 ((IntKind.u8.wrap ((X i).y.tdiv (6:Int))).tmod (2:Int))]].getD j []) true true
 none)))
 else
 some ((.normal,x8 (llV X n
 none) vf fr vm md i y b w (idL th) (.own 9 (vt+1) (0:Nat) (ps.length+1)
 none) (.int .i64 (.ofNat k)),hX vr rw vf fr vm md (.mk (vt+1) (4:Nat) (ps.length+1) (fun j =>
 bif j.blt ps.length then (ps.getD ((0:Nat)+j) (Pss.mk (0:Int) (0:Int) false (0:Int))).c
 else [[T.int .u8 (md.getD ((0:Nat)+((IntKind.i64.wrap (IntKind.u8.wrap (q.tdiv (2:Int)))).tmod (Int.ofNat md.length)).toNat) (Idd.mk (0:Int) (0:Int))).y,T.int .i64 (md.getD ((0:Nat)+((IntKind.i64.wrap (IntKind.u8.wrap (q.tdiv (2:Int)))).tmod (Int.ofNat md.length)).toNat) (Idd.mk (0:Int) (0:Int))).n,T.bool false,T.int .u8 ((IntKind.u8.wrap ((X i).y.tdiv (6:Int))).tmod (2:Int))]].getD ((0:Nat)+(j - ps.length)) []) true false
 none) (.mk 0 4 1 (fun j=>[[T.int .u8 (md.getD ((0:Nat)+((IntKind.i64.wrap (IntKind.u8.wrap (q.tdiv (2:Int)))).tmod (Int.ofNat md.length)).toNat) (Idd.mk (0:Int) (0:Int))).y,T.int .i64 (md.getD ((0:Nat)+((IntKind.i64.wrap (IntKind.u8.wrap (q.tdiv (2:Int)))).tmod (Int.ofNat md.length)).toNat) (Idd.mk (0:Int) (0:Int))).n,T.bool false,T.int .u8 ((IntKind.u8.wrap ((X i).y.tdiv (6:Int))).tmod (2:Int))]].getD j []) true true
 none)))
 else none else none else none else none else none else none else none else none else
 none):=by kernel_rfl
theorem g8o (X:Nat->Ll) (n i y:Nat) (vr:Nat->Nat) (rw:Nat->List Lpp) (vf vm:Nat) (fr md:List Idd) (b:Int) (w:Bool) (th:List Idd) (ps:List Pss) (vt k:Nat):codeL P05 G05 A05 noneO 0 8 [] (nav (2 :: 2 :: LE8)) [0,4,5,6,7,8,9,12] (x8 (llV X n none) vf fr vm md i y b w (idL th) (.own 9 vt 0 ps.length none) (.int .i64 k)) (h9 vr rw vf fr vm md (psB vt ps)) [0,4,5,6,7,8,9,12] =
(
 some ((.normal,x8 (llV X n
 none) vf fr vm md i y b w (idL th) (.own 9 vt 0 ps.length
 none) (.int .i64 (IntKind.i64.wrap (Int.ofNat k+1))),h9 vr rw vf fr vm md (psB vt ps)))):=by kernel_rfl
theorem g8p (X:Nat->Ll) (n i y:Nat) (vr:Nat->Nat) (rw:Nat->List Lpp) (vf vm:Nat) (fr md:List Idd) (b:Int) (w:Bool) (th:List Idd) (ps:List Pss):codeL P05 G05 A05 noneO 0 8 [] (nav (1 :: R8)) [0,4,5,6,7,8,9] (w8 (llV X n none) vf fr vm md i y b w (idL th) (psL ps)) (h8 vr rw vf fr vm md) [0,4,5,6,7,8,9,14] =
(
 bif decide (0<=Int.ofNat y)&&decide (Int.ofNat y<6) then
 bif 0+y==(5:Nat) then
 bif vr (5:Nat)==vr (5:Nat)&&true then
 some ((.normal,x8 (llV X n
 none) vf fr vm md i y b w (idL th) (psL ps) (.reg [.int .u8 (IntKind.u8.wrap (IntKind.i64.wrap (Int.ofNat y+1))),.int .i64 (.ofNat (rw (5:Nat)).length)]),h8 vr rw vf fr vm md))
 else none else
 bif 0+y==(4:Nat) then
 bif vr (4:Nat)==vr (4:Nat)&&true then
 some ((.normal,x8 (llV X n
 none) vf fr vm md i y b w (idL th) (psL ps) (.reg [.int .u8 (IntKind.u8.wrap (IntKind.i64.wrap (Int.ofNat y+1))),.int .i64 (.ofNat (rw (4:Nat)).length)]),h8 vr rw vf fr vm md))
 else none else
 bif 0+y==(3:Nat) then
 bif vr (3:Nat)==vr (3:Nat)&&true then
 some ((.normal,x8 (llV X n
 none) vf fr vm md i y b w (idL th) (psL ps) (.reg [.int .u8 (IntKind.u8.wrap (IntKind.i64.wrap (Int.ofNat y+1))),.int .i64 (.ofNat (rw (3:Nat)).length)]),h8 vr rw vf fr vm md))
 else none else
 bif 0+y==(2:Nat) then
 bif vr (2:Nat)==vr (2:Nat)&&true then
 some ((.normal,x8 (llV X n
 none) vf fr vm md i y b w (idL th) (psL ps) (.reg [.int .u8 (IntKind.u8.wrap (IntKind.i64.wrap (Int.ofNat y+1))),.int .i64 (.ofNat (rw (2:Nat)).length)]),h8 vr rw vf fr vm md))
 else none else
 bif 0+y==(1:Nat) then
 bif vr (1:Nat)==vr (1:Nat)&&true then
 some ((.normal,x8 (llV X n
 none) vf fr vm md i y b w (idL th) (psL ps) (.reg [.int .u8 (IntKind.u8.wrap (IntKind.i64.wrap (Int.ofNat y+1))),.int .i64 (.ofNat (rw (1:Nat)).length)]),h8 vr rw vf fr vm md))
 else none else
 bif vr (0:Nat)==vr (0:Nat)&&true then
 some ((.normal,x8 (llV X n
 none) vf fr vm md i y b w (idL th) (psL ps) (.reg [.int .u8 (IntKind.u8.wrap (IntKind.i64.wrap (Int.ofNat y+1))),.int .i64 (.ofNat (rw (0:Nat)).length)]),h8 vr rw vf fr vm md))
 else none else
 none):=by kernel_rfl
theorem g8q0 (X:Nat->Ll) (n i:Nat) (vr:Nat->Nat) (rw:Nat->List Lpp) (vf vm:Nat) (fr md:List Idd) (b:Int) (w:Bool) (th:List Idd) (ps:List Pss) (a:Idd):codeL P05 G05 A05 noneO 0 8 [] (nav (1 :: 2 :: R8)) [0,4,5,6,7,8,9,14] (x8 (llV X n none) vf fr vm md i 0 b w (idL th) (psL ps) (.reg a.c)) (h8 vr rw vf fr vm md) [0,4,5,6,7,14] =
(
 bif vr (0:Nat)==vr (0:Nat)&&true then
 bif ((0:Nat)+(rw (0:Nat)).length).ble (rw (0:Nat)).length then
 bif (((rw (0:Nat)).length+(1:Nat)) * (57:Nat)).ble 70368744177664 then
 bif ((0:Nat)+(rw (0:Nat)).length+(1:Nat)).ble (rw (0:Nat)).length then
 some ((.normal,y8 (llV X n
 none) vf fr vm md i (.reg a.c),[.mk 0 1 6 (fun e=>[bif e==(0:Nat) then .own 3 (vr (0:Nat)) (0:Nat) ((rw (0:Nat)).length+1) none else .own (3+e) (vr e) (0:Nat) (rw e).length
 none]) false true
 none,idB vf fr,idB vm md,.mk (vr (0:Nat)) (4:Nat) (rw (0:Nat)).length (fun j =>
 bif ((0:Nat)+(rw (0:Nat)).length).ble j&&j.blt ((0:Nat)+(rw (0:Nat)).length+1) then [[T.int .u8 b,T.bool w,idL th,psL ps]].getD ((0:Nat)+(j - ((0:Nat)+(rw (0:Nat)).length))) []
 else ((rw (0:Nat)).getD j (Lpp.mk (0:Int) false (fun x=>Idd.mk (0:Int) (0:Int)) (0:Nat) (fun x=>Pss.mk (0:Int) (0:Int) false (0:Int)) (0:Nat))).c) false false
 none,rowB (vr (1:Nat)) (rw (1:Nat)),rowB (vr (2:Nat)) (rw (2:Nat)),rowB (vr (3:Nat)) (rw (3:Nat)),rowB (vr (4:Nat)) (rw (4:Nat)),rowB (vr (5:Nat)) (rw (5:Nat)),.mk 0 4 1 (fun j=>[[T.int .u8 b,T.bool w,idL th,psL ps]].getD j []) false true
 none]))
 else
 some ((.normal,y8 (llV X n
 none) vf fr vm md i (.reg a.c),[.mk 0 1 6 (fun e=>[bif e==(0:Nat) then .own 3 (vr (0:Nat)+(1:Nat)) (0:Nat) ((rw (0:Nat)).length+1) none else .own (3+e) (vr e) (0:Nat) (rw e).length
 none]) false true
 none,idB vf fr,idB vm md,.mk (vr (0:Nat)+(1:Nat)) (4:Nat) ((rw (0:Nat)).length+1) (fun j =>
 bif j.blt (rw (0:Nat)).length then ((rw (0:Nat)).getD ((0:Nat)+j) (Lpp.mk (0:Int) false (fun x=>Idd.mk (0:Int) (0:Int)) (0:Nat) (fun x=>Pss.mk (0:Int) (0:Int) false (0:Int)) (0:Nat))).c
 else [[T.int .u8 b,T.bool w,idL th,psL ps]].getD ((0:Nat)+(j - (rw (0:Nat)).length)) []) false false
 none,rowB (vr (1:Nat)) (rw (1:Nat)),rowB (vr (2:Nat)) (rw (2:Nat)),rowB (vr (3:Nat)) (rw (3:Nat)),rowB (vr (4:Nat)) (rw (4:Nat)),rowB (vr (5:Nat)) (rw (5:Nat)),.mk 0 4 1 (fun j=>[[T.int .u8 b,T.bool w,idL th,psL ps]].getD j []) false true
 none]))
 else none else none else
 none):=by kernel_rfl
theorem g8q1 (X:Nat->Ll) (n i:Nat) (vr:Nat->Nat) (rw:Nat->List Lpp) (vf vm:Nat) (fr md:List Idd) (b:Int) (w:Bool) (th:List Idd) (ps:List Pss) (a:Idd):codeL P05 G05 A05 noneO 0 8 [] (nav (1 :: 2 :: R8)) [0,4,5,6,7,8,9,14] (x8 (llV X n none) vf fr vm md i 1 b w (idL th) (psL ps) (.reg a.c)) (h8 vr rw vf fr vm md) [0,4,5,6,7,14] =
(
 bif vr (1:Nat)==vr (1:Nat)&&true then
 bif ((0:Nat)+(rw (1:Nat)).length).ble (rw (1:Nat)).length then
 bif (((rw (1:Nat)).length+(1:Nat)) * (57:Nat)).ble 70368744177664 then
 bif ((0:Nat)+(rw (1:Nat)).length+(1:Nat)).ble (rw (1:Nat)).length then
 some ((.normal,y8 (llV X n
 none) vf fr vm md i (.reg a.c),[.mk 0 1 6 (fun e=>[bif e==(1:Nat) then .own 4 (vr (1:Nat)) (0:Nat) ((rw (1:Nat)).length+1) none else .own (3+e) (vr e) (0:Nat) (rw e).length
 none]) false true
 none,idB vf fr,idB vm md,rowB (vr (0:Nat)) (rw (0:Nat)),.mk (vr (1:Nat)) (4:Nat) (rw (1:Nat)).length (fun j =>
 bif ((0:Nat)+(rw (1:Nat)).length).ble j&&j.blt ((0:Nat)+(rw (1:Nat)).length+1) then [[T.int .u8 b,T.bool w,idL th,psL ps]].getD ((0:Nat)+(j - ((0:Nat)+(rw (1:Nat)).length))) []
 else ((rw (1:Nat)).getD j (Lpp.mk (0:Int) false (fun x=>Idd.mk (0:Int) (0:Int)) (0:Nat) (fun x=>Pss.mk (0:Int) (0:Int) false (0:Int)) (0:Nat))).c) false false
 none,rowB (vr (2:Nat)) (rw (2:Nat)),rowB (vr (3:Nat)) (rw (3:Nat)),rowB (vr (4:Nat)) (rw (4:Nat)),rowB (vr (5:Nat)) (rw (5:Nat)),.mk 0 4 1 (fun j=>[[T.int .u8 b,T.bool w,idL th,psL ps]].getD j []) false true
 none]))
 else
 some ((.normal,y8 (llV X n
 none) vf fr vm md i (.reg a.c),[.mk 0 1 6 (fun e=>[bif e==(1:Nat) then .own 4 (vr (1:Nat)+(1:Nat)) (0:Nat) ((rw (1:Nat)).length+1) none else .own (3+e) (vr e) (0:Nat) (rw e).length
 none]) false true
 none,idB vf fr,idB vm md,rowB (vr (0:Nat)) (rw (0:Nat)),.mk (vr (1:Nat)+(1:Nat)) (4:Nat) ((rw (1:Nat)).length+1) (fun j =>
 bif j.blt (rw (1:Nat)).length then ((rw (1:Nat)).getD ((0:Nat)+j) (Lpp.mk (0:Int) false (fun x=>Idd.mk (0:Int) (0:Int)) (0:Nat) (fun x=>Pss.mk (0:Int) (0:Int) false (0:Int)) (0:Nat))).c
 else [[T.int .u8 b,T.bool w,idL th,psL ps]].getD ((0:Nat)+(j - (rw (1:Nat)).length)) []) false false
 none,rowB (vr (2:Nat)) (rw (2:Nat)),rowB (vr (3:Nat)) (rw (3:Nat)),rowB (vr (4:Nat)) (rw (4:Nat)),rowB (vr (5:Nat)) (rw (5:Nat)),.mk 0 4 1 (fun j=>[[T.int .u8 b,T.bool w,idL th,psL ps]].getD j []) false true
 none]))
 else none else none else
 none):=by kernel_rfl
theorem g8q2 (X:Nat->Ll) (n i:Nat) (vr:Nat->Nat) (rw:Nat->List Lpp) (vf vm:Nat) (fr md:List Idd) (b:Int) (w:Bool) (th:List Idd) (ps:List Pss) (a:Idd):codeL P05 G05 A05 noneO 0 8 [] (nav (1 :: 2 :: R8)) [0,4,5,6,7,8,9,14] (x8 (llV X n none) vf fr vm md i 2 b w (idL th) (psL ps) (.reg a.c)) (h8 vr rw vf fr vm md) [0,4,5,6,7,14] =
(
 bif vr (2:Nat)==vr (2:Nat)&&true then
 bif ((0:Nat)+(rw (2:Nat)).length).ble (rw (2:Nat)).length then
 bif (((rw (2:Nat)).length+(1:Nat)) * (57:Nat)).ble 70368744177664 then
 bif ((0:Nat)+(rw (2:Nat)).length+(1:Nat)).ble (rw (2:Nat)).length then
 some ((.normal,y8 (llV X n
 none) vf fr vm md i (.reg a.c),[.mk 0 1 6 (fun e=>[bif e==(2:Nat) then .own 5 (vr (2:Nat)) (0:Nat) ((rw (2:Nat)).length+1) none else .own (3+e) (vr e) (0:Nat) (rw e).length
 none]) false true
 none,idB vf fr,idB vm md,rowB (vr (0:Nat)) (rw (0:Nat)),rowB (vr (1:Nat)) (rw (1:Nat)),.mk (vr (2:Nat)) (4:Nat) (rw (2:Nat)).length (fun j =>
 bif ((0:Nat)+(rw (2:Nat)).length).ble j&&j.blt ((0:Nat)+(rw (2:Nat)).length+1) then [[T.int .u8 b,T.bool w,idL th,psL ps]].getD ((0:Nat)+(j - ((0:Nat)+(rw (2:Nat)).length))) []
 else ((rw (2:Nat)).getD j (Lpp.mk (0:Int) false (fun x=>Idd.mk (0:Int) (0:Int)) (0:Nat) (fun x=>Pss.mk (0:Int) (0:Int) false (0:Int)) (0:Nat))).c) false false
 none,rowB (vr (3:Nat)) (rw (3:Nat)),rowB (vr (4:Nat)) (rw (4:Nat)),rowB (vr (5:Nat)) (rw (5:Nat)),.mk 0 4 1 (fun j=>[[T.int .u8 b,T.bool w,idL th,psL ps]].getD j []) false true
 none]))
 else
 some ((.normal,y8 (llV X n
 none) vf fr vm md i (.reg a.c),[.mk 0 1 6 (fun e=>[bif e==(2:Nat) then .own 5 (vr (2:Nat)+(1:Nat)) (0:Nat) ((rw (2:Nat)).length+1) none else .own (3+e) (vr e) (0:Nat) (rw e).length
 none]) false true
 none,idB vf fr,idB vm md,rowB (vr (0:Nat)) (rw (0:Nat)),rowB (vr (1:Nat)) (rw (1:Nat)),.mk (vr (2:Nat)+(1:Nat)) (4:Nat) ((rw (2:Nat)).length+1) (fun j =>
 bif j.blt (rw (2:Nat)).length then ((rw (2:Nat)).getD ((0:Nat)+j) (Lpp.mk (0:Int) false (fun x=>Idd.mk (0:Int) (0:Int)) (0:Nat) (fun x=>Pss.mk (0:Int) (0:Int) false (0:Int)) (0:Nat))).c
 else [[T.int .u8 b,T.bool w,idL th,psL ps]].getD ((0:Nat)+(j - (rw (2:Nat)).length)) []) false false
 none,rowB (vr (3:Nat)) (rw (3:Nat)),rowB (vr (4:Nat)) (rw (4:Nat)),rowB (vr (5:Nat)) (rw (5:Nat)),.mk 0 4 1 (fun j=>[[T.int .u8 b,T.bool w,idL th,psL ps]].getD j []) false true
 none]))
 else none else none else
 none):=by kernel_rfl
theorem g8q3 (X:Nat->Ll) (n i:Nat) (vr:Nat->Nat) (rw:Nat->List Lpp) (vf vm:Nat) (fr md:List Idd) (b:Int) (w:Bool) (th:List Idd) (ps:List Pss) (a:Idd):codeL P05 G05 A05 noneO 0 8 [] (nav (1 :: 2 :: R8)) [0,4,5,6,7,8,9,14] (x8 (llV X n none) vf fr vm md i 3 b w (idL th) (psL ps) (.reg a.c)) (h8 vr rw vf fr vm md) [0,4,5,6,7,14] =
(
 bif vr (3:Nat)==vr (3:Nat)&&true then
 bif ((0:Nat)+(rw (3:Nat)).length).ble (rw (3:Nat)).length then
 bif (((rw (3:Nat)).length+(1:Nat)) * (57:Nat)).ble 70368744177664 then
 bif ((0:Nat)+(rw (3:Nat)).length+(1:Nat)).ble (rw (3:Nat)).length then
 some ((.normal,y8 (llV X n
 none) vf fr vm md i (.reg a.c),[.mk 0 1 6 (fun e=>[bif e==(3:Nat) then .own 6 (vr (3:Nat)) (0:Nat) ((rw (3:Nat)).length+1) none else .own (3+e) (vr e) (0:Nat) (rw e).length
 none]) false true
 none,idB vf fr,idB vm md,rowB (vr (0:Nat)) (rw (0:Nat)),rowB (vr (1:Nat)) (rw (1:Nat)),rowB (vr (2:Nat)) (rw (2:Nat)),.mk (vr (3:Nat)) (4:Nat) (rw (3:Nat)).length (fun j =>
 bif ((0:Nat)+(rw (3:Nat)).length).ble j&&j.blt ((0:Nat)+(rw (3:Nat)).length+1) then [[T.int .u8 b,T.bool w,idL th,psL ps]].getD ((0:Nat)+(j - ((0:Nat)+(rw (3:Nat)).length))) []
 else ((rw (3:Nat)).getD j (Lpp.mk (0:Int) false (fun x=>Idd.mk (0:Int) (0:Int)) (0:Nat) (fun x=>Pss.mk (0:Int) (0:Int) false (0:Int)) (0:Nat))).c) false false
 none,rowB (vr (4:Nat)) (rw (4:Nat)),rowB (vr (5:Nat)) (rw (5:Nat)),.mk 0 4 1 (fun j=>[[T.int .u8 b,T.bool w,idL th,psL ps]].getD j []) false true
 none]))
 else
 some ((.normal,y8 (llV X n
 none) vf fr vm md i (.reg a.c),[.mk 0 1 6 (fun e=>[bif e==(3:Nat) then .own 6 (vr (3:Nat)+(1:Nat)) (0:Nat) ((rw (3:Nat)).length+1) none else .own (3+e) (vr e) (0:Nat) (rw e).length
 none]) false true
 none,idB vf fr,idB vm md,rowB (vr (0:Nat)) (rw (0:Nat)),rowB (vr (1:Nat)) (rw (1:Nat)),rowB (vr (2:Nat)) (rw (2:Nat)),.mk (vr (3:Nat)+(1:Nat)) (4:Nat) ((rw (3:Nat)).length+1) (fun j =>
 bif j.blt (rw (3:Nat)).length then ((rw (3:Nat)).getD ((0:Nat)+j) (Lpp.mk (0:Int) false (fun x=>Idd.mk (0:Int) (0:Int)) (0:Nat) (fun x=>Pss.mk (0:Int) (0:Int) false (0:Int)) (0:Nat))).c
 else [[T.int .u8 b,T.bool w,idL th,psL ps]].getD ((0:Nat)+(j - (rw (3:Nat)).length)) []) false false
 none,rowB (vr (4:Nat)) (rw (4:Nat)),rowB (vr (5:Nat)) (rw (5:Nat)),.mk 0 4 1 (fun j=>[[T.int .u8 b,T.bool w,idL th,psL ps]].getD j []) false true
 none]))
 else none else none else
 none):=by kernel_rfl
theorem g8q4 (X:Nat->Ll) (n i:Nat) (vr:Nat->Nat) (rw:Nat->List Lpp) (vf vm:Nat) (fr md:List Idd) (b:Int) (w:Bool) (th:List Idd) (ps:List Pss) (a:Idd):codeL P05 G05 A05 noneO 0 8 [] (nav (1 :: 2 :: R8)) [0,4,5,6,7,8,9,14] (x8 (llV X n none) vf fr vm md i 4 b w (idL th) (psL ps) (.reg a.c)) (h8 vr rw vf fr vm md) [0,4,5,6,7,14] =
(
 bif vr (4:Nat)==vr (4:Nat)&&true then
 bif ((0:Nat)+(rw (4:Nat)).length).ble (rw (4:Nat)).length then
 bif (((rw (4:Nat)).length+(1:Nat)) * (57:Nat)).ble 70368744177664 then
 bif ((0:Nat)+(rw (4:Nat)).length+(1:Nat)).ble (rw (4:Nat)).length then
 some ((.normal,y8 (llV X n
 none) vf fr vm md i (.reg a.c),[.mk 0 1 6 (fun e=>[bif e==(4:Nat) then .own 7 (vr (4:Nat)) (0:Nat) ((rw (4:Nat)).length+1) none else .own (3+e) (vr e) (0:Nat) (rw e).length
 none]) false true
 none,idB vf fr,idB vm md,rowB (vr (0:Nat)) (rw (0:Nat)),rowB (vr (1:Nat)) (rw (1:Nat)),rowB (vr (2:Nat)) (rw (2:Nat)),rowB (vr (3:Nat)) (rw (3:Nat)),.mk (vr (4:Nat)) (4:Nat) (rw (4:Nat)).length (fun j =>
 bif ((0:Nat)+(rw (4:Nat)).length).ble j&&j.blt ((0:Nat)+(rw (4:Nat)).length+1) then [[T.int .u8 b,T.bool w,idL th,psL ps]].getD ((0:Nat)+(j - ((0:Nat)+(rw (4:Nat)).length))) []
 else ((rw (4:Nat)).getD j (Lpp.mk (0:Int) false (fun x=>Idd.mk (0:Int) (0:Int)) (0:Nat) (fun x=>Pss.mk (0:Int) (0:Int) false (0:Int)) (0:Nat))).c) false false
 none,rowB (vr (5:Nat)) (rw (5:Nat)),.mk 0 4 1 (fun j=>[[T.int .u8 b,T.bool w,idL th,psL ps]].getD j []) false true
 none]))
 else
 some ((.normal,y8 (llV X n
 none) vf fr vm md i (.reg a.c),[.mk 0 1 6 (fun e=>[bif e==(4:Nat) then .own 7 (vr (4:Nat)+(1:Nat)) (0:Nat) ((rw (4:Nat)).length+1) none else .own (3+e) (vr e) (0:Nat) (rw e).length
 none]) false true
 none,idB vf fr,idB vm md,rowB (vr (0:Nat)) (rw (0:Nat)),rowB (vr (1:Nat)) (rw (1:Nat)),rowB (vr (2:Nat)) (rw (2:Nat)),rowB (vr (3:Nat)) (rw (3:Nat)),.mk (vr (4:Nat)+(1:Nat)) (4:Nat) ((rw (4:Nat)).length+1) (fun j =>
 bif j.blt (rw (4:Nat)).length then ((rw (4:Nat)).getD ((0:Nat)+j) (Lpp.mk (0:Int) false (fun x=>Idd.mk (0:Int) (0:Int)) (0:Nat) (fun x=>Pss.mk (0:Int) (0:Int) false (0:Int)) (0:Nat))).c
 else [[T.int .u8 b,T.bool w,idL th,psL ps]].getD ((0:Nat)+(j - (rw (4:Nat)).length)) []) false false
 none,rowB (vr (5:Nat)) (rw (5:Nat)),.mk 0 4 1 (fun j=>[[T.int .u8 b,T.bool w,idL th,psL ps]].getD j []) false true
 none]))
 else none else none else
 none):=by kernel_rfl
theorem g8q5 (X:Nat->Ll) (n i:Nat) (vr:Nat->Nat) (rw:Nat->List Lpp) (vf vm:Nat) (fr md:List Idd) (b:Int) (w:Bool) (th:List Idd) (ps:List Pss) (a:Idd):codeL P05 G05 A05 noneO 0 8 [] (nav (1 :: 2 :: R8)) [0,4,5,6,7,8,9,14] (x8 (llV X n none) vf fr vm md i 5 b w (idL th) (psL ps) (.reg a.c)) (h8 vr rw vf fr vm md) [0,4,5,6,7,14] =
(
 bif vr (5:Nat)==vr (5:Nat)&&true then
 bif ((0:Nat)+(rw (5:Nat)).length).ble (rw (5:Nat)).length then
 bif (((rw (5:Nat)).length+(1:Nat)) * (57:Nat)).ble 70368744177664 then
 bif ((0:Nat)+(rw (5:Nat)).length+(1:Nat)).ble (rw (5:Nat)).length then
 some ((.normal,y8 (llV X n
 none) vf fr vm md i (.reg a.c),[.mk 0 1 6 (fun e=>[bif e==(5:Nat) then .own 8 (vr (5:Nat)) (0:Nat) ((rw (5:Nat)).length+1) none else .own (3+e) (vr e) (0:Nat) (rw e).length
 none]) false true
 none,idB vf fr,idB vm md,rowB (vr (0:Nat)) (rw (0:Nat)),rowB (vr (1:Nat)) (rw (1:Nat)),rowB (vr (2:Nat)) (rw (2:Nat)),rowB (vr (3:Nat)) (rw (3:Nat)),rowB (vr (4:Nat)) (rw (4:Nat)),.mk (vr (5:Nat)) (4:Nat) (rw (5:Nat)).length (fun j =>
 bif ((0:Nat)+(rw (5:Nat)).length).ble j&&j.blt ((0:Nat)+(rw (5:Nat)).length+1) then [[T.int .u8 b,T.bool w,idL th,psL ps]].getD ((0:Nat)+(j - ((0:Nat)+(rw (5:Nat)).length))) []
 else ((rw (5:Nat)).getD j (Lpp.mk (0:Int) false (fun x=>Idd.mk (0:Int) (0:Int)) (0:Nat) (fun x=>Pss.mk (0:Int) (0:Int) false (0:Int)) (0:Nat))).c) false false
 none,.mk 0 4 1 (fun j=>[[T.int .u8 b,T.bool w,idL th,psL ps]].getD j []) false true
 none]))
 else
 some ((.normal,y8 (llV X n
 none) vf fr vm md i (.reg a.c),[.mk 0 1 6 (fun e=>[bif e==(5:Nat) then .own 8 (vr (5:Nat)+(1:Nat)) (0:Nat) ((rw (5:Nat)).length+1) none else .own (3+e) (vr e) (0:Nat) (rw e).length
 none]) false true
 none,idB vf fr,idB vm md,rowB (vr (0:Nat)) (rw (0:Nat)),rowB (vr (1:Nat)) (rw (1:Nat)),rowB (vr (2:Nat)) (rw (2:Nat)),rowB (vr (3:Nat)) (rw (3:Nat)),rowB (vr (4:Nat)) (rw (4:Nat)),.mk (vr (5:Nat)+(1:Nat)) (4:Nat) ((rw (5:Nat)).length+1) (fun j =>
 bif j.blt (rw (5:Nat)).length then ((rw (5:Nat)).getD ((0:Nat)+j) (Lpp.mk (0:Int) false (fun x=>Idd.mk (0:Int) (0:Int)) (0:Nat) (fun x=>Pss.mk (0:Int) (0:Int) false (0:Int)) (0:Nat))).c
 else [[T.int .u8 b,T.bool w,idL th,psL ps]].getD ((0:Nat)+(j - (rw (5:Nat)).length)) []) false false
 none,.mk 0 4 1 (fun j=>[[T.int .u8 b,T.bool w,idL th,psL ps]].getD j []) false true
 none]))
 else none else none else
 none):=by kernel_rfl
theorem g8r (X:Nat->Ll) (n i:Nat) (vr:Nat->Nat) (rw:Nat->List Lpp) (vf vm:Nat) (fr md:List Idd) (a:Idd):codeL P05 G05 A05 noneO 0 8 [] (nav (1 :: 2 :: 2 :: R8)) [0,4,5,6,7,14] (y8 (llV X n none) vf fr vm md i (.reg a.c)) (h8 vr rw vf fr vm md) [0,4,5,6,7,14] =
(
 bif vf==vf&&true then
 bif ((0:Nat)+fr.length).ble fr.length then
 bif ((fr.length+(1:Nat)) * (17:Nat)).ble 70368744177664 then
 bif ((0:Nat)+fr.length+(1:Nat)).ble fr.length then
 some ((.normal,[llV X n
 none,.own 0 0 0 6 (some 6),.own 1 vf 0 (fr.length+1)
 none,.own 2 vm 0 md.length
 none,.int .i64 (.ofNat i),.reg a.c],[tbB vr rw,.mk vf 2 fr.length (fun j =>
 bif ((0:Nat)+fr.length).ble j&&j.blt (0+fr.length+1) then [a.c].getD ((0:Nat)+(j - (0+fr.length))) []
 else (fr.getD j (Idd.mk (0:Int) (0:Int))).c) true false
 none,idB vm md,rowB (vr (0:Nat)) (rw (0:Nat)),rowB (vr (1:Nat)) (rw (1:Nat)),rowB (vr (2:Nat)) (rw (2:Nat)),rowB (vr (3:Nat)) (rw (3:Nat)),rowB (vr (4:Nat)) (rw (4:Nat)),rowB (vr (5:Nat)) (rw (5:Nat)),tmpI a]))
 else
 some ((.normal,[llV X n
 none,.own 0 0 0 6 (some 6),.own 1 (vf+1) (0:Nat) (fr.length+1)
 none,.own 2 vm 0 md.length
 none,.int .i64 (.ofNat i),.reg a.c],[tbB vr rw,.mk (vf+1) (2:Nat) (fr.length+1) (fun j =>
 bif j.blt fr.length then (fr.getD ((0:Nat)+j) (Idd.mk (0:Int) (0:Int))).c
 else [a.c].getD ((0:Nat)+(j - fr.length)) []) true false
 none,idB vm md,rowB (vr (0:Nat)) (rw (0:Nat)),rowB (vr (1:Nat)) (rw (1:Nat)),rowB (vr (2:Nat)) (rw (2:Nat)),rowB (vr (3:Nat)) (rw (3:Nat)),rowB (vr (4:Nat)) (rw (4:Nat)),rowB (vr (5:Nat)) (rw (5:Nat)),tmpI a]))
 else none else none else
 none):=by kernel_rfl
theorem g8s (X:Nat->Ll) (n i:Nat) (vr:Nat->Nat) (rw:Nat->List Lpp) (vf vm:Nat) (fr md:List Idd) (a:Idd):codeL P05 G05 A05 noneO 0 8 [] (nav (2 :: 2 :: 2 :: R8)) [0,4,5,6,7,14] (y8 (llV X n none) vf fr vm md i (.reg a.c)) (h8 vr rw vf fr vm md) [0,4,5,6,7] =
(
 bif vm==vm&&true then
 bif ((0:Nat)+md.length).ble md.length then
 bif ((md.length+(1:Nat)) * (17:Nat)).ble 70368744177664 then
 bif ((0:Nat)+md.length+(1:Nat)).ble md.length then
 some ((.normal,[llV X n
 none,.own 0 0 0 6 (some 6),.own 1 vf 0 fr.length
 none,.own 2 vm 0 (md.length+1)
 none,.int .i64 (.ofNat i)],[tbB vr rw,idB vf fr,.mk vm 2 md.length (fun j =>
 bif ((0:Nat)+md.length).ble j&&j.blt (0+md.length+1) then [a.c].getD ((0:Nat)+(j - (0+md.length))) []
 else (md.getD j (Idd.mk (0:Int) (0:Int))).c) true false
 none,rowB (vr (0:Nat)) (rw (0:Nat)),rowB (vr (1:Nat)) (rw (1:Nat)),rowB (vr (2:Nat)) (rw (2:Nat)),rowB (vr (3:Nat)) (rw (3:Nat)),rowB (vr (4:Nat)) (rw (4:Nat)),rowB (vr (5:Nat)) (rw (5:Nat)),tmpI a]))
 else
 some ((.normal,[llV X n
 none,.own 0 0 0 6 (some 6),.own 1 vf 0 fr.length
 none,.own 2 (vm+1) (0:Nat) (md.length+1)
 none,.int .i64 (.ofNat i)],[tbB vr rw,idB vf fr,.mk (vm+1) (2:Nat) (md.length+1) (fun j =>
 bif j.blt md.length then (md.getD ((0:Nat)+j) (Idd.mk (0:Int) (0:Int))).c
 else [a.c].getD ((0:Nat)+(j - md.length)) []) true false
 none,rowB (vr (0:Nat)) (rw (0:Nat)),rowB (vr (1:Nat)) (rw (1:Nat)),rowB (vr (2:Nat)) (rw (2:Nat)),rowB (vr (3:Nat)) (rw (3:Nat)),rowB (vr (4:Nat)) (rw (4:Nat)),rowB (vr (5:Nat)) (rw (5:Nat)),tmpI a]))
 else none else none else
 none):=by kernel_rfl
end
open Go.Proofs
structure Ll.Ok (l:Ll):Prop where
 y:0<=l.y/\l.y<256
 th:∀ j,0<=l.th j/\l.th j<256
 ps:∀ j,0<=l.ps j/\l.ps j<256
def thF (g:Nat->Int) (fr:List Idd):Nat->List Idd × List Idd
 | 0=>([],fr)
 | k+1=>if (thF g fr k).2 = [] then thF g fr k else
  ((thF g fr k).1 ++ [(thF g fr k).2.getD ((g k).toNat % (thF g fr k).2.length) id0],
    (thF g fr k).2.take ((g k).toNat % (thF g fr k).2.length) ++ (thF g fr k).2.drop ((g k).toNat % (thF g fr k).2.length+1))
theorem thF_stuck {g:Nat->Int} {fr:List Idd} {k:Nat} (h:(thF g fr k).2 = []):∀ m,k<=m->thF g fr m = thF g fr k
 | 0,hm=>by obtain rfl:k = 0:=by omega
            rfl
 | m+1,hm=>by
  rcases Nat.lt_or_ge m k with q | q
  ·obtain rfl:k = m+1:=by omega
   rfl
  ·have ih:=thF_stuck h m q
   simp only [thF]
   rw [ih,if_pos h]
theorem thF_len (g:Nat->Int) (fr:List Idd):∀ k,(thF g fr k).1.length<=k/\(thF g fr k).2.length<=fr.length
 | 0=>⟨Nat.le_refl _,Nat.le_refl _⟩
 | k+1=>by
  obtain ⟨h1,h2⟩:=thF_len g fr k
  simp only [thF]
  split
  ·exact ⟨by omega,h2⟩
  ·simp only [List.length_append,List.length_singleton,List.length_take,List.length_drop]
   exact ⟨by omega,by omega⟩
abbrev P8:=Pz P05 G05 A05 8 []
abbrev W8:=Wk G05 A05 8 0
theorem run8 {p l l1:List Nat} {vs v1:List T} {h h1:Heap} {e:Ex} (hk:codeL P05 G05 A05 noneO 0 8 [] (nav p) l vs h l1 = some (e,v1,h1)):P8 p l vs h e l1 v1 h1 :=
 Pz.run hm05 none_ok (by kernel_rfl) loops0 hk
theorem run8W {p l l1:List Nat} {vs v1 v2:List T} {h h1 h2:Heap} {e:Ex} {x:Option (Ex × List T × Heap)} (hk:codeL P05 G05 A05 noneO 0 8 [] (nav p) l vs h l1 = x) (hx:x = some (e,v1,h1)) (w:W8 l1 v1 h1 v2 h2):P8 p l vs h e l1 v2 h2 :=
 Pz.post (run8 (hk.trans hx)) w
theorem dec0 {k:Nat}:decide (Int.ofNat k = (0:Int)) = decide (k = 0):=decide_eq_decide.2 (by show (k:Int) = 0 ↔ _; omega)
theorem tmodN {a:Int} (h:0<=a) (n:Nat):a.tmod (Int.ofNat n) = Int.ofNat (a.toNat % n):=by
 rw [Int.tmod_eq_emod_of_nonneg h]
 have:a = (a.toNat:Int):=by omega
 rw [this]
 simp
section
variable {σ:List Nat} {H h h2:Heap}
theorem sbT {vr:Nat->Nat} {rw:Nat->List Lpp} (h0:∀ e,e<6->posOf σ (3+e) = some (3+e)) (hs:SameBlks h h2):SameBlks (renB σ H (tbB vr rw) :: h) (tbB vr rw :: h2):=by
 refine .cons ⟨rfl,rfl,rfl,id,fun j hj=>?_⟩ hs
 show _ = [ren0 σ H (.own (3+j) (vr j) 0 (rw j).length none)]
 simp only [ren0,h0 j hj]
 rfl
theorem sbI {v:Nat} {l:List Idd} (hs:SameBlks h h2):SameBlks (renB σ H (idB v l) :: h) (idB v l :: h2):=.cons ⟨rfl,rfl,rfl,id,fun _ _=>rfl⟩ hs
theorem sbR {v:Nat} {l:List Lpp} (hs:SameBlks h h2):SameBlks (renB σ H (rowB v l) :: h) (rowB v l :: h2):=.cons ⟨rfl,rfl,rfl,id,fun _ _=>rfl⟩ hs
theorem sbRs {vr:Nat->Nat} {rw:Nat->List Lpp} (hs:SameBlks h h2):SameBlks (renB σ H (rowB (vr 0) (rw 0)) :: renB σ H (rowB (vr 1) (rw 1)) :: renB σ H (rowB (vr 2) (rw 2)) :: renB σ H (rowB (vr 3) (rw 3)) :: renB σ H (rowB (vr 4) (rw 4)) :: renB σ H (rowB (vr 5) (rw 5)) :: h)
 (rowB (vr 0) (rw 0) :: rowB (vr 1) (rw 1) :: rowB (vr 2) (rw 2) :: rowB (vr 3) (rw 3) :: rowB (vr 4) (rw 4) :: rowB (vr 5) (rw 5) :: h2):=sbR (sbR (sbR (sbR (sbR (sbR hs)))))
theorem six {p:Nat->Prop} (h0:p 0) (h1:p 1) (h2:p 2) (h3:p 3) (h4:p 4) (h5:p 5):∀ e,e<6->p e:=by
 intro e he
 obtain rfl | rfl | rfl | rfl | rfl | rfl:e = 0 ∨ e = 1 ∨ e = 2 ∨ e = 3 ∨ e = 4 ∨ e = 5:=by omega
 all_goals assumption
theorem app_idB {l:List Idd} {x:Idd} (j:Nat) (hj:j<l.length+1):((l ++ [x]).getD j id0).c = (bif Nat.blt j l.length then (l.getD (0+j) id0).c else [x.c].getD (0+(j - l.length)) []) :=
 app_get (enc:=Idd.c) (g2:=fun k=>[x.c].getD (0+k) []) rfl hj
theorem app_psB {l:List Pss} {x:Pss} (j:Nat) (hj:j<l.length+1):((l ++ [x]).getD j ps0).c = (bif Nat.blt j l.length then (l.getD (0+j) ps0).c else [x.c].getD (0+(j - l.length)) []) :=
 app_get (enc:=Pss.c) (g2:=fun k=>[x.c].getD (0+k) []) rfl hj
theorem app_rowB {l:List Lpp} {x:Lpp} (j:Nat) (hj:j<l.length+1):((l ++ [x]).getD j lp0).c = (bif Nat.blt j l.length then (l.getD (0+j) lp0).c else [x.c].getD (0+(j - l.length)) []) :=
 app_get (enc:=Lpp.c) (g2:=fun k=>[x.c].getD (0+k) []) rfl hj
end
section
variable {X:Nat->Ll} {n i y:Nat} {vr:Nat->Nat} {rw:Nat->List Lpp} {vf vm:Nat} {fr md:List Idd}
theorem p8a (h1:i<n) (h2:i<60):P8 (1 :: LB8) [0,4,5,6,7] (v8 (llV X n none) vf fr vm md i) (h8 vr rw vf fr vm md) .normal [0,4,5,6,7] (v8 (llV X n none) vf fr vm md i) (h8 vr rw vf fr vm md):=by
 refine run8 ?_
 rw [g8a]
 exact BT (BT rfl)
theorem p8a' (h1:¬ (i<n/\i<60)):P8 (1 :: LB8) [0,4,5,6,7] (v8 (llV X n none) vf fr vm md i) (h8 vr rw vf fr vm md) (.exit 0) [0,4,5,6,7] (v8 (llV X n none) vf fr vm md i) (h8 vr rw vf fr vm md):=by
 refine run8 ?_
 rw [g8a]
 by_cases q:i<n
 ·exact BT (BF rfl)
 ·exact BF rfl
theorem p8b (h1:i<n) (hX:(X i).Ok):P8 (1 :: B8) [0,4,5,6,7] (v8 (llV X n none) vf fr vm md i) (h8 vr rw vf fr vm md) .normal [0,4,5,6,7,8] (u8 (llV X n none) vf fr vm md i ((X i).y.toNat % 6)) (h8 vr rw vf fr vm md):=by
 refine run8 ?_
 have:=hX.y
 have e:=tmodN (a:=(X i).y) (by omega) 6
 have e2:IntKind.i64.wrap ((X i).y.tmod 6) = Int.ofNat ((X i).y.toNat % 6):=by
  rw [show (6:Int) = Int.ofNat 6 from rfl,e]
  exact wr64 (by show (-9223372036854775808:Int)<=(((X i).y.toNat % 6:Nat):Int); omega) (by show (((X i).y.toNat % 6:Nat):Int)<=9223372036854775807; omega)
 rw [g8b,e2]
 exact BT rfl
theorem p8c (h1:i<n) (hy:y<6):P8 (1 :: 2 :: B8) [0,4,5,6,7,8] (u8 (llV X n none) vf fr vm md i y) (h8 vr rw vf fr vm md) .normal [0,4,5,6,7,8,9] (w8 (llV X n none) vf fr vm md i y 0 ((X i).w || decide ((rw y).length = 0)) .nils .nils) (h8 vr rw vf fr vm md):=by
 refine run8 ?_
 rw [g8c]
 refine BT ?_
 cases hw:(X i).w
 ·rw [cond_false,Bool.false_or]
  refine BT ?_
  obtain rfl | rfl | rfl | rfl | rfl | rfl:y = 0 ∨ y = 1 ∨ y = 2 ∨ y = 3 ∨ y = 4 ∨ y = 5:=by omega
  all_goals
   repeat (first | refine BT ?_ (by decide) | refine BF ?_ (by decide) | refine BT ?_ (by rw [beq_self_eq_true]; rfl) | fail)
   rw [dec0]
   generalize decide (List.length _ = 0) = d
   cases d <;> rfl
 ·rw [Bool.true_or]; rfl
theorem p8d {w:Bool} (h1:i<n):P8 (1 :: 2 :: 2 :: B8) [0,4,5,6,7,8,9] (w8 (llV X n none) vf fr vm md i y 0 w .nils .nils) (h8 vr rw vf fr vm md) .normal [0,4,5,6,7,8,9] (w8 (llV X n none) vf fr vm md i y (if (X i).b = true then 1 else 0) w .nils .nils) (h8 vr rw vf fr vm md):=by
 refine run8 ?_
 rw [g8d]
 refine BT ?_
 cases (X i).b <;> rfl
theorem w8e {b:Int} {w:Bool}:W8 [0,4,5,6,7,8,9,10] (x8 (llV X n none) vf fr vm md i y b w .nils .nils (.int .i64 0)) (h8 vr rw vf fr vm md) (x8 (llV X n none) vf fr vm md i y b w (.own 9 0 0 0 none) .nils (.int .i64 0)) (h9 vr rw vf fr vm md (idB 0 [])):=fun nt=>by
 refine WeakTo.ghost [idB 0 []] (by simp [idB]) rfl (fun k x z hx hz=>?_) (NilBs.refl _)
 rcases k with _ | _ | _ | _ | _ | _ | _ | _ | k <;> simp only [x8,List.getElem?_cons_zero,List.getElem?_cons_succ,List.getElem?_nil,Option.some.injEq,reduceCtorEq] at hx hz
 case succ.succ.succ.succ.succ.succ.zero =>
  subst hx hz
  exact .reg (.cons (.refl _) (.cons (.refl _) (.cons (NilT.own (b:=idB 0 []) (show 9<=9 from Nat.le_refl 9) rfl rfl) (.refl _))))
 all_goals (subst hx; subst hz; exact .refl _)
theorem p8e {b:Int} {w:Bool}:P8 (1 :: C8) [0,4,5,6,7,8,9] (w8 (llV X n none) vf fr vm md i y b w .nils .nils) (h8 vr rw vf fr vm md) .normal [0,4,5,6,7,8,9,10] (x8 (llV X n none) vf fr vm md i y b w (.own 9 0 0 0 none) .nils (.int .i64 0)) (h9 vr rw vf fr vm md (idB 0 [])) :=
 Pz.post (run8 (v1:=x8 (llV X n none) vf fr vm md i y b w .nils .nils (.int .i64 0)) (h1:=h8 vr rw vf fr vm md) (by rw [g8e]) ) w8e
section
variable {b:Int} {w:Bool} {th:List Idd} {vt k:Nat}
theorem p8f (h1:i<n) (h2:k<(X i).nt) (h3:k<4) (h4:fr ≠ []):P8 (1 :: LC8) [0,4,5,6,7,8,9,10] (x8 (llV X n none) vf fr vm md i y b w (.own 9 vt 0 th.length none) .nils (.int .i64 k)) (h9 vr rw vf fr vm md (idB vt th)) .normal [0,4,5,6,7,8,9,10] (x8 (llV X n none) vf fr vm md i y b w (.own 9 vt 0 th.length none) .nils (.int .i64 k)) (h9 vr rw vf fr vm md (idB vt th)):=by
 refine run8 ?_
 have:=List.length_pos_iff.2 h4
 rw [g8f]
 refine BT (BT (BT (BT (BT rfl) (by simp))))
theorem p8f' (h1:i<n) (h2:¬ (k<(X i).nt/\k<4/\fr ≠ [])):P8 (1 :: LC8) [0,4,5,6,7,8,9,10] (x8 (llV X n none) vf fr vm md i y b w (.own 9 vt 0 th.length none) .nils (.int .i64 k)) (h9 vr rw vf fr vm md (idB vt th)) (.exit 2) [0,4,5,6,7,8,9,10] (x8 (llV X n none) vf fr vm md i y b w (.own 9 vt 0 th.length none) .nils (.int .i64 k)) (h9 vr rw vf fr vm md (idB vt th)):=by
 refine run8 ?_
 rw [g8f]
 refine BT ?_
 by_cases q1:k<(X i).nt
 ·by_cases q2:k<4
  ·have q3:fr = []:=Classical.byContradiction fun q=>h2 ⟨q1,q2,q⟩
   subst q3
   exact BT (BT (BT rfl (by simp)))
  ·exact BT (BF rfl)
 ·exact BF rfl
theorem p8g (h1:i<n) (h2:k<(X i).nt) (h4:fr ≠ []) (hX:(X i).Ok):P8 (1 :: D8) [0,4,5,6,7,8,9,10] (x8 (llV X n none) vf fr vm md i y b w (.own 9 vt 0 th.length none) .nils (.int .i64 k)) (h9 vr rw vf fr vm md (idB vt th)) .normal [0,4,5,6,7,8,9,10,11] (z8 (llV X n none) vf fr vm md i y b w (.own 9 vt 0 th.length none) .nils (.int .i64 k) (.int .i64 (((X i).th k).toNat % fr.length:Nat))) (h9 vr rw vf fr vm md (idB vt th)):=by
 refine run8 ?_
 have:=List.length_pos_iff.2 h4
 have:=hX.th k
 rw [g8g,wr64 (x:=(X i).th k) (by omega) (by omega),tmodN (by omega)]
 refine BT (BT (BT (BF rfl) (by simp)))
theorem p8h {q:Nat} (hq:q<fr.length) (ht:th.length<=1000):P8 (1 :: 2 :: D8) [0,4,5,6,7,8,9,10,11] (z8 (llV X n none) vf fr vm md i y b w (.own 9 vt 0 th.length none) .nils (.int .i64 k) (.int .i64 q)) (h9 vr rw vf fr vm md (idB vt th)) .normal [0,4,5,6,7,8,9,10,11]
 (z8 (llV X n none) vf fr vm md i y b w (.own 9 (vt+1) 0 (th ++ [fr.getD q id0]).length none) .nils (.int .i64 k) (.int .i64 q)) (h9 vr rw vf fr vm md (idB (vt+1) (th ++ [fr.getD q id0]))):=by
 apply run8W
 ·apply g8h
 ·exact BT (BT (BT (BT (BT (BT (BT (BF rfl))) (by simp))) (by simp))) (by simp)
 ·intro nt
  refine WeakTo.canonS [0,1,2,3,4,5,6,7,8,9] rfl ?_ rfl (sbT (six rfl rfl rfl rfl rfl rfl) (sbI (sbI (sbRs (.cons ⟨rfl,rfl,?_,id,fun j hj=>?_⟩ .nil)))))
  ·rw [List.length_append]; rfl
  ·show (th ++ [_]).length = _
   rw [List.length_append]; rfl
  ·have hj':j<th.length+1:=hj
   rw [Nat.zero_add q]
   exact app_idB j hj'
end
end
open Go.Proofs
theorem era_len {l:List Idd} {q:Nat} (hq:q<l.length):(l.take q ++ l.drop (q+1)).length = q+(l.length - (q+1)):=by
 simp only [List.length_append,List.length_take,List.length_drop]; omega
theorem era_get {l:List Idd} {q:Nat} (hq:q<l.length) (j:Nat):(l.take q ++ l.drop (q+1)).getD j id0 = if j<q then l.getD j id0 else l.getD (q+1+(j - q)) id0:=by
 have e:(l.take q).length = q:=by rw [List.length_take]; omega
 rw [List.getD_eq_getElem?_getD,List.getD_eq_getElem?_getD,List.getD_eq_getElem?_getD,List.getElem?_append]
 by_cases h:j<q
 ·rw [if_pos (by omega),if_pos h,List.getElem?_take,if_pos h]
 ·rw [if_neg (by omega),if_neg h,e,List.getElem?_drop]
section
variable {X:Nat->Ll} {n i y:Nat} {vr:Nat->Nat} {rw:Nat->List Lpp} {vf vm:Nat} {fr md:List Idd} {b:Int} {w:Bool} {th:List Idd} {vt k:Nat}
theorem p8i {q:Nat} (hq:q<fr.length) (hf:fr.length<=1000):∃ vf',P8 (2 :: 2 :: D8) [0,4,5,6,7,8,9,10,11] (z8 (llV X n none) vf fr vm md i y b w (.own 9 vt 0 th.length none) .nils (.int .i64 k) (.int .i64 q)) (h9 vr rw vf fr vm md (idB vt th)) .normal [0,4,5,6,7,8,9,10]
 (x8 (llV X n none) vf' (fr.take q ++ fr.drop (q+1)) vm md i y b w (.own 9 vt 0 th.length none) .nils (.int .i64 k)) (h9 vr rw vf' (fr.take q ++ fr.drop (q+1)) vm md (idB vt th)):=by
 have hup:IntKind.i64.wrap (Int.ofNat q+1) = Int.ofNat (q+1):=up1 (by omega)
 have htn:(Int.ofNat (q+1)).toNat = q+1:=rfl
 have hle:=era_len hq
 have hge:=era_get hq
 have g:=g8i X n i y vr rw vf vm fr md b w th vt k q
 rw [hup,htn] at g
 generalize fr.take q ++ fr.drop (q+1) = F at hle hge ⊢
 have sb:∀ {v m:Nat} {gg:Nat->List T} {tb:Bool} {σ:List Nat} {H:Heap},m = F.length->(∀ j,j<m->(F.getD j id0).c = gg j)->(∀ e,e<6->posOf σ (3+e) = some (3+e)) →
  SameBlks [renB σ H (tbB vr rw),⟨v,2,m,gg,true,tb,none⟩,renB σ H (idB vm md),renB σ H (rowB (vr 0) (rw 0)),renB σ H (rowB (vr 1) (rw 1)),renB σ H (rowB (vr 2) (rw 2)),renB σ H (rowB (vr 3) (rw 3)),renB σ H (rowB (vr 4) (rw 4)),renB σ H (rowB (vr 5) (rw 5)),renB σ H (idB vt th)]
   (h9 vr rw v F vm md (idB vt th)):=fun hm hg hs=>sbT hs (.cons ⟨rfl,rfl,hm.symm,id,hg⟩ (sbI (sbRs (sbI .nil))))
 by_cases h0:q = 0
 ·subst h0
  by_cases h1:fr.length - (0+1) = 0
  ·refine ⟨0,?_⟩
   apply run8W g
   ·repeat (first | refine BS ?_ | refine BF ?_ | fail)
    rfl
   ·intro nt
    have e0:F = []:=List.length_eq_zero_iff.1 (by omega)
    subst e0
    refine .trans (WeakTo.canonS [0,10,2,3,4,5,6,7,8,9] rfl rfl rfl (sb (tb:=true) rfl (fun j hj=>by simp at hj) (six rfl rfl rfl rfl rfl rfl))) (WeakTo.uncap rfl fun k x z hx hz=>?_)
    rcases k with _ | _ | _ | _ | _ | _ | _ | _ | k <;> simp only [x8,List.map,List.getElem?_cons_zero,List.getElem?_cons_succ,List.getElem?_nil,Option.some.injEq,reduceCtorEq] at hx hz
    case succ.succ.zero =>
     subst hx hz
     exact .inr ⟨1,0,0,0,0,idB 0 [],rfl,rfl,rfl,Nat.le_refl _⟩
    all_goals (subst hx; subst hz; exact .refl _)
  ·refine ⟨0,?_⟩
   apply run8W g
   ·repeat (first | refine BS ?_ | refine BF ?_ | fail)
    rfl
   ·intro nt
    refine WeakTo.canonS [0,11,2,3,4,5,6,7,8,9] rfl ?_ rfl (sb (by omega) (fun j hj=>?_) (six rfl rfl rfl rfl rfl rfl))
    ·rw [show 0+(fr.length - (0+1)) = F.length by omega]; rfl
    ·rw [hge,if_neg (by omega)]
     show _ = (fr.getD (0+(0+1)+j) _).c
     rw [show 0+1+(j - 0) = 0+(0+1)+j by omega]; rfl
 ·by_cases h1:fr.length - (q+1) = 0
  ·refine ⟨0,?_⟩
   apply run8W g
   ·repeat (first | refine BS ?_ | refine BF ?_ | fail)
    rfl
   ·intro nt
    refine WeakTo.canonS [0,11,2,3,4,5,6,7,8,9] rfl ?_ rfl (sb (by omega) (fun j hj=>?_) (six rfl rfl rfl rfl rfl rfl))
    ·rw [show 0+q = F.length by omega]; rfl
    ·rw [hge,if_pos (by omega)]
     show _ = (fr.getD (0+j) _).c
     rw [Nat.zero_add]; rfl
  ·refine ⟨1,?_⟩
   apply run8W g
   ·repeat (first | refine BS ?_ | refine BF ?_ | fail)
    rfl
   ·intro nt
    refine WeakTo.canonS [0,11,2,3,4,5,6,7,8,9] rfl ?_ rfl (sb (by omega) (fun j hj=>?_) (six rfl rfl rfl rfl rfl rfl))
    ·rw [show 0+q+(fr.length - (q+1)) = F.length by omega]; rfl
    ·rw [hge]
     by_cases hjq:j<q
     ·rw [if_pos hjq,bltT (by omega),Nat.zero_add,Nat.zero_add]; rfl
     ·rw [if_neg hjq,bltF (by omega),cond_false,show q+1+(j - q) = 0+(q+1)+(j - (0+q)) by omega]; rfl
theorem p8j (hk:k<=1000):P8 (2 :: 2 :: LC8) [0,4,5,6,7,8,9,10] (x8 (llV X n none) vf fr vm md i y b w (.own 9 vt 0 th.length none) .nils (.int .i64 k)) (h9 vr rw vf fr vm md (idB vt th)) .normal [0,4,5,6,7,8,9,10] (x8 (llV X n none) vf fr vm md i y b w (.own 9 vt 0 th.length none) .nils (.int .i64 (k+1:Nat))) (h9 vr rw vf fr vm md (idB vt th)):=by
 refine run8 ?_
 rw [g8j,up1 (by omega)]
 rfl
theorem lp8 (h1:i<n) (hX:(X i).Ok) (hf:fr.length<=1000):∃ vf' vt' k':Nat,P8 (2 :: C8) [0,4,5,6,7,8,9,10] (x8 (llV X n none) vf fr vm md i y b w (.own 9 0 0 0 none) .nils (.int .i64 0)) (h9 vr rw vf fr vm md (idB 0 [])) .normal [0,4,5,6,7,8,9,10]
 (x8 (llV X n none) vf' (thF (X i).th fr (min (X i).nt 4)).2 vm md i y b w (.own 9 vt' 0 (thF (X i).th fr (min (X i).nt 4)).1.length none) .nils (.int .i64 k')) (h9 vr rw vf' (thF (X i).th fr (min (X i).nt 4)).2 vm md (idB vt' (thF (X i).th fr (min (X i).nt 4)).1)):=by
 obtain ⟨e,vs',h',⟨vf',vt',k',rfl,rfl,rfl⟩,hg⟩:=Pz.loop (P:=P05) (G:=G05) (A:=A05) (f:=8) (h0:=[]) (p:=0 :: 2 :: C8) (l:=[0,4,5,6,7,8,9,10]) (l1:=[0,4,5,6,7,8,9,10]) (by kernel_rfl)
  (fun m vs h=>∃ k vf' vt',k<=4/\k<=(X i).nt/\m = 4 - k/\vs = x8 (llV X n none) vf' (thF (X i).th fr k).2 vm md i y b w (.own 9 vt' 0 (thF (X i).th fr k).1.length none) .nils (.int .i64 k)/\h = h9 vr rw vf' (thF (X i).th fr k).2 vm md (idB vt' (thF (X i).th fr k).1))
  (fun e vs h=>∃ vf' vt' k':Nat,e = .exit 2/\vs = x8 (llV X n none) vf' (thF (X i).th fr (min (X i).nt 4)).2 vm md i y b w (.own 9 vt' 0 (thF (X i).th fr (min (X i).nt 4)).1.length none) .nils (.int .i64 k')/\h = h9 vr rw vf' (thF (X i).th fr (min (X i).nt 4)).2 vm md (idB vt' (thF (X i).th fr (min (X i).nt 4)).1))
  (fun m vs h hI=>by
   obtain ⟨k,vf',vt',hk4,hkn,rfl,rfl,rfl⟩:=hI
   by_cases hc:k<(X i).nt/\k<4/\(thF (X i).th fr k).2 ≠ []
   ·obtain ⟨c1,c2,c3⟩:=hc
    have hl:=thF_len (X i).th fr k
    have hq:((X i).th k).toNat % (thF (X i).th fr k).2.length<(thF (X i).th fr k).2.length:=Nat.mod_lt _ (List.length_pos_iff.2 c3)
    obtain ⟨vf2,hi⟩:=p8i (X:=X) (n:=n) (i:=i) (y:=y) (vr:=vr) (rw:=rw) (vf:=vf') (vm:=vm) (md:=md) (b:=b) (w:=w) (th:=(thF (X i).th fr k).1 ++ [(thF (X i).th fr k).2.getD (((X i).th k).toNat % (thF (X i).th fr k).2.length) id0]) (vt:=vt'+1) (k:=k) hq (by omega)
    refine .inl ⟨4 - (k+1),_,_,by omega,Pz.seq (by kernel_rfl) (p8f h1 c1 c2 c3) (Pz.seq (by kernel_rfl) (Pz.blk (id:=3) (e:=.normal) (by kernel_rfl) rfl (Pz.seq (by kernel_rfl) (p8g h1 c1 c3 hX) (Pz.seq (by kernel_rfl) (p8h hq (by omega)) hi))) (p8j (by omega))),k+1,vf2,vt'+1,by omega,by omega,rfl,?_,?_⟩
    ·simp only [thF]; rw [if_neg c3]
    ·simp only [thF]; rw [if_neg c3]
   ·have e:thF (X i).th fr (min (X i).nt 4) = thF (X i).th fr k:=by
     by_cases c1:k<(X i).nt
     ·by_cases c2:k<4
      ·exact thF_stuck (Classical.byContradiction fun q=>hc ⟨c1,c2,q⟩) _ (by omega)
      ·rw [show min (X i).nt 4 = k by omega]
     ·rw [show min (X i).nt 4 = k by omega]
    refine .inr ⟨.exit 2,_,_,(by simp),Pz.seqX (by kernel_rfl) (by simp) (p8f' h1 hc),vf',vt',k,rfl,?_,?_⟩
    ·rw [e]
    ·rw [e]) (n:=4) ⟨0,vf,0,by omega,Nat.zero_le _,rfl,rfl,rfl⟩
 exact ⟨vf',vt',k',Pz.blk (id:=2) (e:=.exit 2) (by kernel_rfl) rfl hg⟩
end
open Go.Proofs
def psX (g:Nat->Int) (d:Int) (md:List Idd) (k:Nat):Pss :=
 ⟨(md.getD ((g k).toNat / 2 % md.length) id0).y,(md.getD ((g k).toNat / 2 % md.length) id0).n,decide ((g k).toNat % 2 = 1),d⟩
def psF (g:Nat->Int) (d:Int) (md:List Idd):Nat->List Pss
 | 0=>[]
 | k+1=>if md = [] then [] else psF g d md k ++ [psX g d md k]
theorem psF_len (g:Nat->Int) (d:Int) (md:List Idd):∀ k,(psF g d md k).length<=k
 | 0=>Nat.le_refl _
 | k+1=>by
  have:=psF_len g d md k
  simp only [psF]
  split
  ·simp
  ·simp only [List.length_append,List.length_singleton]; omega
theorem psF_nil (g:Nat->Int) (d:Int):∀ k,psF g d [] k = []
 | 0=>rfl
 | k+1=>by simp [psF]
section
variable {X:Nat->Ll} {n i y:Nat} {vr:Nat->Nat} {rw:Nat->List Lpp} {vf vm:Nat} {fr md:List Idd} {b:Int} {w:Bool} {th:List Idd} {ps:List Pss} {vt k:Nat}
theorem res9i:resolve 4 [0,1,2,3,4,5,6,7,8] (h9 vr rw vf fr vm md (idB vt th)) (.own 9 vt 0 th.length none) = idL th:=by
 have e:resolve 4 [0,1,2,3,4,5,6,7,8] (h9 vr rw vf fr vm md (idB vt th)) (.own 9 vt 0 th.length none) = (bif (true&&(vt==vt&&Nat.ble (0+th.length) th.length)) then T.view 2 th.length (fun j=>(th.getD (0+j) id0).c) none else .undef):=rfl
 rw [e,beq_self_eq_true,bleT (show 0+th.length<=th.length by omega)]
 simp only [Bool.and_self,cond_true,Nat.zero_add]
 rfl
theorem res9p:resolve 4 [0,1,2,3,4,5,6,7,8] (h9 vr rw vf fr vm md (psB vt ps)) (.own 9 vt 0 ps.length none) = psL ps:=by
 have e:resolve 4 [0,1,2,3,4,5,6,7,8] (h9 vr rw vf fr vm md (psB vt ps)) (.own 9 vt 0 ps.length none) = (bif (true&&(vt==vt&&Nat.ble (0+ps.length) ps.length)) then T.view 4 ps.length (fun j=>(ps.getD (0+j) ps0).c) none else .undef):=rfl
 rw [e,beq_self_eq_true,bleT (show 0+ps.length<=ps.length by omega)]
 simp only [Bool.and_self,cond_true,Nat.zero_add]
 rfl
theorem w8t:W8 [0,4,5,6,7,8,9,10] (x8 (llV X n none) vf fr vm md i y b w (.own 9 vt 0 th.length none) .nils (.int .i64 k)) (h9 vr rw vf fr vm md (idB vt th)) (x8 (llV X n none) vf fr vm md i y b w (idL th) .nils (.int .i64 k)) (h8 vr rw vf fr vm md):=fun nt=>by
 refine WeakTo.canonS [0,1,2,3,4,5,6,7,8] rfl ?_ rfl (sbT (six rfl rfl rfl rfl rfl rfl) (sbI (sbI (sbRs .nil))))
 show x8 (llV X n none) vf fr vm md i y b w (resolve 4 [0,1,2,3,4,5,6,7,8] (h9 vr rw vf fr vm md (idB vt th)) (.own 9 vt 0 th.length none)) .nils (.int .i64 k) = _
 rw [res9i]
theorem w8p:W8 [0,4,5,6,7,8,9,12] (x8 (llV X n none) vf fr vm md i y b w (idL th) (.own 9 vt 0 ps.length none) (.int .i64 k)) (h9 vr rw vf fr vm md (psB vt ps)) (x8 (llV X n none) vf fr vm md i y b w (idL th) (psL ps) (.int .i64 k)) (h8 vr rw vf fr vm md):=fun nt=>by
 refine WeakTo.canonS [0,1,2,3,4,5,6,7,8] rfl ?_ rfl (sbT (six rfl rfl rfl rfl rfl rfl) (sbI (sbI (sbRs .nil))))
 show x8 (llV X n none) vf fr vm md i y b w (idL th) (resolve 4 [0,1,2,3,4,5,6,7,8] (h9 vr rw vf fr vm md (psB vt ps)) (.own 9 vt 0 ps.length none)) (.int .i64 k) = _
 rw [res9p]
theorem w8k:W8 [0,4,5,6,7,8,9,12] (x8 (llV X n none) vf fr vm md i y b w (idL th) .nils (.int .i64 0)) (h8 vr rw vf fr vm md) (x8 (llV X n none) vf fr vm md i y b w (idL th) (.own 9 0 0 0 none) (.int .i64 0)) (h9 vr rw vf fr vm md (psB 0 [])):=fun nt=>by
 refine WeakTo.ghost [psB 0 []] (by simp [psB]) rfl (fun k x z hx hz=>?_) (NilBs.refl _)
 rcases k with _ | _ | _ | _ | _ | _ | _ | _ | k <;> simp only [x8,List.getElem?_cons_zero,List.getElem?_cons_succ,List.getElem?_nil,Option.some.injEq,reduceCtorEq] at hx hz
 case succ.succ.succ.succ.succ.succ.zero =>
  subst hx hz
  exact .reg (.cons (.refl _) (.cons (.refl _) (.cons (.refl _) (.cons (NilT.own (b:=psB 0 []) (show 9<=9 from Nat.le_refl 9) rfl rfl) (.refl _)))))
 all_goals (subst hx; subst hz; exact .refl _)
theorem p8k:P8 (1 :: E8) [0,4,5,6,7,8,9,10] (x8 (llV X n none) vf fr vm md i y b w (idL th) .nils (.int .i64 k)) (h8 vr rw vf fr vm md) .normal [0,4,5,6,7,8,9,12] (x8 (llV X n none) vf fr vm md i y b w (idL th) (.own 9 0 0 0 none) (.int .i64 0)) (h9 vr rw vf fr vm md (psB 0 [])) :=
 Pz.post (run8 (v1:=x8 (llV X n none) vf fr vm md i y b w (idL th) .nils (.int .i64 0)) (h1:=h8 vr rw vf fr vm md) (by kernel_rfl)) w8k
theorem p8l (h1:i<n) (h2:k<(X i).np) (h3:k<5) (h4:md ≠ []):P8 (1 :: LE8) [0,4,5,6,7,8,9,12] (x8 (llV X n none) vf fr vm md i y b w (idL th) (.own 9 vt 0 ps.length none) (.int .i64 k)) (h9 vr rw vf fr vm md (psB vt ps)) .normal [0,4,5,6,7,8,9,12] (x8 (llV X n none) vf fr vm md i y b w (idL th) (.own 9 vt 0 ps.length none) (.int .i64 k)) (h9 vr rw vf fr vm md (psB vt ps)):=by
 refine run8 ?_
 have:=List.length_pos_iff.2 h4
 rw [g8l]
 refine BT (BT (BT (BT (BT rfl) (by simp))))
theorem p8l' (h1:i<n) (h2:¬ (k<(X i).np/\k<5/\md ≠ [])):P8 (1 :: LE8) [0,4,5,6,7,8,9,12] (x8 (llV X n none) vf fr vm md i y b w (idL th) (.own 9 vt 0 ps.length none) (.int .i64 k)) (h9 vr rw vf fr vm md (psB vt ps)) (.exit 4) [0,4,5,6,7,8,9,12] (x8 (llV X n none) vf fr vm md i y b w (idL th) (.own 9 vt 0 ps.length none) (.int .i64 k)) (h9 vr rw vf fr vm md (psB vt ps)):=by
 refine run8 ?_
 rw [g8l]
 refine BT ?_
 by_cases q1:k<(X i).np
 ·by_cases q2:k<5
  ·have q3:md = []:=Classical.byContradiction fun q=>h2 ⟨q1,q2,q⟩
   subst q3
   exact BT (BT (BT rfl (by simp)))
  ·exact BT (BF rfl)
 ·exact BF rfl
theorem p8m (h1:i<n) (h2:k<(X i).np):P8 (1 :: F8) [0,4,5,6,7,8,9,12] (x8 (llV X n none) vf fr vm md i y b w (idL th) (.own 9 vt 0 ps.length none) (.int .i64 k)) (h9 vr rw vf fr vm md (psB vt ps)) .normal [0,4,5,6,7,8,9,12,13] (z8 (llV X n none) vf fr vm md i y b w (idL th) (.own 9 vt 0 ps.length none) (.int .i64 k) (.int .u8 ((X i).ps k))) (h9 vr rw vf fr vm md (psB vt ps)):=by
 refine run8 ?_
 rw [g8m]
 exact BT (BT rfl)
theorem p8n (h1:i<n) (h4:md ≠ []) (hOk:(X i).Ok) (hp:ps.length<=1000):P8 (2 :: F8) [0,4,5,6,7,8,9,12,13] (z8 (llV X n none) vf fr vm md i y b w (idL th) (.own 9 vt 0 ps.length none) (.int .i64 k) (.int .u8 ((X i).ps k))) (h9 vr rw vf fr vm md (psB vt ps)) .normal [0,4,5,6,7,8,9,12]
 (x8 (llV X n none) vf fr vm md i y b w (idL th) (.own 9 (vt+1) 0 (ps ++ [psX (X i).ps (((X i).y.toNat / 6 % 2:Nat):Int) md k]).length none) (.int .i64 k)) (h9 vr rw vf fr vm md (psB (vt+1) (ps ++ [psX (X i).ps (((X i).y.toNat / 6 % 2:Nat):Int) md k]))):=by
 have h0:=List.length_pos_iff.2 h4
 have hk:=hOk.ps k
 have hy:=hOk.y
 have g:=g8n X n i y vr rw vf vm fr md b w th ps vt k ((X i).ps k)
 have e1:IntKind.i64.wrap (IntKind.u8.wrap (((X i).ps k).tdiv 2)) = Int.ofNat (((X i).ps k).toNat / 2):=by
  have e:((X i).ps k).tdiv 2 = ((((X i).ps k).toNat / 2:Nat):Int):=by
   rw [Int.tdiv_eq_ediv_of_nonneg hk.1]; omega
  rw [e,wr8 (by omega) (by omega),wr64 (by omega) (by omega)]; rfl
 have e2:(Int.ofNat (((X i).ps k).toNat / 2)).tmod (Int.ofNat md.length) = Int.ofNat (((X i).ps k).toNat / 2 % md.length):=tmodN (Int.natCast_nonneg _) _
 have e3:((X i).ps k).tmod 2 = Int.ofNat (((X i).ps k).toNat % 2):=tmodN hk.1 2
 have e4:(IntKind.u8.wrap ((X i).y.tdiv 6)).tmod 2 = (((X i).y.toNat / 6 % 2:Nat):Int):=by
  have e:(X i).y.tdiv 6 = (((X i).y.toNat / 6:Nat):Int):=by
   rw [Int.tdiv_eq_ediv_of_nonneg hy.1]; omega
  rw [e,wr8 (by omega) (by omega)]
  exact tmodN (Int.natCast_nonneg _) 2
 have e5:decide (Int.ofNat (((X i).ps k).toNat % 2) = (1:Int)) = decide (((X i).ps k).toNat % 2 = 1):=decide_eq_decide.2 (by show ((((X i).ps k).toNat % 2:Nat):Int) = 1 ↔ _; omega)
 rw [e1,e2,e3,e4,e5,show (Int.ofNat (((X i).ps k).toNat / 2 % md.length)).toNat = ((X i).ps k).toNat / 2 % md.length from rfl] at g
 have hq:((X i).ps k).toNat / 2 % md.length<md.length:=Nat.mod_lt _ h0
 have eP:psX (X i).ps (((X i).y.toNat / 6 % 2:Nat):Int) md k = ⟨(md.getD (((X i).ps k).toNat / 2 % md.length) id0).y,(md.getD (((X i).ps k).toNat / 2 % md.length) id0).n,decide (((X i).ps k).toNat % 2 = 1),(((X i).y.toNat / 6 % 2:Nat):Int)⟩:=rfl
 rw [eP]
 clear eP e1 e2 e3 e4 e5
 generalize ((X i).ps k).toNat / 2 % md.length = q at g hq ⊢
 generalize (((X i).y.toNat / 6 % 2:Nat):Int) = d at g ⊢
 generalize decide (((X i).ps k).toNat % 2 = 1) = f at g ⊢
 have fin:∀ {v:List T} {h:Heap},v = x8 (llV X n none) vf fr vm md i y b w (idL th) (.own 9 (vt+1) 0 (ps.length+1) none) (.int .i64 k) →
  h = hX vr rw vf fr vm md ⟨vt+1,4,ps.length+1,fun j=>bif Nat.blt j ps.length then (ps.getD (0+j) ps0).c else [(Pss.mk (md.getD (0+q) id0).y (md.getD (0+q) id0).n f d).c].getD (0+(j - ps.length)) [],true,false,none⟩ ⟨0,4,1,fun j=>[(Pss.mk (md.getD (0+q) id0).y (md.getD (0+q) id0).n f d).c].getD j [],true,true,none⟩ →
  W8 [0,4,5,6,7,8,9,12] v h (x8 (llV X n none) vf fr vm md i y b w (idL th) (.own 9 (vt+1) 0 (ps ++ [Pss.mk (md.getD q id0).y (md.getD q id0).n f d]).length none) (.int .i64 k)) (h9 vr rw vf fr vm md (psB (vt+1) (ps ++ [Pss.mk (md.getD q id0).y (md.getD q id0).n f d]))):=by
  intro v h ev eh nt
  subst ev eh
  refine WeakTo.canonS [0,1,2,3,4,5,6,7,8,9] rfl ?_ rfl (sbT (six rfl rfl rfl rfl rfl rfl) (sbI (sbI (sbRs (.cons ⟨rfl,rfl,?_,id,fun j hj=>?_⟩ .nil)))))
  ·rw [List.length_append]; rfl
  ·show (ps ++ [_]).length = _
   rw [List.length_append]; rfl
  ·have hj':j<ps.length+1:=hj
   rw [Nat.zero_add q]
   exact app_psB j hj'
 cases f
 ·apply run8W g
  ·repeat (first | refine BS ?_ | refine BF ?_ | fail)
   rfl
  ·exact fin rfl rfl
 ·apply run8W g
  ·repeat (first | refine BS ?_ | refine BF ?_ | fail)
   rfl
  ·exact fin rfl rfl
end
open Go.Proofs
def upG {α:Type} (f:Nat->α) (y:Nat) (v:α):Nat->α:=fun e=>if e = y then v else f e
def mkL (b:Int) (w:Bool) (th:List Idd) (ps:List Pss):Lpp:=⟨b,w,fun j=>th.getD j id0,th.length,fun j=>ps.getD j ps0,ps.length⟩
section
variable {X:Nat->Ll} {n i y:Nat} {vr:Nat->Nat} {rw:Nat->List Lpp} {vf vm:Nat} {fr md:List Idd} {b:Int} {w:Bool} {th:List Idd} {ps:List Pss} {vt k:Nat}
theorem p8o (hk:k<=1000):P8 (2 :: 2 :: LE8) [0,4,5,6,7,8,9,12] (x8 (llV X n none) vf fr vm md i y b w (idL th) (.own 9 vt 0 ps.length none) (.int .i64 k)) (h9 vr rw vf fr vm md (psB vt ps)) .normal [0,4,5,6,7,8,9,12] (x8 (llV X n none) vf fr vm md i y b w (idL th) (.own 9 vt 0 ps.length none) (.int .i64 (k+1:Nat))) (h9 vr rw vf fr vm md (psB vt ps)):=by
 refine run8 ?_
 rw [g8o,up1 (by omega)]
 rfl
theorem lq8 (h1:i<n) (hOk:(X i).Ok):P8 (2 :: E8) [0,4,5,6,7,8,9,12] (x8 (llV X n none) vf fr vm md i y b w (idL th) (.own 9 0 0 0 none) (.int .i64 0)) (h9 vr rw vf fr vm md (psB 0 [])) .normal [0,4,5,6,7,8,9]
 (w8 (llV X n none) vf fr vm md i y b w (idL th) (psL (psF (X i).ps (((X i).y.toNat / 6 % 2:Nat):Int) md (min (X i).np 5)))) (h8 vr rw vf fr vm md):=by
 generalize hd:(((X i).y.toNat / 6 % 2:Nat):Int) = d
 obtain ⟨e,vs',h',⟨vt',k',rfl,rfl,rfl⟩,hg⟩:=Pz.loop (P:=P05) (G:=G05) (A:=A05) (f:=8) (h0:=[]) (p:=0 :: 2 :: E8) (l:=[0,4,5,6,7,8,9,12]) (l1:=[0,4,5,6,7,8,9,12]) (by kernel_rfl)
  (fun m vs h=>∃ k vt',k<=5/\k<=(X i).np/\m = 5 - k/\vs = x8 (llV X n none) vf fr vm md i y b w (idL th) (.own 9 vt' 0 (psF (X i).ps d md k).length none) (.int .i64 k)/\h = h9 vr rw vf fr vm md (psB vt' (psF (X i).ps d md k)))
  (fun e vs h=>∃ vt' k':Nat,e = .exit 4/\vs = x8 (llV X n none) vf fr vm md i y b w (idL th) (.own 9 vt' 0 (psF (X i).ps d md (min (X i).np 5)).length none) (.int .i64 k')/\h = h9 vr rw vf fr vm md (psB vt' (psF (X i).ps d md (min (X i).np 5))))
  (fun m vs h hI=>by
   obtain ⟨k,vt',hk4,hkn,rfl,rfl,rfl⟩:=hI
   by_cases hc:k<(X i).np/\k<5/\md ≠ []
   ·obtain ⟨c1,c2,c3⟩:=hc
    have hl:=psF_len (X i).ps d md k
    have hi:=p8n (n:=n) (y:=y) (vr:=vr) (rw:=rw) (vf:=vf) (vm:=vm) (fr:=fr) (b:=b) (w:=w) (th:=th) (ps:=psF (X i).ps d md k) (vt:=vt') (k:=k) h1 c3 hOk (by omega)
    rw [hd] at hi
    refine .inl ⟨5 - (k+1),_,_,by omega,Pz.seq (by kernel_rfl) (p8l h1 c1 c2 c3) (Pz.seq (by kernel_rfl) (Pz.blk (id:=5) (e:=.normal) (by kernel_rfl) rfl (Pz.seq (by kernel_rfl) (p8m h1 c1) hi)) (p8o (by omega))),k+1,vt'+1,by omega,by omega,rfl,?_,?_⟩
    ·simp only [psF]; rw [if_neg c3]
    ·simp only [psF]; rw [if_neg c3]
   ·have e:psF (X i).ps d md (min (X i).np 5) = psF (X i).ps d md k:=by
     by_cases c1:k<(X i).np
     ·by_cases c2:k<5
      ·have c3:md = []:=Classical.byContradiction fun q=>hc ⟨c1,c2,q⟩
       subst c3
       rw [psF_nil,psF_nil]
      ·rw [show min (X i).np 5 = k by omega]
     ·rw [show min (X i).np 5 = k by omega]
    refine .inr ⟨.exit 4,_,_,(by simp),Pz.seqX (by kernel_rfl) (by simp) (p8l' h1 hc),vt',k,rfl,?_,?_⟩
    ·rw [e]
    ·rw [e]) (n:=5) ⟨0,0,by omega,Nat.zero_le _,rfl,rfl,rfl⟩
 exact Pz.only (Pz.post (Pz.blk (id:=4) (e:=.exit 4) (by kernel_rfl) rfl hg) w8p) rfl
theorem p8p (hy:y<6):P8 (1 :: R8) [0,4,5,6,7,8,9] (w8 (llV X n none) vf fr vm md i y b w (idL th) (psL ps)) (h8 vr rw vf fr vm md) .normal [0,4,5,6,7,8,9,14]
 (x8 (llV X n none) vf fr vm md i y b w (idL th) (psL ps) (.reg (Idd.c ⟨((y+1:Nat):Int),(rw y).length⟩))) (h8 vr rw vf fr vm md):=by
 refine run8 ?_
 rw [g8p]
 obtain rfl | rfl | rfl | rfl | rfl | rfl:y = 0 ∨ y = 1 ∨ y = 2 ∨ y = 3 ∨ y = 4 ∨ y = 5:=by omega
 all_goals
  repeat (first | refine BT ?_ (by decide) | refine BF ?_ (by decide) | refine BT ?_ (by rw [beq_self_eq_true]; rfl) | fail)
  rfl
theorem sbN {σ:List Nat} {H h h2:Heap} {v:Nat} {r:List Lpp} {b:Int} {w:Bool} {th:List Idd} {ps:List Pss} (hs:SameBlks h h2) :
 SameBlks (renB σ H ⟨v,4,r.length+1,fun j=>bif Nat.blt j r.length then (r.getD (0+j) lp0).c else [[.int .u8 b,.bool w,idL th,psL ps]].getD (0+(j - r.length)) [],false,false,none⟩ :: h) (rowB v (r ++ [mkL b w th ps]) :: h2):=by
 refine .cons ⟨rfl,rfl,?_,id,fun j hj=>?_⟩ hs
 ·show (r ++ [_]).length = _
  rw [List.length_append]; rfl
 ·show ((r ++ [mkL b w th ps]).getD j lp0).c = List.map (ren0 σ H) (bif Nat.blt j r.length then (r.getD (0+j) lp0).c else [(mkL b w th ps).c].getD (0+(j - r.length)) [])
  rw [← app_rowB j hj]
  rfl
theorem sbU {σ:List Nat} {H h h2:Heap} {gg:Nat->List T} {vr':Nat->Nat} {rw':Nat->List Lpp} (hg:∀ e,e<6->[T.own (3+e) (vr' e) 0 (rw' e).length none] = (gg e).map (ren0 σ H)) (hs:SameBlks h h2) :
 SameBlks (renB σ H ⟨0,1,6,gg,false,true,none⟩ :: h) (tbB vr' rw' :: h2):=.cons ⟨rfl,rfl,rfl,id,fun j hj=>hg j hj⟩ hs
theorem p8q (a:Idd) (hy:y<6) (hr:∀ e,(rw e).length<=1000):P8 (1 :: 2 :: R8) [0,4,5,6,7,8,9,14] (x8 (llV X n none) vf fr vm md i y b w (idL th) (psL ps) (.reg a.c)) (h8 vr rw vf fr vm md) .normal [0,4,5,6,7,14]
 (y8 (llV X n none) vf fr vm md i (.reg a.c)) (h8 (upG vr y (vr y+1)) (upG rw y (rw y ++ [mkL b w th ps])) vf fr vm md):=by
 obtain rfl | rfl | rfl | rfl | rfl | rfl:y = 0 ∨ y = 1 ∨ y = 2 ∨ y = 3 ∨ y = 4 ∨ y = 5:=by omega
 ·have:=hr 0
  apply run8W (g8q0 X n i vr rw vf vm fr md b w th ps a)
  ·repeat (first | refine BS ?_ | refine BF ?_ | fail)
   rfl
  ·intro nt
   refine WeakTo.canonS [0,1,2,3,4,5,6,7,8] rfl rfl rfl (sbU (six ?_ ?_ ?_ ?_ ?_ ?_) (sbI (sbI (sbN (sbR (sbR (sbR (sbR (sbR .nil)))))))))
   all_goals first | rfl | (show [T.own _ _ 0 (_ ++ [_]).length none] = _; rw [List.length_append]; rfl)
 ·have:=hr 1
  apply run8W (g8q1 X n i vr rw vf vm fr md b w th ps a)
  ·repeat (first | refine BS ?_ | refine BF ?_ | fail)
   rfl
  ·intro nt
   refine WeakTo.canonS [0,1,2,3,4,5,6,7,8] rfl rfl rfl (sbU (six ?_ ?_ ?_ ?_ ?_ ?_) (sbI (sbI (sbR (sbN (sbR (sbR (sbR (sbR .nil)))))))))
   all_goals first | rfl | (show [T.own _ _ 0 (_ ++ [_]).length none] = _; rw [List.length_append]; rfl)
 ·have:=hr 2
  apply run8W (g8q2 X n i vr rw vf vm fr md b w th ps a)
  ·repeat (first | refine BS ?_ | refine BF ?_ | fail)
   rfl
  ·intro nt
   refine WeakTo.canonS [0,1,2,3,4,5,6,7,8] rfl rfl rfl (sbU (six ?_ ?_ ?_ ?_ ?_ ?_) (sbI (sbI (sbR (sbR (sbN (sbR (sbR (sbR .nil)))))))))
   all_goals first | rfl | (show [T.own _ _ 0 (_ ++ [_]).length none] = _; rw [List.length_append]; rfl)
 ·have:=hr 3
  apply run8W (g8q3 X n i vr rw vf vm fr md b w th ps a)
  ·repeat (first | refine BS ?_ | refine BF ?_ | fail)
   rfl
  ·intro nt
   refine WeakTo.canonS [0,1,2,3,4,5,6,7,8] rfl rfl rfl (sbU (six ?_ ?_ ?_ ?_ ?_ ?_) (sbI (sbI (sbR (sbR (sbR (sbN (sbR (sbR .nil)))))))))
   all_goals first | rfl | (show [T.own _ _ 0 (_ ++ [_]).length none] = _; rw [List.length_append]; rfl)
 ·have:=hr 4
  apply run8W (g8q4 X n i vr rw vf vm fr md b w th ps a)
  ·repeat (first | refine BS ?_ | refine BF ?_ | fail)
   rfl
  ·intro nt
   refine WeakTo.canonS [0,1,2,3,4,5,6,7,8] rfl rfl rfl (sbU (six ?_ ?_ ?_ ?_ ?_ ?_) (sbI (sbI (sbR (sbR (sbR (sbR (sbN (sbR .nil)))))))))
   all_goals first | rfl | (show [T.own _ _ 0 (_ ++ [_]).length none] = _; rw [List.length_append]; rfl)
 ·have:=hr 5
  apply run8W (g8q5 X n i vr rw vf vm fr md b w th ps a)
  ·repeat (first | refine BS ?_ | refine BF ?_ | fail)
   rfl
  ·intro nt
   refine WeakTo.canonS [0,1,2,3,4,5,6,7,8] rfl rfl rfl (sbU (six ?_ ?_ ?_ ?_ ?_ ?_) (sbI (sbI (sbR (sbR (sbR (sbR (sbR (sbN .nil)))))))))
   all_goals first | rfl | (show [T.own _ _ 0 (_ ++ [_]).length none] = _; rw [List.length_append]; rfl)
theorem p8r (a:Idd) (hf:fr.length<=1000):P8 (1 :: 2 :: 2 :: R8) [0,4,5,6,7,14] (y8 (llV X n none) vf fr vm md i (.reg a.c)) (h8 vr rw vf fr vm md) .normal [0,4,5,6,7,14] (y8 (llV X n none) (vf+1) (fr ++ [a]) vm md i (.reg a.c)) (h8 vr rw (vf+1) (fr ++ [a]) vm md):=by
 apply run8W (g8r X n i vr rw vf vm fr md a)
 ·repeat (first | refine BS ?_ | refine BF ?_ | fail)
  rfl
 ·intro nt
  refine WeakTo.canonS [0,1,2,3,4,5,6,7,8] rfl ?_ rfl (sbT (six rfl rfl rfl rfl rfl rfl) (.cons ⟨rfl,rfl,?_,id,fun j hj=>app_idB j hj⟩ (sbI (sbRs .nil))))
  ·unfold y8; rw [List.length_append]; rfl
  ·show (fr ++ [_]).length = _
   rw [List.length_append]; rfl
theorem p8s (a:Idd) (hf:md.length<=1000):P8 (2 :: 2 :: 2 :: R8) [0,4,5,6,7,14] (y8 (llV X n none) vf fr vm md i (.reg a.c)) (h8 vr rw vf fr vm md) .normal [0,4,5,6,7] (v8 (llV X n none) vf fr (vm+1) (md ++ [a]) i) (h8 vr rw vf fr (vm+1) (md ++ [a])):=by
 apply run8W (g8s X n i vr rw vf vm fr md a)
 ·repeat (first | refine BS ?_ | refine BF ?_ | fail)
  rfl
 ·intro nt
  refine WeakTo.canonS [0,1,2,3,4,5,6,7,8] rfl ?_ rfl (sbT (six rfl rfl rfl rfl rfl rfl) (sbI (.cons ⟨rfl,rfl,?_,id,fun j hj=>app_idB j hj⟩ (sbRs .nil))))
  ·unfold v8; rw [List.length_append]; rfl
  ·show (md ++ [_]).length = _
   rw [List.length_append]; rfl
end
open Go.Proofs
structure Os where
 (fr md:List Idd) (rw:Nat->List Lpp)
def stO8 (x:Ll) (o:Os):Os :=
 ⟨(thF x.th o.fr (min x.nt 4)).2 ++ [⟨((x.y.toNat % 6+1:Nat):Int),(o.rw (x.y.toNat % 6)).length⟩],o.md ++ [⟨((x.y.toNat % 6+1:Nat):Int),(o.rw (x.y.toNat % 6)).length⟩],
   upG o.rw (x.y.toNat % 6) (o.rw (x.y.toNat % 6) ++ [mkL (if x.b = true then 1 else 0) (x.w || decide ((o.rw (x.y.toNat % 6)).length = 0)) (thF x.th o.fr (min x.nt 4)).1 (psF x.ps ((x.y.toNat / 6 % 2:Nat):Int) o.md (min x.np 5))])⟩
def oS (X:Nat->Ll):Nat->Os
 | 0=>⟨[],[],fun _=>[]⟩
 | i+1=>stO8 (X i) (oS X i)
theorem oS_len (X:Nat->Ll):∀ i,(oS X i).fr.length<=i/\(oS X i).md.length = i/\∀ e,((oS X i).rw e).length<=i
 | 0=>⟨Nat.le_refl _,rfl,fun _=>Nat.le_refl _⟩
 | i+1=>by
  obtain ⟨h1,h2,h3⟩:=oS_len X i
  have:=(thF_len (X i).th (oS X i).fr (min (X i).nt 4)).2
  refine ⟨?_,?_,fun e=>?_⟩
  ·simp only [oS,stO8,List.length_append,List.length_singleton]; omega
  ·simp only [oS,stO8,List.length_append,List.length_singleton]; omega
  ·simp only [oS,stO8,upG]
   split
   ·have:=h3 ((X i).y.toNat % 6)
    simp only [List.length_append,List.length_singleton]; omega
   ·have:=h3 e; omega
section
variable {X:Nat->Ll} {n i:Nat} {vr:Nat->Nat} {vf vm:Nat}
theorem rd8 (h1:i<n) (h2:i<60) (hX:(X i).Ok):∃ vr' vf' vm',P8 LB8 [0,4,5,6,7] (v8 (llV X n none) vf (oS X i).fr vm (oS X i).md i) (h8 vr (oS X i).rw vf (oS X i).fr vm (oS X i).md) .normal [0,4,5,6,7]
 (v8 (llV X n none) vf' (oS X (i+1)).fr vm' (oS X (i+1)).md (i+1)) (h8 vr' (oS X (i+1)).rw vf' (oS X (i+1)).fr vm' (oS X (i+1)).md):=by
 obtain ⟨k1,k2,k3⟩:=oS_len X i
 have hy:(X i).y.toNat % 6<6:=Nat.mod_lt _ (by omega)
 have ht:=thF_len (X i).th (oS X i).fr (min (X i).nt 4)
 have hr:∀ e,((oS X i).rw e).length<=1000:=fun e=>by have:=k3 e; omega
 have hf:(thF (X i).th (oS X i).fr (min (X i).nt 4)).2.length<=1000:=by omega
 have hm:(oS X i).md.length<=1000:=by omega
 obtain ⟨vf',vt',k',hl⟩:=lp8 (n:=n) (y:=(X i).y.toNat % 6) (vr:=vr) (rw:=(oS X i).rw) (vf:=vf) (vm:=vm) (fr:=(oS X i).fr) (md:=(oS X i).md) (b:=if (X i).b = true then 1 else 0) (w:=(X i).w || decide (((oS X i).rw ((X i).y.toNat % 6)).length = 0)) h1 hX (by omega)
 refine ⟨upG vr ((X i).y.toNat % 6) (vr ((X i).y.toNat % 6)+1),vf'+1,vm+1,Pz.seq (by kernel_rfl) (p8a h1 h2) (Pz.seq (by kernel_rfl) (Pz.blk (id:=1) (e:=.normal) (by kernel_rfl) rfl
  (Pz.seq (by kernel_rfl) (p8b h1 hX) (Pz.seq (by kernel_rfl) (p8c h1 hy) (Pz.seq (by kernel_rfl) (p8d h1) (Pz.seq (by kernel_rfl) (Pz.seq (by kernel_rfl) p8e (Pz.post hl w8t)) (Pz.seq (by kernel_rfl) (Pz.seq (by kernel_rfl) p8k (lq8 h1 hX))
   (Pz.seq (by kernel_rfl) (p8p hy) (Pz.seq (by kernel_rfl) (p8q _ hy hr) (Pz.seq (by kernel_rfl) (p8r _ hf) (p8s _ hm)))))))))) ?_)⟩
 refine run8 ?_
 have e:codeL P05 G05 A05 noneO 0 8 [] (nav (2 :: 2 :: LB8)) [0,4,5,6,7] (v8 (llV X n none) (vf'+1) (oS X (i+1)).fr (vm+1) (oS X (i+1)).md i) (h8 (upG vr ((X i).y.toNat % 6) (vr ((X i).y.toNat % 6)+1)) (oS X (i+1)).rw (vf'+1) (oS X (i+1)).fr (vm+1) (oS X (i+1)).md) [0,4,5,6,7] =
  some (.normal,[llV X n none,.own 0 0 0 6 (some 6),.own 1 (vf'+1) 0 (oS X (i+1)).fr.length none,.own 2 (vm+1) 0 (oS X (i+1)).md.length none,.int .i64 (IntKind.i64.wrap (Int.ofNat i+1))],h8 (upG vr ((X i).y.toNat % 6) (vr ((X i).y.toNat % 6)+1)) (oS X (i+1)).rw (vf'+1) (oS X (i+1)).fr (vm+1) (oS X (i+1)).md):=by kernel_rfl
 rw [up1 (by omega)] at e
 exact e
theorem in8:Wk G05 A05 8 0 [0,4,5,6,7] [llV X n none,.own 0 0 0 6 (some 6),.nils,.nils,.int .i64 0] [⟨0,1,6,fun _=>[.nils],false,false,none⟩] (v8 (llV X n none) 0 [] 0 [] 0) (h8 (fun _=>0) (fun _=>[]) 0 [] 0 []):=fun nt=>by
 refine WeakTo.ghost [idB 0 [],idB 0 [],rowB 0 [],rowB 0 [],rowB 0 [],rowB 0 [],rowB 0 [],rowB 0 []] (by simp [idB,rowB]) rfl (fun k x z hx hz=>?_) (.chg ⟨rfl,rfl,rfl,rfl⟩ rfl (six ?_ ?_ ?_ ?_ ?_ ?_) (NilBs.refl _))
 ·rcases k with _ | _ | _ | _ | _ | k <;> simp only [v8,List.getElem?_cons_zero,List.getElem?_cons_succ,List.getElem?_nil,Option.some.injEq,reduceCtorEq] at hx hz
  case succ.succ.zero =>
   subst hx hz
   exact .inl (NilT.own (b:=idB 0 []) (by decide) rfl rfl)
  case succ.succ.succ.zero =>
   subst hx hz
   exact .inl (NilT.own (b:=idB 0 []) (by decide) rfl rfl)
  all_goals (subst hx; subst hz; exact .refl _)
 all_goals exact .cons (NilT.own (b:=rowB 0 []) (by decide) rfl rfl) (.refl _)
theorem all8 (hX:∀ i,(X i).Ok):∃ vr vm vf,P8 [] [0] [llV X n none] [] .ret [2,3] [.own 0 0 0 6 (some 6),.own 2 vm 0 (oS X (min n 60)).md.length none] (h8 vr (oS X (min n 60)).rw vf (oS X (min n 60)).fr vm (oS X (min n 60)).md):=by
 obtain ⟨e,vs',h',⟨vr,vm,vf,rfl,rfl,rfl⟩,hg⟩:=Pz.loop (P:=P05) (G:=G05) (A:=A05) (f:=8) (h0:=[]) (p:=[0,2,1,2,2,2]) (l:=[0,4,5,6,7]) (l1:=[0,4,5,6,7]) (by kernel_rfl)
  (fun m vs h=>∃ i vr vm vf,i<=60/\i<=n/\m = 60 - i/\vs = v8 (llV X n none) vf (oS X i).fr vm (oS X i).md i/\h = h8 vr (oS X i).rw vf (oS X i).fr vm (oS X i).md)
  (fun e vs h=>∃ vr vm vf,e = .exit 0/\vs = v8 (llV X n none) vf (oS X (min n 60)).fr vm (oS X (min n 60)).md (min n 60)/\h = h8 vr (oS X (min n 60)).rw vf (oS X (min n 60)).fr vm (oS X (min n 60)).md)
  (fun m vs h hI=>by
   obtain ⟨i,vr,vm,vf,h6,hn,rfl,rfl,rfl⟩:=hI
   by_cases hc:i<n/\i<60
   ·obtain ⟨vr',vf',vm',hr⟩:=rd8 (vr:=vr) (vf:=vf) (vm:=vm) hc.1 hc.2 (hX i)
    exact .inl ⟨60 - (i+1),_,_,by omega,hr,i+1,vr',vm',vf',by omega,by omega,rfl,rfl,rfl⟩
   ·rw [show min n 60 = i by omega]
    exact .inr ⟨.exit 0,_,_,(by simp),Pz.seqX (by kernel_rfl) (by simp) (p8a' hc),vr,vm,vf,rfl,rfl,rfl⟩) (n:=60) ⟨0,fun _=>0,0,0,by omega,Nat.zero_le _,rfl,rfl,rfl⟩
 refine ⟨vr,vm,vf,Pz.seq (by kernel_rfl) (run8 (v1:=[llV X n none]) (h1:=[]) (l1:=[0]) (by kernel_rfl)) (Pz.seq (by kernel_rfl) (run8 (v1:=[llV X n none,.own 0 0 0 6 (some 6)]) (h1:=[⟨0,1,6,fun _=>[.nils],false,false,none⟩]) (l1:=[0,4]) (by kernel_rfl))
  (Pz.seq (by kernel_rfl) (run8 (v1:=[llV X n none,.own 0 0 0 6 (some 6),.nils,.nils]) (h1:=[⟨0,1,6,fun _=>[.nils],false,false,none⟩]) (l1:=[0,4,5,6]) (by kernel_rfl))
   (Pz.seq (by kernel_rfl) (Pz.seq (by kernel_rfl) (Pz.post (run8 (v1:=[llV X n none,.own 0 0 0 6 (some 6),.nils,.nils,.int .i64 0]) (h1:=[⟨0,1,6,fun _=>[.nils],false,false,none⟩]) (l1:=[0,4,5,6,7]) (by kernel_rfl)) in8) (Pz.blk (id:=0) (e:=.exit 0) (by kernel_rfl) rfl hg))
    (run8 (by kernel_rfl)))))⟩
theorem resR {d v:Nat} {r:List Lpp} {ex:List Nat} {h:Heap} {i:Nat} (hb:h[i]? = some (rowB v r)) (hex:ex.contains i = false):resolve (d+2) ex h (.own i v 0 r.length none) = lpV (fun j=>r.getD j lp0) r.length none:=by
 simp only [resolve,hex,hb,cond_false]
 show (bif (true&&(v==v&&Nat.ble (0+r.length) r.length)) then T.view 4 r.length (fun j=>((r.getD (0+j) lp0).c).map (resolve (d+1) ex h)) none else .undef) = _
 rw [beq_self_eq_true,bleT (show 0+r.length<=r.length by omega)]
 simp only [Bool.and_self,cond_true,Nat.zero_add]
 rfl
theorem ofT (hX:∀ i,(X i).Ok):ToldOk P05 G05 8 [llV X n none] (.tup [.fresh false 1 6 (fun y=>[lpV (fun i=>((oS X (min n 60)).rw y).getD i lp0) ((oS X (min n 60)).rw y).length none]) 6 (some 6),
 .fresh true 2 (oS X (min n 60)).md.length (fun j=>((oS X (min n 60)).md.getD j id0).c) (oS X (min n 60)).md.length none]):=by
 obtain ⟨vr,vm,vf,hg⟩:=all8 (n:=n) hX
 generalize oS X (min n 60) = o at hg ⊢
 have t:=Pz.told (r:=.tup [.fresh false 1 6 (fun j=>((tbB vr o.rw).get (0+j)).map (resolve 3 [0,2] (h8 vr o.rw vf o.fr vm o.md))) 6 (some 6),.fresh true 2 o.md.length (fun j=>((o.md.getD (0+j) id0).c)) o.md.length none]) hn05 Try.func8 (by kernel_rfl) (by kernel_rfl) rfl hg (by
  have e:resK P05 G05 (A05 8).prom Try.f8 (mkSt [2,3] [.own 0 0 0 6 (some 6),.own 2 vm 0 o.md.length none] (h8 vr o.rw vf o.fr vm o.md)) (fun v=>some (give (h8 vr o.rw vf o.fr vm o.md) v)) = some (.tup [.fresh false 1 6 (fun j=>((tbB vr o.rw).get (0+j)).map (resolve 3 [0,2] (h8 vr o.rw vf o.fr vm o.md))) 6 (some 6),(bif (true&&(vm==vm&&Nat.ble (0+o.md.length) o.md.length)) then .fresh true 2 o.md.length (fun j=>((o.md.getD (0+j) id0).c)) o.md.length none else .undef)]):=by kernel_rfl
  rw [e,beq_self_eq_true,bleT (show 0+o.md.length<=o.md.length by omega)]
  rfl)
 refine t.tupTo (.cons (.fresh (Nat.le_refl _) (Nat.le_refl _) (fun m hm=>by obtain rfl:=Option.some.inj hm; exact Nat.le_refl _) (six ?_ ?_ ?_ ?_ ?_ ?_)) (.cons (.fresh (Nat.le_refl _) (Nat.le_refl _) (fun m hm=>by cases hm) (fun j _=>by rw [Nat.zero_add])) .nil))
 ·exact congrArg (fun x=>[x]) (resR (d:=1) (ex:=[0,2]) (h:=h8 vr o.rw vf o.fr vm o.md) (i:=3) rfl rfl).symm
 ·exact congrArg (fun x=>[x]) (resR (d:=1) (ex:=[0,2]) (h:=h8 vr o.rw vf o.fr vm o.md) (i:=4) rfl rfl).symm
 ·exact congrArg (fun x=>[x]) (resR (d:=1) (ex:=[0,2]) (h:=h8 vr o.rw vf o.fr vm o.md) (i:=5) rfl rfl).symm
 ·exact congrArg (fun x=>[x]) (resR (d:=1) (ex:=[0,2]) (h:=h8 vr o.rw vf o.fr vm o.md) (i:=6) rfl rfl).symm
 ·exact congrArg (fun x=>[x]) (resR (d:=1) (ex:=[0,2]) (h:=h8 vr o.rw vf o.fr vm o.md) (i:=7) rfl rfl).symm
 ·exact congrArg (fun x=>[x]) (resR (d:=1) (ex:=[0,2]) (h:=h8 vr o.rw vf o.fr vm o.md) (i:=8) rfl rfl).symm
end
open Go.Proofs
def v17 (g:Nat->Idd) (n:Nat) (s:List UInt8) (i:Nat):List T:=[idV g n none,.str s,.int .i64 i]
theorem i17 (g:Nat->Idd) (n:Nat) (s:List UInt8) (i:Nat):iterR P05 G05 A05 noneO 0 17 [] 3 (v17 g n s i) [] =
(
 bif decide (Int.ofNat i<Int.ofNat n) then
 bif decide (0<=Int.ofNat i)&&decide (Int.ofNat i<Int.ofNat n) then
 bif decide (0<=Int.ofNat i)&&decide (Int.ofNat i<Int.ofNat n) then
 bif (s.length+(4:Nat)).ble 9223372036854775807 then
 some ((.normal,[idV g n
 none,.str (s ++ strF (fun j=>[[T.int .u8 (IntKind.u8.wrap ((48:Int)+(g i).y))],[T.int .u8 (46:Int)],[T.int .u8 (IntKind.u8.wrap ((48:Int)+IntKind.u8.wrap ((g i).n.tmod (10:Int))))],[T.int .u8 (32:Int)]].getD (0+j) []) (4:Nat)),.int .i64 (IntKind.i64.wrap (Int.ofNat i+1))],[.mk 0 1 4 (fun j=>[[T.int .u8 (IntKind.u8.wrap ((48:Int)+(g i).y))],[T.int .u8 (46:Int)],[T.int .u8 (IntKind.u8.wrap ((48:Int)+IntKind.u8.wrap ((g i).n.tmod (10:Int))))],[T.int .u8 (32:Int)]].getD j []) true true
 none]))
 else none else none else none else
 some ((.exit 0,[.str s],[]))):=by kernel_rfl
theorem k17 (g:Nat->Idd) (n:Nat) (s:List UInt8) (x:List T->Heap->Ex->List T->Heap->Prop):stepL P05 G05 A05 noneO 0 17 [(3,loopF x (.ret (.exit 0) [.str s] []))] [idV g n none] =
(
 bif decF (x (v17 g n [] (nat_lit 0)) [] (.exit 0) [.str s] []) then
 some (.str s)
 else
 none):=by kernel_rfl
def txI (a:Idd):List UInt8:=strF (fun j=>[[T.int IntKind.u8 (IntKind.u8.wrap ((48:Int)+a.y))],[T.int IntKind.u8 (46:Int)],[T.int IntKind.u8 (IntKind.u8.wrap ((48:Int)+IntKind.u8.wrap (a.n.tmod (10:Int))))],[T.int IntKind.u8 (32:Int)]].getD ((0:Nat)+j) []) 4
def txt (g:Nat->Idd):Nat->List UInt8
 | 0=>[]
 | i+1=>txt g i ++ txI (g i)
theorem txt_len (g:Nat->Idd):∀ i,(txt g i).length = 4 * i
 | 0=>rfl
 | i+1=>by
  have:=txt_len g i
  simp only [txt,List.length_append,this]
  rfl
theorem textT (g:Nat->Idd) (n:Nat) (hn:n<=1000000):ToldOk P05 G05 17 [idV g n none] (.str (txt g n)):=by
 have lo:LoopOk P05 G05 (A05 17) 17 3 (litS (v17 g n [] 0) [] (.exit 0) [.str (txt g n)] []) :=
  loop_steps hm05 (by kernel_rfl) (fun i=>v17 g n (txt g i) i) (fun _=>[]) (n:=n) (fun i hi=>by
   have hl:=txt_len g i
   exact Step.mk none_ok rfl rfl loops0 0 (Nat.le_refl _) (K:=noneO) (A:=A05) (m:=0) (l:=[]) (by rw [i17,up1 (by omega)]; exact BT (BT (BT (BT rfl)))) rfl (.refl _))
   (Last.mk0 none_ok rfl rfl loops0 (by simp) (K:=noneO) (A:=A05) (m:=0) (l:=[]) (by rw [i17]; exact BF rfl) (.refl _))
 obtain ⟨x,hx⟩:=is_loop P05 G05 (A05 17) 17 3
 refine stepL_told hm05 hn05 none_ok (K:=noneO) (A:=A05) (m:=0) (by kernel_rfl) (l:=[(3,loopF x (.ret (.exit 0) [.str (txt g n)] []))]) (loops1 (loopF_ok hx _)) ?_
 rw [k17]
 exact bift (loopF_yes hx lo) rfl
open Go.Proofs
def Tbl.add (t:Tbl) (y:Nat) (l:Lpp):Tbl:=⟨t.h,fun e=>if e = y then t.ln e+1 else t.ln e,fun e i=>if e = y/\i = t.ln e then l else t.L e i⟩
noncomputable def K20 (p:List T->T->Prop) (e:Int):Orc:=noneO.add 10 (callF p fun _=>some (.int .i64 e))
def tbA (t:Tbl):Blk:=⟨0,1,t.h,fun y=>[lpV (t.L y) (t.ln y) none],false,false,none⟩
def Z20:List Nat:=[1,2,2,2,2,2,2,2]
def L13:List Nat:=0 :: 0 :: 2 :: Z20
def M13:List Nat:=0 :: 1 :: 2 :: 2 :: L13
def L17:List Nat:=0 :: 0 :: 2 :: 2 :: 2 :: M13
def N17:List Nat:=0 :: 1 :: 2 :: 2 :: L17
open Go.Proofs
instance:DecidableEq Idd:=fun a b=>decidable_of_iff (a.y = b.y/\a.n = b.n) ⟨fun h=>by cases a; cases b; simp_all,fun h=>by subst h; exact ⟨rfl,rfl⟩⟩
theorem thF_perm (g:Nat->Int) (fr:List Idd):∀ k,((thF g fr k).1 ++ (thF g fr k).2).Perm fr
 | 0=>.refl _
 | k+1=>by
  have ih:=thF_perm g fr k
  simp only [thF]
  split
  ·exact ih
  ·rename_i h
   refine List.Perm.trans ?_ ih
   generalize (thF g fr k).2 = f at h ⊢
   generalize (thF g fr k).1 = t
   have hq:(g k).toNat % f.length<f.length:=Nat.mod_lt _ (List.length_pos_iff.2 h)
   generalize (g k).toNat % f.length = q at hq
   have e:f = f.take q ++ (f.getD q id0 :: f.drop (q+1)):=by
    rw [List.getD_eq_getElem?_getD,List.getElem?_eq_getElem hq,Option.getD_some,List.getElem_cons_drop,List.take_append_drop]
   show ((t ++ [f.getD q id0]) ++ (f.take q ++ f.drop (q+1))).Perm (t ++ f)
   rw [List.append_assoc]
   refine List.Perm.append_left t ?_
   conv=>rhs; rw [e]
   show (f.getD q id0 :: (f.take q ++ f.drop (q+1))).Perm _
   exact (List.perm_middle).symm
def Lgood (k:Nat) (md:List Idd) (l:Lpp):Prop:=∃ b w th ps d,l = mkL b w th ps/\(b = 0 ∨ b = 1)/\(d = 0 ∨ d = 1)/\th.length<=4/\ps.length<=5/\(∀ a ∈ th,∃ j,j<k/\md.getD j id0 = a)/\∀ p ∈ ps,p.d = d/\∃ j,j<k/\md.getD j id0 = p.id
def thL (l:Lpp):List Idd:=(List.range l.nt).map l.th
def rowTh (r:List Lpp):List Idd:=r.flatMap thL
def allTh (rw:Nat->List Lpp):List Idd:=rowTh (rw 0) ++ rowTh (rw 1) ++ rowTh (rw 2) ++ rowTh (rw 3) ++ rowTh (rw 4) ++ rowTh (rw 5)
def sum6 (rw:Nat->List Lpp):Nat:=(rw 0).length+(rw 1).length+(rw 2).length+(rw 3).length+(rw 4).length+(rw 5).length
theorem thL_mk (b:Int) (w:Bool) (th:List Idd) (ps:List Pss):thL (mkL b w th ps) = th:=by
 refine List.ext_getElem (by simp [thL,mkL]) fun i h1 h2=>?_
 simp [thL,mkL,List.getD_eq_getElem?_getD,h2]
structure OsInv (o:Os) (N:Nat):Prop where
 len:o.md.length = N
 row:∀ y,y<6->∀ n,n<(o.rw y).length->∃ k,k<N/\o.md.getD k id0 = ⟨((y+1:Nat):Int),(n:Int)⟩/\Lgood k o.md ((o.rw y).getD n lp0)/\(n = 0->((o.rw y).getD n lp0).w = true)/\(0<n->∃ j,j<k/\o.md.getD j id0 = ⟨((y+1:Nat):Int),((n - 1:Nat):Int)⟩)
 md:∀ k,k<N->∃ y,y<6/\∃ n,n<(o.rw y).length/\o.md.getD k id0 = ⟨((y+1:Nat):Int),(n:Int)⟩
 out:∀ y,6<=y->o.rw y = []
 sum:sum6 o.rw = N
 perm:(allTh o.rw ++ o.fr).Perm o.md
 nodup:o.md.Nodup
theorem getD_app {α:Type} {l:List α} {x d:α} {j:Nat} (h:j<l.length):(l ++ [x]).getD j d = l.getD j d:=by
 rw [List.getD_eq_getElem?_getD,List.getD_eq_getElem?_getD,List.getElem?_append_left h]
theorem getD_end {α:Type} (l:List α) (x d:α):(l ++ [x]).getD l.length d = x:=by
 rw [List.getD_eq_getElem?_getD,List.getElem?_append_right (Nat.le_refl _)]
 simp
theorem getD_mem {α:Type} {l:List α} {d a:α} (h:a ∈ l):∃ j,j<l.length/\l.getD j d = a:=by
 obtain ⟨j,hj,e⟩:=List.getElem_of_mem h
 exact ⟨j,hj,by rw [List.getD_eq_getElem?_getD,List.getElem?_eq_getElem hj,Option.getD_some,e]⟩
theorem mem_getD {α:Type} {l:List α} {d:α} {j:Nat} (h:j<l.length):l.getD j d ∈ l:=by
 rw [List.getD_eq_getElem?_getD,List.getElem?_eq_getElem h,Option.getD_some]
 exact List.getElem_mem h
theorem Lgood.mono {k:Nat} {md:List Idd} {x:Idd} {l:Lpp} (hk:k<=md.length) (h:Lgood k md l):Lgood k (md ++ [x]) l:=by
 obtain ⟨b,w,th,ps,d,e,h1,h2,h3,h4,h5,h6⟩:=h
 refine ⟨b,w,th,ps,d,e,h1,h2,h3,h4,fun a ha=>?_,fun p hp=>⟨(h6 p hp).1,?_⟩⟩
 ·obtain ⟨j,hj,q⟩:=h5 a ha
  exact ⟨j,hj,by rw [getD_app (by omega)]; exact q⟩
 ·obtain ⟨j,hj,q⟩:=(h6 p hp).2
  exact ⟨j,hj,by rw [getD_app (by omega)]; exact q⟩
theorem allTh_app {rw:Nat->List Lpp} {y:Nat} (hy:y<6) (l:Lpp):(allTh (upG rw y (rw y ++ [l]))).Perm (allTh rw ++ thL l):=by
 have e:∀ r:List Lpp,rowTh (r ++ [l]) = rowTh r ++ thL l:=fun r=>by simp [rowTh]
 have sw:∀ A B C:List Idd,(A ++ B ++ C).Perm (A ++ C ++ B):=fun A B C=>by
  rw [List.append_assoc,List.append_assoc]; exact List.Perm.append_left A List.perm_append_comm
 obtain rfl | rfl | rfl | rfl | rfl | rfl:y = 0 ∨ y = 1 ∨ y = 2 ∨ y = 3 ∨ y = 4 ∨ y = 5:=by omega
 all_goals
  refine List.perm_iff_count.2 fun a=>?_
  simp [allTh,upG,e,List.count_append]
  try omega
theorem sum6_app {rw:Nat->List Lpp} {y:Nat} (hy:y<6) (l:Lpp):sum6 (upG rw y (rw y ++ [l])) = sum6 rw+1:=by
 obtain rfl | rfl | rfl | rfl | rfl | rfl:y = 0 ∨ y = 1 ∨ y = 2 ∨ y = 3 ∨ y = 4 ∨ y = 5:=by omega
 all_goals
  simp [sum6,upG]
  omega
theorem psF_mem (g:Nat->Int) (d:Int) (md:List Idd):∀ k,∀ p ∈ psF g d md k,p.d = d/\∃ j,j<md.length/\md.getD j id0 = p.id
 | 0=>fun p hp=>by simp [psF] at hp
 | k+1=>fun p hp=>by
  simp only [psF] at hp
  split at hp
  ·simp at hp
  ·rename_i h
   rw [List.mem_append,List.mem_singleton] at hp
   rcases hp with hp | rfl
   ·exact psF_mem g d md k p hp
   ·exact ⟨rfl,_,Nat.mod_lt _ (List.length_pos_iff.2 h),rfl⟩
theorem os_step {o:Os} {N:Nat} (h:OsInv o N) (x:Ll):OsInv (stO8 x o) (N+1):=by
 have hy:x.y.toNat % 6<6:=Nat.mod_lt _ (by omega)
 have hth:=thF_perm x.th o.fr (min x.nt 4)
 have hl:=(thF_len x.th o.fr (min x.nt 4)).1
 have hps:=psF_mem x.ps ((x.y.toNat / 6 % 2:Nat):Int) o.md (min x.np 5)
 have hpl:=psF_len x.ps ((x.y.toNat / 6 % 2:Nat):Int) o.md (min x.np 5)
 have hd:(((x.y.toNat / 6 % 2:Nat):Int) = 0) ∨ (((x.y.toNat / 6 % 2:Nat):Int) = 1):=by omega
 have hb:(if x.b = true then (1:Int) else 0) = 0 ∨ (if x.b = true then (1:Int) else 0) = 1:=by split <;> simp
 have h1:=h.len
 unfold stO8
 generalize x.y.toNat % 6 = y at hy
 generalize ((x.y.toNat / 6 % 2:Nat):Int) = d at hps hpl hd
 generalize (if x.b = true then (1:Int) else 0) = b at hb
 generalize thF x.th o.fr (min x.nt 4) = tf at hth hl
 generalize psF x.ps d o.md (min x.np 5) = ps at hps hpl
 obtain ⟨t1,f1⟩:=tf
 dsimp only at hth hl ⊢
 have hin:∀ a ∈ t1,∃ j,j<N/\o.md.getD j id0 = a:=fun a ha=>by
  rw [← h1]
  refine getD_mem ?_
  exact h.perm.mem_iff.1 (List.mem_append.2 (.inr (hth.mem_iff.1 (List.mem_append.2 (.inl ha)))))
 have hnew:(⟨((y+1:Nat):Int),((o.rw y).length:Int)⟩:Idd) ∉ o.md:=fun hm=>by
  obtain ⟨j,hj,e⟩:=getD_mem (d:=id0) hm
  obtain ⟨z,hz,n,hn,e2⟩:=h.md j (by omega)
  rw [e] at e2
  injection e2 with e3 e4
  obtain rfl:y = z:=by omega
  omega
 refine ⟨by simp [h1],fun z hz n hn=>?_,fun k hk=>?_,fun z hz=>?_,?_,?_,?_⟩
 ·dsimp only at hn ⊢
  by_cases q:z = y
  ·subst q
   simp only [upG,if_true] at hn ⊢
   rw [List.length_append,List.length_singleton] at hn
   by_cases q2:n<(o.rw z).length
   ·rw [getD_app q2]
    obtain ⟨k,k1,k2,k3,k4,k5⟩:=h.row z hz n q2
    refine ⟨k,by omega,by rw [getD_app (by omega)]; exact k2,k3.mono (by omega),k4,fun hp=>?_⟩
    obtain ⟨j,j1,j2⟩:=k5 hp
    exact ⟨j,j1,by rw [getD_app (by omega)]; exact j2⟩
   ·obtain rfl:n = (o.rw z).length:=by omega
    rw [getD_end]
    refine ⟨N,by omega,by rw [← h1,getD_end],⟨b,_,t1,ps,d,rfl,hb,hd,by omega,by omega,fun a ha=>?_,fun p hp=>⟨(hps p hp).1,?_⟩⟩,fun h0=>?_,fun hp=>?_⟩
    ·obtain ⟨j,j1,j2⟩:=hin a ha
     exact ⟨j,j1,by rw [getD_app (by omega)]; exact j2⟩
    ·obtain ⟨j,j1,j2⟩:=(hps p hp).2
     exact ⟨j,by omega,by rw [getD_app (by omega)]; exact j2⟩
    ·show (x.w || decide ((o.rw z).length = 0)) = true
     simp [h0]
    ·obtain ⟨k,k1,k2,_⟩:=h.row z hz ((o.rw z).length - 1) (by omega)
     exact ⟨k,k1,by rw [getD_app (by omega)]; exact k2⟩
  ·simp only [upG,if_neg q] at hn ⊢
   obtain ⟨k,k1,k2,k3,k4,k5⟩:=h.row z hz n hn
   refine ⟨k,by omega,by rw [getD_app (by omega)]; exact k2,k3.mono (by omega),k4,fun hp=>?_⟩
   obtain ⟨j,j1,j2⟩:=k5 hp
   exact ⟨j,j1,by rw [getD_app (by omega)]; exact j2⟩
 ·dsimp only
  by_cases q:k<N
  ·obtain ⟨z,hz,n,hn,e⟩:=h.md k q
   refine ⟨z,hz,n,?_,by rw [getD_app (by omega)]; exact e⟩
   simp only [upG]
   split
   ·rename_i q2; subst q2; rw [List.length_append]; omega
   ·exact hn
  ·obtain rfl:k = N:=by omega
   refine ⟨y,hy,(o.rw y).length,by simp [upG],by rw [← h1,getD_end]⟩
 ·show upG o.rw y _ z = []
  simp only [upG]
  rw [if_neg (by omega)]
  exact h.out z hz
 ·exact (sum6_app hy _).trans (by rw [h.sum])
 ·dsimp only
  have p1:=allTh_app (rw:=o.rw) hy (mkL b (x.w || decide ((o.rw y).length = 0)) t1 ps)
  rw [thL_mk] at p1
  have p0:=h.perm
  refine List.perm_iff_count.2 fun a=>?_
  have c1:=List.perm_iff_count.1 p1 a
  have c2:=List.perm_iff_count.1 hth a
  have c3:=List.perm_iff_count.1 p0 a
  simp only [List.count_append] at c1 c2 c3 ⊢
  omega
 ·dsimp only
  rw [List.nodup_append]
  exact ⟨h.nodup,by simp,fun a ha b hb=>by rw [List.mem_singleton] at hb; subst hb; rintro rfl; exact hnew ha⟩
theorem os_inv (X:Nat->Ll):∀ n,OsInv (oS X n) n
 | 0=>⟨rfl,fun y _ n hn=>absurd hn (Nat.not_lt_zero _),fun k hk=>absurd hk (Nat.not_lt_zero _),fun _ _=>rfl,rfl,.refl _,.nil⟩
 | n+1=>os_step (os_inv X n) (X n)
open Go.Proofs
def tO (o:Os):Tbl:=⟨6,fun y=>(o.rw y).length,fun y i=>(o.rw y).getD i lp0⟩
theorem getD_in {α:Type} {l:List α} {d:α} (P:α->Prop) (hd:P d) (h:∀ a ∈ l,P a) (j:Nat):P (l.getD j d):=by
 by_cases q:j<l.length
 ·exact h _ (mem_getD q)
 ·rw [List.getD_eq_getElem?_getD,List.getElem?_eq_none (by omega)]; exact hd
theorem id0_ok:id0.Ok:=⟨⟨by decide,by decide⟩,by decide,by decide⟩
theorem ps0_ok:ps0.Ok:=⟨show ps0.id.Ok from id0_ok,⟨by decide,by decide⟩⟩
theorem lp0_ok:lp0.Ok:=⟨⟨by decide,by decide⟩,fun _=>id0_ok,fun _=>ps0_ok,by decide,by decide⟩
theorem psh_all {l:Nat->Pss} (hc:∀ i j,cnc (l i) (l j) = false):∀ n,(pshM l n).1 = n/\∀ j,j<n->(pshM l n).2 j = l j
 | 0=>⟨rfl,fun j h=>by omega⟩
 | n+1=>by
  obtain ⟨h1,h2⟩:=psh_all hc n
  have e:(decide (0<(pshM l n).1)&&cnc ((pshM l n).2 ((pshM l n).1 - 1)) (l n)) = false:=by
   rw [h1]
   by_cases q:0<n
   ·rw [h2 (n - 1) (by omega),hc]; simp
   ·simp [q]
  simp only [pshM]
  rw [e]
  simp only [Bool.false_eq_true,if_false]
  refine ⟨by rw [h1],fun j hj=>?_⟩
  by_cases q:j = n
  ·rw [if_pos (by rw [h1]; exact q),q]
  ·rw [if_neg (by rw [h1]; exact q)]; exact h2 j (by omega)
section
variable {o:Os} {N:Nat}
theorem md_id (h:OsInv o N) {k:Nat} (hk:k<N):∃ y n,y<6/\n<(o.rw y).length/\o.md.getD k id0 = ⟨((y+1:Nat):Int),(n:Int)⟩/\n<N:=by
 obtain ⟨y,hy,n,hn,e⟩:=h.md k hk
 have h1:(o.rw y).length<=sum6 o.rw:=by
  obtain rfl | rfl | rfl | rfl | rfl | rfl:y = 0 ∨ y = 1 ∨ y = 2 ∨ y = 3 ∨ y = 4 ∨ y = 5:=by omega
  all_goals (unfold sum6; omega)
 rw [h.sum] at h1
 exact ⟨y,n,hy,hn,e,by omega⟩
theorem md_has (h:OsInv o N) {k:Nat} (hk:k<N):(tO o).has (o.md.getD k id0) = true:=by
 obtain ⟨y,n,hy,hn,e,_⟩:=md_id h hk
 rw [e]
 unfold Tbl.has tO
 simp only [Bool.and_eq_true,decide_eq_true_eq]
 refine ⟨⟨⟨by omega,by omega⟩,by omega⟩,?_⟩
 rw [show (((y+1:Nat):Int) - 1).toNat = y by omega]
 omega
theorem md_ok (h:OsInv o N) (hN:N<=60) {k:Nat} (hk:k<N):(o.md.getD k id0).Ok:=by
 obtain ⟨y,n,hy,hn,e,hn2⟩:=md_id h hk
 rw [e]
 exact ⟨⟨by dsimp only; omega,by dsimp only; omega⟩,by dsimp only; omega,by dsimp only; omega⟩
theorem good_ok (h:OsInv o N) (hN:N<=60) {k:Nat} (hk:k<=N) {l:Lpp} (hl:Lgood k o.md l):l.Ok:=by
 obtain ⟨b,w,th,ps,d,rfl,hb,hd,h3,h4,h5,h6⟩:=hl
 refine ⟨by dsimp only [mkL]; omega,fun j=>?_,fun j=>?_,?_,?_⟩
 ·refine getD_in Idd.Ok id0_ok (fun a ha=>?_) j
  obtain ⟨i,hi,rfl⟩:=h5 a ha
  exact md_ok h hN (by omega)
 ·refine getD_in Pss.Ok ps0_ok (fun a ha=>?_) j
  obtain ⟨q,i,hi,e⟩:=h6 a ha
  exact ⟨e ▸ md_ok h hN (by omega),by omega,by omega⟩
 ·show th.length<=_; omega
 ·show ps.length<=_; omega
theorem row_len (h:OsInv o N) (y:Nat):(o.rw y).length<=N:=by
 rw [← h.sum]
 by_cases hy:y<6
 ·obtain rfl | rfl | rfl | rfl | rfl | rfl:y = 0 ∨ y = 1 ∨ y = 2 ∨ y = 3 ∨ y = 4 ∨ y = 5:=by omega
  all_goals (unfold sum6; omega)
 ·rw [h.out y (by omega)]; exact Nat.zero_le _
theorem tO_ok (h:OsInv o N) (hN:N<=60):(tO o).Ok:=by
 refine ⟨by show 6<=_; omega,fun y=>by have:=row_len h y; show (o.rw y).length<=_; omega,fun y i=>?_⟩
 show ((o.rw y).getD i lp0).Ok
 by_cases hy:y<6
 ·by_cases hi:i<(o.rw y).length
  ·obtain ⟨k,k1,_,k3,_⟩:=h.row y hy i hi
   exact good_ok h hN (by omega) k3
  ·rw [List.getD_eq_getElem?_getD,List.getElem?_eq_none (by omega)]; exact lp0_ok
 ·rw [h.out y (by omega)]; exact lp0_ok
theorem good_need {k:Nat} {md:List Idd} {l:Lpp} (hl:Lgood k md l) {i:Nat} (hi:i<l.nt+l.np):∃ j,j<k/\md.getD j id0 = needI l i:=by
 obtain ⟨b,w,th,ps,d,rfl,hb,hd,h3,h4,h5,h6⟩:=hl
 have hi:i<th.length+ps.length:=hi
 unfold needI
 by_cases q:i<th.length
 ·rw [if_pos (show i<(mkL b w th ps).nt from q)]
  exact h5 _ (mem_getD q)
 ·rw [if_neg (show ¬ i<(mkL b w th ps).nt from q)]
  exact (h6 _ (mem_getD (by show i - th.length<_; omega))).2
theorem good_rgt (h:OsInv o N) {k:Nat} (hk:k<=N) {l:Lpp} (hl:Lgood k o.md l):rgt (tO o) l = true:=by
 have hn:=fun i hi=>good_need hl (i:=i) hi
 obtain ⟨b,w,th,ps,d,rfl,hb,hd,h3,h4,h5,h6⟩:=hl
 unfold rgt
 have e1:(decide ((mkL b w th ps).b = 0) || decide ((mkL b w th ps).b = 1)) = true:=by
  show (decide (b = 0) || decide (b = 1)) = true
  simpa using hb
 have e2:(decide (4<(mkL b w th ps).nt) || decide (4096<(mkL b w th ps).np)) = false:=by
  show (decide (4<th.length) || decide (4096<ps.length)) = false
  simp; omega
 have e3:allB (rgI (tO o) (mkL b w th ps)) (mkL b w th ps).nt = true:=by
  refine (allB_iff _ _).2 fun i hi=>?_
  obtain ⟨j,j1,j2⟩:=h5 ((mkL b w th ps).th i) (mem_getD hi)
  unfold rgI
  rw [← j2]
  exact md_has h (by omega)
 have hp:∀ i,((mkL b w th ps).ps i).d = d ∨ (mkL b w th ps).ps i = ps0:=fun i=>by
  refine getD_in (fun p=>p.d = d ∨ p = ps0) (.inr rfl) (fun a ha=>.inl (h6 a ha).1) i
 have e4:allB (rgP (tO o) (mkL b w th ps)) (mkL b w th ps).np = true:=by
  refine (allB_iff _ _).2 fun i hi=>?_
  obtain ⟨q,j,j1,j2⟩:=h6 ((mkL b w th ps).ps i) (mem_getD hi)
  unfold rgP
  rw [← j2,md_has h (by omega),q]
  simpa using hd
 have e5:(pshM (mkL b w th ps).ps (mkL b w th ps).np).1 = (mkL b w th ps).np:=by
  have e:pshM (mkL b w th ps).ps ps.length = pshM (fun j=>if j<ps.length then (mkL b w th ps).ps j else ⟨0,0,false,d⟩) ps.length:=by
   have key:∀ n,n<=ps.length->pshM (mkL b w th ps).ps n = pshM (fun j=>if j<ps.length then (mkL b w th ps).ps j else ⟨0,0,false,d⟩) n:=by
    intro n
    induction n with
    | zero=>intro _; rfl
    | succ n ih =>
     intro hn
     simp only [pshM]
     rw [ih (by omega),if_pos (show n<ps.length by omega)]
   exact key _ (Nat.le_refl _)
  show (pshM (mkL b w th ps).ps ps.length).1 = ps.length
  rw [e]
  refine (psh_all (fun i j=>?_) ps.length).1
  have hq:∀ i,(if i<ps.length then (mkL b w th ps).ps i else (⟨0,0,false,d⟩:Pss)).d = d:=fun i=>by
   split
   ·rename_i hi
    exact (h6 _ (mem_getD hi)).1
   ·rfl
  unfold cnc
  rw [hq i,hq j]
  simp
 rw [e1,e2,e3,e4,e5]
 simp
theorem tO_ckY (h:OsInv o N):allB (ckY (tO o)) (tO o).h = true:=by
 refine (allB_iff _ _).2 fun y hy=>(allB_iff _ _).2 fun i hi=>?_
 obtain ⟨k,k1,_,k3,k4,_⟩:=h.row y hy i hi
 unfold ckL
 rw [Bool.and_eq_true]
 refine ⟨good_rgt h (by omega) k3,?_⟩
 by_cases q:i = 0
 ·rw [show ((tO o).L y i).w = true from k4 q]; simp
 ·simp [q]
theorem kA_eq (f:Nat->Idd) (L:List (List Int)):∀ n,(kA f n L).Perm (((List.range n).map f).map kyI ++ L)
 | 0=>.refl _
 | n+1=>by
  rw [List.range_succ,List.map_append,List.map_append,List.append_assoc]
  exact ((kA_eq f L n).cons _).trans List.perm_middle.symm
theorem kB_eq (r:List Lpp) (L:List (List Int)):∀ n,n<=r.length->(kB (fun i=>r.getD i lp0) n L).Perm ((rowTh (r.take n)).map kyI ++ L)
 | 0,_=>by simp [kB,rowTh]
 | n+1,hn=>by
  have ih:=kB_eq r L n (by omega)
  have e:r.take (n+1) = r.take n ++ [r.getD n lp0]:=by
   rw [List.take_add_one,List.getD_eq_getElem?_getD]
   rw [List.getElem?_eq_getElem (by omega)]
   rfl
  rw [e]
  refine (kA_eq _ _ _).trans ?_
  have e2:rowTh (r.take n ++ [r.getD n lp0]) = rowTh (r.take n) ++ thL (r.getD n lp0):=by simp [rowTh]
  rw [e2,List.map_append]
  refine (List.Perm.append_left _ ih).trans ?_
  rw [← List.append_assoc]
  exact List.Perm.append_right L List.perm_append_comm
theorem kC_eq (o:Os):(kC (tO o) 6).Perm ((allTh o.rw).map kyI):=by
 have e:∀ y L,(kB ((tO o).L y) ((tO o).ln y) L).Perm ((rowTh (o.rw y)).map kyI ++ L):=fun y L=>by
  have:=kB_eq (o.rw y) L (o.rw y).length (Nat.le_refl _)
  rw [List.take_length] at this
  exact this
 have h1:(kC (tO o) 1).Perm ((rowTh (o.rw 0)).map kyI ++ []):=e 0 _
 have h2:(kC (tO o) 2).Perm ((rowTh (o.rw 1)).map kyI ++ kC (tO o) 1):=e 1 _
 have h3:(kC (tO o) 3).Perm ((rowTh (o.rw 2)).map kyI ++ kC (tO o) 2):=e 2 _
 have h4:(kC (tO o) 4).Perm ((rowTh (o.rw 3)).map kyI ++ kC (tO o) 3):=e 3 _
 have h5:(kC (tO o) 5).Perm ((rowTh (o.rw 4)).map kyI ++ kC (tO o) 4):=e 4 _
 have h6:(kC (tO o) 6).Perm ((rowTh (o.rw 5)).map kyI ++ kC (tO o) 5):=e 5 _
 refine List.perm_iff_count.2 fun a=>?_
 have c1:=List.perm_iff_count.1 h1 a
 have c2:=List.perm_iff_count.1 h2 a
 have c3:=List.perm_iff_count.1 h3 a
 have c4:=List.perm_iff_count.1 h4 a
 have c5:=List.perm_iff_count.1 h5 a
 have c6:=List.perm_iff_count.1 h6 a
 simp only [allTh,List.map_append,List.count_append,List.count_nil] at c1 c2 c3 c4 c5 c6 ⊢
 omega
theorem ky_inj {a b:Idd} (h:kyI a = kyI b):a = b:=by
 cases a; cases b
 simp only [kyI,List.cons.injEq,and_true] at h
 obtain ⟨h1,h2⟩:=h
 subst h1; subst h2; rfl
theorem kC_nd (h:OsInv o N):(kC (tO o) 6).Nodup:=by
 rw [(kC_eq o).nodup_iff]
 have h1:=h.perm.nodup_iff.2 h.nodup
 rw [List.nodup_append] at h1
 unfold List.Nodup
 rw [List.pairwise_map]
 exact List.Pairwise.imp (fun hab hk=>hab (ky_inj hk)) h1.1
theorem kA_suf (f:Nat->Idd) (L:List (List Int)):∀ {k n:Nat},k<=n->kA f k L <:+ kA f n L
 | k,0,h=>by obtain rfl:k = 0:=by omega
             exact List.suffix_refl _
 | k,n+1,h=>by
  by_cases q:k = n+1
  ·subst q; exact List.suffix_refl _
  ·exact (kA_suf f L (show k<=n by omega)).trans (List.suffix_cons _ _)
theorem kB_suf (l:Nat->Lpp) (L:List (List Int)):∀ {k n:Nat},k<=n->kB l k L <:+ kB l n L
 | k,0,h=>by obtain rfl:k = 0:=by omega
             exact List.suffix_refl _
 | k,n+1,h=>by
  by_cases q:k = n+1
  ·subst q; exact List.suffix_refl _
  ·exact (kB_suf l L (show k<=n by omega)).trans (kA_suf _ _ (Nat.zero_le _))
theorem kC_suf (t:Tbl):∀ {k n:Nat},k<=n->kC t k <:+ kC t n
 | k,0,h=>by obtain rfl:k = 0:=by omega
             exact List.suffix_refl _
 | k,n+1,h=>by
  by_cases q:k = n+1
  ·subst q; exact List.suffix_refl _
  ·exact (kC_suf t (show k<=n by omega)).trans (kB_suf _ _ (Nat.zero_le _))
theorem tg_of {t:Tbl} {n:Nat} (h:(kC t n).Nodup):allB (tgY t) n = true:=by
 refine (allB_iff _ _).2 fun y hy=>(allB_iff _ _).2 fun i hi=>(allB_iff _ _).2 fun k hk=>?_
 unfold tgK
 have s:kA (t.L y i).th (k+1) (kB (t.L y) i (kC t y)) <:+ kC t n:=(kA_suf _ _ (show k+1<=(t.L y i).nt by omega)).trans ((kB_suf (t.L y) (kC t y) (show i+1<=t.ln y by omega)).trans (kC_suf t (show y+1<=n by omega)))
 have h2:=List.Nodup.sublist s.sublist h
 simp only [kA,List.nodup_cons] at h2
 simpa using h2.1
theorem tO_tgY (h:OsInv o N):allB (tgY (tO o)) (tO o).h = true:=tg_of (kC_nd h)
theorem tO_sum (h:OsInv o N):(tO o).sum (tO o).h = N:=by
 rw [← h.sum]
 show (0+(o.rw 0).length+(o.rw 1).length+(o.rw 2).length+(o.rw 3).length+(o.rw 4).length+(o.rw 5).length) = sum6 o.rw
 unfold sum6; omega
def sumM (M:Nat->Nat):Nat:=M 0+M 1+M 2+M 3+M 4+M 5
theorem md_inj (h:OsInv o N) {i j:Nat} (hi:i<N) (hj:j<N) (e:o.md.getD i id0 = o.md.getD j id0):i = j:=by
 have h1:=h.len
 rw [List.getD_eq_getElem?_getD,List.getD_eq_getElem?_getD,List.getElem?_eq_getElem (by omega),List.getElem?_eq_getElem (by omega)] at e
 have hp:=List.pairwise_iff_getElem.1 h.nodup
 rw [Option.getD_some,Option.getD_some] at e
 rcases Nat.lt_trichotomy i j with q | q | q
 ·exact absurd e (hp i j (by omega) (by omega) q)
 ·exact q
 ·exact absurd e.symm (hp j i (by omega) (by omega) q)
theorem rdy_ex (h:OsInv o N) (M:Nat->Nat) (hM:∀ y,y<6->M y<=(o.rw y).length):∀ k,k<N->∀ y n:Nat,y<6->o.md.getD k id0 = ⟨((y+1:Nat):Int),(n:Int)⟩->M y<=n->∃ z,z<6/\rdy (tO o) M z = true:=by
 intro k
 induction k using Nat.strongRecOn with
 | _ k ih =>
  intro hk y n hy e hn
  obtain ⟨y',hy',n',hn',e'⟩:=h.md k hk
  rw [e] at e'
  injection e' with e1 e2
  obtain rfl:y = y':=by omega
  obtain rfl:n = n':=by omega
  obtain ⟨k',k1,k2,k3,_,k5⟩:=h.row y hy n hn'
  obtain rfl:k' = k:=md_inj h k1 hk (k2.trans e.symm)
  by_cases q:n = M y
  ·subst q
   by_cases q2:rdy (tO o) M y = true
   ·exact ⟨y,hy,q2⟩
   ·unfold rdy at q2
    rw [Bool.and_eq_true,not_and] at q2
    have q3:=q2 (by simpa [tO] using hn')
    rw [allB_iff] at q3
    simp only [Classical.not_forall] at q3
    obtain ⟨i,hi,q4⟩:=q3
    obtain ⟨j,j1,j2⟩:=good_need k3 (i:=i) hi
    obtain ⟨z,m,hz,hm,ez,_⟩:=md_id h (k:=j) (by omega)
    refine ih j j1 (by omega) z m hz ez ?_
    have q5:¬ (thr (cM M) (needI ((o.rw y).getD (M y) lp0) i) = true):=q4
    rw [← j2,ez] at q5
    unfold thr cM at q5
    simp only [decide_eq_true_eq] at q5
    rw [show (((z+1:Nat):Int) - 1).toNat = z by omega] at q5
    omega
  ·obtain ⟨j,j1,j2⟩:=k5 (by omega)
   exact ih j j1 (by omega) y (n - 1) hy j2 (by omega)
theorem pick_ex (h:OsInv o N) (M:Nat->Nat) (hM:∀ y,y<6->M y<=(o.rw y).length) (hs:sumM M<N):∃ y,pick (tO o) M = some y:=by
 have h1:∃ y,y<6/\M y<(o.rw y).length:=by
  refine Classical.byContradiction fun q=>?_
  have q2:∀ y,y<6->(o.rw y).length<=M y:=fun y hy=>by
   rcases Nat.lt_or_ge (M y) (o.rw y).length with q3 | q3
   ·exact absurd ⟨y,hy,q3⟩ q
   ·exact q3
  have a0:=q2 0 (by omega)
  have a1:=q2 1 (by omega)
  have a2:=q2 2 (by omega)
  have a3:=q2 3 (by omega)
  have a4:=q2 4 (by omega)
  have a5:=q2 5 (by omega)
  have:=h.sum
  unfold sum6 at this
  unfold sumM at hs
  omega
 obtain ⟨y,hy,hl⟩:=h1
 obtain ⟨k,k1,k2,_⟩:=h.row y hy (M y) hl
 obtain ⟨z,hz,hr⟩:=rdy_ex h M hM k k1 y (M y) hy k2 (Nat.le_refl _)
 cases hp:pick (tO o) M with
 | some x=>exact ⟨x,rfl⟩
 | none =>
  unfold pick at hp
  rw [List.find?_eq_none] at hp
  exact absurd hr (hp z (by simpa [tO] using hz))
theorem sumM_inc (M:Nat->Nat) {y:Nat} (hy:y<6):sumM (inc M y) = sumM M+1:=by
 obtain rfl | rfl | rfl | rfl | rfl | rfl:y = 0 ∨ y = 1 ∨ y = 2 ∨ y = 3 ∨ y = 4 ∨ y = 5:=by omega
 all_goals
  simp [sumM,inc]
  try omega
theorem oM_le (h:OsInv o N) (k:Nat):∀ y,y<6->oM (tO o) k y<=(o.rw y).length:=fun y hy=>oM_ok (tO o) k y hy
theorem oM_sum (h:OsInv o N):∀ k,k<=N->sumM (oM (tO o) k) = k
 | 0,_=>rfl
 | k+1,hk=>by
  have ih:=oM_sum h k (by omega)
  obtain ⟨y,hp⟩:=pick_ex h (oM (tO o) k) (oM_le h k) (by omega)
  simp only [oM]
  rw [hp]
  dsimp only
  rw [sumM_inc _ (pick_lt hp).1,ih]
theorem pick_at (h:OsInv o N) {k:Nat} (hk:k<N):∃ y,pick (tO o) (oM (tO o) k) = some y:=pick_ex h _ (oM_le h k) (by rw [oM_sum h k (by omega)]; exact hk)
theorem ordN_eq (h:OsInv o N):ordN (tO o) = N:=by
 unfold ordN
 rw [tO_sum h,ordC_of (tO o) N N (Nat.le_refl _) (fun j hj=>by obtain ⟨y,e⟩:=pick_at h hj; unfold oOk; rw [e]; rfl) (.inl rfl) N (Nat.le_refl _)]
 omega
theorem chk0 (h:OsInv o N) (hN:N<=60):chkE (tO o) = 0:=by
 unfold chkE
 rw [if_neg (by show ¬ (6 ≠ 6); omega),tO_sum h,if_neg (by omega),tO_ckY h,tO_tgY h,ordN_eq h]
 simp
end
open Go.Proofs
def lo5 (l:Lpp):List T:=[.int .u8 l.b,.bool l.w,.own 0 0 0 l.nt (some l.nt),.own 1 0 0 l.np (some l.np)]
def h05 (l:Lpp):Heap:=[bkR l.th l.nt,b64 l.ps l.np]
noncomputable def K35 (p:List T->T->Prop) (g:Nat->Lpp) (n:Nat):Orc:=(noneO.add 35 (callF p fun _=>some (lpV g n (some n)))).addRef 1000000 (fun _ _=>.none)
noncomputable def K33n (p:List T->T->Prop) (l:Lpp):Orc:=noneO.add 33 (callF p fun _=>some (.agg [.int .u8 l.b,.bool l.w,.new (idV l.th l.nt none),.new (psV l.ps l.np none)]))
noncomputable def K34 (p:List T->T->Prop) (ln:Nat->Nat) (L:Nat->Nat->Lpp):Orc:=noneO.add 34 (callF p fun _=>some (.fresh false 1 6 (fun y=>[lpV (L y) (ln y) none]) 6 (some 6)))
def t6:T:=.own 2 0 0 6 (some 6)
def r6:T:=.own 4 0 0 6 (some 6)
def tK (ln:Nat->Nat) (L:Nat->Nat->Lpp) (K i:Nat):Blk:=⟨0,1,6,fun e=>[bif e==K then .own i 0 0 (ln K+1) none else lpV (L e) (ln e) none],false,false,none⟩
def rKc (ln:Nat->Nat) (L:Nat->Nat->Lpp) (K:Nat) (l:Lpp) (j:Nat):List T:=[.int .u8 (bif j.blt (ln K) then (L K j).b else l.b),.bool (bif j.blt (ln K) then (L K j).w else l.w),bif j.blt (ln K) then idV (L K j).th (L K j).nt none else .own 0 0 0 l.nt (some l.nt),bif j.blt (ln K) then psV (L K j).ps (L K j).np none else .own 1 0 0 l.np (some l.np)]
def rK (ln:Nat->Nat) (L:Nat->Nat->Lpp) (K:Nat) (l:Lpp):Blk:=⟨0,4,ln K+1,rKc ln L K l,false,false,none⟩
def rB5 (ln':Nat->Nat) (L':Nat->Nat->Lpp) (y:Nat):Blk:=⟨0,1,6,fun e=>[bif e.blt y then lpV (L' e) (ln' e) none else .nils],false,false,none⟩
def rC5 (ln':Nat->Nat) (L':Nat->Nat->Lpp) (y m:Nat):Blk:=⟨0,1,6,fun e=>[bif e==y then .own 5 0 0 m (some m) else bif e.blt y then lpV (L' e) (ln' e) none else .nils],false,false,none⟩
def qB5 (g:Nat->Lpp) (m k:Nat):Blk:=⟨0,4,m,fun j=>bif j.blt k then (g j).c else [.int .u8 0,.bool false,.nils,.nils],false,false,none⟩
def g1 (ln:Nat->Nat) (L:Nat->Nat->Lpp) (K:Nat) (l:Lpp) (x:Heap):Heap:=bkR l.th l.nt :: b64 l.ps l.np :: tK ln L K 3 :: rK ln L K l :: x
def u13 (y:Nat):List T:=[r6,t6,.int .i64 6,.int .i64 y]
def u17 (y:Nat) (row:T) (m k:Nat):List T:=[r6,.int .i64 y,t6,.int .i64 6,.int .i64 y,row,.int .i64 m,.int .i64 k]
def u19 (y:Nat) (row:T) (m k:Nat) (R:List T):List T:=[r6,.int .i64 y,.int .i64 k,.reg R,t6,.int .i64 6,.int .i64 y,row,.int .i64 m,.int .i64 k]
section
variable (ln:Nat->Nat) (L:Nat->Nat->Lpp) (ln':Nat->Nat) (L':Nat->Nat->Lpp) (l:Lpp) (K y m k:Nat) (row:T) (p:List T->T->Prop)
theorem c0 (w:Int):codeL P05 G05 A05 noneO 0 20 [] (nav [1]) [0,1,2] [Tbl.v ⟨6,ln,L⟩,.int .u8 w,.agg (lo5 l)] (h05 l) [0,1,5] = some (.normal,[Tbl.v ⟨6,ln,L⟩,.int .u8 w,.reg (lo5 l)],h05 l):=by kernel_rfl
theorem c1 (w:Int):codeL P05 G05 A05 (K20 p 0) 0 20 [] (nav [1,2]) [0,1,5] [Tbl.v ⟨6,ln,L⟩,.int .u8 w,.reg (lo5 l)] (h05 l) [0,1,5] = (bif decF (p [Tbl.v ⟨6,ln,L⟩] (.int .i64 0)) then some (.normal,[Tbl.v ⟨6,ln,L⟩,.int .u8 w,.reg (lo5 l)],h05 l) else none):=by kernel_rfl
theorem c2 (w:Int):codeL P05 G05 A05 noneO 0 20 [] (nav [1,2,2]) [0,1,5] [Tbl.v ⟨6,ln,L⟩,.int .u8 w,.reg (lo5 l)] (h05 l) [0,1,5] = (bif decide (w<1) then some (.ret,[Tbl.v ⟨6,ln,L⟩,.int .u8 w,.reg (lo5 l)],h05 l) else bif decide (6<w) then some (.ret,[Tbl.v ⟨6,ln,L⟩,.int .u8 w,.reg (lo5 l)],h05 l) else some (.normal,[Tbl.v ⟨6,ln,L⟩,.int .u8 w,.reg (lo5 l)],h05 l)):=by kernel_rfl
theorem c3 (w:Int):codeL P05 G05 A05 (K34 p ln L) 0 20 [] (nav [1,2,2,2]) [0,1,5] [Tbl.v ⟨6,ln,L⟩,.int .u8 w,.reg (lo5 l)] (h05 l) [0,1,5,9] = (bif decF (p [Tbl.v ⟨6,ln,L⟩] (.fresh false 1 6 (fun y=>[lpV (L y) (ln y) none]) 6 (some 6))) then some (.normal,[Tbl.v ⟨6,ln,L⟩,.int .u8 w,.reg (lo5 l),t6],h05 l ++ [tbA ⟨6,ln,L⟩]) else none):=by kernel_rfl
theorem c4 (hK:K<6):codeL P05 G05 A05 (K35 p (L K) (ln K)) 0 20 [] (nav [1,2,2,2,2]) [0,1,5,9] [Tbl.v ⟨6,ln,L⟩,.int .u8 ((K:Int)+1),.reg (lo5 l),t6] (h05 l ++ [tbA ⟨6,ln,L⟩]) [9] =
 (bif decF (p [lpV (L K) (ln K) none] (lpV (L K) (ln K) (some (ln K)))) then bif (ln K).blt (ln K+1)&&((ln K+1) * 57).ble 70368744177664 then
  some (.normal,[t6],[bkR l.th l.nt,b64 l.ps l.np,tK ln L K 4,⟨0,4,1,fun j=>[lo5 l].getD j [],false,true,none⟩,
   ⟨0,4,ln K+1,fun j=>bif j.blt (ln K) then (L K j).c else [lo5 l].getD (0+(j - ln K)) [],(((ln K).ble 8&&(List.range (ln K)).all fun j=>((fun j=>(L K j).c) j).all plain0)&&false),false,none⟩]) else none else none):=by
 obtain rfl | rfl | rfl | rfl | rfl | rfl:K = 0 ∨ K = 1 ∨ K = 2 ∨ K = 3 ∨ K = 4 ∨ K = 5:=by omega
 all_goals kernel_rfl
theorem c5:codeL P05 G05 A05 (K20 p 0) 0 20 [] (nav [1,2,2,2,2,2]) [9] [t6] (g1 ln L K l []) [9] = (bif decF (p [resolveArg (g1 ln L K l []) t6] (.int .i64 0)) then some (.normal,[t6],g1 ln L K l []) else none):=by kernel_rfl
theorem c6:codeL P05 G05 A05 noneO 0 20 [] (nav [1,2,2,2,2,2,2]) [9] [t6] (g1 ln L K l []) [9,11] = some (.normal,[t6,r6],g1 ln L K l [⟨0,1,6,fun x=>[.nils],false,false,none⟩]):=by kernel_rfl
theorem c7:codeL P05 G05 A05 noneO 0 20 [] (nav (1 :: Z20)) [9,11] [t6,r6] (g1 ln L K l [rB5 ln' L' y]) [11,50,51,52] = some (.normal,u13 0,g1 ln L K l [rB5 ln' L' y]):=by kernel_rfl
theorem c8:codeL P05 G05 A05 noneO 0 20 [] (nav (1 :: L13)) [11,50,51,52] (u13 y) (g1 ln L K l [rB5 ln' L' y]) [11,50,51,52,53] = (bif decide (Int.ofNat y<6) then some (.normal,u13 y ++ [.bool true],g1 ln L K l [rB5 ln' L' y]) else some (.normal,u13 y ++ [.bool false],g1 ln L K l [rB5 ln' L' y])):=by kernel_rfl
theorem c9t:codeL P05 G05 A05 noneO 0 20 [] (nav (1 :: 2 :: L13)) [11,50,51,52,53] (u13 y ++ [.bool true]) (g1 ln L K l [rB5 ln' L' y]) [11,50,51,52] = some (.normal,u13 y,g1 ln L K l [rB5 ln' L' y]):=by kernel_rfl
theorem c9f:codeL P05 G05 A05 noneO 0 20 [] (nav (1 :: 2 :: L13)) [11,50,51,52,53] (u13 y ++ [.bool false]) (g1 ln L K l [rB5 ln' L' y]) [11,50,51,52] = some (.exit 0,u13 y,g1 ln L K l [rB5 ln' L' y]):=by kernel_rfl
theorem c14o (hK:K<6):codeL P05 G05 A05 noneO 0 20 [] (nav (1 :: M13)) [11,50,51,52] (u13 K) (g1 ln L K l [rB5 ln' L' K]) [11,12,13,50,51,52] = some (.normal,[r6,.int .i64 K,.own 3 0 0 (ln K+1) none,t6,.int .i64 6,.int .i64 K],g1 ln L K l [rB5 ln' L' K]):=by
 obtain rfl | rfl | rfl | rfl | rfl | rfl:K = 0 ∨ K = 1 ∨ K = 2 ∨ K = 3 ∨ K = 4 ∨ K = 5:=by omega
 all_goals kernel_rfl
theorem c14v (hK:K<6) (hy:y<6) (hne:y ≠ K):codeL P05 G05 A05 noneO 0 20 [] (nav (1 :: M13)) [11,50,51,52] (u13 y) (g1 ln L K l [rB5 ln' L' y]) [11,12,13,50,51,52] = some (.normal,[r6,.int .i64 y,lpV (L y) (ln y) none,t6,.int .i64 6,.int .i64 y],g1 ln L K l [rB5 ln' L' y]):=by
 obtain rfl | rfl | rfl | rfl | rfl | rfl:K = 0 ∨ K = 1 ∨ K = 2 ∨ K = 3 ∨ K = 4 ∨ K = 5:=by omega
 all_goals
  obtain rfl | rfl | rfl | rfl | rfl | rfl:y = 0 ∨ y = 1 ∨ y = 2 ∨ y = 3 ∨ y = 4 ∨ y = 5:=by omega
  all_goals first | exact absurd rfl hne | kernel_rfl
def mk5 {α:Type} (m:Nat) (X Y:α):α:=bif decide ((0:Int)<=Int.ofNat m)&&decide (Int.ofNat m<=Int.ofNat m)&&decide (Int.ofNat m * 56<=140737488355328)&&decide (Int.ofNat m<=9223372036854775807) then X else Y
theorem c15o (hy:y<6):codeL P05 G05 A05 noneO 0 20 [] (nav (1 :: 2 :: M13)) [11,12,13,50,51,52] [r6,.int .i64 y,.own 3 0 0 m none,t6,.int .i64 6,.int .i64 y] (g1 ln L K l [rB5 ln' L' y]) [11,12,13,50,51,52] =
 mk5 m (some (.normal,[r6,.int .i64 y,.own 3 0 0 m none,t6,.int .i64 6,.int .i64 y],g1 ln L K l [⟨0,1,6,fun e=>[bif e==0+y then .own 5 0 0 m (some m) else bif e.blt y then lpV (L' e) (ln' e) none else .nils],false,false,none⟩,⟨0,4,m,fun x=>[.int .u8 0,.bool false,.nils,.nils],false,false,none⟩])) none:=by
 obtain rfl | rfl | rfl | rfl | rfl | rfl:y = 0 ∨ y = 1 ∨ y = 2 ∨ y = 3 ∨ y = 4 ∨ y = 5:=by omega
 all_goals kernel_rfl
theorem c15v (g:Nat->Lpp) (hy:y<6):codeL P05 G05 A05 noneO 0 20 [] (nav (1 :: 2 :: M13)) [11,12,13,50,51,52] [r6,.int .i64 y,lpV g m none,t6,.int .i64 6,.int .i64 y] (g1 ln L K l [rB5 ln' L' y]) [11,12,13,50,51,52] =
 mk5 m (some (.normal,[r6,.int .i64 y,lpV g m none,t6,.int .i64 6,.int .i64 y],g1 ln L K l [⟨0,1,6,fun e=>[bif e==0+y then .own 5 0 0 m (some m) else bif e.blt y then lpV (L' e) (ln' e) none else .nils],false,false,none⟩,⟨0,4,m,fun x=>[.int .u8 0,.bool false,.nils,.nils],false,false,none⟩])) none:=by
 obtain rfl | rfl | rfl | rfl | rfl | rfl:y = 0 ∨ y = 1 ∨ y = 2 ∨ y = 3 ∨ y = 4 ∨ y = 5:=by omega
 all_goals kernel_rfl
variable (g':Nat->Lpp)
theorem c16o:codeL P05 G05 A05 noneO 0 20 [] (nav (1 :: 2 :: 2 :: M13)) [11,12,13,50,51,52] [r6,.int .i64 y,.own 3 0 0 (ln K+1) none,t6,.int .i64 6,.int .i64 y] (g1 ln L K l [rC5 ln' L' y (ln K+1),qB5 g' (ln K+1) 0]) [11,12,50,51,52,63,64,65] =
 some (.normal,u17 y (.own 3 0 0 (ln K+1) none) (ln K+1) 0,g1 ln L K l [rC5 ln' L' y (ln K+1),qB5 g' (ln K+1) 0]):=by kernel_rfl
theorem c16v (g:Nat->Lpp):codeL P05 G05 A05 noneO 0 20 [] (nav (1 :: 2 :: 2 :: M13)) [11,12,13,50,51,52] [r6,.int .i64 y,lpV g m none,t6,.int .i64 6,.int .i64 y] (g1 ln L K l [rC5 ln' L' y m,qB5 g' m 0]) [11,12,50,51,52,63,64,65] =
 some (.normal,u17 y (lpV g m none) m 0,g1 ln L K l [rC5 ln' L' y m,qB5 g' m 0]):=by kernel_rfl
theorem c17:codeL P05 G05 A05 noneO 0 20 [] (nav (1 :: L17)) [11,12,50,51,52,63,64,65] (u17 y row m k) (g1 ln L K l [rC5 ln' L' y m,qB5 g' m k]) [11,12,50,51,52,63,64,65,66] =
 (bif decide (Int.ofNat k<Int.ofNat m) then some (.normal,u17 y row m k ++ [.bool true],g1 ln L K l [rC5 ln' L' y m,qB5 g' m k]) else some (.normal,u17 y row m k ++ [.bool false],g1 ln L K l [rC5 ln' L' y m,qB5 g' m k])):=by kernel_rfl
theorem c17t:codeL P05 G05 A05 noneO 0 20 [] (nav (1 :: 2 :: L17)) [11,12,50,51,52,63,64,65,66] (u17 y row m k ++ [.bool true]) (g1 ln L K l [rC5 ln' L' y m,qB5 g' m k]) [11,12,50,51,52,63,64,65] = some (.normal,u17 y row m k,g1 ln L K l [rC5 ln' L' y m,qB5 g' m k]):=by kernel_rfl
theorem c17f:codeL P05 G05 A05 noneO 0 20 [] (nav (1 :: 2 :: L17)) [11,12,50,51,52,63,64,65,66] (u17 y row m k ++ [.bool false]) (g1 ln L K l [rC5 ln' L' y m,qB5 g' m k]) [11,12,50,51,52,63,64,65] = some (.exit 2,u17 y row m k,g1 ln L K l [rC5 ln' L' y m,qB5 g' m k]):=by kernel_rfl
theorem c18v (g:Nat->Lpp):codeL P05 G05 A05 noneO 0 20 [] (nav (1 :: N17)) [11,12,50,51,52,63,64,65] (u17 y (lpV g m none) m k) (g1 ln L K l [rC5 ln' L' y m,qB5 g' m k]) [11,12,14,15,50,51,52,63,64,65] =
 (bif decide ((0:Int)<=Int.ofNat k)&&decide (Int.ofNat k<Int.ofNat m) then some (.normal,u19 y (lpV g m none) m k (g k).c,g1 ln L K l [rC5 ln' L' y m,qB5 g' m k]) else none):=by kernel_rfl
theorem c18o:codeL P05 G05 A05 noneO 0 20 [] (nav (1 :: N17)) [11,12,50,51,52,63,64,65] (u17 y (.own 3 0 0 (ln K+1) none) (ln K+1) k) (g1 ln L K l [rC5 ln' L' y (ln K+1),qB5 g' (ln K+1) k]) [11,12,14,15,50,51,52,63,64,65] =
 (bif decide ((0:Int)<=Int.ofNat k)&&decide (Int.ofNat k<Int.ofNat (ln K+1)) then bif (0+k).blt (ln K+1) then some (.normal,u19 y (.own 3 0 0 (ln K+1) none) (ln K+1) k (rKc ln L K l (0+k)),g1 ln L K l [rC5 ln' L' y (ln K+1),qB5 g' (ln K+1) k]) else none else none):=by kernel_rfl
def rs5 (x:Lpp):T:=.agg [.int .u8 x.b,.bool x.w,.new (idV x.th x.nt none),.new (psV x.ps x.np none)]
def qM5 (g:Nat->Lpp) (m k:Nat) (x:Lpp):Blk:=⟨0,4,m,fun e=>mergeL (e==0+k) x.c ((qB5 g m k).get e),false,false,none⟩
theorem c19v (x:Lpp) (hy:y<6):codeL P05 G05 A05 (K33n p x) 0 20 [] (nav (2 :: N17)) [11,12,14,15,50,51,52,63,64,65] (u19 y row m k x.c) (g1 ln L K l [rC5 ln' L' y m,qB5 g' m k]) [11,12,50,51,52,63,64,65] =
 (bif decF (p [.agg x.c] (rs5 x)) then bif decide ((0:Int)<=Int.ofNat k)&&decide (Int.ofNat k<Int.ofNat m) then bif Nat.blt (0+k) m&&true&&true&&true then
  some (.normal,u17 y row m k,g1 ln L K l [rC5 ln' L' y m,qM5 g' m k x]) else none else none else none):=by
 obtain rfl | rfl | rfl | rfl | rfl | rfl:y = 0 ∨ y = 1 ∨ y = 2 ∨ y = 3 ∨ y = 4 ∨ y = 5:=by omega
 all_goals kernel_rfl
theorem c19o (hy:y<6):codeL P05 G05 A05 (K33n p l) 0 20 [] (nav (2 :: N17)) [11,12,14,15,50,51,52,63,64,65] (u19 y row m k (lo5 l)) (g1 ln L K l [rC5 ln' L' y m,qB5 g' m k]) [11,12,50,51,52,63,64,65] =
 (bif decF (p [resolveArg (g1 ln L K l [rC5 ln' L' y m,qB5 g' m k]) (.agg (lo5 l))] (rs5 l)) then bif decide ((0:Int)<=Int.ofNat k)&&decide (Int.ofNat k<Int.ofNat m) then bif Nat.blt (0+k) m&&true&&true&&true then
  some (.normal,u17 y row m k,g1 ln L K l [rC5 ln' L' y m,qM5 g' m k l]) else none else none else none):=by
 obtain rfl | rfl | rfl | rfl | rfl | rfl:y = 0 ∨ y = 1 ∨ y = 2 ∨ y = 3 ∨ y = 4 ∨ y = 5:=by omega
 all_goals kernel_rfl
theorem c20:codeL P05 G05 A05 noneO 0 20 [] (nav (2 :: 2 :: 2 :: L17)) [11,12,50,51,52,63,64,65] (u17 y row m k) (g1 ln L K l [rC5 ln' L' y m,qB5 g' m (k+1)]) [11,12,50,51,52,63,64,65] =
 some (.normal,[r6,.int .i64 y,t6,.int .i64 6,.int .i64 y,row,.int .i64 m,.int .i64 (IntKind.i64.wrap (Int.ofNat k+1))],g1 ln L K l [rC5 ln' L' y m,qB5 g' m (k+1)]):=by kernel_rfl
theorem c21:codeL P05 G05 A05 noneO 0 20 [] (nav (2 :: 2 :: 2 :: L13)) [11,50,51,52] (u13 y) (g1 ln L K l [rB5 ln' L' (y+1)]) [11,50,51,52] =
 some (.normal,[r6,t6,.int .i64 6,.int .i64 (IntKind.i64.wrap (Int.ofNat y+1))],g1 ln L K l [rB5 ln' L' (y+1)]):=by kernel_rfl
theorem c22:codeL P05 G05 A05 noneO 0 20 [] (nav [2,2,2,2,2,2,2,2]) [11] [r6] (g1 ln L K l [rB5 ln' L' 6]) [6,7] = some (.ret,[r6,.int .i64 0],g1 ln L K l [rB5 ln' L' 6]):=by kernel_rfl
end
open Go.Proofs
def tA5 (ln:Nat->Nat) (L:Nat->Nat->Lpp) (K:Nat) (l:Lpp):Tbl:=⟨6,fun e=>if e = K then ln e+1 else ln e,fun e i=>if e = K/\i = ln e then l else L e i⟩
section
variable {ln:Nat->Nat} {L:Nat->Nat->Lpp} {l:Lpp} {K:Nat}
abbrev P20 (l:Lpp):=Pz P05 G05 A05 20 (h05 l)
abbrev W20:=Wk G05 A05 20 2
theorem run20 {K:Orc} (hK:OrcOk P05 G05 K) {p ls l1:List Nat} {vs v1:List T} {h h1:Heap} {e:Ex} (hk:codeL P05 G05 A05 K 0 20 [] (nav p) ls vs h l1 = some (e,v1,h1)):P20 l p ls vs h e l1 v1 h1 :=
 Pz.run hm05 hK (by kernel_rfl) loops0 hk
theorem rKc_lt {j:Nat} (hj:j<ln K):rKc ln L K l j = (L K j).c:=by unfold rKc; rw [bltT hj]; rfl
theorem rKc_at:rKc ln L K l (ln K) = lo5 l:=by
 unfold rKc
 rw [show (ln K).blt (ln K) = false by rw [Bool.eq_false_iff]; intro h; have:=blt_lt h; omega]; rfl
theorem renK {σ:List Nat} {H:Heap} (h0:posOf σ 0 = some 0) (h1:posOf σ 1 = some 1) {j:Nat} (hj:j<ln K+1):(rKc ln L K l j).map (ren0 σ H) = rKc ln L K l j:=by
 by_cases q:j<ln K
 ·rw [rKc_lt q]; rfl
 ·obtain rfl:j = ln K:=by omega
  rw [rKc_at]
  show [T.int .u8 l.b,.bool l.w,ren0 σ H (.own 0 0 0 l.nt (some l.nt)),ren0 σ H (.own 1 0 0 l.np (some l.np))] = _
  simp only [ren0,h0,h1]
  rfl
theorem renT {σ:List Nat} {H:Heap} {i i':Nat} (hi:posOf σ i = some i') (e:Nat):((tK ln L K i).get e).map (ren0 σ H) = (tK ln L K i').get e:=by
 show [ren0 σ H (bif e==K then .own i 0 0 (ln K+1) none else lpV (L e) (ln e) none)] = [bif e==K then .own i' 0 0 (ln K+1) none else lpV (L e) (ln e) none]
 cases (e==K) with
 | false=>rfl
 | true =>
  simp only [cond_true,ren0,hi]
theorem w4_20 {X:Bool}:W20 [9] [t6] [bkR l.th l.nt,b64 l.ps l.np,tK ln L K 4,⟨0,4,1,fun j=>[lo5 l].getD j [],false,true,none⟩,⟨0,4,ln K+1,fun j=>bif j.blt (ln K) then (L K j).c else [lo5 l].getD (0+(j - ln K)) [],(X&&false),false,none⟩] [t6] (g1 ln L K l []):=fun nt=>by
 refine .trans (.same (h2:=[bkR l.th l.nt,b64 l.ps l.np,tK ln L K 4,⟨0,4,1,fun j=>[lo5 l].getD j [],false,true,none⟩,rK ln L K l]) (.cons ⟨rfl,rfl,rfl,id,fun _ _=>rfl⟩ (.cons ⟨rfl,rfl,rfl,id,fun _ _=>rfl⟩ (.cons ⟨rfl,rfl,rfl,id,fun _ _=>rfl⟩ (.cons ⟨rfl,rfl,rfl,id,fun _ _=>rfl⟩ (.cons ⟨rfl,rfl,rfl,(fun h=>by cases h),fun j hj=>?_⟩ .nil))))))
  (WeakTo.canonS [0,1,2,4] rfl rfl rfl (.cons ⟨rfl,rfl,rfl,id,fun _ _=>rfl⟩ (.cons ⟨rfl,rfl,rfl,id,fun _ _=>rfl⟩ (.cons ⟨rfl,rfl,rfl,id,fun e _=>(renT rfl e).symm⟩ (.cons ⟨rfl,rfl,rfl,id,fun j hj=>(renK rfl rfl hj).symm⟩ .nil)))))
 have hj:j<ln K+1:=hj
 show rKc ln L K l j = bif j.blt (ln K) then (L K j).c else [lo5 l].getD (0+(j - ln K)) []
 by_cases q:j<ln K
 ·rw [rKc_lt q,bltT q]; rfl
 ·obtain rfl:j = ln K:=by omega
  rw [rKc_at,show (ln K).blt (ln K) = false by rw [Bool.eq_false_iff]; intro h; have:=blt_lt h; omega,Nat.sub_self]; rfl
theorem res_lo {H:Heap} {d:Nat} {σ:List Nat} (h0:H[0]? = some (bkR l.th l.nt)) (h1:H[1]? = some (b64 l.ps l.np)) (s0:σ.contains 0 = false) (s1:σ.contains 1 = false):Sims ((lo5 l).map (resolve (d+1) σ H)) l.c:=by
 have e0:resolve (d+1) σ H (.own 0 0 0 l.nt (some l.nt)) = .view 2 l.nt (fun j=>(l.th (0+j)).c) (some l.nt):=by
  simp only [resolve,h0,s0,cond_false]
  show (bif (true&&(true&&Nat.ble (0+l.nt) l.nt)) then T.view 2 l.nt (fun j=>(l.th (0+j)).c) (some l.nt) else .undef) = _
  rw [bleT (show 0+l.nt<=l.nt by omega)]; rfl
 have e1:resolve (d+1) σ H (.own 1 0 0 l.np (some l.np)) = .view 4 l.np (fun j=>(l.ps (0+j)).c) (some l.np):=by
  simp only [resolve,h1,s1,cond_false]
  show (bif (true&&(true&&Nat.ble (0+l.np) l.np)) then T.view 4 l.np (fun j=>(l.ps (0+j)).c) (some l.np) else .undef) = _
  rw [bleT (show 0+l.np<=l.np by omega)]; rfl
 show Sims [T.int .u8 l.b,.bool l.w,resolve (d+1) σ H (.own 0 0 0 l.nt (some l.nt)),resolve (d+1) σ H (.own 1 0 0 l.np (some l.np))] [T.int .u8 l.b,.bool l.w,idV l.th l.nt none,psV l.ps l.np none]
 rw [e0,e1]
 refine .cons (.refl _) (.cons (.refl _) (.cons (.view (.inr rfl) fun j _=>?_) (.cons (.view (.inr rfl) fun j _=>?_) .nil)))
 ·rw [Nat.zero_add]; exact .refl _
 ·rw [Nat.zero_add]; exact .refl _
theorem longer_sim:Sims [resolveArg (g1 ln L K l []) t6] [(tA5 ln L K l).v]:=by
 refine .cons (.view (.inr rfl) fun e he=>?_) .nil
 show Sims [resolve 3 [] (g1 ln L K l []) (bif 0+e==K then .own 3 0 0 (ln K+1) none else lpV (L (0+e)) (ln (0+e)) none)] [lpV ((tA5 ln L K l).L e) ((tA5 ln L K l).ln e) none]
 rw [Nat.zero_add]
 by_cases q:e = K
 ·subst q
  rw [beq_self_eq_true,cond_true]
  have ee:resolve 3 [] (g1 ln L e l []) (.own 3 0 0 (ln e+1) none) = (bif (true&&(true&&Nat.ble (0+(ln e+1)) (ln e+1))) then T.view 4 (ln e+1) (fun j=>(rKc ln L e l (0+j)).map (resolve 2 [] (g1 ln L e l []))) none else .undef):=rfl
  rw [ee,bleT (show 0+(ln e+1)<=ln e+1 by omega)]
  show Sims [T.view 4 (ln e+1) (fun j=>(rKc ln L e l (0+j)).map (resolve 2 [] (g1 ln L e l []))) none] [lpV (fun i=>if e = e/\i = ln e then l else L e i) (if e = e then ln e+1 else ln e) none]
  rw [if_pos rfl]
  refine .cons (.view (.inr rfl) fun j hj=>?_) .nil
  rw [Nat.zero_add]
  by_cases q2:j<ln e
  ·rw [rKc_lt q2]
   show Sims ((L e j).c.map (resolve 2 [] (g1 ln L e l []))) (if e = e/\j = ln e then l else L e j).c
   rw [if_neg (fun hh=>by omega)]; exact .refl _
  ·obtain rfl:j = ln e:=by omega
   rw [rKc_at]
   show Sims ((lo5 l).map (resolve 2 [] (g1 ln L e l []))) (if e = e/\ln e = ln e then l else L e (ln e)).c
   rw [if_pos ⟨rfl,rfl⟩]
   exact res_lo rfl rfl rfl rfl
 ·rw [show (e==K) = false by simpa using q,cond_false]
  show Sims [lpV (L e) (ln e) none] [lpV (fun i=>if e = K/\i = ln e then l else L e i) (if e = K then ln e+1 else ln e) none]
  rw [if_neg q]
  refine .cons (.view (.inr rfl) fun j hj=>?_) .nil
  show Sims (L e j).c (if e = K/\j = ln e then l else L e j).c
  rw [if_neg (fun hh=>q hh.1)]; exact .refl _
end
end Go.Ab

