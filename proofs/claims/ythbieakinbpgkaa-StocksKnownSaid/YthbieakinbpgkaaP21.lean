/- A part of the proof: nothing is assumed. -/
import Derived.Test.YthbieakinbpgkaaP19
import Derived.Test.YthbieakinbpgkaaP20
import Derived.Test.YthbieakinbpgkaaP17
set_option linter.all false
namespace Go.Ab
open Go.Proofs
def BBa:List Nat:=[0,1,2,0,0,2,1,2,2,2,2,2]
def S0a:List Nat:=[0,2,1,2,2,2] ++ BBa
def R0a:List Nat:=[3,2,4,2] ++ S0a
def vA (n:Nat) (X:Nat->Act) (s:T) (ad us i:Int):List T:=[acV n X,.ptr 0 0 0 0,s,.int .i64 ad,.int .i64 us,.int .i64 i]
def v4A (n:Nat) (X:Nat->Act) (s:T) (ad us i o a q w:Int):List T:=[acV n X,.ptr 0 0 0 0,s,.int .i64 ad,.int .i64 us,.int .i64 i,.int .i64 o,.int .i64 a,.int .i64 q,.int .i64 0,s,.int .u8 w]
def w4A (n:Nat) (X:Nat->Act) (s:T) (ad us i e w:Int) (s2:T):List T:=[acV n X,.ptr 0 0 0 0,s,.int .i64 ad,.int .i64 us,.int .i64 i,.int .i64 e,.int .i64 w,s2]
def mZl (e:Nat) (x:T) (H H2:Nat->Nat->Int):List T:=(bif e==0 then x else x) :: (List.range 30).map fun k=>T.int .i64 (bif e==0 then H2 (k / 5) (k % 5) else H (k / 5) (k % 5))
def mU (x:T) (H H2:Nat->Nat->Int):Blk:=⟨0,31,1,fun e=>mZl e x H H2,false,false,none⟩
noncomputable def K5a (p:List T->T->Prop) (c:List Cne) (h:List Hld) (E:Int):Orc:=noneO.add 13 (callF p fun _=>some (.tup [stV c h,.int .i64 E]))
noncomputable def K5r (p:List T->T->Prop) (c:List Cne) (h:List Hld) (E:Int):Orc:=noneO.add 17 (callF p fun _=>some (.tup [stV c h,.int .i64 E]))
noncomputable def K5u (p:List T->T->Prop) (q:List T->Heap->T->Heap->Prop) (c:List Cne) (h:List Hld) (E kn kn2:Int) (Y:Heap):Orc:=(noneO.add 11 (callF p fun _=>some (.tup [stV c h,.int .i64 kn,.int .i64 E]))).addRef 18 (refF q fun _ _=>some (.int .i64 kn2,Y))
noncomputable def K5h (p:List T->T->Prop) (l:List Hld):Orc:=noneO.add 14 (callF p fun _=>some (.new (hdV l none)))
noncomputable def K5s (p:List T->T->Prop) (c:List Cne) (h:List Hld) (E:Int):Orc:=noneO.add 8 (callF p fun _=>some (.tup [stN c h,.int .i64 E]))
noncomputable def K5n (p:List T->T->Prop) (nd:List Cne):Orc:=noneO.add 15 (callF p fun _=>some (.new (cnV nd (some nd.length))))
def argZ (a:List T):Int:=match a with | [_,.int _ z]=>z | _=>0
noncomputable def K5f (p:List T->T->Prop) (fr:Int->Int):Orc:=noneO.add 16 (callF p fun a=>some (.int .i64 (fr (argZ a))))
def vH (n:Nat) (X:Nat->Act) (s:T) (ad us i o e w:Int) (s2 h nd:T):List T:=[acV n X,.ptr 0 0 0 0,s,.int .i64 ad,.int .i64 us,.int .i64 i,.int .i64 o,.int .i64 e,.int .i64 w,s2,h,nd]
def sumR (F:Nat->Int):T:=.reg [.int .i64 (F 0),.int .i64 (F 1),.int .i64 (F 2),.int .i64 (F 3),.int .i64 (F 4)]
def v40 (n:Nat) (X:Nat->Act) (s:T) (ad us i o e w:Int) (s2 h:T) (nd:List Cne) (F:Nat->Int) (at' k:Nat):List T:=vH n X s ad us i o e w s2 h (cnV nd (some nd.length)) ++ [sumR F,.int .i64 at',.int .i64 k]
def w40 (n:Nat) (X:Nat->Act) (s:T) (ad us i o e w:Int) (s2 h:T) (nd:List Cne) (at':Nat):List T:=vH n X s ad us i o e w s2 h (cnV nd (some nd.length)) ++ [.int .i64 at']
theorem z1 (n:Nat) (X:Nat->Act) (s:T) (ad us:Int) (i:Nat) (h:Heap):codeL P42 G42 A42 noneO 0 5 [] (nav ([1] ++ BBa)) [0,3,4,5,6,7] (vA n X s ad us i) h [0,3,4,5,6,7,8,9,10] =
(
 bif decide (0<=Int.ofNat i)&&decide (Int.ofNat i<Int.ofNat n) then
 bif decide (0<=Int.ofNat i)&&decide (Int.ofNat i<Int.ofNat n) then
 bif decide (0<=Int.ofNat i)&&decide (Int.ofNat i<Int.ofNat n) then
 some ((.normal,w4A n X s ad us (Int.ofNat i) (IntKind.i64.wrap (1+IntKind.i64.wrap ((X i).o.tmod 5))) (IntKind.i64.wrap (1+IntKind.i64.wrap ((X i).a.tmod 4))) (.int .i64 (IntKind.i64.wrap (1+IntKind.i64.wrap (X i).l))),h))
 else none else none else
 none):=by kernel_rfl
theorem z2 (n:Nat) (X:Nat->Act) (s:T) (ad us i o a:Int) (q:T) (h:Heap):codeL P42 G42 A42 noneO 0 5 [] (nav ([1,2] ++ BBa)) [0,3,4,5,6,7,8,9,10] (w4A n X s ad us i o a q) h [0,3,4,5,6,7,8,9,10,12] =
(
 some ((.normal,[acV n X,.ptr 0 0 0 0,s,.int .i64 ad,.int .i64 us,.int .i64 i,.int .i64 o,.int .i64 a,q,.int .i64 0],h))):=by kernel_rfl
theorem z3 (n:Nat) (X:Nat->Act) (M:List Cne) (hs:List Hld) (ad us i o a q:Int) (h:Heap):codeL P42 G42 A42 noneO 0 5 [] (nav ([1,2,2] ++ BBa)) [0,3,4,5,6,7,8,9,10,12] [acV n X,.ptr 0 0 0 0,rS M hs,.int .i64 ad,.int .i64 us,.int .i64 i,.int .i64 o,.int .i64 a,.int .i64 q,.int .i64 0] h [0,3,4,5,6,7,8,9,10,12,13] =
(
 some ((.normal,[acV n X,.ptr 0 0 0 0,rS M hs,.int .i64 ad,.int .i64 us,.int .i64 i,.int .i64 o,.int .i64 a,.int .i64 q,.int .i64 0,rS M hs],h))):=by kernel_rfl
theorem z4 (n:Nat) (X:Nat->Act) (M:List Cne) (hs:List Hld) (ad us o a q:Int) (i:Nat) (h:Heap):codeL P42 G42 A42 noneO 0 5 [] (nav ([1,1,2,2,2] ++ BBa)) [0,3,4,5,6,7,8,9,10,12,13] [acV n X,.ptr 0 0 0 0,rS M hs,.int .i64 ad,.int .i64 us,.int .i64 i,.int .i64 o,.int .i64 a,.int .i64 q,.int .i64 0,rS M hs] h [0,3,4,5,6,7,8,9,10,12,13,68] =
(
 bif decide (0<=Int.ofNat i)&&decide (Int.ofNat i<Int.ofNat n) then
 some ((.normal,v4A n X (rS M hs) ad us (Int.ofNat i) o a q ((X i).w.tmod 5),h))
 else
 none):=by kernel_rfl
theorem zAd (n:Nat) (X:Nat->Act) (M c2:List Cne) (hs h2:List Hld) (ad us i o a q:Int) (v:Nat) (c:Option Nat) (H:Nat->Nat->Int) (E:Int) (p:List T->T->Prop):codeL P42 G42 A42 (K5a p c2 h2 E) 0 5 [] (nav S0a) [0,3,4,5,6,7,8,9,10,12,13,68] (v4A n X (rS M hs) ad us i o a q 0) (hA v c M H) [0,3,4,5,6,7,11,12,13] =
(
 bif decF (p [stV M hs,.agg [.int .i64 a,.int .i64 q]] (.tup [stV c2 h2,.int .i64 E])) then
 bif v==v&&true then
 bif ((0:Nat)+M.length).ble M.length then
 bif M.length==(0:Nat) then
 some ((.normal,w4A n X (rS M hs) (IntKind.i64.wrap (ad+q)) us i E (0:Int) (rS c2 h2),[.mk 0 31 1 (fun e=>mWl e (.own 1 v 0 M.length c) (.own 3 0 0 1
 none) H) false false
 none,cBl v M,cB (0:Nat) (0:Nat) (fun j=>[]) true,cB (0:Nat) (1:Nat) (fun j =>
 bif j.blt 0 then []
 else List.map plainOr ([[T.int .i64 a,T.int .i64 q]].getD j [])) false]))
 else
 bif (((0:Nat)+M.length) * (17:Nat)).ble 70368744177664 then
 bif ((0:Nat)+M.length).ble 0 then
 bif ((0:Nat)+M.length).ble 0 then
 bif ((0:Nat)+((0:Nat)+M.length)).ble 0 then
 bif (((0:Nat)+M.length+(1:Nat)) * (17:Nat)).ble 70368744177664 then
 some ((.normal,w4A n X (rS M hs) (IntKind.i64.wrap (ad+q)) us i E (0:Int) (rS c2 h2),[.mk 0 31 1 (fun e=>mWl e (.own 1 v 0 M.length c) (.own 3 0 0 ((0:Nat)+M.length+1)
 none) H) false false
 none,cBl v M,cB (0:Nat) (0:Nat) (fun j =>
 bif Nat.ble 0 j&&j.blt ((0:Nat)+M.length) then (M.getD ((0:Nat)+j) (Cne.mk (0:Int) (0:Int))).c
 else []) true,cB (0:Nat) ((0:Nat)+M.length+1) (fun j =>
 bif j.blt ((0:Nat)+M.length) then
 bif Nat.ble 0 (0+j)&&((0:Nat)+j).blt ((0:Nat)+M.length) then (M.getD ((0:Nat)+((0:Nat)+j)) (Cne.mk (0:Int) (0:Int))).c
 else []
 else List.map plainOr ([[T.int .i64 a,T.int .i64 q]].getD (j - ((0:Nat)+M.length)) [])) false]))
 else none else none else none else
 bif ((0:Nat)+((0:Nat)+M.length)).ble ((0:Nat)+M.length) then
 bif (((0:Nat)+M.length+(1:Nat)) * (17:Nat)).ble 70368744177664 then
 bif ((0:Nat)+((0:Nat)+M.length)+(1:Nat)).ble ((0:Nat)+M.length) then
 some ((.normal,w4A n X (rS M hs) (IntKind.i64.wrap (ad+q)) us i E (0:Int) (rS c2 h2),[.mk 0 31 1 (fun e=>mWl e (.own 1 v 0 M.length c) (.own 3 0 0 ((0:Nat)+M.length+1)
 none) H) false false
 none,cBl v M,cB (0:Nat) (0:Nat) (fun j=>[]) true,cB (0:Nat) ((0:Nat)+M.length) (fun j =>
 bif ((0:Nat)+((0:Nat)+M.length)).ble j&&j.blt ((0:Nat)+((0:Nat)+M.length)+(1:Nat)) then List.map plainOr ([[T.int .i64 a,T.int .i64 q]].getD (j - ((0:Nat)+((0:Nat)+M.length))) [])
 else (M.getD ((0:Nat)+j) (Cne.mk (0:Int) (0:Int))).c) false]))
 else
 some ((.normal,w4A n X (rS M hs) (IntKind.i64.wrap (ad+q)) us i E (0:Int) (rS c2 h2),[.mk 0 31 1 (fun e=>mWl e (.own 1 v 0 M.length c) (.own 3 1 0 ((0:Nat)+M.length+1)
 none) H) false false
 none,cBl v M,cB (0:Nat) (0:Nat) (fun j=>[]) true,cB (1:Nat) ((0:Nat)+M.length+1) (fun j =>
 bif j.blt ((0:Nat)+M.length) then (M.getD ((0:Nat)+((0:Nat)+j)) (Cne.mk (0:Int) (0:Int))).c
 else List.map plainOr ([[T.int .i64 a,T.int .i64 q]].getD (j - ((0:Nat)+M.length)) [])) false]))
 else none else none else none else none else none else
 none):=by kernel_rfl
theorem zRe (n:Nat) (X:Nat->Act) (M c2:List Cne) (hs h2:List Hld) (ad us i a q:Int) (v:Nat) (c:Option Nat) (H:Nat->Nat->Int) (E:Int) (p:List T->T->Prop) (o:Nat) (ho:o = 1 ∨ o = 2 ∨ o = 3 ∨ o = 4 ∨ o = 5):codeL P42 G42 A42 (K5r p c2 h2 E) 0 5 [] (nav S0a) [0,3,4,5,6,7,8,9,10,12,13,68] (v4A n X (rS M hs) ad us i o a q 3) (hA v c M H) [0,3,4,5,6,7,11,12,13] =
 (bif decF (p [stV M hs,.int .i64 o] (.tup [stV c2 h2,.int .i64 E])) then
  bif decide (H o 0 = 0) then bif decide (H o 1 = 0) then bif decide (H o 2 = 0) then bif decide (H o 3 = 0) then bif decide (H o 4 = 0) then
  some (.normal,w4A n X (rS M hs) ad us i E 7 (rS c2 h2),[mU (.own 1 v 0 M.length c) H (zerH H o),cBl v M])
  else some (.normal,w4A n X (rS M hs) ad us i E 0 (rS c2 h2),[mU (.own 1 v 0 M.length c) H (zerH H o),cBl v M])
  else some (.normal,w4A n X (rS M hs) ad us i E 0 (rS c2 h2),[mU (.own 1 v 0 M.length c) H (zerH H o),cBl v M])
  else some (.normal,w4A n X (rS M hs) ad us i E 0 (rS c2 h2),[mU (.own 1 v 0 M.length c) H (zerH H o),cBl v M])
  else some (.normal,w4A n X (rS M hs) ad us i E 0 (rS c2 h2),[mU (.own 1 v 0 M.length c) H (zerH H o),cBl v M])
  else some (.normal,w4A n X (rS M hs) ad us i E 0 (rS c2 h2),[mU (.own 1 v 0 M.length c) H (zerH H o),cBl v M])
 else none):=by
 obtain rfl | rfl | rfl | rfl | rfl:=ho
 all_goals kernel_rfl
theorem zUs (n:Nat) (X:Nat->Act) (M c2:List Cne) (hs h2:List Hld) (ad us i d:Int) (v:Nat) (c:Option Nat) (H:Nat->Nat->Int) (E kn kn2:Int) (p:List T->T->Prop) (q:List T->Heap->T->Heap->Prop) (Y:Heap) (o a:Nat) (ho:o = 1 ∨ o = 2 ∨ o = 3 ∨ o = 4 ∨ o = 5) (ha:a = 1 ∨ a = 2 ∨ a = 3 ∨ a = 4):codeL P42 G42 A42 (K5u p q c2 h2 E kn kn2 Y) 0 5 [] (nav S0a) [0,3,4,5,6,7,8,9,10,12,13,68] (v4A n X (rS M hs) ad us i o a d 4) (hA v c M H) [0,3,4,5,6,7,11,12,13] =
 (bif decF (p [stV M hs,.int .i64 o,.int .i64 a,.int .i64 d] (.tup [stV c2 h2,.int .i64 kn,.int .i64 E])) then
  bif decide (H o a = 0) then some (.normal,w4A n X (rS M hs) ad us i E 7 (rS c2 h2),hA v c M H)
  else bif decide (H o a<d) then some (.normal,w4A n X (rS M hs) ad us i E 18 (rS c2 h2),hA v c M H)
  else bif decF (q [.ptr 0 0 0 0,.int .i64 a,.int .i64 d] [mU (.own 1 v 0 M.length c) H (updH H o a (IntKind.i64.wrap (H o a - d))),cBl v M] (.int .i64 kn2) Y) then
   bif !decide (kn = kn2) then some (.ret,w4A n X (rS M hs) ad (IntKind.i64.wrap (us+d)) i E 0 (rS c2 h2),Y)
   else some (.normal,w4A n X (rS M hs) ad (IntKind.i64.wrap (us+d)) i E 0 (rS c2 h2),Y)
  else none
 else none):=by
 obtain rfl | rfl | rfl | rfl | rfl:=ho
 all_goals obtain rfl | rfl | rfl | rfl:=ha
 all_goals kernel_rfl
theorem rA (n:Nat) (X:Nat->Act) (s:T) (ad us i o a q:Int) (h:Heap):codeL P42 G42 A42 noneO 0 5 [] (nav ([1] ++ S0a)) [0,3,4,5,6,7,8,9,10,12,13,68] (v4A n X s ad us i o a q 1) h [0,3,4,5,6,7,8,9,10,12,13,68,112] =
(
 some ((.normal,[acV n X,.ptr 0 0 0 0,s,.int .i64 ad,.int .i64 us,.int .i64 i,.int .i64 o,.int .i64 a,.int .i64 q,.int .i64 0,s,.int .u8 1,.bool false],h))):=by kernel_rfl
theorem rA2 (n:Nat) (X:Nat->Act) (s:T) (ad us i o a q:Int) (h:Heap):codeL P42 G42 A42 noneO 0 5 [] (nav ([1] ++ S0a)) [0,3,4,5,6,7,8,9,10,12,13,68] (v4A n X s ad us i o a q 2) h [0,3,4,5,6,7,8,9,10,12,13,68,112] =
(
 some ((.normal,[acV n X,.ptr 0 0 0 0,s,.int .i64 ad,.int .i64 us,.int .i64 i,.int .i64 o,.int .i64 a,.int .i64 q,.int .i64 0,s,.int .u8 2,.bool false],h))):=by kernel_rfl
theorem rB (n:Nat) (X:Nat->Act) (s:T) (ad us i o a q:Int) (h:Heap):codeL P42 G42 A42 noneO 0 5 [] (nav ([1,4,2] ++ S0a)) [0,3,4,5,6,7,8,9,10,12,13,68,112] (v4A n X s ad us i o a q 1 ++ [.bool false]) h [0,3,4,5,6,7,8,12,13,139] =
(
 some ((.normal,[acV n X,.ptr 0 0 0 0,s,.int .i64 ad,.int .i64 us,.int .i64 i,.int .i64 o,.int .i64 0,s,.bool true],h))):=by kernel_rfl
theorem rB2 (n:Nat) (X:Nat->Act) (s:T) (ad us i o a q:Int) (h:Heap):codeL P42 G42 A42 noneO 0 5 [] (nav ([1,4,2] ++ S0a)) [0,3,4,5,6,7,8,9,10,12,13,68,112] (v4A n X s ad us i o a q 2 ++ [.bool false]) h [0,3,4,5,6,7,8,12,13,139] =
(
 some ((.normal,[acV n X,.ptr 0 0 0 0,s,.int .i64 ad,.int .i64 us,.int .i64 i,.int .i64 o,.int .i64 0,s,.bool true],h))):=by kernel_rfl
theorem rC (n:Nat) (X:Nat->Act) (s:T) (ad us o:Int) (i:Nat) (h:Heap) (p:List T->T->Prop) (L:List Hld):codeL P42 G42 A42 (K5h p L) 0 5 [] (nav ([1] ++ R0a)) [0,3,4,5,6,7,8,12,13,139] (vA n X s ad us i ++ [.int .i64 o,.int .i64 0,s,.bool true]) h [0,3,4,5,6,7,8,12,13,14] =
(
 bif decide (0<=Int.ofNat i)&&decide (Int.ofNat i<Int.ofNat n) then
 bif decF (p [.agg (X i).c] (hdV L
 none).new) then
 some ((.normal,[acV n X,.ptr 0 0 0 0,s,.int .i64 ad,.int .i64 us,.int .i64 (.ofNat i),.int .i64 o,.int .i64 0,s,hdV L
 none],h))
 else none else
 none):=by kernel_rfl
theorem rD (n:Nat) (X:Nat->Act) (M c2:List Cne) (hs h2:List Hld) (ad us o i:Int) (h:Heap) (p:List T->T->Prop) (L:List Hld) (E:Int):codeL P42 G42 A42 (K5s p c2 h2 E) 0 5 [] (nav ([1,2] ++ R0a)) [0,3,4,5,6,7,8,12,13,14] (vA n X (rS M hs) ad us i ++ [.int .i64 o,.int .i64 0,rS M hs,hdV L none]) h [0,3,4,5,6,7,8,11,12,13,14] =
(
 bif decF (p [stV M hs,hdV L
 none] (.tup [stN c2 h2,.int .i64 E])) then
 some ((.normal,[acV n X,.ptr 0 0 0 0,rS M hs,.int .i64 ad,.int .i64 us,.int .i64 i,.int .i64 o,.int .i64 E,.int .i64 0,rS c2 h2,hdV L
 none],h))
 else
 none):=by kernel_rfl
theorem rE (n:Nat) (X:Nat->Act) (M:List Cne) (hs:List Hld) (ad us o i e:Int) (s2:T) (h:Heap) (p:List T->T->Prop) (L:List Hld) (nd:List Cne):codeL P42 G42 A42 (K5n p nd) 0 5 [] (nav ([1,2,2] ++ R0a)) [0,3,4,5,6,7,8,11,12,13,14] (vA n X (rS M hs) ad us i ++ [.int .i64 o,.int .i64 e,.int .i64 0,s2,hdV L none]) h [0,3,4,5,6,7,8,11,12,13,14,15] =
(
 bif decF (p [stV M hs,hdV L
 none] (cnV nd (some nd.length)).new) then
 some ((.normal,vH n X (rS M hs) ad us i o e (0:Int) s2 (hdV L
 none) (cnV nd (some nd.length)),h))
 else
 none):=by kernel_rfl
theorem rF (n:Nat) (X:Nat->Act) (s:T) (ad us o i e:Int) (s2 h' nd:T) (h:Heap):codeL P42 G42 A42 noneO 0 5 [] (nav ([1,2,2,2] ++ R0a)) [0,3,4,5,6,7,8,11,12,13,14,15] (vH n X s ad us i o e 0 s2 h' nd) h [0,3,4,5,6,7,8,11,12,13,14,15,16] =
(
 some ((.normal,[acV n X,.ptr 0 0 0 0,s,.int .i64 ad,.int .i64 us,.int .i64 i,.int .i64 o,.int .i64 e,.int .i64 0,s2,h',nd,.reg [.int .i64 0,.int .i64 0,.int .i64 0,.int .i64 0,.int .i64 0]],h))):=by kernel_rfl
theorem rHh (n:Nat) (X:Nat->Act) (s:T) (ad us o i e:Int) (s2 h' nd su:T) (h:Heap):codeL P42 G42 A42 noneO 0 5 [] (nav ([1,2,2,2,2,2] ++ R0a)) [0,3,4,5,6,7,8,11,12,13,14,15,16] (vH n X s ad us i o e 0 s2 h' nd ++ [su]) h [0,3,4,5,6,7,8,11,12,13,14,15,16,18] =
(
 some ((.normal,[acV n X,.ptr 0 0 0 0,s,.int .i64 ad,.int .i64 us,.int .i64 i,.int .i64 o,.int .i64 e,.int .i64 0,s2,h',nd,su,.int .i64 0],h))):=by kernel_rfl
open Go.Proofs
def l13:List Nat:=[0,3,4,5,6,7,8,11,12,13,14,15,16]
def l40:List Nat:=[0,3,4,5,6,7,8,11,12,13,14,15,16,18,19]
def LP40:List Nat:=[0,2,1,2,2,2,2,2,2] ++ R0a
def LP50:List Nat:=[0,2,2,2,2,2,2,2,2,2] ++ R0a
def l50:List Nat:=[0,3,4,5,6,7,8,11,12,13,14,20]
def v50 (n:Nat) (X:Nat->Act) (s:T) (ad us i o e w:Int) (s2 h:T) (k:Nat):List T:=[acV n X,.ptr 0 0 0 0,s,.int .i64 ad,.int .i64 us,.int .i64 i,.int .i64 o,.int .i64 e,.int .i64 w,s2,h,.int .i64 k]
def u11 (n:Nat) (X:Nat->Act) (s:T) (ad us i o e w:Int) (s2 h:T):List T:=[acV n X,.ptr 0 0 0 0,s,.int .i64 ad,.int .i64 us,.int .i64 i,.int .i64 o,.int .i64 e,.int .i64 w,s2,h]
def sm1 (a:Nat) (l:Int):Nat->Int:=fun k=>bif k==a then IntKind.i64.wrap (0+l) else 0
def sm2 (a:Nat) (l:Int) (b:Nat) (m:Int):Nat->Int:=fun k=>bif k==b then IntKind.i64.wrap (sm1 a l b+m) else sm1 a l k
def cnR (v:Nat) (M:List Cne) (c:Option Nat):T:=bif v==v&&(0+M.length).ble M.length then .view 2 M.length (fun j=>(M.getD (0+j) cn0).c) c else .undef
theorem b40 (n:Nat) (X:Nat->Act) (s:T) (ad us i o e w:Int) (s2:T) (h:List Hld) (nd:List Cne) (F:Nat->Int) (z:Nat) (v:Nat) (c:Option Nat) (M:List Cne) (H:Nat->Nat->Int) (p:List T->T->Prop) (fr:Int->Int) (k:Nat) (hk:k = 1 ∨ k = 2 ∨ k = 3 ∨ k = 4):codeL P42 G42 A42 (K5f p fr) 0 5 [] (nav (0 :: LP40)) l40 (v40 n X s ad us i o e w s2 (hdV h none) nd F z k) (hA v c M H) l40 =
 (bif decide (0<F k) then
  bif decF (p [.vp (mC (cnR v M c) H),.int .i64 k] (.int .i64 (fr k))) then
  bif decide (fr k<F k) then
  bif decide (Int.ofNat nd.length<=Int.ofNat z) then some (.ret,v40 n X s ad us i o e 18 s2 (hdV h none) nd F z k,hA v c M H)
  else bif decide ((0:Int)<=Int.ofNat z)&&decide (Int.ofNat z<Int.ofNat nd.length) then
  bif decF (p [.vp (mC (cnR v M c) H),.int .i64 k] (.int .i64 (fr k))) then
  bif decide ((nd.getD z cn0).a = (k:Int)) then
  bif decide ((nd.getD z cn0).l = IntKind.i64.wrap (F k - fr k)) then
  some (.normal,vH n X s ad us i o e 18 s2 (hdV h none) (cnV nd (some nd.length)) ++ [sumR F,.int .i64 (IntKind.i64.wrap (Int.ofNat z+1)),.int .i64 (k+1:Nat)],hA v c M H)
  else some (.ret,v40 n X s ad us i o e 18 s2 (hdV h none) nd F z k,hA v c M H)
  else some (.ret,v40 n X s ad us i o e 18 s2 (hdV h none) nd F z k,hA v c M H)
  else none
  else none
  else some (.normal,v40 n X s ad us i o e w s2 (hdV h none) nd F z (k+1),hA v c M H)
  else none
 else some (.normal,v40 n X s ad us i o e w s2 (hdV h none) nd F z (k+1),hA v c M H)):=by
 obtain rfl | rfl | rfl | rfl:=hk
 all_goals kernel_rfl
theorem b40y (n:Nat) (X:Nat->Act) (s:T) (ad us i o e w:Int) (s2:T) (h:T) (nd:List Cne) (F:Nat->Int) (z:Nat) (g:Heap):codeL P42 G42 A42 noneO 0 5 [] (nav (0 :: LP40)) l40 (v40 n X s ad us i o e w s2 h nd F z 5) g [0,3,4,5,6,7,8,11,12,13,14,15,18] =
(
 some ((.exit 6,w40 n X s ad us i o e w s2 h nd z,g))):=by kernel_rfl
theorem r39 (n:Nat) (X:Nat->Act) (s:T) (ad us i o e w:Int) (s2:T) (h:T) (nd:List Cne) (F:Nat->Int) (g:Heap):codeL P42 G42 A42 noneO 0 5 [] (nav ([1,1,2,2,2,2,2,2] ++ R0a)) [0,3,4,5,6,7,8,11,12,13,14,15,16,18] (vH n X s ad us i o e w s2 h (cnV nd (some nd.length)) ++ [sumR F,.int .i64 0]) g l40 =
(
 some ((.normal,v40 n X s ad us i o e w s2 h nd F (nat_lit 0) (nat_lit 1),g))):=by kernel_rfl
theorem r47 (n:Nat) (X:Nat->Act) (s:T) (ad us i o e w:Int) (s2:T) (h:T) (nd:List Cne) (z:Nat) (g:Heap):codeL P42 G42 A42 noneO 0 5 [] (nav ([1,2,2,2,2,2,2,2] ++ R0a)) [0,3,4,5,6,7,8,11,12,13,14,15,18] (w40 n X s ad us i o e w s2 h nd z) g [0,3,4,5,6,7,8,11,12,13,14] =
(
 bif !decide (Int.ofNat z = Int.ofNat nd.length) then
 some ((.ret,u11 n X s ad us i o e w s2 h,g))
 else
 bif !decide (Int.ofNat nd.length = Int.ofNat z) then
 some ((.ret,u11 n X s ad us i o e w s2 h,g))
 else
 some ((.normal,u11 n X s ad us i o e w s2 h,g))):=by kernel_rfl
theorem r49 (n:Nat) (X:Nat->Act) (s:T) (ad us i o e w:Int) (s2:T) (h:T) (g:Heap):codeL P42 G42 A42 noneO 0 5 [] (nav ([1,2,2,2,2,2,2,2,2] ++ R0a)) [0,3,4,5,6,7,8,11,12,13,14] (u11 n X s ad us i o e w s2 h) g l50 =
(
 some ((.normal,v50 n X s ad us i o e w s2 h (nat_lit 0),g))):=by kernel_rfl
theorem b50y (n:Nat) (X:Nat->Act) (s:T) (ad us i o e w:Int) (s2:T) (h:List Hld) (k:Nat) (g:Heap):codeL P42 G42 A42 noneO 0 5 [] (nav ([1,0] ++ LP50)) l50 (v50 n X s ad us i o e w s2 (hdV h none) k) g [0,3,4,5,6,7,11,12,13] =
(
 bif decide (Int.ofNat k<Int.ofNat h.length) then
 bif decide (w = 0) then
 some ((.normal,w4A n X s ad us i e w s2,g))
 else
 some ((.exit 8,w4A n X s ad us i e w s2,g))
 else
 some ((.exit 8,w4A n X s ad us i e w s2,g))):=by kernel_rfl
theorem b50a (n:Nat) (X:Nat->Act) (s:T) (ad us i e:Int) (s2:T) (r:List Hld) (q l1:Int) (v:Nat) (c:Option Nat) (M:List Cne) (H:Nat->Nat->Int) (o a:Nat) (ho:o = 1 ∨ o = 2 ∨ o = 3 ∨ o = 4 ∨ o = 5) (ha:a = 1 ∨ a = 2 ∨ a = 3 ∨ a = 4):codeL P42 G42 A42 noneO 0 5 [] (nav (0 :: LP50)) l50 (v50 n X s ad us i o e 0 s2 (hdV (⟨q,a,l1⟩ :: r) none) 0) (hA v c M H) l50 =
 (bif decide ((0:Int)<Int.ofNat (r.length+1)) then bif decide ((0:Int)<Int.ofNat (r.length+1)) then bif decide ((0:Int)<Int.ofNat (r.length+1)) then bif decide ((0:Int)<Int.ofNat (r.length+1)) then
  some (.normal,v50 n X s ad us i o e 0 s2 (hdV (⟨q,a,l1⟩ :: r) none) 1,[mU (.own 1 v 0 M.length c) H (updH H o a (IntKind.i64.wrap (H o a+l1))),cBl v M])
  else none else none else none
  else some (.exit 8,v50 n X s ad us i o e 0 s2 (hdV (⟨q,a,l1⟩ :: r) none) 0,hA v c M H)):=by
 obtain rfl | rfl | rfl | rfl | rfl:=ho
 all_goals obtain rfl | rfl | rfl | rfl:=ha
 all_goals kernel_rfl
theorem b50b (n:Nat) (X:Nat->Act) (s:T) (ad us i e:Int) (s2:T) (x:Hld) (r:List Hld) (q l1:Int) (v:Nat) (c:Option Nat) (M:List Cne) (H:Nat->Nat->Int) (o a:Nat) (ho:o = 1 ∨ o = 2 ∨ o = 3 ∨ o = 4 ∨ o = 5) (ha:a = 1 ∨ a = 2 ∨ a = 3 ∨ a = 4):codeL P42 G42 A42 noneO 0 5 [] (nav (0 :: LP50)) l50 (v50 n X s ad us i o e 0 s2 (hdV (x :: ⟨q,a,l1⟩ :: r) none) 1) (hA v c M H) l50 =
 (bif decide ((1:Int)<Int.ofNat (r.length+2)) then bif decide ((1:Int)<Int.ofNat (r.length+2)) then bif decide ((1:Int)<Int.ofNat (r.length+2)) then bif decide ((1:Int)<Int.ofNat (r.length+2)) then
  some (.normal,v50 n X s ad us i o e 0 s2 (hdV (x :: ⟨q,a,l1⟩ :: r) none) 2,[mU (.own 1 v 0 M.length c) H (updH H o a (IntKind.i64.wrap (H o a+l1))),cBl v M])
  else none else none else none
  else some (.exit 8,v50 n X s ad us i o e 0 s2 (hdV (x :: ⟨q,a,l1⟩ :: r) none) 1,hA v c M H)):=by
 obtain rfl | rfl | rfl | rfl | rfl:=ho
 all_goals obtain rfl | rfl | rfl | rfl:=ha
 all_goals kernel_rfl
theorem rG1 (n:Nat) (X:Nat->Act) (s:T) (ad us i o e q l1:Int) (s2:T) (nd:T) (h:Heap) (a:Nat) (ha:a = 1 ∨ a = 2 ∨ a = 3 ∨ a = 4):codeL P42 G42 A42 noneO 3 5 [] (nav ([1,2,2,2,2] ++ R0a)) l13 (vH n X s ad us i o e 0 s2 (hdV [⟨q,a,l1⟩] none) nd ++ [sumR fun _=>0]) h l13 =
 some (.normal,vH n X s ad us i o e 0 s2 (hdV [⟨q,a,l1⟩] none) nd ++ [sumR (sm1 a l1)],h):=by
 obtain rfl | rfl | rfl | rfl:=ha
 all_goals kernel_rfl
theorem rG2 (n:Nat) (X:Nat->Act) (s:T) (ad us i o e q l1 q2 l2:Int) (s2:T) (nd:T) (h:Heap) (a b:Nat) (ha:a = 1 ∨ a = 2 ∨ a = 3 ∨ a = 4) (hb:b = 1 ∨ b = 2 ∨ b = 3 ∨ b = 4):codeL P42 G42 A42 noneO 3 5 [] (nav ([1,2,2,2,2] ++ R0a)) l13 (vH n X s ad us i o e 0 s2 (hdV [⟨q,a,l1⟩,⟨q2,b,l2⟩] none) nd ++ [sumR fun _=>0]) h l13 =
 some (.normal,vH n X s ad us i o e 0 s2 (hdV [⟨q,a,l1⟩,⟨q2,b,l2⟩] none) nd ++ [sumR (sm2 a l1 b l2)],h):=by
 obtain rfl | rfl | rfl | rfl:=ha
 all_goals obtain rfl | rfl | rfl | rfl:=hb
 all_goals kernel_rfl
open Go.Proofs
abbrev P5:=Pz P42 G42 A42 5 ([]:Heap)
theorem p5 {p l1 v1 h1 l2 v2 h2 e} (k:codeL P42 G42 A42 noneO 0 5 [] (nav p) l1 v1 h1 l2 = some (e,v2,h2)):P5 p l1 v1 h1 e l2 v2 h2:=Pz.run hm42 none_ok (m:=0) (by kernel_rfl) loops0 k
theorem wkU (v:Nat) (c:Option Nat) (M:List Cne) (H H2:Nat->Nat->Int) (l:List Nat) (vs:List T):Wk G42 A42 5 0 l vs [mU (.own 1 v 0 M.length c) H H2,cBl v M] vs (hA v c M H2):=fun nt=>by
 refine .same (.cons ⟨rfl,rfl,rfl,id,fun j hj=>?_⟩ (.cons ⟨rfl,rfl,rfl,id,fun _ _=>rfl⟩ .nil))
 obtain rfl:=one_of hj
 rfl
theorem Sim.vp {l m:List T} (h:Sims l m):Sim (.vp l) (.vp m):=by
 intro w U v hv
 cases hv with
 | vp _ a vs hs hU hc hv =>
  refine .vp m a vs hs (by rw [← h.1]; exact hU) (fun i c hi=>?_) (fun i c hi=>?_)
  ·obtain ⟨y,hy,_⟩:=h.get hi
   exact hc i y hy
  ·obtain ⟨y,hy,hs⟩:=h.get hi
   exact hs _ _ _ (hv i y hy)
theorem simVp (v:Nat) (M:List Cne) (c:Option Nat) (H:Nat->Nat->Int):Sim (.vp (mC (cnR v M c) H)) (.vp (mC (cnV M none) H)):=by
 refine Sim.vp (.cons ?_ (.refl _))
 unfold cnR
 rw [beq_self_eq_true,bleT (by omega)]
 refine Sim.view (.inr rfl) fun j hj=>?_
 show Sims (M.getD (0+j) cn0).c (M.getD j cn0).c
 rw [Nat.zero_add]
 exact .refl _
section
variable {n:Nat} {X:Nat->Act} {s:T} {ad us i o e:Int} {s2:T} {L:List Hld} {F:Nat->Int} {v:Nat} {c:Option Nat} {M:List Cne} {H:Nat->Nat->Int} {fr:Int->Int}
def preN (f:Int->Int) (k:Nat):List Int:=(([1,2,3,4]:List Int).take k).filter fun x=>decide (f x<0)
def ndM (f:Int->Int):List Cne:=(([1,2,3,4]:List Int).filter fun x=>decide (f x<0)).map fun x=>⟨x,0 - f x⟩
def wvN (f:Int->Int) (k:Nat):Int:=if (preN f k).length = 0 then 0 else 18
theorem take4:∀ r,r<4->([1,2,3,4]:List Int).take (r+1) = ([1,2,3,4]:List Int).take r ++ [((r+1:Nat):Int)]
 | 0,_=>rfl
 | 1,_=>rfl
 | 2,_=>rfl
 | 3,_=>rfl
theorem split4:∀ r,r<4->([1,2,3,4]:List Int) = ([1,2,3,4]:List Int).take r ++ ((r+1:Nat):Int) :: ([1,2,3,4]:List Int).drop (r+1)
 | 0,_=>rfl
 | 1,_=>rfl
 | 2,_=>rfl
 | 3,_=>rfl
theorem preN_succ (f:Int->Int) (r:Nat) (hr:r<4):preN f (r+1) = preN f r ++ if f (r+1:Nat)<0 then [((r+1:Nat):Int)] else []:=by
 unfold preN
 rw [take4 r hr,List.filter_append]
 congr 1
 by_cases q:f (r+1:Nat)<0
 ·rw [if_pos q,List.filter_cons,if_pos (decide_eq_true q)]; rfl
 ·rw [if_neg q,List.filter_cons,if_neg (by rw [decide_eq_true_eq]; exact q)]; rfl
theorem ndM_split (f:Int->Int) (r:Nat) (hr:r<4) (h:f (r+1:Nat)<0):(preN f r).length<(ndM f).length/\(ndM f).getD (preN f r).length cn0 = ⟨(r+1:Nat),0 - f (r+1:Nat)⟩:=by
 have e:ndM f = (preN f r).map (fun x=>(⟨x,0 - f x⟩:Cne)) ++ (⟨(r+1:Nat),0 - f (r+1:Nat)⟩:Cne) :: ((([1,2,3,4]:List Int).drop (r+1)).filter fun x=>decide (f x<0)).map fun x=>⟨x,0 - f x⟩:=by
  unfold ndM preN
  conv=>lhs; rw [split4 r hr]
  rw [List.filter_append,List.filter_cons,if_pos (decide_eq_true h),List.map_append,List.map_cons]
 have el:((preN f r).map (fun x=>(⟨x,0 - f x⟩:Cne))).length = (preN f r).length:=by simp
 rw [e,← el]
 refine ⟨by simp,?_⟩
 simp only [List.getD_eq_getElem?_getD,List.getElem?_append_right (Nat.le_refl _),Nat.sub_self,List.getElem?_cons_zero,Option.getD_some]
theorem wvN_le (f:Int->Int) (r:Nat):(preN f r).length = 0->wvN f r = 0:=fun h=>by unfold wvN; rw [if_pos h]
theorem res40 (hfr:∀ k:Nat,1<=k->k<=4->ToldOk P42 G42 16 [.vp (mC (cnR v M c) H),.int .i64 k] (.int .i64 (fr k))) {f:Int->Int} (hf:∀ k:Nat,1<=k->k<=4->f k = fr k - F k/\0<=fr k/\fr k<=1000000000/\0<=F k/\F k<=1000000000) :
 P5 LP40 l40 (v40 n X s ad us i o e 0 s2 (hdV L none) (ndM f) F 0 1) (hA v c M H) (.exit 6) [0,3,4,5,6,7,8,11,12,13,14,15,18] (w40 n X s ad us i o e (wvN f 4) s2 (hdV L none) (ndM f) (ndM f).length) (hA v c M H):=by
 obtain ⟨p,hp⟩:=is_val P42 G42 16
 have ok:OrcOk P42 G42 (K5f p fr):=told_add none_ok (callF_told hp)
 have hlen:(ndM f).length = (preN f 4).length:=by unfold ndM preN; simp
 have l4:∀ k,(preN f k).length<=4:=fun k=>by
  unfold preN
  refine Nat.le_trans (List.length_filter_le ..) ?_
  rw [List.length_take]
  exact Nat.min_le_right ..
 have key:=Pz.count (P:=P42) (G:=G42) (A:=A42) (f:=5) (h0:=([]:Heap)) (p:=LP40) (l:=l40) (l1:=[0,3,4,5,6,7,8,11,12,13,14,15,18]) (by kernel_rfl)
  (fun r=>v40 n X s ad us i o e (wvN f r) s2 (hdV L none) (ndM f) F (preN f r).length (r+1)) (fun _=>hA v c M H) (n:=4) (e:=.exit 6) (v1:=w40 n X s ad us i o e (wvN f 4) s2 (hdV L none) (ndM f) (ndM f).length) (h1:=hA v c M H) (by simp)
  (fun r hr=>by
   have hk:r+1 = 1 ∨ r+1 = 2 ∨ r+1 = 3 ∨ r+1 = 4:=by omega
   obtain ⟨hf1,hf2,hf3,hf4,hf5⟩:=hf (r+1) (by omega) (by omega)
   have ps:=preN_succ f r hr
   have l4r:=l4 r
   refine Pz.run hm42 ok (m:=0) (by kernel_rfl) loops0 ((b40 n X s ad us i o e (wvN f r) s2 L (ndM f) F (preN f r).length v c M H p fr (r+1) hk).trans ?_)
   by_cases q:f (r+1:Nat)<0
   ·rw [if_pos q] at ps
    obtain ⟨n1,n2⟩:=ndM_split f r hr q
    have el:(preN f (r+1)).length = (preN f r).length+1:=by rw [ps]; simp
    have ew:wvN f (r+1) = 18:=by unfold wvN; rw [if_neg (by omega)]
    rw [n2,up1 (by omega)]
    dsimp only
    rw [el,ew]
    have w1:IntKind.i64.wrap (F (r+1) - fr (r+1:Nat)) = F (r+1) - fr (r+1:Nat):=wr64 (by omega) (by omega)
    rw [w1]
    refine bift (decide_eq_true (by omega)) (bift (callF_yes hp (hfr (r+1) (by omega) (by omega))) (bift (decide_eq_true (by omega)) (biff (by rw [decide_eq_true_eq]; show ¬ (((ndM f).length:Nat):Int)<=(((preN f r).length:Nat):Int); omega) (bift (by rw [Bool.and_eq_true,decide_eq_true_eq,decide_eq_true_eq]; exact ⟨Int.natCast_nonneg _,by show (((preN f r).length:Nat):Int)<(((ndM f).length:Nat):Int); omega⟩) (bift (callF_yes hp (hfr (r+1) (by omega) (by omega))) (bift (decide_eq_true rfl) (bift (decide_eq_true (by omega)) rfl)))))))
   ·rw [if_neg q,List.append_nil] at ps
    rw [ps,show wvN f (r+1) = wvN f r by unfold wvN; rw [ps]]
    by_cases q2:0<F (r+1)
    ·refine bift (decide_eq_true q2) (bift (callF_yes hp (hfr (r+1) (by omega) (by omega))) (biff (by rw [decide_eq_true_eq]; omega) rfl))
    ·exact biff (by rw [decide_eq_true_eq]; exact q2) rfl)
  (by
   rw [hlen]
   exact p5 (b40y n X s ad us i o e (wvN f 4) s2 (hdV L none) (ndM f) F (preN f 4).length (hA v c M H)))
 exact key
theorem five {o:Nat} (h:1<=o/\o<=5):o = 1 ∨ o = 2 ∨ o = 3 ∨ o = 4 ∨ o = 5:=by omega
theorem fourA {o:Nat} (h:1<=o/\o<=4):o = 1 ∨ o = 2 ∨ o = 3 ∨ o = 4:=by omega
theorem res50a {oo:Nat} (ho:1<=oo/\oo<=5) {q:Int} {a:Nat} {l1:Int} (ha:1<=a/\a<=4) (r:List Hld) (hr:r.length<=5) (hw:IntKind.i64.wrap (H oo a+l1) = H oo a+l1) :
 P5 (0 :: LP50) l50 (v50 n X s ad us i oo e 0 s2 (hdV (⟨q,a,l1⟩ :: r) none) 0) (hA v c M H) .normal l50 (v50 n X s ad us i oo e 0 s2 (hdV (⟨q,a,l1⟩ :: r) none) 1) (hA v c M (updH H oo a (H oo a+l1))):=by
 refine Pz.post (p5 ((b50a n X s ad us i e s2 r q l1 v c M H oo a (five ho) (fourA ha)).trans ?_)) (wkU v c M H _ _ _)
 rw [hw]
 have:(0:Int)<Int.ofNat (r.length+1):=by show (0:Int)<((r.length+1:Nat):Int); omega
 rw [decide_eq_true this]
 rfl
theorem res50b {oo:Nat} (ho:1<=oo/\oo<=5) {q:Int} {a:Nat} {l1:Int} (ha:1<=a/\a<=4) (x:Hld) (r:List Hld) (hr:r.length<=5) (hw:IntKind.i64.wrap (H oo a+l1) = H oo a+l1) :
 P5 (0 :: LP50) l50 (v50 n X s ad us i oo e 0 s2 (hdV (x :: ⟨q,a,l1⟩ :: r) none) 1) (hA v c M H) .normal l50 (v50 n X s ad us i oo e 0 s2 (hdV (x :: ⟨q,a,l1⟩ :: r) none) 2) (hA v c M (updH H oo a (H oo a+l1))):=by
 refine Pz.post (p5 ((b50b n X s ad us i e s2 x r q l1 v c M H oo a (five ho) (fourA ha)).trans ?_)) (wkU v c M H _ _ _)
 rw [hw]
 have:(1:Int)<Int.ofNat (r.length+2):=by show (1:Int)<((r.length+2:Nat):Int); omega
 rw [decide_eq_true this]
 rfl
theorem res50 {oo:Nat} (ho:1<=oo/\oo<=5) {q q2:Int} {a b:Nat} {l1 l2:Int} (ha:1<=a/\a<=4) (hb:1<=b/\b<=4) (hl1:0<=l1/\l1<=1000) (hl2:0<=l2/\l2<=1000) (hH:∀ x y,0<=H x y/\H x y<=100000) (hL:L = [⟨q,a,l1⟩] ∨ L = [⟨q,a,l1⟩,⟨q2,b,l2⟩]) (hq:q = oo/\q2 = oo) :
 P5 ([2,2,2,2,2,2,2,2] ++ R0a) [0,3,4,5,6,7,8,11,12,13,14] (u11 n X s ad us i oo e 0 s2 (hdV L none)) (hA v c M H) .normal [0,3,4,5,6,7,11,12,13] (w4A n X s ad us i e 0 s2) (hA v c M (addH H L)):=by
 refine Pz.seq (by kernel_rfl) (p5 (r49 n X s ad us i oo e 0 s2 (hdV L none) (hA v c M H))) (Pz.blk (id:=8) (e:=.exit 8) (by kernel_rfl) rfl ?_)
 have h1:=hH oo a
 have w1:IntKind.i64.wrap (H oo a+l1) = H oo a+l1:=wr64 (by omega) (by omega)
 have fin:∀ (L:List Hld) (H':Nat->Nat->Int),P5 (0 :: LP50) l50 (v50 n X s ad us i oo e 0 s2 (hdV L none) L.length) (hA v c M H') (.exit 8) [0,3,4,5,6,7,11,12,13] (w4A n X s ad us i e 0 s2) (hA v c M H'):=fun L H'=>by
  refine Pz.seqX (by kernel_rfl) (by simp) (p5 ((b50y n X s ad us i oo e 0 s2 L L.length (hA v c M H')).trans ?_))
  exact biff (by rw [decide_eq_true_eq]; exact Int.lt_irrefl _) rfl
 obtain ⟨rfl,rfl⟩:=hq
 rcases hL with rfl | rfl
 ·have eH:addH H [⟨(oo:Int),a,l1⟩] = updH H oo a (H oo a+l1):=rfl
  rw [eH]
  exact Pz.count (P:=P42) (G:=G42) (A:=A42) (f:=5) (p:=LP50) (by kernel_rfl) (fun k=>v50 n X s ad us i oo e 0 s2 (hdV [⟨oo,a,l1⟩] none) k) (fun k=>match k with | 0=>hA v c M H | _=>hA v c M (updH H oo a (H oo a+l1))) (n:=1) (e:=.exit 8) (by simp)
   (fun k hk=>by
    obtain rfl:k = 0:=by omega
    exact res50a ho ha [] (by simp) w1) (fin [⟨oo,a,l1⟩] _)
 ·have h2:0<=updH H oo a (H oo a+l1) oo b/\updH H oo a (H oo a+l1) oo b<=200000:=by
   rw [updH_eq]
   have:=hH oo b
   split <;> omega
  have w2:IntKind.i64.wrap (updH H oo a (H oo a+l1) oo b+l2) = updH H oo a (H oo a+l1) oo b+l2:=wr64 (by omega) (by omega)
  have eH:addH H [⟨(oo:Int),a,l1⟩,⟨(oo:Int),b,l2⟩] = updH (updH H oo a (H oo a+l1)) oo b (updH H oo a (H oo a+l1) oo b+l2):=rfl
  rw [eH]
  exact Pz.count (P:=P42) (G:=G42) (A:=A42) (f:=5) (p:=LP50) (by kernel_rfl) (fun k=>v50 n X s ad us i oo e 0 s2 (hdV [⟨oo,a,l1⟩,⟨oo,b,l2⟩] none) k) (fun k=>match k with | 0=>hA v c M H | 1=>hA v c M (updH H oo a (H oo a+l1)) | _=>hA v c M (updH (updH H oo a (H oo a+l1)) oo b (updH H oo a (H oo a+l1) oo b+l2))) (n:=2) (e:=.exit 8) (by simp)
   (fun k hk=>by
    have:k = 0 ∨ k = 1:=by omega
    rcases this with rfl | rfl
    ·exact res50a ho ha [⟨oo,b,l2⟩] (by simp) w1
    ·exact res50b ho hb ⟨oo,a,l1⟩ [] (by simp) w2) (fin [⟨oo,a,l1⟩,⟨oo,b,l2⟩] _)
theorem res50n {w:Int} (hw:w ≠ 0):P5 ([2,2,2,2,2,2,2,2] ++ R0a) [0,3,4,5,6,7,8,11,12,13,14] (u11 n X s ad us i o e w s2 (hdV L none)) (hA v c M H) .normal [0,3,4,5,6,7,11,12,13] (w4A n X s ad us i e w s2) (hA v c M H):=by
 refine Pz.seq (by kernel_rfl) (p5 (r49 n X s ad us i o e w s2 (hdV L none) (hA v c M H))) (Pz.blk (id:=8) (e:=.exit 8) (by kernel_rfl) rfl ?_)
 refine Pz.count (P:=P42) (G:=G42) (A:=A42) (f:=5) (p:=LP50) (by kernel_rfl) (fun k=>v50 n X s ad us i o e w s2 (hdV L none) 0) (fun k=>hA v c M H) (n:=0) (e:=.exit 8) (by simp) (fun k hk=>absurd hk (Nat.not_lt_zero _)) ?_
 refine Pz.seqX (by kernel_rfl) (by simp) (p5 ((b50y n X s ad us i o e w s2 L 0 (hA v c M H)).trans ?_))
 by_cases q:Int.ofNat 0<Int.ofNat L.length
 ·exact bift (decide_eq_true q) (biff (by rw [decide_eq_true_eq]; exact hw) rfl)
 ·exact biff (by rw [decide_eq_true_eq]; exact q) rfl
end
open Go.Proofs
structure Out (M:List Cne) (H:Nat->Nat->Int) (M':List Cne) (H':Nat->Nat->Int) (i:Nat) (ad us E:Int) (r1:List Cne) (r2:List Hld):Prop where
 inv:AInv M' H' (i+1) ad us
 ok:E = 0->r1 = M'/\r2 = hsL H'
 no:E ≠ 0->r1 = []/\r2 = []/\M' = M/\H' = H
theorem act_num {x:Act} (h:x.Ok):∃ (oo a b:Nat) (l1 l2:Int),1<=oo/\oo<=5/\1<=a/\a<=4/\1<=b/\b<=4/\1<=l1/\l1<=256/\1<=l2/\l2<=256/\1+x.o.tmod 5 = (oo:Int)/\1+x.a.tmod 4 = (a:Int)/\1+x.l = l1/\(hlX x = [⟨oo,a,l1⟩] ∨ hlX x = [⟨oo,a,l1⟩,⟨oo,b,l2⟩]):=by
 have h1:=mod4 h.a.1
 have h2:=h.l
 have h3:=mod5 h.o.1
 have h4:=div4 h.m
 have h5:=mod4 (div3 h.m).1
 refine ⟨(1+x.o.tmod 5).toNat,(1+x.a.tmod 4).toNat,(1+(x.m.tdiv 3).tmod 4).toNat,1+x.l,1+x.m.tdiv 4,by omega,by omega,by omega,by omega,by omega,by omega,by omega,by omega,by omega,by omega,by omega,by omega,rfl,?_⟩
 have e1:(((1+x.o.tmod 5).toNat:Nat):Int) = 1+x.o.tmod 5:=by omega
 have e2:(((1+x.a.tmod 4).toNat:Nat):Int) = 1+x.a.tmod 4:=by omega
 have e3:(((1+(x.m.tdiv 3).tmod 4).toNat:Nat):Int) = 1+(x.m.tdiv 3).tmod 4:=by omega
 rw [e1,e2,e3]
 unfold hlX hL
 by_cases c:x.m.tmod 3 = 2
 ·rw [if_pos c]; exact .inr rfl
 ·rw [if_neg c]; exact .inl rfl
theorem sm1_is {a:Nat} {l:Int} (hl:0<=l/\l<=1000) (q:Int) (k:Nat):sm1 a l k = hdN [⟨q,a,l⟩] k:=by
 have w:IntKind.i64.wrap (0+l) = l:=by rw [Int.zero_add]; exact wr64 (by omega) (by omega)
 unfold sm1
 rw [w]
 simp only [hdN]
 by_cases c:k = a
 ·subst c; simp
 ·rw [show (k==a) = false by simp [c],if_neg (by omega)]; rfl
theorem sm2_is {a b:Nat} {l m:Int} (hl:0<=l/\l<=1000) (hm:0<=m/\m<=1000) (q q2:Int) (k:Nat):sm2 a l b m k = hdN [⟨q,a,l⟩,⟨q2,b,m⟩] k:=by
 have e:=fun k=>sm1_is hl q (a:=a) k
 have e1:hdN [⟨q,a,l⟩,⟨q2,b,m⟩] k = hdN [⟨q,a,l⟩] k+hdN [⟨q2,b,m⟩] k:=hdN_app [⟨q,a,l⟩] [⟨q2,b,m⟩] k
 rw [e1]
 unfold sm2
 rw [e,e]
 have hb:0<=hdN [⟨q,a,l⟩] b/\hdN [⟨q,a,l⟩] b<=1000:=by simp only [hdN]; split <;> omega
 rw [wr64 (by omega) (by omega)]
 by_cases c:k = b
 ·subst c
  have:hdN [⟨q2,(k:Int),m⟩] k = m:=by simp [hdN]
  rw [this]; simp
 ·have:hdN [⟨q2,(b:Int),m⟩] k = 0:=by simp only [hdN]; rw [if_neg (by omega)]; rfl
  rw [this,show (k==b) = false by simp [c],Int.add_zero]; rfl
section
variable {n:Nat} {X:Nat->Act} {M:List Cne} {H:Nat->Nat->Int} {i:Nat} {ad us:Int} {v:Nat} {c:Option Nat}
def l4a:List Nat:=[0,3,4,5,6,7,8,9,10,12,13,68]
def lWa:List Nat:=[0,3,4,5,6,7,11,12,13]
theorem freeT16 (hI:AInv M H i ad us) (k:Nat) (h1:1<=k) (h4:k<=4):ToldOk P42 G42 16 [.vp (mC (cnR v M c) H),.int .i64 k] (.int .i64 (cnN M k - hSum H k)) :=
 (freeM M H k (fourA ⟨h1,h4⟩) (fun c hc=>by have:=hI.mb c hc; omega) (by have:=hI.ml; have:=hI.i40; omega) (fun o a=>by have:=hI.hb o a; omega)).sim (.cons (simVp v M c H) (.cons (.refl _) .nil))
theorem resT (hI:AInv M H i ad us) (hi:i<40) (hin:i<n) (hx:(X i).Ok) {w:Int} (hw:w = 1 ∨ w = 2):∃ E H' r1 r2,Out M H M H' i ad us E r1 r2 ∧
 P5 S0a l4a (v4A n X (rS M (hsL H)) ad us i (1+(X i).o.tmod 5) (1+(X i).a.tmod 4) (1+(X i).l) w) (hA v c M H) .normal lWa (w4A n X (rS M (hsL H)) ad us i E E (rS r1 r2)) (hA v c M H'):=by
 obtain ⟨oo,a,b,l1,l2,o1,o2,a1,a2,b1,b2,m1,m2,m3,m4,eo,ea,el,hL⟩:=act_num hx
 have t14:=actT hx
 have hok:∀ d,d ∈ hlX (X i)->1<=d.o/\d.o<=5/\1<=d.a/\d.a<=4/\1<=d.l/\d.l<=256:=fun d hd=>by
  rcases hL with e | e <;> rw [e] at hd
  ·simp at hd; subst hd; dsimp only; omega
  ·simp at hd
   rcases hd with rfl | rfl <;> dsimp only <;> omega
 have hlen:(hlX (X i)).length<=2:=by rcases hL with e | e <;> rw [e] <;> simp
 obtain ⟨nd1,nd2⟩:=hI.need hok hlen
 have hres:=hI.res hi hok hlen
 have hmis:=hI.mis (hlX (X i))
 obtain ⟨F,hF,hG⟩:∃ F:Nat->Int,(∀ k,F k = hdN (hlX (X i)) k)/\∀ e s2 nd h,P5 ([1,2,2,2,2] ++ R0a) l13 (vH n X (rS M (hsL H)) ad us i oo e 0 s2 (hdV (hlX (X i)) none) nd ++ [sumR fun _=>0]) h .normal l13 (vH n X (rS M (hsL H)) ad us i oo e 0 s2 (hdV (hlX (X i)) none) nd ++ [sumR F]) h:=by
  rcases hL with e | e <;> rw [e]
  ·exact ⟨sm1 a l1,fun k=>sm1_is ⟨by omega,by omega⟩ oo k,fun e s2 nd h=>Pz.run hm42 none_ok (m:=3) (by kernel_rfl) loops0 (rG1 n X _ ad us i oo e oo l1 s2 nd h a (fourA ⟨a1,a2⟩))⟩
  ·exact ⟨sm2 a l1 b l2,fun k=>sm2_is ⟨by omega,by omega⟩ ⟨by omega,by omega⟩ oo oo k,fun e s2 nd h=>Pz.run hm42 none_ok (m:=3) (by kernel_rfl) loops0 (rG2 n X _ ad us i oo e oo l1 oo l2 s2 nd h a b (fourA ⟨a1,a2⟩) (fourA ⟨b1,b2⟩))⟩
 have hLb:∀ k:Int,0<=hdN (hlX (X i)) k/\hdN (hlX (X i)) k<=2000000000:=fun k=>by
  have:=hdN_bd (hlX (X i)) (fun d hd=>by have:=hok d hd; omega) k
  omega
 have hLs:∀ k:Int,hdN (hlX (X i)) k<=512:=fun k=>by
  rcases hL with e | e <;> rw [e] <;> simp only [hdN] <;> repeat' split
  all_goals omega
 have h50:∀ e s2,P5 ([2,2,2,2,2,2,2,2] ++ R0a) [0,3,4,5,6,7,8,11,12,13,14] (u11 n X (rS M (hsL H)) ad us i oo e 0 s2 (hdV (hlX (X i)) none)) (hA v c M H) .normal lWa (w4A n X (rS M (hsL H)) ad us i e 0 s2) (hA v c M (addH H (hlX (X i)))):=fun e s2 =>
  res50 ⟨o1,o2⟩ (q:=oo) (q2:=oo) ⟨a1,a2⟩ ⟨b1,b2⟩ (l1:=l1) (l2:=l2) ⟨by omega,by omega⟩ ⟨by omega,by omega⟩ (fun x y=>by have:=hI.hb x y; omega) hL ⟨rfl,rfl⟩
 have t8:=reserveT M (hsL H) (hlX (X i)) (by have:=hI.v.cl; omega) (by have:=hI.v.hl; omega) (by omega)
 have t15:=needT M (hsL H) (hlX (X i)) (by have:=hI.v.cl; omega) (by have:=hI.v.hl; omega) (by omega) nd1
 rw [nd2] at t15
 clear hL
 generalize hlX (X i) = L at *
 generalize hf:misF M (hsL H) L = f at *
 have t8:=t8.sim (.cons (simSt _ _) (.cons (.refl _) .nil))
 have t15:=t15.sim (.cons (simSt _ _) (.cons (.refl _) .nil))
 obtain ⟨p14,h14⟩:=is_val P42 G42 14
 obtain ⟨p8,h8⟩:=is_val P42 G42 8
 obtain ⟨p15,h15⟩:=is_val P42 G42 15
 have body:∀ E r1 r2 H',rsv M (hsL H) L = (r1,r2,E)->wvN f 4 = E->(P5 ([2,2,2,2,2,2,2,2] ++ R0a) [0,3,4,5,6,7,8,11,12,13,14] (u11 n X (rS M (hsL H)) ad us i oo E E (rS r1 r2) (hdV L none)) (hA v c M H) .normal lWa (w4A n X (rS M (hsL H)) ad us i E E (rS r1 r2)) (hA v c M H')) →
  P5 S0a l4a (v4A n X (rS M (hsL H)) ad us i oo a l1 w) (hA v c M H) .normal lWa (w4A n X (rS M (hsL H)) ad us i E E (rS r1 r2)) (hA v c M H'):=fun E r1 r2 H' er ew h50'=>by
  rw [er] at t8
  have pC:P5 ([1] ++ R0a) [0,3,4,5,6,7,8,12,13,139] (vA n X (rS M (hsL H)) ad us i ++ [.int .i64 oo,.int .i64 0,rS M (hsL H),.bool true]) (hA v c M H) .normal [0,3,4,5,6,7,8,12,13,14] (vA n X (rS M (hsL H)) ad us i ++ [.int .i64 oo,.int .i64 0,rS M (hsL H),hdV L none]) (hA v c M H) :=
   Pz.run hm42 (told_add none_ok (callF_told h14)) (m:=0) (by kernel_rfl) loops0 ((rC n X (rS M (hsL H)) ad us oo i (hA v c M H) p14 L).trans (BT (bift (callF_yes h14 t14) rfl)))
  have pD:P5 ([1,2] ++ R0a) [0,3,4,5,6,7,8,12,13,14] (vA n X (rS M (hsL H)) ad us i ++ [.int .i64 oo,.int .i64 0,rS M (hsL H),hdV L none]) (hA v c M H) .normal [0,3,4,5,6,7,8,11,12,13,14] (vA n X (rS M (hsL H)) ad us i ++ [.int .i64 oo,.int .i64 E,.int .i64 0,rS r1 r2,hdV L none]) (hA v c M H) :=
   Pz.run hm42 (told_add none_ok (callF_told h8)) (m:=0) (by kernel_rfl) loops0 ((rD n X M r1 (hsL H) r2 ad us oo i (hA v c M H) p8 L E).trans (bift (callF_yes h8 t8) rfl))
  have pE:P5 ([1,2,2] ++ R0a) [0,3,4,5,6,7,8,11,12,13,14] (vA n X (rS M (hsL H)) ad us i ++ [.int .i64 oo,.int .i64 E,.int .i64 0,rS r1 r2,hdV L none]) (hA v c M H) .normal [0,3,4,5,6,7,8,11,12,13,14,15] (vH n X (rS M (hsL H)) ad us i oo E 0 (rS r1 r2) (hdV L none) (cnV (ndM f) (some (ndM f).length))) (hA v c M H) :=
   Pz.run hm42 (told_add none_ok (callF_told h15)) (m:=0) (by kernel_rfl) loops0 ((rE n X M (hsL H) ad us oo i E (rS r1 r2) (hA v c M H) p15 L (ndM f)).trans (bift (callF_yes h15 t15) rfl))
  have pF:P5 ([1,2,2,2] ++ R0a) [0,3,4,5,6,7,8,11,12,13,14,15] (vH n X (rS M (hsL H)) ad us i oo E 0 (rS r1 r2) (hdV L none) (cnV (ndM f) (some (ndM f).length))) (hA v c M H) .normal l13 (vH n X (rS M (hsL H)) ad us i oo E 0 (rS r1 r2) (hdV L none) (cnV (ndM f) (some (ndM f).length)) ++ [sumR fun _=>0]) (hA v c M H):=p5 (rF n X (rS M (hsL H)) ad us oo i E (rS r1 r2) (hdV L none) _ (hA v c M H))
  have pH:P5 ([1,2,2,2,2,2] ++ R0a) l13 (vH n X (rS M (hsL H)) ad us i oo E 0 (rS r1 r2) (hdV L none) (cnV (ndM f) (some (ndM f).length)) ++ [sumR F]) (hA v c M H) .normal [0,3,4,5,6,7,8,11,12,13,14,15,16,18] (vH n X (rS M (hsL H)) ad us i oo E 0 (rS r1 r2) (hdV L none) (cnV (ndM f) (some (ndM f).length)) ++ [sumR F,.int .i64 0]) (hA v c M H):=p5 (rHh n X (rS M (hsL H)) ad us oo i E (rS r1 r2) (hdV L none) _ (sumR F) (hA v c M H))
  have p40:=res40 (n:=n) (X:=X) (s:=rS M (hsL H)) (ad:=ad) (us:=us) (i:=i) (o:=oo) (e:=E) (s2:=rS r1 r2) (L:=L) (F:=F) (v:=v) (c:=c) (M:=M) (H:=H) (fr:=fun z=>cnN M z - hSum H z.toNat) (fun k h1 h4=>by
   show ToldOk P42 G42 16 _ (.int .i64 (cnN M k - hSum H ((k:Nat):Int).toNat))
   exact freeT16 hI k h1 h4) (f:=f) (fun k h1 h4=>by
   have e1:=hmis k h1 h4
   have e2:=hF k
   have e3:=hI.hs k h1 h4
   have e4:=hI.cn k
   have e5:=hLb k
   have e6:=hLs k
   have e7:=(hSum_nn hI.hg 1 k).1
   show f k = cnN M k - hSum H k - F k/\0<=cnN M k - hSum H k/\cnN M k - hSum H k<=1000000000/\0<=F k/\F k<=1000000000
   omega)
  rw [ew] at p40
  have p47:P5 ([1,2,2,2,2,2,2,2] ++ R0a) [0,3,4,5,6,7,8,11,12,13,14,15,18] (w40 n X (rS M (hsL H)) ad us i oo E E (rS r1 r2) (hdV L none) (ndM f) (ndM f).length) (hA v c M H) .normal [0,3,4,5,6,7,8,11,12,13,14] (u11 n X (rS M (hsL H)) ad us i oo E E (rS r1 r2) (hdV L none)) (hA v c M H) :=
   p5 ((r47 n X (rS M (hsL H)) ad us i oo E E (rS r1 r2) (hdV L none) (ndM f) (ndM f).length (hA v c M H)).trans (biff (by simp) (biff (by simp) rfl)))
  have pR:P5 R0a [0,3,4,5,6,7,8,12,13,139] (vA n X (rS M (hsL H)) ad us i ++ [.int .i64 oo,.int .i64 0,rS M (hsL H),.bool true]) (hA v c M H) .normal lWa (w4A n X (rS M (hsL H)) ad us i E E (rS r1 r2)) (hA v c M H') :=
   Pz.seq (by kernel_rfl) pC (Pz.seq (by kernel_rfl) pD (Pz.seq (by kernel_rfl) pE (Pz.seq (by kernel_rfl) pF (Pz.seq (by kernel_rfl) (hG E (rS r1 r2) _ _) (Pz.seq (by kernel_rfl) pH (Pz.seq (by kernel_rfl) (Pz.seq (by kernel_rfl) (p5 (r39 n X (rS M (hsL H)) ad us i oo E 0 (rS r1 r2) (hdV L none) (ndM f) F (hA v c M H))) (Pz.blk (id:=6) (by kernel_rfl) rfl p40)) (Pz.seq (by kernel_rfl) p47 h50')))))))
  rcases hw with rfl | rfl
  ·exact Pz.seq (by kernel_rfl) (p5 (rA n X (rS M (hsL H)) ad us i oo a l1 (hA v c M H))) (Pz.condF 112 (by kernel_rfl) (by kernel_rfl) (Pz.seq (by kernel_rfl) (p5 (rB n X (rS M (hsL H)) ad us i oo a l1 (hA v c M H))) (Pz.condT 139 (by kernel_rfl) (by kernel_rfl) pR)))
  ·exact Pz.seq (by kernel_rfl) (p5 (rA2 n X (rS M (hsL H)) ad us i oo a l1 (hA v c M H))) (Pz.condF 112 (by kernel_rfl) (by kernel_rfl) (Pz.seq (by kernel_rfl) (p5 (rB2 n X (rS M (hsL H)) ad us i oo a l1 (hA v c M H))) (Pz.condT 139 (by kernel_rfl) (by kernel_rfl) pR)))
 rw [eo,ea,el]
 rcases hres with ⟨⟨k,k1,k4,hk⟩,e⟩ | ⟨hk,e,hI'⟩
 ·refine ⟨18,H,[],[],⟨hI.up hi,fun h=>absurd h (by decide),fun _=>⟨rfl,rfl,rfl,rfl⟩⟩,body 18 [] [] H e ?_ (res50n (by decide))⟩
  unfold wvN
  rw [if_neg]
  intro q
  have q:=List.length_eq_zero_iff.1 q
  unfold preN at q
  rw [List.filter_eq_nil_iff] at q
  have hm:=hmis k k1 k4
  refine q (k:Int) ?_ (by rw [decide_eq_true_eq]; omega)
  rcases fourA ⟨k1,k4⟩ with rfl | rfl | rfl | rfl <;> simp
 ·refine ⟨0,addH H L,M,hsL (addH H L),⟨hI',fun _=>⟨rfl,rfl⟩,fun h=>absurd rfl h⟩,body 0 M (hsL (addH H L)) (addH H L) e ?_ (h50 0 _)⟩
  refine wvN_le f 4 (List.length_eq_zero_iff.2 ?_)
  unfold preN
  rw [List.filter_eq_nil_iff]
  intro x hx
  rw [decide_eq_true_eq]
  have:∃ k:Nat,1<=k/\k<=4/\x = k:=by
   simp at hx
   rcases hx with rfl | rfl | rfl | rfl
   ·exact ⟨1,by decide,by decide,rfl⟩
   ·exact ⟨2,by decide,by decide,rfl⟩
   ·exact ⟨3,by decide,by decide,rfl⟩
   ·exact ⟨4,by decide,by decide,rfl⟩
  obtain ⟨k,k1,k4,rfl⟩:=this
  have:=hmis k k1 k4
  have:=hk k k1 k4
  omega
end
open Go.Proofs
section
variable {n:Nat} {X:Nat->Act} {M:List Cne} {H:Nat->Nat->Int} {i:Nat} {ad us:Int} {v:Nat} {c:Option Nat}
theorem wkN (x:T) (w m:Nat) (f:Nat->List T) (v:Nat) (M M2:List Cne) (E:Blk) (H:Nat->Nat->Int) (s:T) (ad us i e z:Int) (r1:List Cne) (r2:List Hld) (cs:List Cne) (hs:List Hld) (hl:M2.length = m) (hf:∀ j,j<m->f j = (M2.getD j cn0).c):Wk G42 A42 5 0 lWa (w4A n X (rS cs hs) ad us i e z (rS r1 r2)) [⟨0,31,1,fun e=>mWl e x (.own 3 w 0 m none) H,false,false,none⟩,cBl v M,E,cB w m f false] (w4A n X (rS cs hs) ad us i e z (rS r1 r2)) (hA w none M2 H):=fun nt=>by
 subst hl
 refine .trans (.canon [0,3] rfl) ?_
 refine .same (.cons ⟨rfl,rfl,rfl,(fun h=>by cases h),fun j hj=>?_⟩ (.cons ⟨rfl,rfl,rfl,id,fun j hj=>(hf j hj).symm⟩ .nil))
 obtain rfl:=one_of hj
 rfl
theorem addA (hI:AInv M H i ad us) (hi:i<40) (hx:(X i).Ok):∃ w r1 r2,Out M H (M ++ [cnX (X i)]) H i (ad+(cnX (X i)).l) us 0 r1 r2 ∧
 P5 S0a l4a (v4A n X (rS M (hsL H)) ad us i (1+(X i).o.tmod 5) (1+(X i).a.tmod 4) (1+(X i).l) 0) (hA v c M H) .normal lWa (w4A n X (rS M (hsL H)) (ad+(cnX (X i)).l) us i 0 0 (rS r1 r2)) (hA w none (M ++ [cnX (X i)]) H):=by
 have h1:=mod4 hx.a.1
 have h2:=hx.l
 obtain ⟨q1,q2⟩:=hI.add hi (x:=cnX (X i)) ⟨by show 1<=1+(X i).a.tmod 4; omega,by show 1+(X i).a.tmod 4<=4; omega,by show 1<=1+(X i).l; omega,by show 1+(X i).l<=256; omega⟩
 have t13:=addT M (hsL H) (cnX (X i)) (by have:=hI.v.cl; omega) (by have:=hI.v.hl; omega)
 rw [q1] at t13
 have t13:=t13.sim (.cons (simSt _ _) (.cons (.refl _) .nil))
 obtain ⟨p,hp⟩:=is_val P42 G42 13
 have ha:ad<=256 * i/\us<=ad/\0<=us:=by
  have:=hI.us0
  have:=hI.sum
  have:=hI.cn 1
  have:=hI.cn 2
  have:=hI.cn 3
  have:=hI.cn 4
  omega
 have ew:IntKind.i64.wrap (ad+(1+(X i).l)) = ad+(cnX (X i)).l:=wr64 (by omega) (by omega)
 have hml:=hI.ml
 have gd:∀ j,j<=M.length->((M ++ [cnX (X i)]).getD j cn0) = if j<M.length then M.getD j cn0 else cnX (X i):=fun j hj=>by
  simp only [List.getD_eq_getElem?_getD]
  by_cases q:j<M.length
  ·rw [if_pos q,List.getElem?_append_left q]
  ·obtain rfl:j = M.length:=by omega
   rw [if_neg q,List.getElem?_append_right (Nat.le_refl _),Nat.sub_self]
   rfl
 have key:∃ vs' h',codeL P42 G42 A42 (K5a p (M ++ [cnX (X i)]) (hsL H) 0) 0 5 [] (nav S0a) l4a (v4A n X (rS M (hsL H)) ad us i (1+(X i).o.tmod 5) (1+(X i).a.tmod 4) (1+(X i).l) 0) (hA v c M H) lWa = some (.normal,vs',h')/\∃ w,Wk G42 A42 5 0 lWa vs' h' (w4A n X (rS M (hsL H)) (ad+(cnX (X i)).l) us i 0 0 (rS (M ++ [cnX (X i)]) (hsL H))) (hA w none (M ++ [cnX (X i)]) H):=by
  have e:=zAd n X M (M ++ [cnX (X i)]) (hsL H) (hsL H) ad us i (1+(X i).o.tmod 5) (1+(X i).a.tmod 4) (1+(X i).l) v c H 0 p
  rw [ew] at e
  simp only [Nat.zero_add] at e
  rw [show decF (p [stV M (hsL H),T.agg [T.int .i64 (1+(X i).a.tmod 4),T.int .i64 (1+(X i).l)]] (T.tup [stV (M ++ [cnX (X i)]) (hsL H),T.int .i64 0])) = true from callF_yes hp t13,cond_true,beq_self_eq_true,bleT (Nat.le_refl _)] at e
  simp only [Bool.and_self,cond_true] at e
  by_cases c0:M.length = 0
  ·rw [show (M.length==0) = true by simp [c0],cond_true] at e
   refine ⟨_,_,e,0,wkN _ _ _ _ _ _ _ _ _ (rS M (hsL H)) _ _ _ _ _ _ _ _ _ (by simp [c0]) fun j hj=>?_⟩
   obtain rfl:j = 0:=by omega
   rw [gd 0 (by omega),if_neg (by omega)]
   rfl
  ·rw [show (M.length==0) = false by simpa using c0,cond_false,bleT (show M.length * 17<=70368744177664 by omega),cond_true,bleF (show 0<M.length by omega),cond_false,bleT (show (M.length+1) * 17<=70368744177664 by omega),cond_true,bleF (show M.length<M.length+1 by omega),cond_false] at e
   refine ⟨_,_,e,1,wkN _ _ _ _ _ _ _ _ _ (rS M (hsL H)) _ _ _ _ _ _ _ _ _ (by simp) fun j hj=>?_⟩
   rw [gd j (by omega),bltD0]
   by_cases q:j<M.length
   ·rw [if_pos q,decide_eq_true q]; rfl
   ·obtain rfl:j = M.length:=by omega
    rw [if_neg q,decide_eq_false q,Nat.sub_self]
    rfl
 obtain ⟨vs',h',e,w,hw⟩:=key
 exact ⟨w,_,_,⟨q2,fun _=>⟨rfl,rfl⟩,fun h=>absurd rfl h⟩,Pz.post (Pz.run hm42 (told_add none_ok (callF_told hp)) (m:=0) (by kernel_rfl) loops0 e) hw⟩
theorem relA (hI:AInv M H i ad us) (hi:i<40) (hx:(X i).Ok):∃ E H' r1 r2,Out M H M H' i ad us E r1 r2 ∧
 P5 S0a l4a (v4A n X (rS M (hsL H)) ad us i (1+(X i).o.tmod 5) (1+(X i).a.tmod 4) (1+(X i).l) 3) (hA v c M H) .normal lWa (w4A n X (rS M (hsL H)) ad us i E E (rS r1 r2)) (hA v c M H'):=by
 obtain ⟨oo,a,b,l1,l2,o1,o2,a1,a2,b1,b2,m1,m2,m3,m4,eo,ea,el,hL⟩:=act_num hx
 rw [eo]
 obtain ⟨q1,q2,q3⟩:=hI.rel hi ⟨o1,o2⟩
 have t17:=releaseT M (hsL H) oo (by have:=hI.v.cl; omega) (by have:=hI.v.hl; omega)
 obtain ⟨p,hp⟩:=is_val P42 G42 17
 have ok:∀ c2 h2 E,OrcOk P42 G42 (K5r p c2 h2 E):=fun _ _ _=>told_add none_ok (callF_told hp)
 have z0:H oo 0 = 0:=hI.hg.out oo 0 (by omega)
 by_cases c0:∀ a,H oo a = 0
 ·obtain ⟨e1,e2⟩:=q1 c0
  rw [e1] at t17
  have t17:=t17.sim (.cons (simSt _ _) (.cons (.refl _) .nil))
  refine ⟨7,H,[],[],⟨hI.up hi,fun h=>absurd h (by decide),fun _=>⟨rfl,rfl,rfl,rfl⟩⟩,?_⟩
  have w:=wkU v c M H (zerH H oo) lWa (w4A n X (rS M (hsL H)) ad us i 7 7 (rS [] []))
  rw [e2] at w
  refine Pz.post (Pz.run hm42 (ok [] [] 7) (m:=0) (by kernel_rfl) loops0 ((zRe n X M [] (hsL H) [] ad us i (1+(X i).a.tmod 4) (1+(X i).l) v c H 7 p oo (five ⟨o1,o2⟩)).trans (bift (callF_yes hp t17) ?_))) w
  rw [e2]
  exact bift (decide_eq_true z0) (bift (decide_eq_true (c0 1)) (bift (decide_eq_true (c0 2)) (bift (decide_eq_true (c0 3)) (bift (decide_eq_true (c0 4)) rfl))))
 ·have e1:=q2 c0
  rw [e1] at t17
  have t17:=t17.sim (.cons (simSt _ _) (.cons (.refl _) .nil))
  refine ⟨0,zerH H oo,M,hsL (zerH H oo),⟨q3,fun _=>⟨rfl,rfl⟩,fun h=>absurd rfl h⟩,?_⟩
  refine Pz.post (Pz.run hm42 (ok M (hsL (zerH H oo)) 0) (m:=0) (by kernel_rfl) loops0 ((zRe n X M M (hsL H) (hsL (zerH H oo)) ad us i (1+(X i).a.tmod 4) (1+(X i).l) v c H 0 p oo (five ⟨o1,o2⟩)).trans (bift (callF_yes hp t17) ?_))) (wkU v c M H (zerH H oo) lWa _)
  have c1:¬ (H oo 1 = 0/\H oo 2 = 0/\H oo 3 = 0/\H oo 4 = 0):=fun h=>c0 fun a=>by
   by_cases r:1<=a/\a<=4
   ·rcases fourA r with rfl | rfl | rfl | rfl
    ·exact h.1
    ·exact h.2.1
    ·exact h.2.2.1
    ·exact h.2.2.2
   ·exact hI.hg.out oo a (by omega)
  refine bift (decide_eq_true z0) ?_
  by_cases d1:H oo 1 = 0
  ·refine bift (decide_eq_true d1) ?_
   by_cases d2:H oo 2 = 0
   ·refine bift (decide_eq_true d2) ?_
    by_cases d3:H oo 3 = 0
    ·refine bift (decide_eq_true d3) ?_
     exact biff (by rw [decide_eq_true_eq]; exact fun d4=>c1 ⟨d1,d2,d3,d4⟩) rfl
    ·exact biff (by rw [decide_eq_true_eq]; exact d3) rfl
   ·exact biff (by rw [decide_eq_true_eq]; exact d2) rfl
  ·exact biff (by rw [decide_eq_true_eq]; exact d1) rfl
theorem useA (hI:AInv M H i ad us) (hi:i<40) (hx:(X i).Ok) (hc:c = none ∨ M = []):∃ E M' H' us' r1 r2 X',Out M H M' H' i ad us' E r1 r2/\StM M' H' X' ∧
 P5 S0a l4a (v4A n X (rS M (hsL H)) ad us i (1+(X i).o.tmod 5) (1+(X i).a.tmod 4) (1+(X i).l) 4) (hA v c M H) .normal lWa (w4A n X (rS M (hsL H)) ad us' i E E (rS r1 r2)) X':=by
 obtain ⟨oo,a,b,l1,l2,o1,o2,a1,a2,b1,b2,m1,m2,m3,m4,eo,ea,el,hL⟩:=act_num hx
 rw [eo,ea,el]
 obtain ⟨cs2,hs2,kn,E,hU,t11⟩:=useT M (hsL H) oo a l1 (by have:=hI.v.cl; omega) (by have:=hI.v.hl; omega)
 have t11:=t11.sim (.cons (simSt _ _) (.cons (.refl _) (.cons (.refl _) (.cons (.refl _) .nil))))
 obtain ⟨p,hp⟩:=is_val P42 G42 11
 obtain ⟨q,hq⟩:=is_ref P42 G42 18
 have ok:∀ kn2 Y,OrcOk P42 G42 (K5u p q cs2 hs2 E kn kn2 Y):=fun _ _=>told_addRef (told_add none_ok (callF_told hp)) (refF_told hq)
 have eq:=fun kn2 Y=>zUs n X M cs2 (hsL H) hs2 ad us i l1 v c H E kn kn2 p q Y oo a (five ⟨o1,o2⟩) (fourA ⟨a1,a2⟩)
 have hb:=hI.hb oo a
 rcases hI.use hi ⟨o1,o2⟩ ⟨a1,a2⟩ ⟨m1,m2⟩ hU with ⟨h0,rfl,rfl,rfl⟩ | ⟨h0,h1,rfl,rfl,rfl⟩ | ⟨h1,hC,rfl,rfl⟩
 ·refine ⟨7,M,H,us,[],[],hA v c M H,⟨hI.up hi,fun h=>absurd h (by decide),fun _=>⟨rfl,rfl,rfl,rfl⟩⟩,.inl ⟨v,c,hc,rfl⟩,?_⟩
  exact Pz.run hm42 (ok 0 []) (m:=0) (by kernel_rfl) loops0 ((eq 0 []).trans (bift (callF_yes hp t11) (bift (decide_eq_true h0) rfl)))
 ·refine ⟨18,M,H,us,[],[],hA v c M H,⟨hI.up hi,fun h=>absurd h (by decide),fun _=>⟨rfl,rfl,rfl,rfl⟩⟩,.inl ⟨v,c,hc,rfl⟩,?_⟩
  exact Pz.run hm42 (ok 0 []) (m:=0) (by kernel_rfl) loops0 ((eq 0 []).trans (bift (callF_yes hp t11) (biff (by rw [decide_eq_true_eq]; exact h0) (bift (decide_eq_true h1) rfl))))
 ·have hfit:l1<=cnN M a:=by
   have:=hI.hs a a1 a2
   have:=(hSum_nn hI.hg oo a).2
   omega
  have hcut:=hI.cut hi ⟨o1,o2⟩ ⟨a1,a2⟩ m1 h1 hC
  obtain ⟨M2,kn2,Y,hC2,hY,t18⟩:=takeT M (updH H oo a (H oo a - l1)) v c hc a l1 (by have:=hI.ml; omega) ⟨by omega,by omega⟩ (fun d hd=>by have:=hI.mb d hd; omega) hfit
  obtain ⟨rfl,rfl⟩:=hC.unique hC2
  have w1:IntKind.i64.wrap (H oo a - l1) = H oo a - l1:=wr64 (by omega) (by omega)
  have hs:=hI.sum
  have c1:=hI.cn 1
  have c2:=hI.cn 2
  have c3:=hI.cn 3
  have c4:=hI.cn 4
  have hu:=hI.us0
  have hi0:=hI.i40
  have w2:IntKind.i64.wrap (us+l1) = us+l1:=wr64 (by omega) (by omega)
  have t18':ToldRef P42 G42 18 [.ptr 0 0 0 0,.int .i64 a,.int .i64 l1] [mU (.own 1 v 0 M.length c) H (updH H oo a (H oo a - l1)),cBl v M] (.int .i64 kn) Y:=t18.same (.cons ⟨rfl,rfl,rfl,id,fun j hj=>by
   obtain rfl:=one_of hj
   rfl⟩ (.cons ⟨rfl,rfl,rfl,id,fun _ _=>rfl⟩ .nil))
  refine ⟨0,cs2,updH H oo a (H oo a - l1),us+l1,cs2,hsL (updH H oo a (H oo a - l1)),Y,⟨hcut,fun _=>⟨rfl,rfl⟩,fun h=>absurd rfl h⟩,hY,?_⟩
  refine Pz.run hm42 (ok kn Y) (m:=0) (by kernel_rfl) loops0 ((eq kn Y).trans ?_)
  rw [w1,w2]
  exact bift (callF_yes hp t11) (biff (by rw [decide_eq_true_eq]; omega) (biff (by rw [decide_eq_true_eq]; omega) (bift (refF_yes hq t18') (biff (by simp) rfl))))
end
open Go.Proofs
def lAa:List Nat:=[0,3,4,5,6,7]
noncomputable def K5t (p20 p19 p10:List T->T->Prop) (cs:List Cne) (hs:List Hld) (b:Bool) (E:Int):Orc:=((noneO.add 20 (callF p20 fun _=>some (.agg [.new (cnV cs none),.new (hdV hs none)]))).add 19 (callF p19 fun _=>some (.bool b))).add 10 (callF p10 fun _=>some (.int .i64 E))
noncomputable def K5g (p q:List T->T->Prop) (fr:Int->Int):Orc:=(noneO.add 16 (callF p fun a=>some (.int .i64 (fr (argZ a))))).add 12 (callF q fun a=>some (.int .i64 (fr (argZ a))))
noncomputable def K5z:Orc:=noneO.add 9 fun a=>match a with | []=>.ret (.bool true) | _=>.none
def LP5:List Nat:=[0,2,1,2,2,2,2,2]
def LP66:List Nat:=[0,2,1,2,2,2,2,2,2,2,2] ++ BBa
theorem y66 (n:Nat) (X:Nat->Act) (M:List Cne) (hs:List Hld) (ad us i l:Int) (v:Nat) (c:Option Nat) (H:Nat->Nat->Int) (p q:List T->T->Prop) (fr:Int->Int) (k:Nat) (hk:k = 1 ∨ k = 2 ∨ k = 3 ∨ k = 4):codeL P42 G42 A42 (K5g p q fr) 8 5 [] (nav (0 :: LP66)) [0,3,4,5,6,7,23,24] (vA n X (rS M hs) ad us i ++ [.int .i64 l,.int .i64 k]) (hA v c M H) [0,3,4,5,6,7,23,24] =
 (bif decF (q [stV M hs,.int .i64 k] (.int .i64 (fr k))) then
  bif decF (p [.vp (mC (cnR v M c) H),.int .i64 k] (.int .i64 (fr k))) then
  bif !decide (fr k = fr k) then some (.ret,vA n X (rS M hs) ad us i ++ [.int .i64 l,.int .i64 k],hA v c M H)
  else bif decF (p [.vp (mC (cnR v M c) H),.int .i64 k] (.int .i64 (fr k))) then
  some (.normal,vA n X (rS M hs) ad us i ++ [.int .i64 (IntKind.i64.wrap (IntKind.i64.wrap (IntKind.i64.wrap (IntKind.i64.wrap (IntKind.i64.wrap (IntKind.i64.wrap (l+fr k)+H 1 k)+H 2 k)+H 3 k)+H 4 k)+H 5 k)),.int .i64 (k+1:Nat)],hA v c M H)
  else none
  else none
 else none):=by
 obtain rfl | rfl | rfl | rfl:=hk
 all_goals kernel_rfl
theorem y58 (n:Nat) (X:Nat->Act) (M r1:List Cne) (hs r2:List Hld) (ad us i E:Int) (h:Heap):codeL P42 G42 A42 noneO 0 5 [] (nav ([1,2,2,2,2] ++ BBa)) lWa (w4A n X (rS M hs) ad us i E E (rS r1 r2)) h [0,3,4,5,6,7,11,13] =
(
 bif !decide (E = E) then
 some ((.ret,[acV n X,.ptr 0 0 0 0,rS M hs,.int .i64 ad,.int .i64 us,.int .i64 i,.int .i64 E,rS r1 r2],h))
 else
 bif !decide (E = 0) then
 bif !decide (IntKind.i64.wrap (Int.ofNat r1.length+Int.ofNat r2.length) = (0:Int)) then
 some ((.ret,[acV n X,.ptr 0 0 0 0,rS M hs,.int .i64 ad,.int .i64 us,.int .i64 i,.int .i64 E,rS r1 r2],h))
 else
 some ((.normal,[acV n X,.ptr 0 0 0 0,rS M hs,.int .i64 ad,.int .i64 us,.int .i64 i,.int .i64 E,rS r1 r2],h))
 else
 some ((.normal,[acV n X,.ptr 0 0 0 0,rS M hs,.int .i64 ad,.int .i64 us,.int .i64 i,.int .i64 E,rS r1 r2],h))):=by kernel_rfl
theorem y60 (n:Nat) (X:Nat->Act) (M r1:List Cne) (hs r2:List Hld) (ad us i E:Int) (h:Heap):codeL P42 G42 A42 noneO 0 5 [] (nav ([1,2,2,2,2,2] ++ BBa)) [0,3,4,5,6,7,11,13] (vA n X (rS M hs) ad us i ++ [.int .i64 E,rS r1 r2]) h lAa =
(
 bif decide (E = 0) then
 some ((.normal,vA n X (rS r1 r2) ad us i,h))
 else
 some ((.normal,vA n X (rS M hs) ad us i,h))):=by kernel_rfl
theorem y62 (n:Nat) (X:Nat->Act) (M cs:List Cne) (hs hs2:List Hld) (ad us i:Int) (v:Nat) (c:Option Nat) (H:Nat->Nat->Int) (p20 p19 p10:List T->T->Prop) (b:Bool) (E:Int):codeL P42 G42 A42 (K5t p20 p19 p10 cs hs2 b E) 0 5 [] (nav ([1,2,2,2,2,2,2] ++ BBa)) lAa (vA n X (rS M hs) ad us i) (hA v c M H) lAa =
(
 bif decF (p20 [.vp (mC (bif v==v&&((0:Nat)+M.length).ble M.length then .view 2 M.length (fun j=>(M.getD ((0:Nat)+j) (Cne.mk (0:Int) (0:Int))).c) c
 else .undef) H)] (.agg [(cnV cs
 none).new,(hdV hs2
 none).new])) then
 bif decF (p19 [stV M hs,.agg (sA cs hs2
 none
 none)] (.bool b)) then
 bif b then
 bif decF (p10 [stV M hs] (.int .i64 E)) then
 bif !decide (E = 0) then
 some ((.ret,vA n X (rS M hs) ad us i,hA v c M H))
 else
 some ((.normal,vA n X (rS M hs) ad us i,hA v c M H))
 else none else
 bif decide (0<IntKind.i64.wrap (Int.ofNat M.length+Int.ofNat hs.length)) then
 some ((.ret,vA n X (rS M hs) ad us i,hA v c M H))
 else
 bif decF (p10 [stV M hs] (.int .i64 E)) then
 bif !decide (E = 0) then
 some ((.ret,vA n X (rS M hs) ad us i,hA v c M H))
 else
 some ((.normal,vA n X (rS M hs) ad us i,hA v c M H))
 else none else none else
 none):=by kernel_rfl
theorem y64 (n:Nat) (X:Nat->Act) (s:T) (ad us i:Int) (h:Heap):codeL P42 G42 A42 noneO 0 5 [] (nav ([1,2,2,2,2,2,2,2] ++ BBa)) lAa (vA n X s ad us i) h [0,3,4,5,6,7,23] =
(
 some ((.normal,[acV n X,.ptr 0 0 0 0,s,.int .i64 ad,.int .i64 us,.int .i64 i,.int .i64 0],h))):=by kernel_rfl
theorem y75 (n:Nat) (X:Nat->Act) (s:T) (ad us i l:Int) (h:Heap):codeL P42 G42 A42 noneO 0 5 [] (nav ([2,2,2,2,2,2,2,2,2] ++ BBa)) [0,3,4,5,6,7,23] (vA n X s ad us i ++ [.int .i64 l]) h lAa =
(
 bif !decide (IntKind.i64.wrap (l+us) = ad) then
 some ((.ret,vA n X s ad us i,h))
 else
 some ((.normal,vA n X s ad us i,h))):=by kernel_rfl
theorem y8 (n:Nat) (X:Nat->Act) (s:T) (ad us:Int) (i:Nat) (h:Heap):codeL P42 G42 A42 noneO 0 5 [] (nav ([2,2,0] ++ LP5)) lAa (vA n X s ad us i) h lAa =
(
 some ((.normal,vA n X s ad us (IntKind.i64.wrap (Int.ofNat i+1)),h))):=by kernel_rfl
theorem y7 (n:Nat) (X:Nat->Act) (s:T) (ad us:Int) (i:Nat) (h:Heap):codeL P42 G42 A42 noneO 0 5 [] (nav ([1,0] ++ LP5)) lAa (vA n X s ad us i) h lAa =
(
 bif decide (Int.ofNat i<Int.ofNat n) then
 some ((.normal,vA n X s ad us (Int.ofNat i),h))
 else
 some ((.exit 0,vA n X s ad us (Int.ofNat i),h))):=by kernel_rfl
theorem y7x (n:Nat) (X:Nat->Act) (s:T) (ad us:Int) (i:Nat) (h:Heap):codeL P42 G42 A42 noneO 0 5 [] (nav ([1,0] ++ LP5)) lAa (vA n X s ad us i) h [] =
(
 bif decide (Int.ofNat i<Int.ofNat n) then
 some ((.normal,[],h))
 else
 some ((.exit 0,[],h))):=by kernel_rfl
theorem y77 (h:Heap):codeL P42 G42 A42 K5z 0 5 [] (nav [2,2,2,2,2,2]) [] [] h [2] =
(
 some ((.ret,[.bool true],h))):=by kernel_rfl
theorem y0 (n:Nat) (X:Nat->Act):codeL P42 G42 A42 noneO 0 5 [] (nav [1]) [0] [acV n X] [] [0] =
(
 some ((.normal,[acV n X],[]))):=by kernel_rfl
theorem y1 (n:Nat) (X:Nat->Act):codeL P42 G42 A42 noneO 0 5 [] (nav [1,2]) [0] [acV n X] [] [0] =
(
 bif decide (40<Int.ofNat n) then none else
 some ((.normal,[acV n X],[]))):=by kernel_rfl
theorem y1z (n:Nat) (X:Nat->Act):stepV P42 G42 A42 K5z 0 5 [acV n X] =
(
 bif decide (40<Int.ofNat n) then
 some (.bool true)
 else
 none):=by kernel_rfl
theorem y3 (n:Nat) (X:Nat->Act):codeL P42 G42 A42 noneO 0 5 [] (nav [1,2,2]) [0] [acV n X] [] [0,3] =
(
 some ((.normal,[acV n X,.ptr 0 0 0 0],[.mk 0 31 1 (fun x=>[.nils,.int .i64 0,.int .i64 0,.int .i64 0,.int .i64 0,.int .i64 0,.int .i64 0,.int .i64 0,.int .i64 0,.int .i64 0,.int .i64 0,.int .i64 0,.int .i64 0,.int .i64 0,.int .i64 0,.int .i64 0,.int .i64 0,.int .i64 0,.int .i64 0,.int .i64 0,.int .i64 0,.int .i64 0,.int .i64 0,.int .i64 0,.int .i64 0,.int .i64 0,.int .i64 0,.int .i64 0,.int .i64 0,.int .i64 0,.int .i64 0]) false false
 none]))):=by kernel_rfl
theorem y4 (n:Nat) (X:Nat->Act) (h:Heap):codeL P42 G42 A42 noneO 0 5 [] (nav [1,2,2,2]) [0,3] [acV n X,.ptr 0 0 0 0] h [0,3,4] =
(
 some ((.normal,[acV n X,.ptr 0 0 0 0,.reg [.nils,.nils]],h))):=by kernel_rfl
theorem y5 (n:Nat) (X:Nat->Act) (s:T) (h:Heap):codeL P42 G42 A42 noneO 0 5 [] (nav [1,2,2,2,2]) [0,3,4] [acV n X,.ptr 0 0 0 0,s] h [0,3,4,5,6] =
(
 some ((.normal,[acV n X,.ptr 0 0 0 0,s,.int .i64 0,.int .i64 0],h))):=by kernel_rfl
theorem y6 (n:Nat) (X:Nat->Act) (s:T) (h:Heap):codeL P42 G42 A42 noneO 0 5 [] (nav [1,1,2,2,2,2,2]) [0,3,4,5,6] [acV n X,.ptr 0 0 0 0,s,.int .i64 0,.int .i64 0] h lAa =
(
 some ((.normal,vA n X s (0:Int) (0:Int) (0:Int),h))):=by kernel_rfl
theorem y66x (n:Nat) (X:Nat->Act) (s:T) (ad us i l:Int) (h:Heap):codeL P42 G42 A42 noneO 0 5 [] (nav ([1,0] ++ LP66)) [0,3,4,5,6,7,23,24] (vA n X s ad us i ++ [.int .i64 l,.int .i64 5]) h [0,3,4,5,6,7,23] =
(
 some ((.exit 10,[acV n X,.ptr 0 0 0 0,s,.int .i64 ad,.int .i64 us,.int .i64 i,.int .i64 l],h))):=by kernel_rfl
theorem y65 (n:Nat) (X:Nat->Act) (s:T) (ad us i l:Int) (h:Heap):codeL P42 G42 A42 noneO 0 5 [] (nav ([1,1,2,2,2,2,2,2,2,2] ++ BBa)) [0,3,4,5,6,7,23] (vA n X s ad us i ++ [.int .i64 l]) h [0,3,4,5,6,7,23,24] =
(
 some ((.normal,[acV n X,.ptr 0 0 0 0,s,.int .i64 ad,.int .i64 us,.int .i64 i,.int .i64 l,.int .i64 1],h))):=by kernel_rfl
open Go.Proofs
section
variable {n:Nat} {X:Nat->Act} {M:List Cne} {H:Nat->Nat->Int} {i:Nat} {ad us:Int} {v:Nat} {c:Option Nat}
theorem stM_A {X':Heap} (h:StM M H X') (s:T) (hs:List Hld) (cs:List Cne):∃ w c,(c = none ∨ M = [])/\Wk G42 A42 5 0 lAa (vA n X (rS cs hs) ad us i) X' (vA n X (rS cs hs) ad us i) (hA w c M H):=by
 rcases h with ⟨w,c,hc,rfl⟩ | ⟨w,c,u,L,hc,rfl⟩
 ·exact ⟨w,c,hc,fun nt=>.refl _ _⟩
 ·refine ⟨w,c,hc,fun nt=>.trans (.canon [0,2] rfl) ?_⟩
  refine .same (.cons ⟨rfl,rfl,rfl,(fun h=>by cases h),fun j hj=>?_⟩ (.cons ⟨rfl,rfl,rfl,id,fun _ _=>rfl⟩ .nil))
  obtain rfl:=one_of hj
  rfl
theorem actsA (hI:AInv M H i ad us) (hi:i<40) (hin:i<n) (hx:(X i).Ok) (hc:c = none ∨ M = []):∃ E M' H' ad' us' r1 r2 X',Out M H M' H' i ad' us' E r1 r2/\StM M' H' X' ∧
 P5 S0a l4a (v4A n X (rS M (hsL H)) ad us i (1+(X i).o.tmod 5) (1+(X i).a.tmod 4) (1+(X i).l) ((X i).w.tmod 5)) (hA v c M H) .normal lWa (w4A n X (rS M (hsL H)) ad' us' i E E (rS r1 r2)) X':=by
 have h5:=mod5 hx.w.1
 have:(X i).w.tmod 5 = 0 ∨ (X i).w.tmod 5 = 1 ∨ (X i).w.tmod 5 = 2 ∨ (X i).w.tmod 5 = 3 ∨ (X i).w.tmod 5 = 4:=by omega
 rcases this with e | e | e | e | e <;> rw [e]
 ·obtain ⟨w,r1,r2,q1,q2⟩:=addA (n:=n) (v:=v) (c:=c) hI hi hx
  exact ⟨0,_,H,_,us,r1,r2,_,⟨q1.inv,q1.ok,fun h=>absurd rfl h⟩,.inl ⟨w,none,.inl rfl,rfl⟩,q2⟩
 ·obtain ⟨E,H',r1,r2,q1,q2⟩:=resT (n:=n) (v:=v) (c:=c) hI hi hin hx (w:=1) (.inl rfl)
  exact ⟨E,M,H',ad,us,r1,r2,_,q1,.inl ⟨v,c,hc,rfl⟩,q2⟩
 ·obtain ⟨E,H',r1,r2,q1,q2⟩:=resT (n:=n) (v:=v) (c:=c) hI hi hin hx (w:=2) (.inr rfl)
  exact ⟨E,M,H',ad,us,r1,r2,_,q1,.inl ⟨v,c,hc,rfl⟩,q2⟩
 ·obtain ⟨E,H',r1,r2,q1,q2⟩:=relA (n:=n) (v:=v) (c:=c) hI hi hx
  exact ⟨E,M,H',ad,us,r1,r2,_,q1,.inl ⟨v,c,hc,rfl⟩,q2⟩
 ·obtain ⟨E,M',H',us',r1,r2,X',q1,q2,q3⟩:=useA (n:=n) (v:=v) (c:=c) hI hi hx hc
  exact ⟨E,M',H',ad,us',r1,r2,X',q1,q2,q3⟩
def lfS (M:List Cne):Nat->Int
 | 0=>0
 | k+1=>lfS M k+cnN M (k+1:Nat)
theorem lf66 (hI:AInv M H i ad us) (n:Nat) (X:Nat->Act) (z:Int):P5 ([1,2,2,2,2,2,2,2,2] ++ BBa) [0,3,4,5,6,7,23] (vA n X (rS M (hsL H)) ad us z ++ [.int .i64 0]) (hA v c M H) .normal [0,3,4,5,6,7,23] (vA n X (rS M (hsL H)) ad us z ++ [.int .i64 (lfS M 4)]) (hA v c M H):=by
 obtain ⟨p,hp⟩:=is_val P42 G42 16
 obtain ⟨q,hq⟩:=is_val P42 G42 12
 have t16:=fun k h1 h4=>freeT16 (v:=v) (c:=c) hI k h1 h4
 have t12:∀ k:Nat,1<=k->k<=4->ToldOk P42 G42 12 [stV M (hsL H),.int .i64 k] (.int .i64 (cnN M k - hSum H k)):=fun k h1 h4=>by
  have t:=freeOT M (hsL H) k (by have:=hI.v.cl; omega) (by have:=hI.v.hl; omega)
  unfold freeO at t
  rw [if_neg (by rw [ckE_iff.2 hI.v]; simp),hI.fr k h1 h4] at t
  exact t.sim (.cons (simSt _ _) (.cons (.refl _) .nil))
 have hlf:∀ k,k<=4->0<=lfS M k/\lfS M k<=20000 * k:=fun k=>by
  induction k with
  | zero=>intro _; exact ⟨Int.le_refl _,Int.le_refl _⟩
  | succ k ih =>
   intro hk
   have:=ih (by omega)
   have:=hI.cn (k+1:Nat)
   simp only [lfS]
   omega
 refine Pz.seq (by kernel_rfl) (p5 (y65 n X (rS M (hsL H)) ad us z 0 (hA v c M H))) (Pz.blk (id:=10) (e:=.exit 10) (by kernel_rfl) rfl ?_)
 refine Pz.count (P:=P42) (G:=G42) (A:=A42) (f:=5) (p:=LP66) (by kernel_rfl) (fun r=>vA n X (rS M (hsL H)) ad us z ++ [.int .i64 (lfS M r),.int .i64 (r+1:Nat)]) (fun _=>hA v c M H) (n:=4) (e:=.exit 10) (by simp) (fun r hr=>?_) ?_
 ·have hk:r+1 = 1 ∨ r+1 = 2 ∨ r+1 = 3 ∨ r+1 = 4:=by omega
  have t1:=t16 (r+1) (by omega) (by omega)
  have t2:=t12 (r+1) (by omega) (by omega)
  refine Pz.run hm42 (told_add (told_add none_ok (callF_told hp)) (callF_told hq)) (m:=8) (by kernel_rfl) loops0 ((y66 n X M (hsL H) ad us z (lfS M r) v c H p q (fun x=>cnN M x - hSum H x.toNat) (r+1) hk).trans ?_)
  show (bif decF (q [stV M (hsL H),.int .i64 (r+1:Nat)] (.int .i64 (cnN M (r+1:Nat) - hSum H (r+1)))) then _ else _) = _
  refine bift (callF_yes hq t2) (bift (callF_yes hp t1) (biff (by simp) (bift (callF_yes hp t1) ?_)))
  have b0:=hlf r (by omega)
  have b1:=hI.cn (r+1:Nat)
  have b2:=hI.hs (r+1) (by omega) (by omega)
  have b3:=(hSum_nn hI.hg 1 (r+1)).1
  have h1:=hI.hb 1 (r+1)
  have h2:=hI.hb 2 (r+1)
  have h3:=hI.hb 3 (r+1)
  have h4:=hI.hb 4 (r+1)
  have h5:=hI.hb 5 (r+1)
  have hS:hSum H (r+1) = H 1 (r+1)+H 2 (r+1)+H 3 (r+1)+H 4 (r+1)+H 5 (r+1):=rfl
  show some (Ex.normal,vA n X (rS M (hsL H)) ad us z ++ [T.int .i64 (IntKind.i64.wrap (IntKind.i64.wrap (IntKind.i64.wrap (IntKind.i64.wrap (IntKind.i64.wrap (IntKind.i64.wrap (lfS M r+(cnN M (r+1:Nat) - hSum H (r+1)))+H 1 (r+1))+H 2 (r+1))+H 3 (r+1))+H 4 (r+1))+H 5 (r+1))),T.int .i64 (r+1+1:Nat)],hA v c M H) = _
  have es:lfS M (r+1) = lfS M r+cnN M (r+1:Nat):=rfl
  generalize lfS M (r+1) = z1 at *
  generalize lfS M r = z0 at *
  generalize cnN M (r+1:Nat) = y at *
  generalize hSum H (r+1) = g at *
  generalize H 1 (r+1) = g1 at *
  generalize H 2 (r+1) = g2 at *
  generalize H 3 (r+1) = g3 at *
  generalize H 4 (r+1) = g4 at *
  generalize H 5 (r+1) = g5 at *
  rw [show IntKind.i64.wrap (z0+(y - g)) = z0+(y - g) from wr64 (by omega) (by omega),show IntKind.i64.wrap (z0+(y - g)+g1) = z0+(y - g)+g1 from wr64 (by omega) (by omega),show IntKind.i64.wrap (z0+(y - g)+g1+g2) = z0+(y - g)+g1+g2 from wr64 (by omega) (by omega),show IntKind.i64.wrap (z0+(y - g)+g1+g2+g3) = z0+(y - g)+g1+g2+g3 from wr64 (by omega) (by omega),show IntKind.i64.wrap (z0+(y - g)+g1+g2+g3+g4) = z0+(y - g)+g1+g2+g3+g4 from wr64 (by omega) (by omega),show IntKind.i64.wrap (z0+(y - g)+g1+g2+g3+g4+g5) = z1 by rw [wr64 (by omega) (by omega)]; omega]
 ·exact Pz.seqX (by kernel_rfl) (by simp) (p5 (y66x n X (rS M (hsL H)) ad us z (lfS M 4) (hA v c M H)))
theorem roundA (hI:AInv M H i ad us) (hi:i<40) (hin:i<n) (hx:(X i).Ok) (hc:c = none ∨ M = []):∃ M' H' ad' us' w c',AInv M' H' (i+1) ad' us'/\(c' = none ∨ M' = []) ∧
 P5 (0 :: LP5) lAa (vA n X (rS M (hsL H)) ad us i) (hA v c M H) .normal lAa (vA n X (rS M' (hsL H')) ad' us' (i+1:Nat)) (hA w c' M' H'):=by
 obtain ⟨E,M',H',ad',us',r1,r2,X',hO,hS,pS⟩:=actsA (n:=n) (v:=v) hI hi hin hx hc
 obtain ⟨w,c',hc',hw⟩:=stM_A (i:=i) (ad:=ad') (us:=us') (n:=n) (X:=X) hS (rS M' (hsL H')) (hsL H') M'
 have hI':=hO.inv
 refine ⟨M',H',ad',us',w,c',hI',hc',?_⟩
 have bi:decide (Int.ofNat i<Int.ofNat n) = true:=decide_eq_true (show (i:Int)<(n:Int) by omega)
 have bj:(decide ((0:Int)<=Int.ofNat i)&&decide (Int.ofNat i<Int.ofNat n)) = true:=by rw [bi,decide_eq_true (show (0:Int)<=Int.ofNat i from Int.natCast_nonneg _)]; rfl
 have o1:=mod5 hx.o.1
 have a1:=mod4 hx.a.1
 have l1:=hx.l
 have e1:IntKind.i64.wrap ((X i).o.tmod 5) = (X i).o.tmod 5:=wr64 (by omega) (by omega)
 have e2:IntKind.i64.wrap (1+(X i).o.tmod 5) = 1+(X i).o.tmod 5:=wr64 (by omega) (by omega)
 have e3:IntKind.i64.wrap ((X i).a.tmod 4) = (X i).a.tmod 4:=wr64 (by omega) (by omega)
 have e4:IntKind.i64.wrap (1+(X i).a.tmod 4) = 1+(X i).a.tmod 4:=wr64 (by omega) (by omega)
 have e5:IntKind.i64.wrap (X i).l = (X i).l:=wr64 (by omega) (by omega)
 have e6:IntKind.i64.wrap (1+(X i).l) = 1+(X i).l:=wr64 (by omega) (by omega)
 have k1:=z1 n X (rS M (hsL H)) ad us i (hA v c M H)
 rw [e1,e2,e3,e4,e5,e6] at k1
 have q1:P5 ([1] ++ BBa) lAa (vA n X (rS M (hsL H)) ad us i) (hA v c M H) .normal [0,3,4,5,6,7,8,9,10] (w4A n X (rS M (hsL H)) ad us i (1+(X i).o.tmod 5) (1+(X i).a.tmod 4) (.int .i64 (1+(X i).l))) (hA v c M H):=p5 (k1.trans (bift bj (bift bj (bift bj rfl))))
 have q2:=p5 (z2 n X (rS M (hsL H)) ad us i (1+(X i).o.tmod 5) (1+(X i).a.tmod 4) (.int .i64 (1+(X i).l)) (hA v c M H))
 have q3:=p5 (z3 n X M (hsL H) ad us i (1+(X i).o.tmod 5) (1+(X i).a.tmod 4) (1+(X i).l) (hA v c M H))
 have q4:P5 ([1,1,2,2,2] ++ BBa) [0,3,4,5,6,7,8,9,10,12,13] [acV n X,.ptr 0 0 0 0,rS M (hsL H),.int .i64 ad,.int .i64 us,.int .i64 i,.int .i64 (1+(X i).o.tmod 5),.int .i64 (1+(X i).a.tmod 4),.int .i64 (1+(X i).l),.int .i64 0,rS M (hsL H)] (hA v c M H) .normal l4a (v4A n X (rS M (hsL H)) ad us i (1+(X i).o.tmod 5) (1+(X i).a.tmod 4) (1+(X i).l) ((X i).w.tmod 5)) (hA v c M H) :=
  p5 ((z4 n X M (hsL H) ad us (1+(X i).o.tmod 5) (1+(X i).a.tmod 4) (1+(X i).l) i (hA v c M H)).trans (bift bj rfl))
 have q5:P5 ([1,2,2,2,2] ++ BBa) lWa (w4A n X (rS M (hsL H)) ad' us' i E E (rS r1 r2)) X' .normal [0,3,4,5,6,7,11,13] (vA n X (rS M (hsL H)) ad' us' i ++ [.int .i64 E,rS r1 r2]) X':=by
  refine p5 ((y58 n X M r1 (hsL H) r2 ad' us' i E X').trans (biff (by simp) ?_))
  by_cases q:E = 0
  ·exact biff (by simp [q]) rfl
  ·obtain ⟨rfl,rfl,_,_⟩:=hO.no q
   exact bift (by simp [q]) (biff (by simp; rfl) rfl)
 have q6:P5 ([1,2,2,2,2,2] ++ BBa) [0,3,4,5,6,7,11,13] (vA n X (rS M (hsL H)) ad' us' i ++ [.int .i64 E,rS r1 r2]) X' .normal lAa (vA n X (rS M' (hsL H')) ad' us' i) X':=by
  refine p5 ((y60 n X M r1 (hsL H) r2 ad' us' i E X').trans ?_)
  by_cases q:E = 0
  ·obtain ⟨rfl,rfl⟩:=hO.ok q
   exact bift (decide_eq_true q) rfl
  ·obtain ⟨_,_,rfl,rfl⟩:=hO.no q
   exact biff (by rw [decide_eq_true_eq]; exact q) rfl
 have q7:P5 ([1,2,2,2,2,2,2] ++ BBa) lAa (vA n X (rS M' (hsL H')) ad' us' i) (hA w c' M' H') .normal lAa (vA n X (rS M' (hsL H')) ad' us' i) (hA w c' M' H'):=by
  obtain ⟨p20,h20⟩:=is_val P42 G42 20
  obtain ⟨p19,h19⟩:=is_val P42 G42 19
  obtain ⟨p10,h10⟩:=is_val P42 G42 10
  have t20:=(stockT M' H' (by have:=hI'.ml; have:=hI'.i40; omega)).sim (.cons (simVp w M' c' H') .nil)
  have t19:=sameT M' M' (hsL H') (hsL H') (by have:=hI'.v.cl; omega) (by have:=hI'.v.hl; omega)
  rw [smB_iff.2 ⟨rfl,rfl⟩] at t19
  have t10:=checkT M' (hsL H') (by have:=hI'.v.cl; omega) (by have:=hI'.v.hl; omega)
  rw [ckE_iff.2 hI'.v] at t10
  have t10:=t10.sim (.cons (simSt _ _) .nil)
  exact Pz.run hm42 (told_add (told_add (told_add none_ok (callF_told h20)) (callF_told h19)) (callF_told h10)) (m:=0) (by kernel_rfl) loops0 ((y62 n X M' M' (hsL H') (hsL H') ad' us' i w c' H' p20 p19 p10 true 0).trans (bift (callF_yes h20 t20) (bift (callF_yes h19 t19) (bift rfl (bift (callF_yes h10 t10) (biff (by simp) rfl))))))
 have q8:=p5 (y64 n X (rS M' (hsL H')) ad' us' i (hA w c' M' H'))
 have q9:=lf66 (v:=w) (c:=c') hI' n X i
 have q10:P5 ([2,2,2,2,2,2,2,2,2] ++ BBa) [0,3,4,5,6,7,23] (vA n X (rS M' (hsL H')) ad' us' i ++ [.int .i64 (lfS M' 4)]) (hA w c' M' H') .normal lAa (vA n X (rS M' (hsL H')) ad' us' i) (hA w c' M' H'):=by
  refine p5 ((y75 n X (rS M' (hsL H')) ad' us' i (lfS M' 4) (hA w c' M' H')).trans ?_)
  have hs:lfS M' 4+us' = ad':=by
   have:=hI'.sum
   show 0+cnN M' 1+cnN M' 2+cnN M' 3+cnN M' 4+us' = ad'
   omega
  have hb:=hI'.us0
  have c1:=hI'.cn 1
  have c2:=hI'.cn 2
  have c3:=hI'.cn 3
  have c4:=hI'.cn 4
  have hsum:=hI'.sum
  rw [hs,wr64 (by omega) (by have:=hI'.i40; omega)]
  exact biff (by simp) rfl
 have q11:P5 ([2,2,0] ++ LP5) lAa (vA n X (rS M' (hsL H')) ad' us' i) (hA w c' M' H') .normal lAa (vA n X (rS M' (hsL H')) ad' us' (i+1:Nat)) (hA w c' M' H'):=by
  refine p5 ((y8 n X (rS M' (hsL H')) ad' us' i (hA w c' M' H')).trans ?_)
  rw [up1 (by omega)]
  rfl
 have q0:P5 ([1,0] ++ LP5) lAa (vA n X (rS M (hsL H)) ad us i) (hA v c M H) .normal lAa (vA n X (rS M (hsL H)) ad us i) (hA v c M H):=p5 ((y7 n X (rS M (hsL H)) ad us i (hA v c M H)).trans (bift bi rfl))
 have pB:P5 BBa lAa (vA n X (rS M (hsL H)) ad us i) (hA v c M H) .normal lAa (vA n X (rS M' (hsL H')) ad' us' i) (hA w c' M' H') :=
  Pz.seq (by kernel_rfl) q1 (Pz.seq (by kernel_rfl) q2 (Pz.seq (by kernel_rfl) q3 (Pz.seq (by kernel_rfl) (Pz.seq (by kernel_rfl) q4 (Pz.blk (id:=2) (by kernel_rfl) rfl pS)) (Pz.seq (by kernel_rfl) q5 (Pz.seq (by kernel_rfl) (Pz.post q6 hw) (Pz.seq (by kernel_rfl) q7 (Pz.seq (by kernel_rfl) q8 (Pz.seq (by kernel_rfl) q9 q10))))))))
 exact Pz.seq (by kernel_rfl) q0 (Pz.seq (by kernel_rfl) (Pz.blk (id:=1) (by kernel_rfl) rfl pB) q11)
end
theorem actsT (n:Nat) (X:Nat->Act) (hX:∀ j,j<n->(X j).Ok):ToldOk P42 G42 5 [acV n X] (.bool true):=by
 by_cases c1:40<n
 ·exact stepV_told hm42 hn42 (told_add none_ok one9B) (K:=K5z) (A:=A42) (m:=0) ((y1z n X).trans (BT rfl))
 obtain ⟨e,vs1,h1,⟨rfl,rfl⟩,hP⟩:=Pz.loop (P:=P42) (G:=G42) (A:=A42) (f:=5) (h0:=([]:Heap)) (p:=LP5) (l:=lAa) (l1:=[]) (by kernel_rfl)
  (fun m vs h=>∃ i M H ad us v c,i<=n/\m = n - i/\AInv M H i ad us/\(c = none ∨ M = [])/\vs = vA n X (rS M (hsL H)) ad us i/\h = hA v c M H)
  (fun e vs h=>e = .exit 0/\vs = [])
  (fun m vs h hI=>by
   obtain ⟨i,M,H,ad,us,v,c,hi,rfl,hA',hc,rfl,rfl⟩:=hI
   by_cases q:i<n
   ·obtain ⟨M',H',ad',us',w,c',r1,r2,r3⟩:=roundA (v:=v) hA' (by omega) q (hX i q) hc
    exact .inl ⟨n - (i+1),_,_,by omega,r3,i+1,M',H',ad',us',w,c',by omega,rfl,r1,r2,rfl,rfl⟩
   ·exact .inr ⟨.exit 0,[],hA v c M H,by simp,Pz.seqX (by kernel_rfl) (by simp) (p5 ((y7x n X (rS M (hsL H)) ad us i (hA v c M H)).trans (BF rfl))),rfl,rfl⟩)
  (n:=n - 0) (vs:=vA n X (rS [] (hsL fun _ _=>0)) 0 0 ((0:Nat):Int)) (h:=hA 0 none [] fun _ _=>0) ⟨0,[],_,0,0,0,none,Nat.zero_le _,rfl,.nil,.inl rfl,rfl,rfl⟩
 have gh:Wk G42 A42 5 0 lAa (vA n X (.reg [.nils,.nils]) 0 0 0) [mB .nils fun _ _=>0] (vA n X (rS [] (hsL fun _ _=>0)) 0 0 ((0:Nat):Int)) (hA 0 none [] fun _ _=>0):=fun nt=>by
  have e:hsL (fun _ _=>0) = []:=by decide
  rw [e]
  refine .trans (.slS (vs2:=vA n X (rS [] []) 0 0 0) (.cons (.refl _) (.cons (.refl _) (.cons (.inr (.inl ⟨_,_,rfl,rfl,.cons (.inr ⟨rfl,.nilv _ _ (.inr rfl),rfl⟩) (.cons (.inr ⟨rfl,.nilv _ _ (.inr rfl),rfl⟩) .nil)⟩)) (.cons (.refl _) (.cons (.refl _) (.cons (.refl _) .nil)))))) (.refl _)) ?_
  refine .gh [cBl 0 []] (fun b hb=>by simp at hb; subst hb; exact ⟨rfl,rfl⟩) (.cons (.refl _) (.cons (.refl _) (.cons (.refl _) (.cons (.refl _) (.cons (.refl _) (.cons (.refl _) .nil)))))) (.chg ⟨rfl,rfl,rfl,rfl⟩ rfl (fun j hj=>?_) (.refl _))
  exact .cons (.own (b:=cBl 0 []) (Nat.le_refl 1) rfl rfl) (.refl _)
 have b0:P5 [1,1,2,2,2,2,2] [0,3,4,5,6] [acV n X,.ptr 0 0 0 0,.reg [.nils,.nils],.int .i64 0,.int .i64 0] [mB .nils fun _ _=>0] .normal lAa (vA n X (.reg [.nils,.nils]) 0 0 0) [mB .nils fun _ _=>0]:=p5 (y6 n X (.reg [.nils,.nils]) _)
 have b1:P5 [1,2] [0] [acV n X] [] .normal [0] [acV n X] []:=p5 ((y1 n X).trans (BF rfl))
 have pz:P5 [2,2,2,2,2,2] [] [] h1 .ret [2] [.bool true] h1:=Pz.run hm42 (told_add none_ok one9B) (m:=0) (by kernel_rfl) loops0 (y77 h1)
 refine Pz.told hn42 Try.func5 (by kernel_rfl) (by kernel_rfl) rfl (Pz.seq (by kernel_rfl) (p5 (y0 n X)) (Pz.seq (by kernel_rfl) b1 (Pz.seq (by kernel_rfl) (p5 (y3 n X)) (Pz.seq (by kernel_rfl) (p5 (y4 n X _)) (Pz.seq (by kernel_rfl) (p5 (y5 n X _ _)) (Pz.seq (by kernel_rfl) (Pz.seq (by kernel_rfl) (Pz.post b0 gh) (Pz.blk (id:=0) (by kernel_rfl) rfl hP)) pz)))))) ?_
 kernel_rfl
open Go.Proofs
def sK (g:Nat->Int):Nat->List Int
 | 0=>[]
 | i+1=>insL (sK g i) (1+g i)
def v24k (n:Nat) (g:Nat->Int) (tot many:Int) (a:T) (kn:Int) (S:T) (e left:Int):List T:=[u8V n g,.int .i64 tot,.int .i64 many,a,.int .i64 kn,S,.int .i64 e,.int .i64 left]
def w24k (n:Nat) (g:Nat->Int) (tot many:Int) (a:T) (kn:Int) (e left:Int):List T:=[u8V n g,.int .i64 tot,.int .i64 many,a,.int .i64 kn,.int .i64 e,.int .i64 left]
def w17k (n:Nat) (g:Nat->Int) (tot many:Int) (a:T) (kn:Int) (S:T):List T:=[u8V n g,.int .i64 tot,.int .i64 many,a,.int .i64 kn,S]
def w6k (n:Nat) (g:Nat->Int) (m:Int) (r:T) (tot:Int):List T:=[u8V n g,.int .u16 m,.reg [r,.nils],.int .i64 tot]
def hbK (many:Int):Blk:=⟨0,3,1,fun j=>[[.int .i64 1,.int .i64 3,.int .i64 many]].getD j [],true,true,none⟩
noncomputable def K4k (p11 p12:List T->T->Prop) (c:List Cne) (hs:List Hld) (kn E fr:Int):Orc:=((noneO.add 9 fun a=>match a with | []=>.ret (.bool true) | _=>.none).add 11 (callF p11 fun _=>some (.tup [stN c hs,.int .i64 kn,.int .i64 E]))).add 12 (callF p12 fun _=>some (.int .i64 fr))
theorem i24ak (n:Nat) (g:Nat->Int) (tot many:Int) (a:T) (kn:Int) (k:Nat) (S:Nat->Int) (e:Nat) (left:Int) (h:Heap):iterR P42 G42 A42 noneO 0 4 [] 24 (v24k n g tot many a kn (iV k S) e left) h =
(
 bif decide (Int.ofNat e<Int.ofNat k) then
 bif decide (0<=Int.ofNat e)&&decide (Int.ofNat e<Int.ofNat k) then
 bif decide (S e<=left) then
 bif decide (0<=Int.ofNat e)&&decide (Int.ofNat e<Int.ofNat k) then
 some ((.normal,v24k n g tot many a kn (iV k S) (IntKind.i64.wrap (Int.ofNat e+1)) (IntKind.i64.wrap (left - S e)),h))
 else none else
 some ((.exit 6,w24k n g tot many a kn (Int.ofNat e) left,h))
 else none else
 some ((.exit 6,w24k n g tot many a kn (Int.ofNat e) left,h))):=by kernel_rfl
theorem i17zk (n N:Nat) (g:Nat->Int) (tot many:Int) (a:T) (kn:Int) (k:Nat) (S:Nat->Int) (i:Nat) (X:Blk):iterR P42 G42 A42 noneO 0 4 [] 17 (v17k n N g tot many a kn (iV k S) i) (h17k N g X) =
(
 bif N==N&&true then
 bif decide (Int.ofNat i<Int.ofNat (N+1)) then none else
 some ((.exit 2,w17k n g tot many a kn (iV k S),h17k N g X))
 else
 none):=by kernel_rfl
theorem k4k (n:Nat) (g:Nat->Int) (m tot:Int) (N:Nat) (kn E fr many:Int) (c:List Cne) (hs:List Hld) (S:Nat->Int) (e:Nat) (left:Int) (p11 p12:List T->T->Prop):stepL P42 G42 A42 (K4k p11 p12 c hs kn E fr) 0 4 [(6,litS (v6k n g m .nils 0 0) [] (.exit 0) (w6k n g m (.own 0 N 0 (N+1) none) tot) [⟨N,2,N+1,fun j=>(cK g j).c,true,false,none⟩]),(17,litS (v17k n N g tot many (.reg [cnV c (some c.length),hdV hs (some hs.length)]) kn (iV 0 S) 0) (h17k N g (hbK many)) (.exit 2) (w17k n g tot many (.reg [cnV c (some c.length),hdV hs (some hs.length)]) kn (iV (N+1) S)) (h17k N g (hbK many))),(24,litS (v24k n g tot many (.reg [cnV c (some c.length),hdV hs (some hs.length)]) kn (iV (N+1) S) 0 many) (h17k N g (hbK many)) (.exit 6) (w24k n g tot many (.reg [cnV c (some c.length),hdV hs (some hs.length)]) kn e left) (h17k N g (hbK many)))] [u8V n g,.int .u16 m] =
(
 bif decide (Int.ofNat n = 0) then
 some (.bool true)
 else
 bif decide (12<Int.ofNat n) then
 some (.bool true)
 else
 bif weakF (v6k n g m .nils (0:Int) (nat_lit 0)) [] (v6k n g m .nils (0:Int) (nat_lit 0)) [] then
 bif decide (tot = 0) then none else
 bif decF (p11 [.agg [bif N==N&&((0:Nat)+(N+(1:Nat))).ble (N+1) then .view 2 (N+1) (fun j=>[.int .i64 3,.int .i64 (1+g (0+j))]) none else .undef,.view 3 1 (fun j=>[[T.int .i64 (1:Int),T.int .i64 (3:Int),T.int .i64 (IntKind.i64.wrap ((1:Int)+(IntKind.i64.wrap m).tmod tot))]].getD (0+j) []) (some 1)],.int .i64 1,.int .i64 3,.int .i64 (IntKind.i64.wrap ((1:Int)+(IntKind.i64.wrap m).tmod tot))] (.tup [stN c hs,.int .i64 kn,.int .i64 E])) then
 bif !decide (E = 0) then
 some (.bool false)
 else
 bif !decide (Int.ofNat hs.length = 0) then
 some (.bool false)
 else
 bif weakF (v17k n N g tot (IntKind.i64.wrap ((1:Int)+(IntKind.i64.wrap m).tmod tot)) (.reg [cnV c (some c.length),hdV hs (some hs.length)]) kn .nils (nat_lit 0)) (h17k N g (hbK (IntKind.i64.wrap ((1:Int)+(IntKind.i64.wrap m).tmod tot)))) (v17k n N g tot many (.reg [cnV c (some c.length),hdV hs (some hs.length)]) kn (iV (0:Nat) S) (nat_lit 0)) (h17k N g (hbK many)) then
 bif weakF (v24k n g tot many (.reg [cnV c (some c.length),hdV hs (some hs.length)]) kn (iV (N+1) S) (0:Int) many) (h17k N g (hbK many)) (v24k n g tot many (.reg [cnV c (some c.length),hdV hs (some hs.length)]) kn (iV (N+1) S) (0:Int) many) (h17k N g (hbK many)) then
 bif decide (0<left) then
 bif decide (Int.ofNat c.length = IntKind.i64.wrap (Int.ofNat n - Int.ofNat e)) then
 bif decide (kn = IntKind.i64.wrap (IntKind.i64.wrap (Int.ofNat e+1) - (1:Int))) then
 bif decF (p12 [stV c hs,.int .i64 3] (.int .i64 fr)) then
 bif decide (fr = IntKind.i64.wrap (tot - many)) then
 some (.bool true)
 else
 some (.bool false)
 else none else
 some (.bool false)
 else
 some (.bool false)
 else
 bif decide (Int.ofNat c.length = IntKind.i64.wrap (Int.ofNat n - Int.ofNat e)) then
 bif decide (kn = IntKind.i64.wrap (Int.ofNat e - 1)) then
 bif decF (p12 [stV c hs,.int .i64 3] (.int .i64 fr)) then
 bif decide (fr = IntKind.i64.wrap (tot - many)) then
 some (.bool true)
 else
 some (.bool false)
 else none else
 some (.bool false)
 else
 some (.bool false)
 else none else none else none else
 none):=by kernel_rfl
theorem sK_len (g:Nat->Int):∀ i,(sK g i).length = i
 | 0=>rfl
 | i+1=>by
  have:=sK_len g i
  simp only [sK,insL_len,this]
def FK (g:Nat->Int) (N i:Nat) (j:Nat):Int:=if i = 0 then (sK g (N+1)).getD j 0 else (sK g i).getD j 0
theorem FK_eq (g:Nat->Int) (N i j:Nat) (h:j<i):FK g N i j = (sK g i).getD j 0:=by
 unfold FK
 rw [if_neg (by omega)]
theorem loop17k (n N:Nat) (g:Nat->Int) (tot many:Int) (c:List Cne) (hs:List Hld) (kn:Int) (hN:N<=100):LoopOk P42 G42 (A42 4) 4 17 (litS (v17k n N g tot many (.reg [cnV c (some c.length),hdV hs (some hs.length)]) kn (iV 0 fun j=>(sK g (N+1)).getD j 0) 0) (h17k N g (hbK many)) (.exit 2) (w17k n g tot many (.reg [cnV c (some c.length),hdV hs (some hs.length)]) kn (iV (N+1) fun j=>(sK g (N+1)).getD j 0)) (h17k N g (hbK many))):=by
 refine loop_steps hm42 (by kernel_rfl) (fun i=>v17k n N g tot many (.reg [cnV c (some c.length),hdV hs (some hs.length)]) kn (iV i (FK g N i)) i) (fun _=>h17k N g (hbK many)) (n:=N+1) (fun i hi=>?_) ?_
 ·have l1:=loop20k n N g tot many (.reg [cnV c (some c.length),hdV hs (some hs.length)]) kn (sK g i) (FK g N i) i i (hbK many) hi (by omega) (by omega) (sK_len g i) fun j hj=>FK_eq g N i j hj
  have hp:=posI_le (sK g i) (1+g i) i
  obtain ⟨r,hr,v,f,m,B,rfl,hm,hf⟩:=i17xk n N g tot many (.reg [cnV c (some c.length),hdV hs (some hs.length)]) kn i (FK g N i) i (posI (sK g i) (1+g i) i) (hbK many) hp (by omega) hi (by omega)
  refine Step.mkC (A:=A42) (m:=0) none_ok rfl rfl (loops1 l1) [0,1] hr rfl rfl rfl fun nt=>?_
  refine .slS (.cons (.refl _) (.cons (.refl _) (.cons (.refl _) (.cons (.refl _) (.cons (.refl _) (.cons (.refl _) (.cons ?_ (.cons (.refl _) .nil)))))))) (.refl _)
  show SimS (bif true&&((v==v)&&Nat.ble (0+(i+1)) m) then T.view 1 (i+1) (fun j=>f (0+j)) none else .undef) _
  rw [beq_self_eq_true,bleT (by omega)]
  refine .view (.inl rfl) fun j hj=>?_
  rw [Nat.zero_add]
  show Sims (f j) [.int .i64 (FK g N (i+1) j)]
  rw [hf j hj,FK_eq g N (i+1) j hj]
  have e:(sK g (i+1)).getD j 0 = insF (FK g N i) (posI (sK g i) (1+g i) i) (1+g i) j:=by
   have e1:=insL_get (sK g i) (1+g i) j (by rw [sK_len]; exact hj)
   rw [sK_len] at e1
   show (insL (sK g i) (1+g i)).getD j 0 = _
   rw [e1]
   unfold insF
   by_cases c1:j<posI (sK g i) (1+g i) i
   ·rw [if_pos c1,if_pos c1,FK_eq g N i j (by omega)]
   ·rw [if_neg c1,if_neg c1]
    by_cases c2:j = posI (sK g i) (1+g i) i
    ·rw [if_pos c2,if_pos c2]
    ·rw [if_neg c2,if_neg c2,FK_eq g N i (j - 1) (by omega)]
  rw [e]
  exact .refl _
 ·refine Last.mk0 (A:=A42) (m:=0) none_ok rfl rfl loops0 (h1:=h17k N g (hbK many)) (by simp) ?_ (.refl _)
  show iterR P42 G42 A42 noneO 0 4 [] 17 (v17k n N g tot many (.reg [cnV c (some c.length),hdV hs (some hs.length)]) kn (iV (N+1) (FK g N (N+1))) (N+1)) (h17k N g (hbK many)) = _
  rw [i17zk]
  refine BT (BF ?_)
  have e:FK g N (N+1) = fun j=>(sK g (N+1)).getD j 0:=by
   funext j
   unfold FK
   rw [if_neg (by omega)]
  rw [e]
theorem loop24k (n:Nat) (g:Nat->Int) (tot many:Int) (a:T) (kn:Int) (S:List Int) (h:Heap) (hk:S.length<=1000) (hS:∀ x,x ∈ S->0<=x) (hm:0<=many/\many<=1000000):LoopOk P42 G42 (A42 4) 4 24 (litS (v24k n g tot many a kn (iV S.length fun j=>S.getD j 0) 0 many) h (.exit 6) (w24k n g tot many a kn (gE S many) (gL S many)) h):=by
 obtain ⟨q1,q2,q3,q4⟩:=gE_spec S many
 have hg:∀ r,r<S.length->0<=S.getD r 0:=fun r hr=>hS _ (mem_getD hr 0)
 have hb:∀ r,r<=gE S many->0<=rL S many r/\rL S many r<=many:=by
  intro r
  induction r with
  | zero=>intro _; exact ⟨hm.1,Int.le_refl _⟩
  | succ r ih =>
   intro hr
   have:=ih (by omega)
   have h1:=q2 r (by omega)
   have h2:=hg r (by omega)
   simp only [rL]
   omega
 refine loop_steps hm42 (by kernel_rfl) (fun r=>v24k n g tot many a kn (iV S.length fun j=>S.getD j 0) r (rL S many r)) (fun _=>h) (n:=gE S many) (fun r hr=>?_) ?_
 ·refine Step.mk0 (A:=A42) (m:=0) none_ok rfl rfl loops0 (h1:=h) ?_ (.refl _)
  show iterR P42 G42 A42 noneO 0 4 [] 24 (v24k n g tot many a kn (iV S.length fun j=>S.getD j 0) (r:Nat) (rL S many r)) h = _
  have h1:=q2 r hr
  have h2:=hg r (by omega)
  have h3:=hb r (by omega)
  rw [i24ak,up1 (by omega)]
  refine BT (BT (BT (BT ?_)))
  rw [show IntKind.i64.wrap (rL S many r - S.getD r 0) = rL S many (r+1) from wr64 (by omega) (by omega)]
  rfl
 ·refine Last.mk0 (A:=A42) (m:=0) none_ok rfl rfl loops0 (h1:=h) (by simp) ?_ (.refl _)
  show iterR P42 G42 A42 noneO 0 4 [] 24 (v24k n g tot many a kn (iV S.length fun j=>S.getD j 0) (gE S many:Nat) (rL S many (gE S many))) h = _
  rw [i24ak,q4]
  by_cases c:gE S many<S.length
  ·have:=q3 c
   exact BT (BT (BF rfl))
  ·exact BF rfl
open Go.Proofs
def totK (g:Nat->Int):Nat->Int
 | 0=>0
 | i+1=>totK g i+1+g i
theorem totK_bd (g:Nat->Int) (n:Nat) (hg:∀ j,j<n->0<=g j/\g j<=255):∀ i,i<=n->(i:Int)<=totK g i/\totK g i<=256 * i
 | 0,_=>⟨Int.le_refl _,Int.le_refl _⟩
 | i+1,hi=>by
  have:=totK_bd g n hg i (by omega)
  have:=hg i (by omega)
  simp only [totK]
  omega
def hh6 (g:Nat->Int):Nat->Heap
 | 0=>[]
 | i+1=>[⟨i,2,i+1,fun j=>(cK g j).c,true,false,none⟩]
def vv6 (n:Nat) (g:Nat->Int) (m:Int):Nat->List T
 | 0=>v6k n g m .nils 0 0
 | i+1=>v6k n g m (.own 0 i 0 (i+1) none) (totK g (i+1)) (i+1)
theorem loop6k (N:Nat) (g:Nat->Int) (m:Int) (hN:N<12) (hg:∀ j,j<N+1->0<=g j/\g j<=255):LoopOk P42 G42 (A42 4) 4 6 (litS (v6k (N+1) g m .nils 0 0) [] (.exit 0) (w6k (N+1) g m (.own 0 N 0 (N+1) none) (totK g (N+1))) [⟨N,2,N+1,fun j=>(cK g j).c,true,false,none⟩]):=by
 refine loop_steps hm42 (by kernel_rfl) (vv6 (N+1) g m) (hh6 g) (n:=N+1) (fun i hi=>?_) ?_
 ·have h0:=hg i hi
  have hb:=totK_bd g (N+1) hg i (by omega)
  have e1:IntKind.i64.wrap (g i) = g i:=wr64 (by omega) (by omega)
  have e2:IntKind.i64.wrap (1+g i) = 1+g i:=wr64 (by omega) (by omega)
  have e3:IntKind.i64.wrap (totK g i+1) = totK g i+1:=wr64 (by omega) (by omega)
  have e4:IntKind.i64.wrap (totK g i+1+g i) = totK g (i+1):=wr64 (by omega) (by omega)
  cases i with
  | zero =>
   refine Step.mkC (A:=A42) (m:=0) none_ok rfl rfl loops0 [1] (v1:=v6k (N+1) g m (.own 1 0 0 1 none) (totK g 1) 1) (h1:=[⟨0,2,1,fun j=>[[.int .i64 3,.int .i64 (1+g 0)]].getD j [],true,true,none⟩,⟨0,2,1,fun j=>[[.int .i64 3,.int .i64 (1+g 0)]].getD (0+j) [],true,false,none⟩]) ?_ (by kernel_rfl) (v2:=v6k (N+1) g m (.own 0 0 0 1 none) (totK g 1) 1) (by rfl) rfl fun nt=>.same (.cons ⟨rfl,rfl,rfl,id,fun j hj=>?_⟩ .nil)
   ·show iterR P42 G42 A42 noneO 0 4 [] 6 (v6k (N+1) g m .nils (totK g 0) 0) [] = _
    rw [i6ak,e1,e2,e3,e4]
    (repeat (first | refine BS ?_ | refine BF ?_))
    rfl
   ·obtain rfl:j = 0:=by have:j<1:=hj; omega
    rfl
  | succ i =>
   refine Step.mk (A:=A42) (m:=0) none_ok rfl rfl loops0 1 (by show 0<=1; decide) (h1:=[⟨i+1,2,i+1+1,fun j=>bif Nat.blt j (i+1) then (cK g (0+j)).c else [[.int .i64 3,.int .i64 (1+g (i+1))]].getD (0+(j - (i+1))) [],true,false,none⟩,⟨0,2,1,fun j=>[[.int .i64 3,.int .i64 (1+g (i+1))]].getD j [],true,true,none⟩]) (vs':=v6k (N+1) g m (.own 0 (i+1) 0 (i+1+1) none) (totK g (i+1+1)) (i+1+1)) ?_ (by rfl) (.cons ⟨rfl,rfl,rfl,id,fun j hj=>?_⟩ .nil)
   ·show iterR P42 G42 A42 noneO 0 4 [] 6 (v6k (N+1) g m (.own 0 i 0 (i+1) none) (totK g (i+1)) (i+1)) [⟨i,2,i+1,fun j=>(cK g j).c,true,false,none⟩] = _
    rw [i6bk,e1,e2,e3,e4,up1 (by omega)]
    (repeat (first | refine BS ?_ | refine BF ?_))
    rfl
   ·have hj:j<i+1+1:=hj
    show (cK g j).c = _
    simp only [bltD0,Nat.zero_add]
    by_cases q:j<i+1
    ·rw [decide_eq_true q]
     rfl
    ·obtain rfl:j = i+1:=by omega
     rw [decide_eq_false q,Nat.sub_self]
     rfl
 ·refine Last.mk0 (A:=A42) (m:=0) none_ok rfl rfl loops0 (h1:=hh6 g (N+1)) (by simp) ?_ (.refl _)
  show iterR P42 G42 A42 noneO 0 4 [] 6 (v6k (N+1) g m (.own 0 N 0 (N+1) none) (totK g (N+1)) (N+1)) [⟨N,2,N+1,fun j=>(cK g j).c,true,false,none⟩] = _
  rw [i6bk]
  exact BF rfl
open Go.Proofs
noncomputable def K4z:Orc:=noneO.add 9 fun a=>match a with | []=>.ret (.bool true) | _=>.none
def csK (g:Nat->Int) (N:Nat):List Cne:=(List.range N).map (cK g)
theorem csK_len (g:Nat->Int) (N:Nat):(csK g N).length = N:=by simp [csK]
theorem csK_get (g:Nat->Int) (N j:Nat) (h:j<N):(csK g N).getD j cn0 = cK g j:=by simp [csK,h]
theorem csK_succ (g:Nat->Int) (N:Nat):csK g (N+1) = csK g N ++ [cK g N]:=by simp [csK,List.range_succ]
theorem csK_mem {g:Nat->Int} {N:Nat} {c:Cne} (h:c ∈ csK g N):∃ j,j<N/\c = cK g j:=by
 obtain ⟨j,hj,rfl⟩:=List.mem_map.1 h
 exact ⟨j,List.mem_range.1 hj,rfl⟩
theorem csK_sum (g:Nat->Int):∀ N,cnN (csK g N) 3 = totK g N
 | 0=>rfl
 | N+1=>by
  have ih:=csK_sum g N
  rw [csK_succ,cnN_app,ih]
  simp only [cnN,cK,totK,if_pos]
  omega
theorem sK_perm (g:Nat->Int):∀ N,(sK g N).Perm ((csK g N).map (·.l))
 | 0=>.refl _
 | N+1=>by
  have ih:=sK_perm g N
  rw [csK_succ,List.map_append]
  exact (insL_perm _ _).trans ((List.Perm.cons _ ih).trans (List.perm_append_comm (l₁:=[1+g N])))
theorem sK_asc (g:Nat->Int):∀ N,(sK g N).Pairwise (·<=·)
 | 0=>.nil
 | N+1=>insL_asc (sK_asc g N) _
theorem valK {g:Nat->Int} {N:Nat} (hN:N<12) (hg:∀ j,j<N+1->0<=g j/\g j<=255) {many:Int} (h1:1<=many) (h2:many<=totK g (N+1)):Valid (csK g (N+1)) [⟨1,3,many⟩]:=by
 have hb:=totK_bd g (N+1) hg (N+1) (Nat.le_refl _)
 refine ⟨by rw [csK_len]; omega,by simp,fun c hc=>?_,fun c hc=>?_,by simp [ascP],fun x=>?_⟩
 ·obtain ⟨j,hj,rfl⟩:=csK_mem hc
  have:=hg j hj
  exact cvB_iff.2 ⟨by simp [cK],by simp [cK],by show 1<=1+g j; omega,by show 1+g j<=_; omega⟩
 ·simp at hc
  subst hc
  exact hvB_iff.2 ⟨by simp,by simp,by simp,by simp,h1,by show many<=_; omega⟩
 ·unfold frF
  simp only [hdN]
  by_cases c:x = 3
  ·subst c
   rw [csK_sum,if_pos rfl]
   omega
  ·rw [if_neg fun h=>c h.symm]
   have:=cnN_bd (csK g (N+1)) (fun c hc=>by obtain ⟨j,hj,rfl⟩:=csK_mem hc; have:=hg j hj; exact ⟨by show 0<=1+g j; omega,by show 1+g j<=_; omega⟩) x
   omega
theorem simV' (cs:List Cne) (hs:List Hld):Sim (.agg [cnV cs (some cs.length),hdV hs (some hs.length)]) (.agg [cnV cs none,hdV hs none]) :=
 Sim.agg (.cons (Sim.view (.inr rfl) fun _ _=>.refl _) (.cons (Sim.view (.inr rfl) fun _ _=>.refl _) .nil))
theorem k4y (n:Nat) (g:Nat->Int) (m:Int):stepL P42 G42 A42 K4z 0 4 [] [u8V n g,.int .u16 m] =
(
 bif decide (Int.ofNat n = 0) then
 some (.bool true)
 else
 bif decide (12<Int.ofNat n) then
 some (.bool true)
 else
 none):=by kernel_rfl
theorem knotsT (n:Nat) (g:Nat->Int) (m:Int) (hg:∀ j,j<n->0<=g j/\g j<=255) (hm0:0<=m) (hm1:m<=65535):ToldOk P42 G42 4 [u8V n g,.int .u16 m] (.bool true):=by
 have one9:∀ args r,(match args with | []=>Tree.ret (.bool true) | _=>Tree.none).run some = some r->ToldOk P42 G42 9 args r:=by
  intro args r h
  cases args with
  | nil=>obtain rfl:=Option.some.inj h; exact livesT
  | cons _ _=>cases h
 by_cases c1:n = 0
 ·refine stepL_told hm42 hn42 (told_add none_ok one9) (K:=K4z) (A:=A42) (m:=0) (by kernel_rfl) loops0 ((k4y n g m).trans ?_)
  exact bift (by subst c1; rfl) rfl
 by_cases c2:12<n
 ·refine stepL_told hm42 hn42 (told_add none_ok one9) (K:=K4z) (A:=A42) (m:=0) (by kernel_rfl) loops0 ((k4y n g m).trans ?_)
  exact BF (BT rfl)
 obtain ⟨N,rfl⟩:∃ N,n = N+1:=⟨n - 1,by omega⟩
 have hN:N<12:=by omega
 have hb:=totK_bd g (N+1) hg (N+1) (Nat.le_refl _)
 have em:IntKind.i64.wrap m = m:=wr64 (by omega) (by omega)
 have hmod:0<=m.tmod (totK g (N+1))/\m.tmod (totK g (N+1))<totK g (N+1):=by
  rw [Int.tmod_eq_emod_of_nonneg hm0]
  exact ⟨Int.emod_nonneg _ (by omega),Int.emod_lt_of_pos _ (by omega)⟩
 have ey:IntKind.i64.wrap (1+m.tmod (totK g (N+1))) = 1+m.tmod (totK g (N+1)):=wr64 (by omega) (by omega)
 obtain ⟨many,hmany⟩:∃ z,z = 1+m.tmod (totK g (N+1)):=⟨_,rfl⟩
 rw [← hmany] at ey
 have l1:1<=many:=by omega
 have l2:many<=totK g (N+1):=by omega
 have hv:=valK hN hg l1 l2
 obtain ⟨cs2,hs2,kn,e,hU,t11⟩:=useTN (csK g (N+1)) [⟨1,3,many⟩] 1 3 many (by rw [csK_len]; omega) (by simp)
 have h0:=ckE_iff.2 hv
 have hA0:At [⟨1,3,many⟩] ⟨1,3,many⟩ 0:=by
  refine ⟨by simp,fun k hk=>absurd hk (Nat.not_lt_zero _),fun k _ hk=>?_⟩
  have hk:k<1:=hk
  obtain rfl:k = 0:=by omega
  simp [cmpH_lt]
 have hC:CutTo 3 (csK g (N+1)) many (-1) cs2 kn/\hs2 = []/\e = 0:=by
  rcases hU with ⟨q,_⟩ | ⟨_,q,_⟩ | ⟨_,_,i,hA,h⟩
  ·exact absurd h0 q
  ·rw [hv.hv ⟨1,3,many⟩ (by simp)] at q; cases q
  ·obtain rfl:=hA.unique hA0
   rcases h with ⟨q,_⟩ | ⟨_,_,⟨q,_⟩ | ⟨_,hC,h2,h3⟩⟩
   ·exact absurd ⟨by simp,(cmpH_0 _ _).2 ⟨rfl,rfl⟩⟩ q
   ·exact absurd q (by simp)
   ·exact ⟨hC,by rw [h2]; simp,h3⟩
 obtain ⟨hC,rfl,rfl⟩:=hC
 have ecs:=csK_sum g (N+1)
 have hsum:=cut_sum hC (by omega) (by omega)
 have hmem:=cut_mem hC fun c hc=>by obtain ⟨j,hj,rfl⟩:=csK_mem hc; have:=hg j hj; show 1<=1+g j; omega
 have hsp:=sK_perm g (N+1)
 have hgr:=cut_greedy hC (sK g (N+1)) (sK_asc g (N+1)) hsp (fun c hc=>by obtain ⟨j,hj,rfl⟩:=csK_mem hc; have:=hg j hj; exact ⟨rfl,by show 1<=1+g j; omega⟩) (by omega) (by
  rw [sum_perm hsp,← cnN_all (a:=3) fun c hc=>by obtain ⟨j,hj,rfl⟩:=csK_mem hc; rfl,ecs]; exact l2)
 have hval2:Valid cs2 []:=by
  refine ⟨by have:=hmem.1; rw [csK_len] at this; omega,by simp,fun c hc=>?_,fun c hc=>(by cases hc),List.Pairwise.nil,fun x=>?_⟩
  ·obtain ⟨d,hd,e1,e2,e3⟩:=hmem.2 c hc
   have:=cvB_iff.1 (hv.cv d hd)
   exact cvB_iff.2 ⟨by omega,by omega,e2,by omega⟩
  ·have:=hsum x
   have h3:=hv.fr x
   unfold frF at h3 ⊢
   simp only [hdN] at h3 ⊢
   by_cases c:x = 3
   ·subst c; rw [if_pos rfl] at this; omega
   ·rw [if_neg c] at this
    rw [if_neg fun h=>c h.symm] at h3
    omega
 have t12:=freeOT cs2 [] 3 (by have:=hval2.cl; omega) (by simp)
 have efr:freeO cs2 [] 3 = totK g (N+1) - many:=by
  unfold freeO
  rw [if_neg (by rw [ckE_iff.2 hval2]; simp)]
  have:=hsum 3
  rw [if_pos rfl,ecs] at this
  unfold frF
  simp only [hdN]
  omega
 rw [efr] at t12
 rw [csK_len] at hgr
 obtain ⟨q1,q2,q3,q4⟩:=gE_spec (sK g (N+1)) many
 rw [sK_len] at q1
 have hpos:∀ x,x ∈ sK g (N+1)->0<=x:=fun x hx=>by
  obtain ⟨c,hc,rfl⟩:=List.mem_map.1 (hsp.mem_iff.1 hx)
  obtain ⟨j,hj,rfl⟩:=csK_mem hc
  have:=hg j hj
  show 0<=1+g j
  omega
 have L6:=loop6k N g m hN hg
 have L17:=loop17k (N+1) N g (totK g (N+1)) many cs2 [] kn (by omega)
 have L24:=loop24k (N+1) g (totK g (N+1)) many (.reg [cnV cs2 (some cs2.length),hdV [] (some ([]:List Hld).length)]) kn (sK g (N+1)) (h17k N g (hbK many)) (by rw [sK_len]; omega) hpos ⟨by omega,by omega⟩
 rw [sK_len] at L24
 obtain ⟨p11,h11⟩:=is_val P42 G42 11
 obtain ⟨p12,h12⟩:=is_val P42 G42 12
 refine stepL_told hm42 hn42 (told_add (told_add (told_add none_ok one9) (callF_told h11)) (callF_told h12)) (K:=K4k p11 p12 cs2 [] kn 0 (totK g (N+1) - many)) (A:=A42) (m:=0) (by kernel_rfl) (loopsC L6 (loopsC L17 (loops1 L24))) ((k4k (N+1) g m (totK g (N+1)) N kn 0 (totK g (N+1) - many) many cs2 [] (fun j=>(sK g (N+1)).getD j 0) (gE (sK g (N+1)) many) (gL (sK g (N+1)) many) p11 p12).trans ?_)
 rw [em,← hmany,ey,show Int.ofNat (gE (sK g (N+1)) many) = ((gE (sK g (N+1)) many:Nat):Int) from rfl]
 generalize gE (sK g (N+1)) many = E at *
 generalize gL (sK g (N+1)) many = Lf at *
 have w1:IntKind.i64.wrap (Int.ofNat (N+1) - (E:Int)) = (N+1:Nat) - (E:Int):=wr64 (by show (_:Int)<=((N+1:Nat):Int) - E; omega) (by show ((N+1:Nat):Int) - E<=_; omega)
 have w2:IntKind.i64.wrap ((E:Int) - 1) = (E:Int) - 1:=wr64 (by omega) (by omega)
 have w3:IntKind.i64.wrap ((E:Int)+1) = (E:Int)+1:=wr64 (by omega) (by omega)
 have w4:IntKind.i64.wrap ((E:Int)+1 - 1) = (E:Int):=by rw [wr64 (by omega) (by omega)]; omega
 have w5:IntKind.i64.wrap (totK g (N+1) - many) = totK g (N+1) - many:=wr64 (by omega) (by omega)
 rw [w1,w2,w3,w4,w5]
 refine BF (BF (bift (weakF_of ⟨rfl,.refl _⟩) (biff (by simp; omega) (bift (callF_yes h11 ?_) (biff (by simp) (biff (by simp) (bift (weakF_iff.2 fun Gl prom nt l=>.slS (.cons (.refl _) (.cons (.refl _) (.cons (.refl _) (.cons (.refl _) (.cons (.refl _) (.cons (.refl _) (.cons (.nilv _ _ (.inl rfl)) (.cons (.refl _) .nil)))))))) (.refl _)) (bift (weakF_of ⟨rfl,.refl _⟩) ?_))))))))
 ·refine t11.sim (.cons ?_ (.cons (.refl _) (.cons (.refl _) (.cons (.refl _) .nil))))
  rw [beq_self_eq_true,bleT (by omega)]
  refine Sim.agg (.cons ?_ (.cons ?_ .nil))
  ·show Sim (.view 2 (N+1) _ none) (cnV (csK g (N+1)) none)
   unfold cnV
   rw [csK_len]
   refine Sim.view (.inl rfl) fun j hj=>?_
   rw [csK_get g _ j hj,Nat.zero_add]
   exact .refl _
  ·refine Sim.view (.inr rfl) fun j hj=>?_
   have hj:j<1:=hj
   obtain rfl:j = 0:=by omega
   exact .refl _
 ·have t12':=t12.sim (.cons (simV' cs2 []) (.cons (.refl _) .nil))
  by_cases c:0<Lf
  ·rw [if_pos c] at hgr
   refine bift (by simpa using c) (bift (by simp; omega) (bift (by simp; omega) (bift (callF_yes h12 t12') (bift (by simp) rfl))))
  ·rw [if_neg c] at hgr
   refine biff (by simpa using c) (bift (by simp; omega) (bift (by simp; omega) (bift (callF_yes h12 t12') (bift (by simp) rfl))))
open Go.Proofs
def csL:List Cne:=[⟨1,1000000000⟩,⟨1,1000000000⟩]
def tabL:Blk:=⟨0,2,2,fun j=>[[.int .i64 1,.int .i64 1000000000],[.int .i64 1,.int .i64 1000000000]].getD j [],true,true,none⟩
def sL:T:=.reg [.own 0 0 0 2 (some 2),.nils]
def v3 (m:Int) (r:T) (i:Nat):List T:=[.int .u8 m,sL,r,.int .i64 i]
noncomputable def K3 (p8 p10:List T->T->Prop) (c1 c2:List Cne) (E1 E2:Int) (M1 M2:List Hld):Orc:=((noneO.add 9 fun a=>match a with | []=>.ret (.bool true) | _=>.none).add 8 (callF p8 fun a=>match a with | [_,.view _ n _ _]=>bif Nat.beq n 2 then some (.tup [stN c2 M2,.int .i64 E2]) else some (.tup [stN c1 M1,.int .i64 E1]) | _=>none)).add 10 (callF p10 fun _=>some (.int .i64 0))
def lF3 (i:Nat):Hld:=⟨1+(i:Int),1,2⟩
def w3 (m:Int) (k:Nat):List T:=[.int .u8 m,sL,.own 1 k 0 (k+1) none]
def hh3 (k:Nat):Heap:=[tabL,rowB k (k+1) lF3]
theorem i3a (m:Int) (i:Nat):iterR P42 G42 A42 noneO 0 3 [] 4 (v3 m .nils i) [tabL] =
(
 bif decide (Int.ofNat i<IntKind.i64.wrap (511+IntKind.i64.wrap (m.tmod 3))) then
 some ((.normal,[.int .u8 m,.reg [o33 (2:Nat) (2:Nat),.nils],.own 2 0 0 1
 none,.int .i64 (IntKind.i64.wrap (Int.ofNat i+1))],[.mk 0 2 2 (fun j=>[[T.int .i64 (1:Int),T.int .i64 (1000000000:Int)],[T.int .i64 (1:Int),T.int .i64 (1000000000:Int)]].getD j []) true true
 none,.mk 0 3 1 (fun j=>[[T.int .i64 (IntKind.i64.wrap ((1:Int)+Int.ofNat i)),T.int .i64 (1:Int),T.int .i64 (2:Int)]].getD j []) true true
 none,.mk 0 3 1 (fun j=>[[T.int .i64 (IntKind.i64.wrap ((1:Int)+Int.ofNat i)),T.int .i64 (1:Int),T.int .i64 (2:Int)]].getD (0+j) []) true false
 none]))
 else
 some ((.exit 0,[.int .u8 m,.reg [o33 (2:Nat) (2:Nat),.nils],.nils],[.mk 0 2 2 (fun j=>[[T.int .i64 (1:Int),T.int .i64 (1000000000:Int)],[T.int .i64 (1:Int),T.int .i64 (1000000000:Int)]].getD j []) true true
 none]))):=by kernel_rfl
theorem i3b (m:Int) (i k:Nat) (L:Nat->Hld):iterR P42 G42 A42 noneO 0 3 [] 4 (v3 m (.own 1 k 0 (k+1) none) i) [tabL,rowB k (k+1) L] =
(
 bif decide (Int.ofNat i<IntKind.i64.wrap (511+IntKind.i64.wrap (m.tmod 3))) then
 bif k==k&&true then
 bif ((0:Nat)+(k+(1:Nat))).ble (k+1) then
 bif ((k+(1:Nat)+(1:Nat)) * (25:Nat)).ble 70368744177664 then
 bif ((0:Nat)+(k+(1:Nat))+(1:Nat)).ble (k+1) then
 some ((.normal,[.int .u8 m,.reg [o33 (2:Nat) (2:Nat),.nils],.own 1 k 0 (k+1+(1:Nat))
 none,.int .i64 (IntKind.i64.wrap (Int.ofNat i+1))],[.mk 0 2 2 (fun j=>[[T.int .i64 (1:Int),T.int .i64 (1000000000:Int)],[T.int .i64 (1:Int),T.int .i64 (1000000000:Int)]].getD j []) true true
 none,.mk k 3 (k+1) (fun j =>
 bif ((0:Nat)+(k+(1:Nat))).ble j&&j.blt ((0:Nat)+(k+1)+(1:Nat)) then [[T.int .i64 (IntKind.i64.wrap ((1:Int)+Int.ofNat i)),T.int .i64 (1:Int),T.int .i64 (2:Int)]].getD ((0:Nat)+(j - ((0:Nat)+(k+1)))) []
 else (L j).c) true false
 none,.mk 0 3 1 (fun j=>[[T.int .i64 (IntKind.i64.wrap ((1:Int)+Int.ofNat i)),T.int .i64 (1:Int),T.int .i64 (2:Int)]].getD j []) true true
 none]))
 else
 some ((.normal,[.int .u8 m,.reg [o33 (2:Nat) (2:Nat),.nils],.own 1 (k+1) (0:Nat) (k+1+(1:Nat))
 none,.int .i64 (IntKind.i64.wrap (Int.ofNat i+1))],[.mk 0 2 2 (fun j=>[[T.int .i64 (1:Int),T.int .i64 (1000000000:Int)],[T.int .i64 (1:Int),T.int .i64 (1000000000:Int)]].getD j []) true true
 none,.mk (k+1) (3:Nat) (k+1+(1:Nat)) (fun j =>
 bif j.blt (k+1) then (L ((0:Nat)+j)).c
 else [[T.int .i64 (IntKind.i64.wrap ((1:Int)+Int.ofNat i)),T.int .i64 (1:Int),T.int .i64 (2:Int)]].getD ((0:Nat)+(j - (k+1))) []) true false
 none,.mk 0 3 1 (fun j=>[[T.int .i64 (IntKind.i64.wrap ((1:Int)+Int.ofNat i)),T.int .i64 (1:Int),T.int .i64 (2:Int)]].getD j []) true true
 none]))
 else none else none else none else
 some ((.exit 0,w3 m k,[.mk 0 2 2 (fun j=>[[T.int .i64 (1:Int),T.int .i64 (1000000000:Int)],[T.int .i64 (1:Int),T.int .i64 (1000000000:Int)]].getD j []) true true
 none,rowB k (k+1) L]))):=by kernel_rfl
theorem k3a (m:Int) (c1 c2:List Cne) (E1 E2:Int) (M1 M2:List Hld) (p8 p10:List T->T->Prop):stepL P42 G42 A42 (K3 p8 p10 c1 c2 E1 E2 M1 M2) 0 3 [(4,litS (v3 m .nils 0) [tabL] (.exit 0) (w3 m 510) (hh3 510))] [.int .u8 m] =
(
 bif weakF [.int .u8 m,.reg [o33 (2:Nat) (2:Nat),.nils],.nils,.int .i64 0] [.mk 0 2 2 (fun j=>[[T.int .i64 (1:Int),T.int .i64 (1000000000:Int)],[T.int .i64 (1:Int),T.int .i64 (1000000000:Int)]].getD j []) true true
 none] [.int .u8 m,.reg [o33 (2:Nat) (2:Nat),.nils],.nils,.int .i64 0] [.mk 0 2 2 (fun j=>[[T.int .i64 (1:Int),T.int .i64 (1000000000:Int)],[T.int .i64 (1:Int),T.int .i64 (1000000000:Int)]].getD j []) true true
 none] then
 bif decF (p8 [.agg [.view 2 2 (fun j=>[[T.int .i64 (1:Int),T.int .i64 (1000000000:Int)],[T.int .i64 (1:Int),T.int .i64 (1000000000:Int)]].getD (0+j) []) (some 2),.nils],.view 3 511 (fun j=>[.int .i64 (1+Int.ofNat (0+j)),.int .i64 1,.int .i64 2])
 none] (.tup [stN c1 M1,.int .i64 E1])) then
 bif decF (p8 [.agg [.view 2 2 (fun j=>[[T.int .i64 (1:Int),T.int .i64 (1000000000:Int)],[T.int .i64 (1:Int),T.int .i64 (1000000000:Int)]].getD (0+j) []) (some 2),.nils],.view 3 2 (fun j=>[[T.int .i64 (5:Int),T.int .i64 (1:Int),T.int .i64 (999999999:Int)],[T.int .i64 (5:Int),T.int .i64 (1:Int),T.int .i64 (IntKind.i64.wrap ((1:Int)+IntKind.i64.wrap (m.tmod (3:Int))))]].getD j []) (some 2)] (.tup [stN c2 M2,.int .i64 E2])) then
 bif decide (m.tmod 3 = 2) then
 bif decide (E1 = 9) then
 bif decide (Int.ofNat M1.length = 0) then
 bif decide (E2 = 3) then
 bif decide (Int.ofNat M2.length = 0) then
 some (.bool true)
 else
 some (.bool false)
 else
 some (.bool false)
 else
 some (.bool false)
 else
 some (.bool false)
 else
 bif !decide (E1 = 0) then
 some (.bool false)
 else
 bif !decide (Int.ofNat M1.length = IntKind.i64.wrap (511+IntKind.i64.wrap (m.tmod 3))) then
 some (.bool false)
 else
 bif decF (p10 [stV c1 M1] (.int .i64 0)) then
 bif decide (m.tmod 3 = 1) then
 bif decide (E2 = 3) then
 some (.bool true)
 else
 some (.bool false)
 else
 bif decide (E2 = 0) then
 bif decide (Int.ofNat M2.length = 1) then
 bif decide (0<Int.ofNat M2.length) then
 bif decide ((M2.getD (0:Nat) (Hld.mk (0:Int) (0:Int) (0:Int))).l = 1000000000) then
 bif decF (p10 [stV c2 M2] (.int .i64 0)) then
 some (.bool true)
 else none else
 some (.bool false)
 else none else
 some (.bool false)
 else
 some (.bool false)
 else none else none else none else
 none):=by kernel_rfl
theorem k3b (m:Int) (c1 c2:List Cne) (E1 E2:Int) (M1 M2:List Hld) (p8 p10:List T->T->Prop):stepL P42 G42 A42 (K3 p8 p10 c1 c2 E1 E2 M1 M2) 0 3 [(4,litS (v3 m .nils 0) [tabL] (.exit 0) (w3 m 511) (hh3 511))] [.int .u8 m] =
(
 bif weakF [.int .u8 m,.reg [o33 (2:Nat) (2:Nat),.nils],.nils,.int .i64 0] [.mk 0 2 2 (fun j=>[[T.int .i64 (1:Int),T.int .i64 (1000000000:Int)],[T.int .i64 (1:Int),T.int .i64 (1000000000:Int)]].getD j []) true true
 none] [.int .u8 m,.reg [o33 (2:Nat) (2:Nat),.nils],.nils,.int .i64 0] [.mk 0 2 2 (fun j=>[[T.int .i64 (1:Int),T.int .i64 (1000000000:Int)],[T.int .i64 (1:Int),T.int .i64 (1000000000:Int)]].getD j []) true true
 none] then
 bif decF (p8 [.agg [.view 2 2 (fun j=>[[T.int .i64 (1:Int),T.int .i64 (1000000000:Int)],[T.int .i64 (1:Int),T.int .i64 (1000000000:Int)]].getD (0+j) []) (some 2),.nils],.view 3 512 (fun j=>[.int .i64 (1+Int.ofNat (0+j)),.int .i64 1,.int .i64 2])
 none] (.tup [stN c1 M1,.int .i64 E1])) then
 bif decF (p8 [.agg [.view 2 2 (fun j=>[[T.int .i64 (1:Int),T.int .i64 (1000000000:Int)],[T.int .i64 (1:Int),T.int .i64 (1000000000:Int)]].getD (0+j) []) (some 2),.nils],.view 3 2 (fun j=>[[T.int .i64 (5:Int),T.int .i64 (1:Int),T.int .i64 (999999999:Int)],[T.int .i64 (5:Int),T.int .i64 (1:Int),T.int .i64 (IntKind.i64.wrap ((1:Int)+IntKind.i64.wrap (m.tmod (3:Int))))]].getD j []) (some 2)] (.tup [stN c2 M2,.int .i64 E2])) then
 bif decide (m.tmod 3 = 2) then
 bif decide (E1 = 9) then
 bif decide (Int.ofNat M1.length = 0) then
 bif decide (E2 = 3) then
 bif decide (Int.ofNat M2.length = 0) then
 some (.bool true)
 else
 some (.bool false)
 else
 some (.bool false)
 else
 some (.bool false)
 else
 some (.bool false)
 else
 bif !decide (E1 = 0) then
 some (.bool false)
 else
 bif !decide (Int.ofNat M1.length = IntKind.i64.wrap (511+IntKind.i64.wrap (m.tmod 3))) then
 some (.bool false)
 else
 bif decF (p10 [stV c1 M1] (.int .i64 0)) then
 bif decide (m.tmod 3 = 1) then
 bif decide (E2 = 3) then
 some (.bool true)
 else
 some (.bool false)
 else
 bif decide (E2 = 0) then
 bif decide (Int.ofNat M2.length = 1) then
 bif decide (0<Int.ofNat M2.length) then
 bif decide ((M2.getD (0:Nat) (Hld.mk (0:Int) (0:Int) (0:Int))).l = 1000000000) then
 bif decF (p10 [stV c2 M2] (.int .i64 0)) then
 some (.bool true)
 else none else
 some (.bool false)
 else none else
 some (.bool false)
 else
 some (.bool false)
 else none else none else none else
 none):=by kernel_rfl
theorem k3c (m:Int) (c1 c2:List Cne) (E1 E2:Int) (M1 M2:List Hld) (p8 p10:List T->T->Prop):stepL P42 G42 A42 (K3 p8 p10 c1 c2 E1 E2 M1 M2) 0 3 [(4,litS (v3 m .nils 0) [tabL] (.exit 0) (w3 m 512) (hh3 512))] [.int .u8 m] =
(
 bif weakF [.int .u8 m,.reg [o33 (2:Nat) (2:Nat),.nils],.nils,.int .i64 0] [.mk 0 2 2 (fun j=>[[T.int .i64 (1:Int),T.int .i64 (1000000000:Int)],[T.int .i64 (1:Int),T.int .i64 (1000000000:Int)]].getD j []) true true
 none] [.int .u8 m,.reg [o33 (2:Nat) (2:Nat),.nils],.nils,.int .i64 0] [.mk 0 2 2 (fun j=>[[T.int .i64 (1:Int),T.int .i64 (1000000000:Int)],[T.int .i64 (1:Int),T.int .i64 (1000000000:Int)]].getD j []) true true
 none] then
 bif decF (p8 [.agg [.view 2 2 (fun j=>[[T.int .i64 (1:Int),T.int .i64 (1000000000:Int)],[T.int .i64 (1:Int),T.int .i64 (1000000000:Int)]].getD (0+j) []) (some 2),.nils],.view 3 513 (fun j=>[.int .i64 (1+Int.ofNat (0+j)),.int .i64 1,.int .i64 2])
 none] (.tup [stN c1 M1,.int .i64 E1])) then
 bif decF (p8 [.agg [.view 2 2 (fun j=>[[T.int .i64 (1:Int),T.int .i64 (1000000000:Int)],[T.int .i64 (1:Int),T.int .i64 (1000000000:Int)]].getD (0+j) []) (some 2),.nils],.view 3 2 (fun j=>[[T.int .i64 (5:Int),T.int .i64 (1:Int),T.int .i64 (999999999:Int)],[T.int .i64 (5:Int),T.int .i64 (1:Int),T.int .i64 (IntKind.i64.wrap ((1:Int)+IntKind.i64.wrap (m.tmod (3:Int))))]].getD j []) (some 2)] (.tup [stN c2 M2,.int .i64 E2])) then
 bif decide (m.tmod 3 = 2) then
 bif decide (E1 = 9) then
 bif decide (Int.ofNat M1.length = 0) then
 bif decide (E2 = 3) then
 bif decide (Int.ofNat M2.length = 0) then
 some (.bool true)
 else
 some (.bool false)
 else
 some (.bool false)
 else
 some (.bool false)
 else
 some (.bool false)
 else
 bif !decide (E1 = 0) then
 some (.bool false)
 else
 bif !decide (Int.ofNat M1.length = IntKind.i64.wrap (511+IntKind.i64.wrap (m.tmod 3))) then
 some (.bool false)
 else
 bif decF (p10 [stV c1 M1] (.int .i64 0)) then
 bif decide (m.tmod 3 = 1) then
 bif decide (E2 = 3) then
 some (.bool true)
 else
 some (.bool false)
 else
 bif decide (E2 = 0) then
 bif decide (Int.ofNat M2.length = 1) then
 bif decide (0<Int.ofNat M2.length) then
 bif decide ((M2.getD (0:Nat) (Hld.mk (0:Int) (0:Int) (0:Int))).l = 1000000000) then
 bif decF (p10 [stV c2 M2] (.int .i64 0)) then
 some (.bool true)
 else none else
 some (.bool false)
 else none else
 some (.bool false)
 else
 some (.bool false)
 else none else none else none else
 none):=by kernel_rfl
def vs3 (m:Int):Nat->List T
 | 0=>v3 m .nils 0
 | i+1=>v3 m (.own 1 i 0 (i+1) none) (i+1)
def hs3:Nat->Heap
 | 0=>[tabL]
 | i+1=>hh3 i
theorem loop3 (m:Int) (k:Nat) (hk:k<=1000) (hN:IntKind.i64.wrap ((511:Int)+IntKind.i64.wrap (m.tmod (3:Int))) = ((k+1:Nat):Int)):LoopOk P42 G42 (A42 3) 3 4 (litS (v3 m .nils 0) [tabL] (.exit 0) (w3 m k) (hh3 k)):=by
 refine loop_steps hm42 (by kernel_rfl) (vs3 m) hs3 (n:=k+1) (fun i hi=>?_) ?_
 ·have ew:IntKind.i64.wrap ((1:Int)+Int.ofNat i) = 1+(i:Int):=wr64 (by show (_:Int)<=1+(i:Int); omega) (by show 1+(i:Int)<=_; omega)
  cases i with
  | zero =>
   refine Step.mkC (A:=A42) (m:=0) none_ok rfl rfl loops0 [0,2] (v1:=v3 m (.own 2 0 0 1 none) 1) (h1:=[tabL,⟨0,3,1,fun j=>[(lF3 0).c].getD j [],true,true,none⟩,⟨0,3,1,fun j=>[(lF3 0).c].getD (0+j) [],true,false,none⟩]) ?_ (by kernel_rfl) (v2:=v3 m (.own 1 0 0 1 none) 1) (by rfl) rfl fun nt=>.same (.cons ⟨rfl,rfl,rfl,id,fun _ _=>rfl⟩ (.cons ⟨rfl,rfl,rfl,id,fun j hj=>?_⟩ .nil))
   ·show iterR P42 G42 A42 noneO 0 3 [] 4 (v3 m .nils 0) [tabL] = _
    rw [i3a,hN]
    exact bift (by simp) rfl
   ·obtain rfl:j = 0:=by have:j<1:=hj; omega
    rfl
  | succ i =>
   refine Step.mk (A:=A42) (m:=0) none_ok rfl rfl loops0 2 (by show 1<=2; decide) (h1:=[tabL,⟨i+1,3,i+1+1,fun j=>bif Nat.blt j (i+1) then (lF3 j).c else [(lF3 (i+1)).c].getD (0+(j - (i+1))) [],true,false,none⟩,⟨0,3,1,fun j=>[(lF3 (i+1)).c].getD j [],true,true,none⟩]) (vs':=v3 m (.own 1 (i+1) 0 (i+1+1) none) (i+1+1)) ?_ (by rfl) (.cons ⟨rfl,rfl,rfl,id,fun _ _=>rfl⟩ (.cons ⟨rfl,rfl,rfl,id,fun j hj=>?_⟩ .nil))
   ·show iterR P42 G42 A42 noneO 0 3 [] 4 (v3 m (.own 1 i 0 (i+1) none) (i+1)) [tabL,rowB i (i+1) lF3] = _
    rw [i3b,hN,ew,up1 (by omega)]
    simp only [Nat.zero_add]
    exact bift (by simp; omega) (BT (BT (BT (BF rfl))))
   ·have hj:j<i+1+1:=hj
    show (lF3 j).c = _
    by_cases q:j<i+1
    ·simp only [show Nat.blt j (i+1) = true from Nat.ble_eq_true_of_le q,cond_true]
    ·obtain rfl:j = i+1:=by omega
     have hf:Nat.blt (i+1) (i+1) = false:=by rw [← Bool.not_eq_true,Nat.blt_eq]; omega
     simp only [hf,cond_false,Nat.sub_self,Nat.zero_add]
     rfl
 ·refine Last.mk0 (A:=A42) (m:=0) none_ok rfl rfl loops0 (h1:=hh3 k) (by simp) ?_ (.refl _)
  show iterR P42 G42 A42 noneO 0 3 [] 4 (v3 m (.own 1 k 0 (k+1) none) (k+1)) [tabL,rowB k (k+1) lF3] = _
  rw [i3b,hN]
  exact biff (by simp) rfl
open Go.Proofs
def lL (k:Nat):List Hld:=(List.range (k+1)).map lF3
theorem lL_len (k:Nat):(lL k).length = k+1:=by simp [lL]
theorem lL_mem {k:Nat} {c:Hld} (h:c ∈ lL k):∃ i,i<k+1/\c = lF3 i:=by
 obtain ⟨i,hi,rfl⟩:=List.mem_map.1 h
 exact ⟨i,List.mem_range.1 hi,rfl⟩
theorem lL_asc (k:Nat):ascP (lL k):=by
 unfold ascP lL
 rw [List.pairwise_map]
 exact List.pairwise_lt_range.imp fun h=>by rw [cmpH_lt]; exact .inl (by simp only [lF3]; omega)
theorem hdN_two (l:List Hld) (h:∀ c,c ∈ l->c.l = 2) (x:Int):hdN l x<=2 * l.length:=by
 induction l with
 | nil=>simp [hdN]
 | cons c l ih =>
  have h1:=ih fun c hc=>h c (by simp [hc])
  have h2:=h c (by simp)
  simp only [hdN,List.length_cons]
  split <;> omega
theorem valL:Valid csL []:=⟨by decide,by decide,fun c hc=>by simp [csL] at hc; subst hc; rfl,fun c hc=>(by cases hc),List.Pairwise.nil,fun x=>by
 simp only [frF,cnN,hdN,csL]
 split <;> omega⟩
theorem lL_hv {k:Nat} (hk:k<=1000):∀ c,c ∈ lL k->hvB c = true:=fun c hc=>by
 obtain ⟨i,hi,rfl⟩:=lL_mem hc
 exact hvB_iff.2 ⟨by simp only [lF3]; omega,by simp only [lF3]; omega,by simp [lF3],by simp [lF3],by simp [lF3],by simp [lF3]⟩
theorem lL_fit {k:Nat} (hk:k<=1000) (x:Int):hdN (lL k) x<=frF csL [] x:=by
 by_cases q:x = 1
 ·subst q
  have:=hdN_two (lL k) (fun c hc=>by obtain ⟨i,_,rfl⟩:=lL_mem hc; rfl) 1
  rw [lL_len] at this
  rw [show frF csL [] 1 = 2000000000 from by decide]
  omega
 ·rw [hd_out fun c hc e=>q (by obtain ⟨i,_,rfl⟩:=lL_mem hc; exact e.symm)]
  exact valL.fr x
theorem lL_mg {k:Nat} (hk:k<=1000):mgL [] (lL k) = lL k :=
 mgL_eq (fun c hc=>(by cases hc)) (fun c hc=>by have:=hvB_iff.1 (lL_hv hk c hc); omega) (by decide) (by rw [lL_len]; omega) (lL_asc k) (fun c hc=>by have:=hvB_iff.1 (lL_hv hk c hc); omega) fun o a=>by simp [kS]
theorem lL_big {k:Nat} (hk:k<=1000):bigOk (lL k) = true:=bigOk_iff.2 fun c hc=>by have:=hvB_iff.1 (lL_hv hk c hc); omega
theorem rsvL {k:Nat} (hk:k<=1000):rsv csL [] (lL k) = if 512<k+1 then ([],[],9) else (csL,lL k,0):=by
 rcases rsv_is valL (lL_hv hk) (by rw [lL_len]; omega) with ⟨⟨x,hx⟩,_⟩ | ⟨_,e⟩
 ·exact absurd hx (by have:=lL_fit hk x; omega)
 ·rw [lL_mg hk,if_neg (by rw [lL_big hk]; simp),lL_len] at e
  exact e
def l2L (r:Int):List Hld:=[⟨5,1,999999999⟩,⟨5,1,1+r⟩]
def m2L (r:Int):List Hld:=[⟨5,1,1000000000+r⟩]
theorem l2_hv {r:Int} (h:0<=r/\r<=2):∀ c,c ∈ l2L r->hvB c = true:=fun c hc=>by
 simp only [l2L,List.mem_cons,List.not_mem_nil,or_false] at hc
 rcases hc with rfl | rfl
 ·rfl
 ·exact hvB_iff.2 ⟨by simp,by simp,by simp,by simp,by show 1<=1+r; omega,by show 1+r<=_; omega⟩
theorem l2_mg {r:Int} (h:0<=r/\r<=2):mgL [] (l2L r) = m2L r :=
 mgL_eq (fun c hc=>(by cases hc)) (fun c hc=>by have:=hvB_iff.1 (l2_hv h c hc); omega) (by decide) (by simp [l2L]) (by simp [ascP,m2L]) (fun c hc=>by simp [m2L] at hc; subst hc; show 1<=1000000000+r; omega) fun o a=>by
  simp only [kS,m2L,l2L]
  split <;> omega
theorem l2_fit {r:Int} (h:0<=r/\r<=2) (x:Int):hdN (l2L r) x<=frF csL [] x:=by
 simp only [hdN,l2L,frF,cnN,csL]
 split <;> omega
theorem rsv2 {r:Int} (h:0<=r/\r<=2):rsv csL [] (l2L r) = if r = 0 then (csL,m2L r,0) else ([],[],3):=by
 rcases rsv_is valL (l2_hv h) (by simp [l2L]) with ⟨⟨x,hx⟩,_⟩ | ⟨_,e⟩
 ·exact absurd hx (by have:=l2_fit h x; omega)
 ·rw [l2_mg h] at e
  rw [e]
  by_cases q:r = 0
  ·rw [if_pos q,if_neg (by rw [bigOk_iff.2 fun c hc=>by simp [m2L] at hc; subst hc; show 1000000000+r<=_; omega]; simp),if_neg (by simp [m2L])]
  ·rw [if_neg q,if_pos ?_]
   rw [← Bool.not_eq_true,bigOk_iff]
   intro hh
   have:1000000000+r<=1000000000:=hh ⟨5,1,1000000000+r⟩ (by simp [m2L])
   omega
theorem okL {k:Nat} (hk:k<=511):ToldOk P42 G42 10 [.agg [cnV csL none,hdV (lL k) none]] (.int .i64 0):=by
 have t:=checkT csL (lL k) (by decide) (by rw [lL_len]; omega)
 have hv:=mgL_valid valL (lL_hv (k:=k) (by omega)) (by rw [lL_len]; omega) (lL_fit (by omega)) (by rw [lL_mg (by omega)]; exact lL_big (by omega)) (by rw [lL_mg (by omega),lL_len]; omega)
 rw [lL_mg (by omega)] at hv
 rwa [ckE_iff.2 hv] at t
theorem ok2:ToldOk P42 G42 10 [.agg [cnV csL none,hdV (m2L 0) none]] (.int .i64 0):=by
 have t:=checkT csL (m2L 0) (by decide) (by decide)
 have hv:=mgL_valid valL (l2_hv (r:=0) (by decide)) (by decide) (l2_fit (by decide)) (by rw [l2_mg (by decide)]; exact bigOk_iff.2 fun c hc=>by simp [m2L] at hc; subst hc; decide) (by rw [l2_mg (by decide)]; decide)
 rw [l2_mg (by decide)] at hv
 rwa [ckE_iff.2 hv] at t
open Go.Proofs
theorem simL (k:Nat):Sim (.view 3 (k+1) (fun j=>[.int .i64 ((1:Int)+Int.ofNat (0+j)),.int .i64 1,.int .i64 2]) none) (hdV (lL k) none):=by
 unfold hdV
 rw [lL_len]
 refine Sim.view (.inl rfl) fun j hj=>?_
 have:(lL k).getD j hd0 = lF3 j:=by
  unfold lL
  rw [List.getD_eq_getElem?_getD,List.getElem?_map,List.getElem?_range hj]
  rfl
 rw [this,Nat.zero_add]
 exact .refl _
theorem sim2 (r:Int):Sim (.view 3 2 (fun j=>[[.int .i64 5,.int .i64 1,.int .i64 999999999],[.int .i64 5,.int .i64 1,.int .i64 (1+r)]].getD j []) (some 2)) (hdV (l2L r) none):=by
 refine Sim.view (.inr rfl) fun j hj=>?_
 match j,hj with
 | 0,_=>exact .refl _
 | 1,_=>exact .refl _
theorem simS:Sim (.agg [.view 2 2 (fun j=>[[.int .i64 1,.int .i64 1000000000],[.int .i64 1,.int .i64 1000000000]].getD (0+j) []) (some 2),.nils]) (.agg [cnV csL none,hdV [] none]) :=
 Sim.agg (.cons (simB_sim 2 _ _ (by kernel_rfl)) (.cons (nilsV (.inl rfl)) .nil))
theorem simV (cs:List Cne) (hs:List Hld):Sim (stV cs hs) (.agg [cnV cs none,hdV hs none]) :=
 Sim.agg (.cons (Sim.view (.inr rfl) fun _ _=>.refl _) (.cons (Sim.view (.inr rfl) fun _ _=>.refl _) .nil))
theorem one9:∀ args r,(match args with | []=>Tree.ret (.bool true) | _=>Tree.none).run some = some r->ToldOk P42 G42 9 args r:=by
 intro args r h
 cases args with
 | nil=>obtain rfl:=Option.some.inj h; exact livesT
 | cons _ _=>cases h
theorem limT (m:Int) (h0:0<=m) (h1:m<=255):ToldOk P42 G42 3 [.int .u8 m] (.bool true):=by
 obtain ⟨p8,h8⟩:=is_val P42 G42 8
 obtain ⟨p10,h10⟩:=is_val P42 G42 10
 have hr:0<=m.tmod 3/\m.tmod 3<=2:=by rw [Int.tmod_eq_emod_of_nonneg h0]; omega
 have t2:=reserveT csL [] (l2L (m.tmod 3)) (by decide) (by decide) (by simp [l2L])
 rw [rsv2 hr] at t2
 have w1:IntKind.i64.wrap (m.tmod 3) = m.tmod 3:=wr64 (by omega) (by omega)
 have w2:IntKind.i64.wrap (1+m.tmod 3) = 1+m.tmod 3:=wr64 (by omega) (by omega)
 have w3':IntKind.i64.wrap (511+m.tmod 3) = 511+m.tmod 3:=wr64 (by omega) (by omega)
 have ok:∀ c1 c2 E1 E2 M1 M2,OrcOk P42 G42 (K3 p8 p10 c1 c2 E1 E2 M1 M2):=fun c1 c2 E1 E2 M1 M2=>told_add (told_add (told_add none_ok one9) (callF_told h8)) (callF_told h10)
 have q2:∀ r,ToldOk P42 G42 8 [.agg [cnV csL none,hdV [] none],hdV (l2L (m.tmod 3)) none] r->ToldOk P42 G42 8 [.agg [.view 2 2 (fun j=>[[.int .i64 1,.int .i64 1000000000],[.int .i64 1,.int .i64 1000000000]].getD (0+j) []) (some 2),.nils],.view 3 2 (fun j=>[[.int .i64 5,.int .i64 1,.int .i64 999999999],[.int .i64 5,.int .i64 1,.int .i64 (1+m.tmod 3)]].getD j []) (some 2)] r:=fun r t=>t.sim (.cons simS (.cons (sim2 _) .nil))
 have q1:∀ k r,ToldOk P42 G42 8 [.agg [cnV csL none,hdV [] none],hdV (lL k) none] r->ToldOk P42 G42 8 [.agg [.view 2 2 (fun j=>[[.int .i64 1,.int .i64 1000000000],[.int .i64 1,.int .i64 1000000000]].getD (0+j) []) (some 2),.nils],.view 3 (k+1) (fun j=>[.int .i64 ((1:Int)+Int.ofNat (0+j)),.int .i64 1,.int .i64 2]) none] r:=fun k r t=>t.sim (.cons simS (.cons (simL k) .nil))
 have hm:m.tmod 3 = 0 ∨ m.tmod 3 = 1 ∨ m.tmod 3 = 2:=by omega
 generalize hz:m.tmod 3 = z at *
 rcases hm with rfl | rfl | rfl
 ·have t1:=reserveT csL [] (lL 510) (by decide) (by decide) (by rw [lL_len]; omega)
  rw [rsvL (by omega),if_neg (by omega)] at t1
  rw [if_pos rfl] at t2
  have tA:=q1 510 _ t1
  have tC:=(okL (k:=510) (by omega)).sim (.cons (simV _ _) .nil)
  have hlen:=lL_len 510
  clear t1
  have l1:=loop3 m 510 (by omega) (by rw [hz,w1,w3']; rfl)
  generalize lL 510 = M1 at tA tC hlen
  refine stepL_told hm42 hn42 (ok csL csL 0 0 M1 (m2L 0)) (A:=A42) (m:=0) (by kernel_rfl) (loops1 l1) ((k3a m csL csL 0 0 M1 (m2L 0) p8 p10).trans ?_)
  rw [hz,w1,w2,w3',hlen]
  refine bift (weakF_of ⟨rfl,.refl _⟩) (bift (callF_yes h8 tA) (bift (callF_yes h8 (q2 _ t2)) (biff (by decide) (biff (by decide) (biff (by decide) (bift (callF_yes h10 tC) (biff (by decide) (bift (by decide) (bift (by decide) (bift (by decide) (bift (by decide) (bift (callF_yes h10 (ok2.sim (.cons (simV _ _) .nil))) rfl))))))))))))
 ·have t1:=reserveT csL [] (lL 511) (by decide) (by decide) (by rw [lL_len]; omega)
  rw [rsvL (by omega),if_neg (by omega)] at t1
  rw [if_neg (by decide)] at t2
  have tA:=q1 511 _ t1
  have tC:=(okL (k:=511) (by omega)).sim (.cons (simV _ _) .nil)
  have hlen:=lL_len 511
  clear t1
  have l1:=loop3 m 511 (by omega) (by rw [hz,w1,w3']; rfl)
  generalize lL 511 = M1 at tA tC hlen
  refine stepL_told hm42 hn42 (ok csL [] 0 3 M1 []) (A:=A42) (m:=0) (by kernel_rfl) (loops1 l1) ((k3b m csL [] 0 3 M1 [] p8 p10).trans ?_)
  rw [hz,w1,w2,w3',hlen]
  exact bift (weakF_of ⟨rfl,.refl _⟩) (bift (callF_yes h8 tA) (bift (callF_yes h8 (q2 _ t2)) (biff (by decide) (biff (by decide) (biff (by decide) (bift (callF_yes h10 tC) (bift (by decide) (bift (by decide) rfl))))))))
 ·have t1:=reserveT csL [] (lL 512) (by decide) (by decide) (by rw [lL_len]; omega)
  rw [rsvL (by omega),if_pos (by omega)] at t1
  rw [if_neg (by decide)] at t2
  have l1:=loop3 m 512 (by omega) (by rw [hz,w1,w3']; rfl)
  refine stepL_told hm42 hn42 (ok [] [] 9 3 [] []) (A:=A42) (m:=0) (by kernel_rfl) (loops1 l1) ((k3c m [] [] 9 3 [] [] p8 p10).trans ?_)
  rw [hz,w1,w2]
  exact bift (weakF_of ⟨rfl,.refl _⟩) (bift (callF_yes h8 (q1 512 _ t1)) (bift (callF_yes h8 (q2 _ t2)) (bift (by decide) (bift (by decide) (bift (by decide) (bift (by decide) (bift (by decide) rfl)))))))
open Go.Proofs
def LP7:List Nat:=[0,2,1,2,2]
def BB7:List Nat:=[0,1,2,0] ++ LP7
def LP2k:List Nat:=[0,2,1,2] ++ BB7
def akt (k:Int):Act:=⟨IntKind.u8.wrap k,IntKind.u8.wrap (IntKind.i64.wrap (k.tdiv 5)),IntKind.u8.wrap (IntKind.i64.wrap (k.tdiv 7)),IntKind.u8.wrap (IntKind.i64.wrap (k.tdiv 11)),IntKind.u8.wrap (IntKind.i64.wrap (k.tdiv 3))⟩
def nxk (k:Int) (i:Nat):Int:=(IntKind.i64.wrap (IntKind.i64.wrap (IntKind.i64.wrap (k * 31)+IntKind.i64.wrap (7 * (i:Int)))+11)).tmod 100003
def kk (k:Int):Nat->Int
 | 0=>k
 | i+1=>nxk (kk k i) i
def acB (i:Nat) (X:Nat->Act):Blk:=⟨i,5,i,fun j=>(X j).c,true,false,none⟩
def v7k (k n:Int) (i:Nat) (z:T):List T:=[.int .i64 k,.int .i64 n,.own 0 i 0 i none,z]
noncomputable def K7k (p5 p6 p4:List T->T->Prop):Orc:=((noneO.add 5 (callF p5 fun _=>some (.bool true))).add 6 (callF p6 fun _=>some (.bool true))).add 4 (callF p4 fun _=>some (.bool true))
noncomputable def K7e (p3:List T->T->Prop):Orc:=K5z.add 3 (callF p3 fun _=>some (.bool true))
theorem x0 (x:Bool):codeL P42 G42 A42 noneO 0 7 [] (nav [1]) [] [] [] [] =
(
 some ((.normal,[],[]))):=by kernel_rfl
theorem x1 (x:Bool):codeL P42 G42 A42 noneO 0 7 [] (nav [1,2]) [] [] [] [1] =
(
 some ((.normal,[.int .i64 1],[]))):=by kernel_rfl
theorem x2 (k:Int):codeL P42 G42 A42 noneO 0 7 [] (nav [1,1,2,2]) [1] [.int .i64 k] [] [1,2] =
(
 some ((.normal,[.int .i64 k,.int .i64 0],[]))):=by kernel_rfl
theorem x3 (k:Int) (n:Nat):codeL P42 G42 A42 noneO 0 7 [] (nav ([1,0] ++ LP7)) [1,2] [.int .i64 k,.int .i64 n] [] [1,2] =
(
 bif decide (Int.ofNat n<40) then
 some ((.normal,[.int .i64 k,.int .i64 (.ofNat n)],[]))
 else
 some ((.exit 0,[.int .i64 k,.int .i64 (.ofNat n)],[]))):=by kernel_rfl
theorem x3x (k:Int) (n:Nat):codeL P42 G42 A42 noneO 0 7 [] (nav ([1,0] ++ LP7)) [1,2] [.int .i64 k,.int .i64 n] [] [] =
(
 bif decide (Int.ofNat n<40) then
 some ((.normal,[],[]))
 else
 some ((.exit 0,[],[]))):=by kernel_rfl
theorem x5 (k n:Int):codeL P42 G42 A42 noneO 0 7 [] (nav ([1] ++ BB7)) [1,2] [.int .i64 k,.int .i64 n] [] [1,2,3] =
(
 some ((.normal,[.int .i64 k,.int .i64 n,.nils],[]))):=by kernel_rfl
theorem x6 (k n:Int):codeL P42 G42 A42 noneO 0 7 [] (nav ([1,1,2] ++ BB7)) [1,2,3] [.int .i64 k,.int .i64 n,.nils] [] [1,2,3,4] =
(
 some ((.normal,[.int .i64 k,.int .i64 n,.nils,.int .i64 0],[]))):=by kernel_rfl
theorem x7 (k n:Int) (i:Nat) (X:Nat->Act):codeL P42 G42 A42 noneO 0 7 [] (nav ([2,0] ++ LP2k)) [1,2,3,4] (v7k k n i (.int .i64 i)) [acB i X] [1,2,3,4] =
(
 bif i==i&&true then
 bif ((0:Nat)+i).ble i then
 bif ((i+(1:Nat)) * (6:Nat)).ble 70368744177664 then
 bif ((0:Nat)+i+(1:Nat)).ble i then
 some ((.normal,[.int .i64 ((IntKind.i64.wrap (IntKind.i64.wrap (IntKind.i64.wrap (k * (31:Int))+IntKind.i64.wrap ((7:Int) * Int.ofNat i))+(11:Int))).tmod 100003),.int .i64 n,.own 0 i 0 (i+1)
 none,.int .i64 (IntKind.i64.wrap (Int.ofNat i+1))],[.mk i 5 i (fun j =>
 bif ((0:Nat)+i).ble j&&j.blt (0+i+1) then [[T.int .u8 (IntKind.u8.wrap k),T.int .u8 (IntKind.u8.wrap (IntKind.i64.wrap (k.tdiv (5:Int)))),T.int .u8 (IntKind.u8.wrap (IntKind.i64.wrap (k.tdiv (7:Int)))),T.int .u8 (IntKind.u8.wrap (IntKind.i64.wrap (k.tdiv (11:Int)))),T.int .u8 (IntKind.u8.wrap (IntKind.i64.wrap (k.tdiv (3:Int))))]].getD ((0:Nat)+(j - (0+i))) []
 else (X j).c) true false
 none,.mk 0 5 1 (fun j=>[[T.int .u8 (IntKind.u8.wrap k),T.int .u8 (IntKind.u8.wrap (IntKind.i64.wrap (k.tdiv (5:Int)))),T.int .u8 (IntKind.u8.wrap (IntKind.i64.wrap (k.tdiv (7:Int)))),T.int .u8 (IntKind.u8.wrap (IntKind.i64.wrap (k.tdiv (11:Int)))),T.int .u8 (IntKind.u8.wrap (IntKind.i64.wrap (k.tdiv (3:Int))))]].getD j []) true true
 none]))
 else
 some ((.normal,[.int .i64 ((IntKind.i64.wrap (IntKind.i64.wrap (IntKind.i64.wrap (k * (31:Int))+IntKind.i64.wrap ((7:Int) * Int.ofNat i))+(11:Int))).tmod 100003),.int .i64 n,.own 0 (i+1) (0:Nat) (i+1)
 none,.int .i64 (IntKind.i64.wrap (Int.ofNat i+1))],[.mk (i+1) (5:Nat) (i+1) (fun j =>
 bif j.blt i then (X ((0:Nat)+j)).c
 else [[T.int .u8 (IntKind.u8.wrap k),T.int .u8 (IntKind.u8.wrap (IntKind.i64.wrap (k.tdiv (5:Int)))),T.int .u8 (IntKind.u8.wrap (IntKind.i64.wrap (k.tdiv (7:Int)))),T.int .u8 (IntKind.u8.wrap (IntKind.i64.wrap (k.tdiv (11:Int)))),T.int .u8 (IntKind.u8.wrap (IntKind.i64.wrap (k.tdiv (3:Int))))]].getD ((0:Nat)+(j - i)) []) true false
 none,.mk 0 5 1 (fun j=>[[T.int .u8 (IntKind.u8.wrap k),T.int .u8 (IntKind.u8.wrap (IntKind.i64.wrap (k.tdiv (5:Int)))),T.int .u8 (IntKind.u8.wrap (IntKind.i64.wrap (k.tdiv (7:Int)))),T.int .u8 (IntKind.u8.wrap (IntKind.i64.wrap (k.tdiv (11:Int)))),T.int .u8 (IntKind.u8.wrap (IntKind.i64.wrap (k.tdiv (3:Int))))]].getD j []) true true
 none]))
 else none else none else
 none):=by kernel_rfl
theorem x7a (k n:Int) (i:Nat) (h:Heap):codeL P42 G42 A42 noneO 0 7 [] (nav ([1,0] ++ LP2k)) [1,2,3,4] (v7k k n i (.int .i64 i)) h [1,2,3,4] =
(
 bif decide (Int.ofNat i<20) then
 some ((.normal,[.int .i64 k,.int .i64 n,.own 0 i 0 i
 none,.int .i64 (.ofNat i)],h))
 else
 some ((.exit 2,[.int .i64 k,.int .i64 n,.own 0 i 0 i
 none,.int .i64 (.ofNat i)],h))):=by kernel_rfl
theorem x7x (k n:Int) (i:Nat) (h:Heap):codeL P42 G42 A42 noneO 0 7 [] (nav ([1,0] ++ LP2k)) [1,2,3,4] (v7k k n i (.int .i64 i)) h [1,2,3] =
(
 bif decide (Int.ofNat i<20) then
 some ((.normal,[.int .i64 k,.int .i64 n,.own 0 i 0 i
 none],h))
 else
 some ((.exit 2,[.int .i64 k,.int .i64 n,.own 0 i 0 i
 none],h))):=by kernel_rfl
theorem x11 (k:Int) (n:Nat) (X:Nat->Act) (p5 p6 p4:List T->T->Prop):codeL P42 G42 A42 (K7k p5 p6 p4) 0 7 [] (nav ([2,2] ++ BB7)) [1,2,3] [.int .i64 k,.int .i64 n,.own 0 20 0 20 none] [acB 20 X] [1,2] =
(
 bif decF (p5 [acV (20:Nat) fun j=>X (0+j)] (.bool true)) then
 bif decF (p6 [acV (20:Nat) fun j=>X (0+j),acV (3:Nat) fun j=>X (0+j)] (.bool true)) then
 bif decF (p4 [.view 1 4 (fun j=>[[T.int .u8 (IntKind.u8.wrap k)],[T.int .u8 (IntKind.u8.wrap (Int.ofNat n))],[T.int .u8 (3:Int)],[T.int .u8 (3:Int)]].getD (0+j) []) (some 4),.int .u16 (IntKind.u16.wrap k)] (.bool true)) then
 some ((.normal,[.int .i64 k,.int .i64 (.ofNat n)],[acB (20:Nat) X,.mk 0 1 4 (fun j=>[[T.int .u8 (IntKind.u8.wrap k)],[T.int .u8 (IntKind.u8.wrap (Int.ofNat n))],[T.int .u8 (3:Int)],[T.int .u8 (3:Int)]].getD j []) true true
 none]))
 else none else none else
 none):=by kernel_rfl
theorem x4 (k:Int) (n:Nat) (h:Heap):codeL P42 G42 A42 noneO 0 7 [] (nav ([2,2,0] ++ LP7)) [1,2] [.int .i64 k,.int .i64 n] h [1,2] =
(
 some ((.normal,[.int .i64 k,.int .i64 (IntKind.i64.wrap (Int.ofNat n+1))],h))):=by kernel_rfl
theorem x13 (p3:List T->T->Prop):codeL P42 G42 A42 (K7e p3) 0 7 [] (nav [2,2,2]) [] [] [] [0] =
(
 bif decF (p3 [.int .u8 0] (.bool true)) then
 bif decF (p3 [.int .u8 1] (.bool true)) then
 bif decF (p3 [.int .u8 2] (.bool true)) then
 some ((.ret,[.bool true],[]))
 else none else none else
 none):=by kernel_rfl
open Go.Proofs
abbrev P7:=Pz P42 G42 A42 7 ([]:Heap)
theorem p7 {p l1 v1 h1 l2 v2 h2 e} (k:codeL P42 G42 A42 noneO 0 7 [] (nav p) l1 v1 h1 l2 = some (e,v2,h2)):P7 p l1 v1 h1 e l2 v2 h2:=Pz.run hm42 none_ok (m:=0) (by kernel_rfl) loops0 k
theorem u8w (z:Int):0<=IntKind.u8.wrap z/\IntKind.u8.wrap z<=255:=by
 have:IntKind.u8.wrap z = z % 256:=rfl
 omega
theorem u16w (z:Int):0<=IntKind.u16.wrap z/\IntKind.u16.wrap z<=65535:=by
 have:IntKind.u16.wrap z = z % 65536:=rfl
 omega
theorem akt_ok (k:Int):(akt k).Ok:=⟨u8w _,u8w _,u8w _,u8w _,u8w _⟩
theorem kn20 (k0 n:Int):P7 LP2k [1,2,3,4] (v7k k0 n 0 (.int .i64 (0:Nat))) [acB 0 fun j=>akt (kk k0 j)] (.exit 2) [1,2,3] [.int .i64 (kk k0 20),.int .i64 n,.own 0 20 0 20 none] [acB 20 fun j=>akt (kk k0 j)]:=by
 refine Pz.count (P:=P42) (G:=G42) (A:=A42) (f:=7) (p:=LP2k) (by kernel_rfl) (fun i=>v7k (kk k0 i) n i (.int .i64 i)) (fun i=>[acB i fun j=>akt (kk k0 j)]) (n:=20) (e:=.exit 2) (by simp) (fun i hi=>?_) ?_
 ·have b1:decide (Int.ofNat i<(20:Int)) = true:=decide_eq_true (show (i:Int)<20 by omega)
  refine Pz.seq (by kernel_rfl) (p7 ((x7a (kk k0 i) n i _).trans (bift b1 rfl))) ?_
  have e:=x7 (kk k0 i) n i fun j=>akt (kk k0 j)
  rw [up1 (by omega),beq_self_eq_true,bleT (by omega)] at e
  simp only [Bool.and_self,cond_true,Nat.zero_add] at e
  rw [bleT (by omega),cond_true,bleF (by omega),cond_false] at e
  refine Pz.post (p7 e) fun nt=>.trans (.canon [0] rfl) (.same (.cons ⟨rfl,rfl,rfl,id,fun j hj=>?_⟩ .nil))
  have hj:j<i+1:=hj
  show (akt (kk k0 j)).c = bif j.blt i then (akt (kk k0 j)).c else _
  rw [bltD0]
  by_cases q:j<i
  ·rw [decide_eq_true q]; rfl
  ·obtain rfl:j = i:=by omega
   rw [decide_eq_false q,Nat.sub_self]
   rfl
 ·exact Pz.seqX (by kernel_rfl) (by simp) (p7 ((x7x (kk k0 20) n 20 _).trans (BF rfl)))
theorem knownT:ToldOk P42 G42 7 [] (.bool true):=by
 obtain ⟨e,vs1,h1,⟨rfl,rfl,rfl⟩,hP⟩:=Pz.loop (P:=P42) (G:=G42) (A:=A42) (f:=7) (h0:=([]:Heap)) (p:=LP7) (l:=[1,2]) (l1:=[]) (by kernel_rfl)
  (fun m vs h=>∃ (k:Int) (n:Nat),n<=40/\m = 40 - n/\vs = [.int .i64 k,.int .i64 n]/\h = [])
  (fun e vs h=>e = .exit 0/\vs = []/\h = [])
  (fun m vs h hI=>by
   obtain ⟨k,n,hn,rfl,rfl,rfl⟩:=hI
   by_cases q:n<40
   ·have b1:decide (Int.ofNat n<(40:Int)) = true:=decide_eq_true (show (n:Int)<40 by omega)
    have q0:P7 ([1,0] ++ LP7) [1,2] [.int .i64 k,.int .i64 n] [] .normal [1,2] [.int .i64 k,.int .i64 n] []:=p7 ((x3 k n).trans (bift b1 rfl))
    have gh:Wk G42 A42 7 0 [1,2,3,4] [.int .i64 k,.int .i64 n,.nils,.int .i64 (0:Int)] [] (v7k k n 0 (.int .i64 (0:Nat))) [acB 0 fun j=>akt (kk k j)]:=fun nt =>
     .gh [acB 0 fun j=>akt (kk k j)] (fun b hb=>by simp at hb; subst hb; exact ⟨rfl,rfl⟩) (.cons (.refl _) (.cons (.refl _) (.cons (.inl (.own (b:=acB 0 fun j=>akt (kk k j)) (Nat.le_refl 0) rfl rfl)) (.cons (.refl _) .nil)))) (.refl _)
    have q1:=p7 (x5 k n)
    have q2:=Pz.post (p7 (x6 k n)) gh
    have q3:=kn20 k n
    have q4:P7 ([2,2] ++ BB7) [1,2,3] [.int .i64 (kk k 20),.int .i64 n,.own 0 20 0 20 none] [acB 20 fun j=>akt (kk k j)] .normal [1,2] [.int .i64 (kk k 20),.int .i64 n] []:=by
     obtain ⟨p5',h5⟩:=is_val P42 G42 5
     obtain ⟨p6,h6⟩:=is_val P42 G42 6
     obtain ⟨p4,h4⟩:=is_val P42 G42 4
     have t5:=actsT 20 (fun j=>akt (kk k (0+j))) fun j _=>akt_ok _
     have t6:=backT 20 (fun j=>akt (kk k (0+j))) 3 (fun j=>akt (kk k (0+j))) (fun j _=>akt_ok _) fun j _=>akt_ok _
     have t4:=knotsT 4 (fun j=>bif j==0 then IntKind.u8.wrap (kk k 20) else bif j==1 then IntKind.u8.wrap n else 3) (IntKind.u16.wrap (kk k 20)) (fun j hj=>by
      have:j = 0 ∨ j = 1 ∨ j = 2 ∨ j = 3:=by omega
      rcases this with rfl | rfl | rfl | rfl
      ·exact u8w _
      ·exact u8w _
      ·exact (⟨by decide,by decide⟩:(0:Int)<=3/\(3:Int)<=255)
      ·exact (⟨by decide,by decide⟩:(0:Int)<=3/\(3:Int)<=255)) (u16w _).1 (u16w _).2
     have t4:=t4.sim (args:=[T.view 1 4 (fun j=>[[T.int .u8 (IntKind.u8.wrap (kk k 20))],[T.int .u8 (IntKind.u8.wrap (Int.ofNat n))],[T.int .u8 3],[T.int .u8 3]].getD (0+j) []) (some 4),T.int .u16 (IntKind.u16.wrap (kk k 20))]) (.cons (Sim.view (.inr rfl) fun j hj=>by
      have:j = 0 ∨ j = 1 ∨ j = 2 ∨ j = 3:=by omega
      rcases this with rfl | rfl | rfl | rfl <;> exact .refl _) (.cons (.refl _) .nil))
     refine Pz.post (Pz.run hm42 (told_add (told_add (told_add none_ok (callF_told h5)) (callF_told h6)) (callF_told h4)) (m:=0) (by kernel_rfl) loops0 ((x11 (kk k 20) n (fun j=>akt (kk k j)) p5' p6 p4).trans (bift (callF_yes h5 t5) (bift (callF_yes h6 t6) (bift (callF_yes h4 t4) rfl))))) fun nt=>.canon [] rfl
    have q5:P7 ([2,2,0] ++ LP7) [1,2] [.int .i64 (kk k 20),.int .i64 n] [] .normal [1,2] [.int .i64 (kk k 20),.int .i64 (n+1:Nat)] []:=p7 ((x4 (kk k 20) n []).trans (by rw [up1 (by omega)]; rfl))
    have pB:P7 BB7 [1,2] [.int .i64 k,.int .i64 n] [] .normal [1,2] [.int .i64 (kk k 20),.int .i64 n] [] :=
     Pz.seq (by kernel_rfl) q1 (Pz.seq (by kernel_rfl) (Pz.seq (by kernel_rfl) q2 (Pz.blk (id:=2) (by kernel_rfl) rfl q3)) q4)
    exact .inl ⟨40 - (n+1),_,_,by omega,Pz.seq (by kernel_rfl) q0 (Pz.seq (by kernel_rfl) (Pz.blk (id:=1) (by kernel_rfl) rfl pB) q5),kk k 20,n+1,by omega,rfl,rfl,rfl⟩
   ·exact .inr ⟨.exit 0,[],[],by simp,Pz.seqX (by kernel_rfl) (by simp) (p7 ((x3x k n).trans (biff (by rw [decide_eq_true_eq]; show ¬ (n:Int)<40; omega) rfl))),rfl,rfl,rfl⟩)
  (n:=40 - 0) (vs:=[.int .i64 1,.int .i64 (0:Nat)]) (h:=[]) ⟨1,0,by decide,rfl,rfl,rfl⟩
 obtain ⟨p3,h3⟩:=is_val P42 G42 3
 have q13:P7 [2,2,2] [] [] [] .ret [0] [.bool true] []:=Pz.run hm42 (told_add (told_add none_ok one9B) (callF_told h3)) (m:=0) (by kernel_rfl) loops0 ((x13 p3).trans (bift (callF_yes h3 (limT 0 (by decide) (by decide))) (bift (callF_yes h3 (limT 1 (by decide) (by decide))) (bift (callF_yes h3 (limT 2 (by decide) (by decide))) rfl))))
 exact Pz.told hn42 Try.func7 (by kernel_rfl) (by kernel_rfl) rfl (Pz.seq (by kernel_rfl) (p7 (x0 true)) (Pz.seq (by kernel_rfl) (p7 (x1 true)) (Pz.seq (by kernel_rfl) (Pz.seq (by kernel_rfl) (p7 (x2 1)) (Pz.blk (id:=0) (by kernel_rfl) rfl hP)) q13))) (by kernel_rfl)
end Go.Ab

