/- A part of the proof: nothing is assumed. -/
import Derived.Test.YthbieakinbpgkaaP19
import Derived.Test.YthbieakinbpgkaaP20
set_option linter.all false
namespace Go.Ab
open Go.Proofs
def BBa:List Nat:=[0,1,2,0,0,2,1,2,2,2,2,2]
def S0a:List Nat:=[0,2,1,2,2,2] ++ BBa
def R0a:List Nat:=[3,2,4,2] ++ S0a
def vA (n:Nat) (X:Nat->Act) (s:T) (ad us i:Int):List T:=[acV n X,.ptr 0 0 0 0,s,.int .i64 ad,.int .i64 us,.int .i64 i]
def v4A (n:Nat) (X:Nat->Act) (s:T) (ad us i o a q w:Int):List T:=[acV n X,.ptr 0 0 0 0,s,.int .i64 ad,.int .i64 us,.int .i64 i,.int .i64 o,.int .i64 a,.int .i64 q,.int .i64 0,s,.int .u8 w]
def w4A (n:Nat) (X:Nat->Act) (s:T) (ad us i e w:Int) (s2:T):List T:=[acV n X,.ptr 0 0 0 0,s,.int .i64 ad,.int .i64 us,.int .i64 i,.int .i64 e,.int .i64 w,s2]
def mZl (e:Nat) (x:T) (H H2:Nat->Nat->Int):List T:=(bif e==0 then x else x) :: (List.range 30).map fun k=>T.int .i64 (bif e==0 then H2 (k / 5) (k % 5) else H (k / 5) (k % 5))
def mU (x:T) (H H2:Nat->Nat->Int):Blk:=⟨0,31,1,fun e=>mZl e x H H2,false,false,none⟩
noncomputable def K5a (p:List T->T->Prop) (c:List Cne) (h:List Hld) (E:Int):Orc:=noneO.add 13 (callF p fun _=>some (.tup [stV c h,.int .i64 E]))
noncomputable def K5r (p:List T->T->Prop) (c:List Cne) (h:List Hld) (E:Int):Orc:=noneO.add 17 (callF p fun _=>some (.tup [stV c h,.int .i64 E]))
noncomputable def K5u (p:List T->T->Prop) (q:List T->Heap->T->Heap->Prop) (c:List Cne) (h:List Hld) (E kn kn2:Int) (Y:Heap):Orc:=(noneO.add 11 (callF p fun _=>some (.tup [stV c h,.int .i64 kn,.int .i64 E]))).addRef 18 (refF q fun _ _=>some (.int .i64 kn2,Y))
noncomputable def K5h (p:List T->T->Prop) (l:List Hld):Orc:=noneO.add 14 (callF p fun _=>some (.new (hdV l none)))
noncomputable def K5s (p:List T->T->Prop) (c:List Cne) (h:List Hld) (E:Int):Orc:=noneO.add 8 (callF p fun _=>some (.tup [stN c h,.int .i64 E]))
noncomputable def K5n (p:List T->T->Prop) (nd:List Cne):Orc:=noneO.add 15 (callF p fun _=>some (.new (cnV nd (some nd.length))))
def argZ (a:List T):Int:=match a with | [_,.int _ z]=>z | _=>0
noncomputable def K5f (p:List T->T->Prop) (fr:Int->Int):Orc:=noneO.add 16 (callF p fun a=>some (.int .i64 (fr (argZ a))))
def vH (n:Nat) (X:Nat->Act) (s:T) (ad us i o e w:Int) (s2 h nd:T):List T:=[acV n X,.ptr 0 0 0 0,s,.int .i64 ad,.int .i64 us,.int .i64 i,.int .i64 o,.int .i64 e,.int .i64 w,s2,h,nd]
def sumR (F:Nat->Int):T:=.reg [.int .i64 (F 0),.int .i64 (F 1),.int .i64 (F 2),.int .i64 (F 3),.int .i64 (F 4)]
def v40 (n:Nat) (X:Nat->Act) (s:T) (ad us i o e w:Int) (s2 h:T) (nd:List Cne) (F:Nat->Int) (at' k:Nat):List T:=vH n X s ad us i o e w s2 h (cnV nd (some nd.length)) ++ [sumR F,.int .i64 at',.int .i64 k]
def w40 (n:Nat) (X:Nat->Act) (s:T) (ad us i o e w:Int) (s2 h:T) (nd:List Cne) (at':Nat):List T:=vH n X s ad us i o e w s2 h (cnV nd (some nd.length)) ++ [.int .i64 at']
theorem z1 (n:Nat) (X:Nat->Act) (s:T) (ad us:Int) (i:Nat) (h:Heap):codeL P42 G42 A42 noneO 0 5 [] (nav ([1] ++ BBa)) [0,3,4,5,6,7] (vA n X s ad us i) h [0,3,4,5,6,7,8,9,10] =
(
 bif decide (0<=Int.ofNat i)&&decide (Int.ofNat i<Int.ofNat n) then
 bif decide (0<=Int.ofNat i)&&decide (Int.ofNat i<Int.ofNat n) then
 bif decide (0<=Int.ofNat i)&&decide (Int.ofNat i<Int.ofNat n) then
 some ((.normal,w4A n X s ad us (Int.ofNat i) (IntKind.i64.wrap (1+IntKind.i64.wrap ((X i).o.tmod 5))) (IntKind.i64.wrap (1+IntKind.i64.wrap ((X i).a.tmod 4))) (.int .i64 (IntKind.i64.wrap (1+IntKind.i64.wrap (X i).l))),h))
 else none else none else
 none):=by kernel_rfl
theorem z2 (n:Nat) (X:Nat->Act) (s:T) (ad us i o a:Int) (q:T) (h:Heap):codeL P42 G42 A42 noneO 0 5 [] (nav ([1,2] ++ BBa)) [0,3,4,5,6,7,8,9,10] (w4A n X s ad us i o a q) h [0,3,4,5,6,7,8,9,10,12] =
(
 some ((.normal,[acV n X,.ptr 0 0 0 0,s,.int .i64 ad,.int .i64 us,.int .i64 i,.int .i64 o,.int .i64 a,q,.int .i64 0],h))):=by kernel_rfl
theorem z3 (n:Nat) (X:Nat->Act) (M:List Cne) (hs:List Hld) (ad us i o a q:Int) (h:Heap):codeL P42 G42 A42 noneO 0 5 [] (nav ([1,2,2] ++ BBa)) [0,3,4,5,6,7,8,9,10,12] [acV n X,.ptr 0 0 0 0,rS M hs,.int .i64 ad,.int .i64 us,.int .i64 i,.int .i64 o,.int .i64 a,.int .i64 q,.int .i64 0] h [0,3,4,5,6,7,8,9,10,12,13] =
(
 some ((.normal,[acV n X,.ptr 0 0 0 0,rS M hs,.int .i64 ad,.int .i64 us,.int .i64 i,.int .i64 o,.int .i64 a,.int .i64 q,.int .i64 0,rS M hs],h))):=by kernel_rfl
theorem z4 (n:Nat) (X:Nat->Act) (M:List Cne) (hs:List Hld) (ad us o a q:Int) (i:Nat) (h:Heap):codeL P42 G42 A42 noneO 0 5 [] (nav ([1,1,2,2,2] ++ BBa)) [0,3,4,5,6,7,8,9,10,12,13] [acV n X,.ptr 0 0 0 0,rS M hs,.int .i64 ad,.int .i64 us,.int .i64 i,.int .i64 o,.int .i64 a,.int .i64 q,.int .i64 0,rS M hs] h [0,3,4,5,6,7,8,9,10,12,13,68] =
(
 bif decide (0<=Int.ofNat i)&&decide (Int.ofNat i<Int.ofNat n) then
 some ((.normal,v4A n X (rS M hs) ad us (Int.ofNat i) o a q ((X i).w.tmod 5),h))
 else
 none):=by kernel_rfl
theorem zAd (n:Nat) (X:Nat->Act) (M c2:List Cne) (hs h2:List Hld) (ad us i o a q:Int) (v:Nat) (c:Option Nat) (H:Nat->Nat->Int) (E:Int) (p:List T->T->Prop):codeL P42 G42 A42 (K5a p c2 h2 E) 0 5 [] (nav S0a) [0,3,4,5,6,7,8,9,10,12,13,68] (v4A n X (rS M hs) ad us i o a q 0) (hA v c M H) [0,3,4,5,6,7,11,12,13] =
(
 bif decF (p [stV M hs,.agg [.int .i64 a,.int .i64 q]] (.tup [stV c2 h2,.int .i64 E])) then
 bif v==v&&true then
 bif ((0:Nat)+M.length).ble M.length then
 bif M.length==(0:Nat) then
 some ((.normal,w4A n X (rS M hs) (IntKind.i64.wrap (ad+q)) us i E (0:Int) (rS c2 h2),[.mk 0 31 1 (fun e=>mWl e (.own 1 v 0 M.length c) (.own 3 0 0 1
 none) H) false false
 none,cBl v M,cB (0:Nat) (0:Nat) (fun j=>[]) true,cB (0:Nat) (1:Nat) (fun j =>
 bif j.blt 0 then []
 else List.map plainOr ([[T.int .i64 a,T.int .i64 q]].getD j [])) false]))
 else
 bif (((0:Nat)+M.length) * (17:Nat)).ble 70368744177664 then
 bif ((0:Nat)+M.length).ble 0 then
 bif ((0:Nat)+M.length).ble 0 then
 bif ((0:Nat)+((0:Nat)+M.length)).ble 0 then
 bif (((0:Nat)+M.length+(1:Nat)) * (17:Nat)).ble 70368744177664 then
 some ((.normal,w4A n X (rS M hs) (IntKind.i64.wrap (ad+q)) us i E (0:Int) (rS c2 h2),[.mk 0 31 1 (fun e=>mWl e (.own 1 v 0 M.length c) (.own 3 0 0 ((0:Nat)+M.length+1)
 none) H) false false
 none,cBl v M,cB (0:Nat) (0:Nat) (fun j =>
 bif Nat.ble 0 j&&j.blt ((0:Nat)+M.length) then (M.getD ((0:Nat)+j) (Cne.mk (0:Int) (0:Int))).c
 else []) true,cB (0:Nat) ((0:Nat)+M.length+1) (fun j =>
 bif j.blt ((0:Nat)+M.length) then
 bif Nat.ble 0 (0+j)&&((0:Nat)+j).blt ((0:Nat)+M.length) then (M.getD ((0:Nat)+((0:Nat)+j)) (Cne.mk (0:Int) (0:Int))).c
 else []
 else List.map plainOr ([[T.int .i64 a,T.int .i64 q]].getD (j - ((0:Nat)+M.length)) [])) false]))
 else none else none else none else
 bif ((0:Nat)+((0:Nat)+M.length)).ble ((0:Nat)+M.length) then
 bif (((0:Nat)+M.length+(1:Nat)) * (17:Nat)).ble 70368744177664 then
 bif ((0:Nat)+((0:Nat)+M.length)+(1:Nat)).ble ((0:Nat)+M.length) then
 some ((.normal,w4A n X (rS M hs) (IntKind.i64.wrap (ad+q)) us i E (0:Int) (rS c2 h2),[.mk 0 31 1 (fun e=>mWl e (.own 1 v 0 M.length c) (.own 3 0 0 ((0:Nat)+M.length+1)
 none) H) false false
 none,cBl v M,cB (0:Nat) (0:Nat) (fun j=>[]) true,cB (0:Nat) ((0:Nat)+M.length) (fun j =>
 bif ((0:Nat)+((0:Nat)+M.length)).ble j&&j.blt ((0:Nat)+((0:Nat)+M.length)+(1:Nat)) then List.map plainOr ([[T.int .i64 a,T.int .i64 q]].getD (j - ((0:Nat)+((0:Nat)+M.length))) [])
 else (M.getD ((0:Nat)+j) (Cne.mk (0:Int) (0:Int))).c) false]))
 else
 some ((.normal,w4A n X (rS M hs) (IntKind.i64.wrap (ad+q)) us i E (0:Int) (rS c2 h2),[.mk 0 31 1 (fun e=>mWl e (.own 1 v 0 M.length c) (.own 3 1 0 ((0:Nat)+M.length+1)
 none) H) false false
 none,cBl v M,cB (0:Nat) (0:Nat) (fun j=>[]) true,cB (1:Nat) ((0:Nat)+M.length+1) (fun j =>
 bif j.blt ((0:Nat)+M.length) then (M.getD ((0:Nat)+((0:Nat)+j)) (Cne.mk (0:Int) (0:Int))).c
 else List.map plainOr ([[T.int .i64 a,T.int .i64 q]].getD (j - ((0:Nat)+M.length)) [])) false]))
 else none else none else none else none else none else
 none):=by kernel_rfl
theorem zRe (n:Nat) (X:Nat->Act) (M c2:List Cne) (hs h2:List Hld) (ad us i a q:Int) (v:Nat) (c:Option Nat) (H:Nat->Nat->Int) (E:Int) (p:List T->T->Prop) (o:Nat) (ho:o = 1 ∨ o = 2 ∨ o = 3 ∨ o = 4 ∨ o = 5):codeL P42 G42 A42 (K5r p c2 h2 E) 0 5 [] (nav S0a) [0,3,4,5,6,7,8,9,10,12,13,68] (v4A n X (rS M hs) ad us i o a q 3) (hA v c M H) [0,3,4,5,6,7,11,12,13] =
 (bif decF (p [stV M hs,.int .i64 o] (.tup [stV c2 h2,.int .i64 E])) then
  bif decide (H o 0 = 0) then bif decide (H o 1 = 0) then bif decide (H o 2 = 0) then bif decide (H o 3 = 0) then bif decide (H o 4 = 0) then
  some (.normal,w4A n X (rS M hs) ad us i E 7 (rS c2 h2),[mU (.own 1 v 0 M.length c) H (zerH H o),cBl v M])
  else some (.normal,w4A n X (rS M hs) ad us i E 0 (rS c2 h2),[mU (.own 1 v 0 M.length c) H (zerH H o),cBl v M])
  else some (.normal,w4A n X (rS M hs) ad us i E 0 (rS c2 h2),[mU (.own 1 v 0 M.length c) H (zerH H o),cBl v M])
  else some (.normal,w4A n X (rS M hs) ad us i E 0 (rS c2 h2),[mU (.own 1 v 0 M.length c) H (zerH H o),cBl v M])
  else some (.normal,w4A n X (rS M hs) ad us i E 0 (rS c2 h2),[mU (.own 1 v 0 M.length c) H (zerH H o),cBl v M])
  else some (.normal,w4A n X (rS M hs) ad us i E 0 (rS c2 h2),[mU (.own 1 v 0 M.length c) H (zerH H o),cBl v M])
 else none):=by
 obtain rfl | rfl | rfl | rfl | rfl:=ho
 all_goals kernel_rfl
theorem zUs (n:Nat) (X:Nat->Act) (M c2:List Cne) (hs h2:List Hld) (ad us i d:Int) (v:Nat) (c:Option Nat) (H:Nat->Nat->Int) (E kn kn2:Int) (p:List T->T->Prop) (q:List T->Heap->T->Heap->Prop) (Y:Heap) (o a:Nat) (ho:o = 1 ∨ o = 2 ∨ o = 3 ∨ o = 4 ∨ o = 5) (ha:a = 1 ∨ a = 2 ∨ a = 3 ∨ a = 4):codeL P42 G42 A42 (K5u p q c2 h2 E kn kn2 Y) 0 5 [] (nav S0a) [0,3,4,5,6,7,8,9,10,12,13,68] (v4A n X (rS M hs) ad us i o a d 4) (hA v c M H) [0,3,4,5,6,7,11,12,13] =
 (bif decF (p [stV M hs,.int .i64 o,.int .i64 a,.int .i64 d] (.tup [stV c2 h2,.int .i64 kn,.int .i64 E])) then
  bif decide (H o a = 0) then some (.normal,w4A n X (rS M hs) ad us i E 7 (rS c2 h2),hA v c M H)
  else bif decide (H o a<d) then some (.normal,w4A n X (rS M hs) ad us i E 18 (rS c2 h2),hA v c M H)
  else bif decF (q [.ptr 0 0 0 0,.int .i64 a,.int .i64 d] [mU (.own 1 v 0 M.length c) H (updH H o a (IntKind.i64.wrap (H o a - d))),cBl v M] (.int .i64 kn2) Y) then
   bif !decide (kn = kn2) then some (.ret,w4A n X (rS M hs) ad (IntKind.i64.wrap (us+d)) i E 0 (rS c2 h2),Y)
   else some (.normal,w4A n X (rS M hs) ad (IntKind.i64.wrap (us+d)) i E 0 (rS c2 h2),Y)
  else none
 else none):=by
 obtain rfl | rfl | rfl | rfl | rfl:=ho
 all_goals obtain rfl | rfl | rfl | rfl:=ha
 all_goals kernel_rfl
theorem rA (n:Nat) (X:Nat->Act) (s:T) (ad us i o a q:Int) (h:Heap):codeL P42 G42 A42 noneO 0 5 [] (nav ([1] ++ S0a)) [0,3,4,5,6,7,8,9,10,12,13,68] (v4A n X s ad us i o a q 1) h [0,3,4,5,6,7,8,9,10,12,13,68,112] =
(
 some ((.normal,[acV n X,.ptr 0 0 0 0,s,.int .i64 ad,.int .i64 us,.int .i64 i,.int .i64 o,.int .i64 a,.int .i64 q,.int .i64 0,s,.int .u8 1,.bool false],h))):=by kernel_rfl
theorem rA2 (n:Nat) (X:Nat->Act) (s:T) (ad us i o a q:Int) (h:Heap):codeL P42 G42 A42 noneO 0 5 [] (nav ([1] ++ S0a)) [0,3,4,5,6,7,8,9,10,12,13,68] (v4A n X s ad us i o a q 2) h [0,3,4,5,6,7,8,9,10,12,13,68,112] =
(
 some ((.normal,[acV n X,.ptr 0 0 0 0,s,.int .i64 ad,.int .i64 us,.int .i64 i,.int .i64 o,.int .i64 a,.int .i64 q,.int .i64 0,s,.int .u8 2,.bool false],h))):=by kernel_rfl
theorem rB (n:Nat) (X:Nat->Act) (s:T) (ad us i o a q:Int) (h:Heap):codeL P42 G42 A42 noneO 0 5 [] (nav ([1,4,2] ++ S0a)) [0,3,4,5,6,7,8,9,10,12,13,68,112] (v4A n X s ad us i o a q 1 ++ [.bool false]) h [0,3,4,5,6,7,8,12,13,139] =
(
 some ((.normal,[acV n X,.ptr 0 0 0 0,s,.int .i64 ad,.int .i64 us,.int .i64 i,.int .i64 o,.int .i64 0,s,.bool true],h))):=by kernel_rfl
theorem rB2 (n:Nat) (X:Nat->Act) (s:T) (ad us i o a q:Int) (h:Heap):codeL P42 G42 A42 noneO 0 5 [] (nav ([1,4,2] ++ S0a)) [0,3,4,5,6,7,8,9,10,12,13,68,112] (v4A n X s ad us i o a q 2 ++ [.bool false]) h [0,3,4,5,6,7,8,12,13,139] =
(
 some ((.normal,[acV n X,.ptr 0 0 0 0,s,.int .i64 ad,.int .i64 us,.int .i64 i,.int .i64 o,.int .i64 0,s,.bool true],h))):=by kernel_rfl
theorem rC (n:Nat) (X:Nat->Act) (s:T) (ad us o:Int) (i:Nat) (h:Heap) (p:List T->T->Prop) (L:List Hld):codeL P42 G42 A42 (K5h p L) 0 5 [] (nav ([1] ++ R0a)) [0,3,4,5,6,7,8,12,13,139] (vA n X s ad us i ++ [.int .i64 o,.int .i64 0,s,.bool true]) h [0,3,4,5,6,7,8,12,13,14] =
(
 bif decide (0<=Int.ofNat i)&&decide (Int.ofNat i<Int.ofNat n) then
 bif decF (p [.agg (X i).c] (hdV L
 none).new) then
 some ((.normal,[acV n X,.ptr 0 0 0 0,s,.int .i64 ad,.int .i64 us,.int .i64 (.ofNat i),.int .i64 o,.int .i64 0,s,hdV L
 none],h))
 else none else
 none):=by kernel_rfl
theorem rD (n:Nat) (X:Nat->Act) (M c2:List Cne) (hs h2:List Hld) (ad us o i:Int) (h:Heap) (p:List T->T->Prop) (L:List Hld) (E:Int):codeL P42 G42 A42 (K5s p c2 h2 E) 0 5 [] (nav ([1,2] ++ R0a)) [0,3,4,5,6,7,8,12,13,14] (vA n X (rS M hs) ad us i ++ [.int .i64 o,.int .i64 0,rS M hs,hdV L none]) h [0,3,4,5,6,7,8,11,12,13,14] =
(
 bif decF (p [stV M hs,hdV L
 none] (.tup [stN c2 h2,.int .i64 E])) then
 some ((.normal,[acV n X,.ptr 0 0 0 0,rS M hs,.int .i64 ad,.int .i64 us,.int .i64 i,.int .i64 o,.int .i64 E,.int .i64 0,rS c2 h2,hdV L
 none],h))
 else
 none):=by kernel_rfl
theorem rE (n:Nat) (X:Nat->Act) (M:List Cne) (hs:List Hld) (ad us o i e:Int) (s2:T) (h:Heap) (p:List T->T->Prop) (L:List Hld) (nd:List Cne):codeL P42 G42 A42 (K5n p nd) 0 5 [] (nav ([1,2,2] ++ R0a)) [0,3,4,5,6,7,8,11,12,13,14] (vA n X (rS M hs) ad us i ++ [.int .i64 o,.int .i64 e,.int .i64 0,s2,hdV L none]) h [0,3,4,5,6,7,8,11,12,13,14,15] =
(
 bif decF (p [stV M hs,hdV L
 none] (cnV nd (some nd.length)).new) then
 some ((.normal,vH n X (rS M hs) ad us i o e (0:Int) s2 (hdV L
 none) (cnV nd (some nd.length)),h))
 else
 none):=by kernel_rfl
theorem rF (n:Nat) (X:Nat->Act) (s:T) (ad us o i e:Int) (s2 h' nd:T) (h:Heap):codeL P42 G42 A42 noneO 0 5 [] (nav ([1,2,2,2] ++ R0a)) [0,3,4,5,6,7,8,11,12,13,14,15] (vH n X s ad us i o e 0 s2 h' nd) h [0,3,4,5,6,7,8,11,12,13,14,15,16] =
(
 some ((.normal,[acV n X,.ptr 0 0 0 0,s,.int .i64 ad,.int .i64 us,.int .i64 i,.int .i64 o,.int .i64 e,.int .i64 0,s2,h',nd,.reg [.int .i64 0,.int .i64 0,.int .i64 0,.int .i64 0,.int .i64 0]],h))):=by kernel_rfl
theorem rHh (n:Nat) (X:Nat->Act) (s:T) (ad us o i e:Int) (s2 h' nd su:T) (h:Heap):codeL P42 G42 A42 noneO 0 5 [] (nav ([1,2,2,2,2,2] ++ R0a)) [0,3,4,5,6,7,8,11,12,13,14,15,16] (vH n X s ad us i o e 0 s2 h' nd ++ [su]) h [0,3,4,5,6,7,8,11,12,13,14,15,16,18] =
(
 some ((.normal,[acV n X,.ptr 0 0 0 0,s,.int .i64 ad,.int .i64 us,.int .i64 i,.int .i64 o,.int .i64 e,.int .i64 0,s2,h',nd,su,.int .i64 0],h))):=by kernel_rfl
open Go.Proofs
def l13:List Nat:=[0,3,4,5,6,7,8,11,12,13,14,15,16]
def l40:List Nat:=[0,3,4,5,6,7,8,11,12,13,14,15,16,18,19]
def LP40:List Nat:=[0,2,1,2,2,2,2,2,2] ++ R0a
def LP50:List Nat:=[0,2,2,2,2,2,2,2,2,2] ++ R0a
def l50:List Nat:=[0,3,4,5,6,7,8,11,12,13,14,20]
def v50 (n:Nat) (X:Nat->Act) (s:T) (ad us i o e w:Int) (s2 h:T) (k:Nat):List T:=[acV n X,.ptr 0 0 0 0,s,.int .i64 ad,.int .i64 us,.int .i64 i,.int .i64 o,.int .i64 e,.int .i64 w,s2,h,.int .i64 k]
def u11 (n:Nat) (X:Nat->Act) (s:T) (ad us i o e w:Int) (s2 h:T):List T:=[acV n X,.ptr 0 0 0 0,s,.int .i64 ad,.int .i64 us,.int .i64 i,.int .i64 o,.int .i64 e,.int .i64 w,s2,h]
def sm1 (a:Nat) (l:Int):Nat->Int:=fun k=>bif k==a then IntKind.i64.wrap (0+l) else 0
def sm2 (a:Nat) (l:Int) (b:Nat) (m:Int):Nat->Int:=fun k=>bif k==b then IntKind.i64.wrap (sm1 a l b+m) else sm1 a l k
def cnR (v:Nat) (M:List Cne) (c:Option Nat):T:=bif v==v&&(0+M.length).ble M.length then .view 2 M.length (fun j=>(M.getD (0+j) cn0).c) c else .undef
theorem b40 (n:Nat) (X:Nat->Act) (s:T) (ad us i o e w:Int) (s2:T) (h:List Hld) (nd:List Cne) (F:Nat->Int) (z:Nat) (v:Nat) (c:Option Nat) (M:List Cne) (H:Nat->Nat->Int) (p:List T->T->Prop) (fr:Int->Int) (k:Nat) (hk:k = 1 ∨ k = 2 ∨ k = 3 ∨ k = 4):codeL P42 G42 A42 (K5f p fr) 0 5 [] (nav (0 :: LP40)) l40 (v40 n X s ad us i o e w s2 (hdV h none) nd F z k) (hA v c M H) l40 =
 (bif decide (0<F k) then
  bif decF (p [.vp (mC (cnR v M c) H),.int .i64 k] (.int .i64 (fr k))) then
  bif decide (fr k<F k) then
  bif decide (Int.ofNat nd.length<=Int.ofNat z) then some (.ret,v40 n X s ad us i o e 18 s2 (hdV h none) nd F z k,hA v c M H)
  else bif decide ((0:Int)<=Int.ofNat z)&&decide (Int.ofNat z<Int.ofNat nd.length) then
  bif decF (p [.vp (mC (cnR v M c) H),.int .i64 k] (.int .i64 (fr k))) then
  bif decide ((nd.getD z cn0).a = (k:Int)) then
  bif decide ((nd.getD z cn0).l = IntKind.i64.wrap (F k - fr k)) then
  some (.normal,vH n X s ad us i o e 18 s2 (hdV h none) (cnV nd (some nd.length)) ++ [sumR F,.int .i64 (IntKind.i64.wrap (Int.ofNat z+1)),.int .i64 (k+1:Nat)],hA v c M H)
  else some (.ret,v40 n X s ad us i o e 18 s2 (hdV h none) nd F z k,hA v c M H)
  else some (.ret,v40 n X s ad us i o e 18 s2 (hdV h none) nd F z k,hA v c M H)
  else none
  else none
  else some (.normal,v40 n X s ad us i o e w s2 (hdV h none) nd F z (k+1),hA v c M H)
  else none
 else some (.normal,v40 n X s ad us i o e w s2 (hdV h none) nd F z (k+1),hA v c M H)):=by
 obtain rfl | rfl | rfl | rfl:=hk
 all_goals kernel_rfl
theorem b40y (n:Nat) (X:Nat->Act) (s:T) (ad us i o e w:Int) (s2:T) (h:T) (nd:List Cne) (F:Nat->Int) (z:Nat) (g:Heap):codeL P42 G42 A42 noneO 0 5 [] (nav (0 :: LP40)) l40 (v40 n X s ad us i o e w s2 h nd F z 5) g [0,3,4,5,6,7,8,11,12,13,14,15,18] =
(
 some ((.exit 6,w40 n X s ad us i o e w s2 h nd z,g))):=by kernel_rfl
theorem r39 (n:Nat) (X:Nat->Act) (s:T) (ad us i o e w:Int) (s2:T) (h:T) (nd:List Cne) (F:Nat->Int) (g:Heap):codeL P42 G42 A42 noneO 0 5 [] (nav ([1,1,2,2,2,2,2,2] ++ R0a)) [0,3,4,5,6,7,8,11,12,13,14,15,16,18] (vH n X s ad us i o e w s2 h (cnV nd (some nd.length)) ++ [sumR F,.int .i64 0]) g l40 =
(
 some ((.normal,v40 n X s ad us i o e w s2 h nd F (nat_lit 0) (nat_lit 1),g))):=by kernel_rfl
theorem r47 (n:Nat) (X:Nat->Act) (s:T) (ad us i o e w:Int) (s2:T) (h:T) (nd:List Cne) (z:Nat) (g:Heap):codeL P42 G42 A42 noneO 0 5 [] (nav ([1,2,2,2,2,2,2,2] ++ R0a)) [0,3,4,5,6,7,8,11,12,13,14,15,18] (w40 n X s ad us i o e w s2 h nd z) g [0,3,4,5,6,7,8,11,12,13,14] =
(
 bif !decide (Int.ofNat z = Int.ofNat nd.length) then
 some ((.ret,u11 n X s ad us i o e w s2 h,g))
 else
 bif !decide (Int.ofNat nd.length = Int.ofNat z) then
 some ((.ret,u11 n X s ad us i o e w s2 h,g))
 else
 some ((.normal,u11 n X s ad us i o e w s2 h,g))):=by kernel_rfl
theorem r49 (n:Nat) (X:Nat->Act) (s:T) (ad us i o e w:Int) (s2:T) (h:T) (g:Heap):codeL P42 G42 A42 noneO 0 5 [] (nav ([1,2,2,2,2,2,2,2,2] ++ R0a)) [0,3,4,5,6,7,8,11,12,13,14] (u11 n X s ad us i o e w s2 h) g l50 =
(
 some ((.normal,v50 n X s ad us i o e w s2 h (nat_lit 0),g))):=by kernel_rfl
theorem b50y (n:Nat) (X:Nat->Act) (s:T) (ad us i o e w:Int) (s2:T) (h:List Hld) (k:Nat) (g:Heap):codeL P42 G42 A42 noneO 0 5 [] (nav ([1,0] ++ LP50)) l50 (v50 n X s ad us i o e w s2 (hdV h none) k) g [0,3,4,5,6,7,11,12,13] =
(
 bif decide (Int.ofNat k<Int.ofNat h.length) then
 bif decide (w = 0) then
 some ((.normal,w4A n X s ad us i e w s2,g))
 else
 some ((.exit 8,w4A n X s ad us i e w s2,g))
 else
 some ((.exit 8,w4A n X s ad us i e w s2,g))):=by kernel_rfl
theorem b50a (n:Nat) (X:Nat->Act) (s:T) (ad us i e:Int) (s2:T) (r:List Hld) (q l1:Int) (v:Nat) (c:Option Nat) (M:List Cne) (H:Nat->Nat->Int) (o a:Nat) (ho:o = 1 ∨ o = 2 ∨ o = 3 ∨ o = 4 ∨ o = 5) (ha:a = 1 ∨ a = 2 ∨ a = 3 ∨ a = 4):codeL P42 G42 A42 noneO 0 5 [] (nav (0 :: LP50)) l50 (v50 n X s ad us i o e 0 s2 (hdV (⟨q,a,l1⟩ :: r) none) 0) (hA v c M H) l50 =
 (bif decide ((0:Int)<Int.ofNat (r.length+1)) then bif decide ((0:Int)<Int.ofNat (r.length+1)) then bif decide ((0:Int)<Int.ofNat (r.length+1)) then bif decide ((0:Int)<Int.ofNat (r.length+1)) then
  some (.normal,v50 n X s ad us i o e 0 s2 (hdV (⟨q,a,l1⟩ :: r) none) 1,[mU (.own 1 v 0 M.length c) H (updH H o a (IntKind.i64.wrap (H o a+l1))),cBl v M])
  else none else none else none
  else some (.exit 8,v50 n X s ad us i o e 0 s2 (hdV (⟨q,a,l1⟩ :: r) none) 0,hA v c M H)):=by
 obtain rfl | rfl | rfl | rfl | rfl:=ho
 all_goals obtain rfl | rfl | rfl | rfl:=ha
 all_goals kernel_rfl
theorem b50b (n:Nat) (X:Nat->Act) (s:T) (ad us i e:Int) (s2:T) (x:Hld) (r:List Hld) (q l1:Int) (v:Nat) (c:Option Nat) (M:List Cne) (H:Nat->Nat->Int) (o a:Nat) (ho:o = 1 ∨ o = 2 ∨ o = 3 ∨ o = 4 ∨ o = 5) (ha:a = 1 ∨ a = 2 ∨ a = 3 ∨ a = 4):codeL P42 G42 A42 noneO 0 5 [] (nav (0 :: LP50)) l50 (v50 n X s ad us i o e 0 s2 (hdV (x :: ⟨q,a,l1⟩ :: r) none) 1) (hA v c M H) l50 =
 (bif decide ((1:Int)<Int.ofNat (r.length+2)) then bif decide ((1:Int)<Int.ofNat (r.length+2)) then bif decide ((1:Int)<Int.ofNat (r.length+2)) then bif decide ((1:Int)<Int.ofNat (r.length+2)) then
  some (.normal,v50 n X s ad us i o e 0 s2 (hdV (x :: ⟨q,a,l1⟩ :: r) none) 2,[mU (.own 1 v 0 M.length c) H (updH H o a (IntKind.i64.wrap (H o a+l1))),cBl v M])
  else none else none else none
  else some (.exit 8,v50 n X s ad us i o e 0 s2 (hdV (x :: ⟨q,a,l1⟩ :: r) none) 1,hA v c M H)):=by
 obtain rfl | rfl | rfl | rfl | rfl:=ho
 all_goals obtain rfl | rfl | rfl | rfl:=ha
 all_goals kernel_rfl
theorem rG1 (n:Nat) (X:Nat->Act) (s:T) (ad us i o e q l1:Int) (s2:T) (nd:T) (h:Heap) (a:Nat) (ha:a = 1 ∨ a = 2 ∨ a = 3 ∨ a = 4):codeL P42 G42 A42 noneO 3 5 [] (nav ([1,2,2,2,2] ++ R0a)) l13 (vH n X s ad us i o e 0 s2 (hdV [⟨q,a,l1⟩] none) nd ++ [sumR fun _=>0]) h l13 =
 some (.normal,vH n X s ad us i o e 0 s2 (hdV [⟨q,a,l1⟩] none) nd ++ [sumR (sm1 a l1)],h):=by
 obtain rfl | rfl | rfl | rfl:=ha
 all_goals kernel_rfl
theorem rG2 (n:Nat) (X:Nat->Act) (s:T) (ad us i o e q l1 q2 l2:Int) (s2:T) (nd:T) (h:Heap) (a b:Nat) (ha:a = 1 ∨ a = 2 ∨ a = 3 ∨ a = 4) (hb:b = 1 ∨ b = 2 ∨ b = 3 ∨ b = 4):codeL P42 G42 A42 noneO 3 5 [] (nav ([1,2,2,2,2] ++ R0a)) l13 (vH n X s ad us i o e 0 s2 (hdV [⟨q,a,l1⟩,⟨q2,b,l2⟩] none) nd ++ [sumR fun _=>0]) h l13 =
 some (.normal,vH n X s ad us i o e 0 s2 (hdV [⟨q,a,l1⟩,⟨q2,b,l2⟩] none) nd ++ [sumR (sm2 a l1 b l2)],h):=by
 obtain rfl | rfl | rfl | rfl:=ha
 all_goals obtain rfl | rfl | rfl | rfl:=hb
 all_goals kernel_rfl
open Go.Proofs
abbrev P5:=Pz P42 G42 A42 5 ([]:Heap)
theorem p5 {p l1 v1 h1 l2 v2 h2 e} (k:codeL P42 G42 A42 noneO 0 5 [] (nav p) l1 v1 h1 l2 = some (e,v2,h2)):P5 p l1 v1 h1 e l2 v2 h2:=Pz.run hm42 none_ok (m:=0) (by kernel_rfl) loops0 k
theorem wkU (v:Nat) (c:Option Nat) (M:List Cne) (H H2:Nat->Nat->Int) (l:List Nat) (vs:List T):Wk G42 A42 5 0 l vs [mU (.own 1 v 0 M.length c) H H2,cBl v M] vs (hA v c M H2):=fun nt=>by
 refine .same (.cons ⟨rfl,rfl,rfl,id,fun j hj=>?_⟩ (.cons ⟨rfl,rfl,rfl,id,fun _ _=>rfl⟩ .nil))
 obtain rfl:=one_of hj
 rfl
theorem Sim.vp {l m:List T} (h:Sims l m):Sim (.vp l) (.vp m):=by
 intro w U v hv
 cases hv with
 | vp _ a vs hs hU hc hv =>
  refine .vp m a vs hs (by rw [← h.1]; exact hU) (fun i c hi=>?_) (fun i c hi=>?_)
  ·obtain ⟨y,hy,_⟩:=h.get hi
   exact hc i y hy
  ·obtain ⟨y,hy,hs⟩:=h.get hi
   exact hs _ _ _ (hv i y hy)
theorem simVp (v:Nat) (M:List Cne) (c:Option Nat) (H:Nat->Nat->Int):Sim (.vp (mC (cnR v M c) H)) (.vp (mC (cnV M none) H)):=by
 refine Sim.vp (.cons ?_ (.refl _))
 unfold cnR
 rw [beq_self_eq_true,bleT (by omega)]
 refine Sim.view (.inr rfl) fun j hj=>?_
 show Sims (M.getD (0+j) cn0).c (M.getD j cn0).c
 rw [Nat.zero_add]
 exact .refl _
section
variable {n:Nat} {X:Nat->Act} {s:T} {ad us i o e:Int} {s2:T} {L:List Hld} {F:Nat->Int} {v:Nat} {c:Option Nat} {M:List Cne} {H:Nat->Nat->Int} {fr:Int->Int}
def preN (f:Int->Int) (k:Nat):List Int:=(([1,2,3,4]:List Int).take k).filter fun x=>decide (f x<0)
def ndM (f:Int->Int):List Cne:=(([1,2,3,4]:List Int).filter fun x=>decide (f x<0)).map fun x=>⟨x,0 - f x⟩
def wvN (f:Int->Int) (k:Nat):Int:=if (preN f k).length = 0 then 0 else 18
theorem take4:∀ r,r<4->([1,2,3,4]:List Int).take (r+1) = ([1,2,3,4]:List Int).take r ++ [((r+1:Nat):Int)]
 | 0,_=>rfl
 | 1,_=>rfl
 | 2,_=>rfl
 | 3,_=>rfl
theorem split4:∀ r,r<4->([1,2,3,4]:List Int) = ([1,2,3,4]:List Int).take r ++ ((r+1:Nat):Int) :: ([1,2,3,4]:List Int).drop (r+1)
 | 0,_=>rfl
 | 1,_=>rfl
 | 2,_=>rfl
 | 3,_=>rfl
theorem preN_succ (f:Int->Int) (r:Nat) (hr:r<4):preN f (r+1) = preN f r ++ if f (r+1:Nat)<0 then [((r+1:Nat):Int)] else []:=by
 unfold preN
 rw [take4 r hr,List.filter_append]
 congr 1
 by_cases q:f (r+1:Nat)<0
 ·rw [if_pos q,List.filter_cons,if_pos (decide_eq_true q)]; rfl
 ·rw [if_neg q,List.filter_cons,if_neg (by rw [decide_eq_true_eq]; exact q)]; rfl
theorem ndM_split (f:Int->Int) (r:Nat) (hr:r<4) (h:f (r+1:Nat)<0):(preN f r).length<(ndM f).length/\(ndM f).getD (preN f r).length cn0 = ⟨(r+1:Nat),0 - f (r+1:Nat)⟩:=by
 have e:ndM f = (preN f r).map (fun x=>(⟨x,0 - f x⟩:Cne)) ++ (⟨(r+1:Nat),0 - f (r+1:Nat)⟩:Cne) :: ((([1,2,3,4]:List Int).drop (r+1)).filter fun x=>decide (f x<0)).map fun x=>⟨x,0 - f x⟩:=by
  unfold ndM preN
  conv=>lhs; rw [split4 r hr]
  rw [List.filter_append,List.filter_cons,if_pos (decide_eq_true h),List.map_append,List.map_cons]
 have el:((preN f r).map (fun x=>(⟨x,0 - f x⟩:Cne))).length = (preN f r).length:=by simp
 rw [e,← el]
 refine ⟨by simp,?_⟩
 simp only [List.getD_eq_getElem?_getD,List.getElem?_append_right (Nat.le_refl _),Nat.sub_self,List.getElem?_cons_zero,Option.getD_some]
theorem wvN_le (f:Int->Int) (r:Nat):(preN f r).length = 0->wvN f r = 0:=fun h=>by unfold wvN; rw [if_pos h]
theorem res40 (hfr:∀ k:Nat,1<=k->k<=4->ToldOk P42 G42 16 [.vp (mC (cnR v M c) H),.int .i64 k] (.int .i64 (fr k))) {f:Int->Int} (hf:∀ k:Nat,1<=k->k<=4->f k = fr k - F k/\0<=fr k/\fr k<=1000000000/\0<=F k/\F k<=1000000000) :
 P5 LP40 l40 (v40 n X s ad us i o e 0 s2 (hdV L none) (ndM f) F 0 1) (hA v c M H) (.exit 6) [0,3,4,5,6,7,8,11,12,13,14,15,18] (w40 n X s ad us i o e (wvN f 4) s2 (hdV L none) (ndM f) (ndM f).length) (hA v c M H):=by
 obtain ⟨p,hp⟩:=is_val P42 G42 16
 have ok:OrcOk P42 G42 (K5f p fr):=told_add none_ok (callF_told hp)
 have hlen:(ndM f).length = (preN f 4).length:=by unfold ndM preN; simp
 have l4:∀ k,(preN f k).length<=4:=fun k=>by
  unfold preN
  refine Nat.le_trans (List.length_filter_le ..) ?_
  rw [List.length_take]
  exact Nat.min_le_right ..
 have key:=Pz.count (P:=P42) (G:=G42) (A:=A42) (f:=5) (h0:=([]:Heap)) (p:=LP40) (l:=l40) (l1:=[0,3,4,5,6,7,8,11,12,13,14,15,18]) (by kernel_rfl)
  (fun r=>v40 n X s ad us i o e (wvN f r) s2 (hdV L none) (ndM f) F (preN f r).length (r+1)) (fun _=>hA v c M H) (n:=4) (e:=.exit 6) (v1:=w40 n X s ad us i o e (wvN f 4) s2 (hdV L none) (ndM f) (ndM f).length) (h1:=hA v c M H) (by simp)
  (fun r hr=>by
   have hk:r+1 = 1 ∨ r+1 = 2 ∨ r+1 = 3 ∨ r+1 = 4:=by omega
   obtain ⟨hf1,hf2,hf3,hf4,hf5⟩:=hf (r+1) (by omega) (by omega)
   have ps:=preN_succ f r hr
   have l4r:=l4 r
   refine Pz.run hm42 ok (m:=0) (by kernel_rfl) loops0 ((b40 n X s ad us i o e (wvN f r) s2 L (ndM f) F (preN f r).length v c M H p fr (r+1) hk).trans ?_)
   by_cases q:f (r+1:Nat)<0
   ·rw [if_pos q] at ps
    obtain ⟨n1,n2⟩:=ndM_split f r hr q
    have el:(preN f (r+1)).length = (preN f r).length+1:=by rw [ps]; simp
    have ew:wvN f (r+1) = 18:=by unfold wvN; rw [if_neg (by omega)]
    rw [n2,up1 (by omega)]
    dsimp only
    rw [el,ew]
    have w1:IntKind.i64.wrap (F (r+1) - fr (r+1:Nat)) = F (r+1) - fr (r+1:Nat):=wr64 (by omega) (by omega)
    rw [w1]
    refine bift (decide_eq_true (by omega)) (bift (callF_yes hp (hfr (r+1) (by omega) (by omega))) (bift (decide_eq_true (by omega)) (biff (by rw [decide_eq_true_eq]; show ¬ (((ndM f).length:Nat):Int)<=(((preN f r).length:Nat):Int); omega) (bift (by rw [Bool.and_eq_true,decide_eq_true_eq,decide_eq_true_eq]; exact ⟨Int.natCast_nonneg _,by show (((preN f r).length:Nat):Int)<(((ndM f).length:Nat):Int); omega⟩) (bift (callF_yes hp (hfr (r+1) (by omega) (by omega))) (bift (decide_eq_true rfl) (bift (decide_eq_true (by omega)) rfl)))))))
   ·rw [if_neg q,List.append_nil] at ps
    rw [ps,show wvN f (r+1) = wvN f r by unfold wvN; rw [ps]]
    by_cases q2:0<F (r+1)
    ·refine bift (decide_eq_true q2) (bift (callF_yes hp (hfr (r+1) (by omega) (by omega))) (biff (by rw [decide_eq_true_eq]; omega) rfl))
    ·exact biff (by rw [decide_eq_true_eq]; exact q2) rfl)
  (by
   rw [hlen]
   exact p5 (b40y n X s ad us i o e (wvN f 4) s2 (hdV L none) (ndM f) F (preN f 4).length (hA v c M H)))
 exact key
theorem five {o:Nat} (h:1<=o/\o<=5):o = 1 ∨ o = 2 ∨ o = 3 ∨ o = 4 ∨ o = 5:=by omega
theorem fourA {o:Nat} (h:1<=o/\o<=4):o = 1 ∨ o = 2 ∨ o = 3 ∨ o = 4:=by omega
theorem res50a {oo:Nat} (ho:1<=oo/\oo<=5) {q:Int} {a:Nat} {l1:Int} (ha:1<=a/\a<=4) (r:List Hld) (hr:r.length<=5) (hw:IntKind.i64.wrap (H oo a+l1) = H oo a+l1) :
 P5 (0 :: LP50) l50 (v50 n X s ad us i oo e 0 s2 (hdV (⟨q,a,l1⟩ :: r) none) 0) (hA v c M H) .normal l50 (v50 n X s ad us i oo e 0 s2 (hdV (⟨q,a,l1⟩ :: r) none) 1) (hA v c M (updH H oo a (H oo a+l1))):=by
 refine Pz.post (p5 ((b50a n X s ad us i e s2 r q l1 v c M H oo a (five ho) (fourA ha)).trans ?_)) (wkU v c M H _ _ _)
 rw [hw]
 have:(0:Int)<Int.ofNat (r.length+1):=by show (0:Int)<((r.length+1:Nat):Int); omega
 rw [decide_eq_true this]
 rfl
theorem res50b {oo:Nat} (ho:1<=oo/\oo<=5) {q:Int} {a:Nat} {l1:Int} (ha:1<=a/\a<=4) (x:Hld) (r:List Hld) (hr:r.length<=5) (hw:IntKind.i64.wrap (H oo a+l1) = H oo a+l1) :
 P5 (0 :: LP50) l50 (v50 n X s ad us i oo e 0 s2 (hdV (x :: ⟨q,a,l1⟩ :: r) none) 1) (hA v c M H) .normal l50 (v50 n X s ad us i oo e 0 s2 (hdV (x :: ⟨q,a,l1⟩ :: r) none) 2) (hA v c M (updH H oo a (H oo a+l1))):=by
 refine Pz.post (p5 ((b50b n X s ad us i e s2 x r q l1 v c M H oo a (five ho) (fourA ha)).trans ?_)) (wkU v c M H _ _ _)
 rw [hw]
 have:(1:Int)<Int.ofNat (r.length+2):=by show (1:Int)<((r.length+2:Nat):Int); omega
 rw [decide_eq_true this]
 rfl
theorem res50 {oo:Nat} (ho:1<=oo/\oo<=5) {q q2:Int} {a b:Nat} {l1 l2:Int} (ha:1<=a/\a<=4) (hb:1<=b/\b<=4) (hl1:0<=l1/\l1<=1000) (hl2:0<=l2/\l2<=1000) (hH:∀ x y,0<=H x y/\H x y<=100000) (hL:L = [⟨q,a,l1⟩] ∨ L = [⟨q,a,l1⟩,⟨q2,b,l2⟩]) (hq:q = oo/\q2 = oo) :
 P5 ([2,2,2,2,2,2,2,2] ++ R0a) [0,3,4,5,6,7,8,11,12,13,14] (u11 n X s ad us i oo e 0 s2 (hdV L none)) (hA v c M H) .normal [0,3,4,5,6,7,11,12,13] (w4A n X s ad us i e 0 s2) (hA v c M (addH H L)):=by
 refine Pz.seq (by kernel_rfl) (p5 (r49 n X s ad us i oo e 0 s2 (hdV L none) (hA v c M H))) (Pz.blk (id:=8) (e:=.exit 8) (by kernel_rfl) rfl ?_)
 have h1:=hH oo a
 have w1:IntKind.i64.wrap (H oo a+l1) = H oo a+l1:=wr64 (by omega) (by omega)
 have fin:∀ (L:List Hld) (H':Nat->Nat->Int),P5 (0 :: LP50) l50 (v50 n X s ad us i oo e 0 s2 (hdV L none) L.length) (hA v c M H') (.exit 8) [0,3,4,5,6,7,11,12,13] (w4A n X s ad us i e 0 s2) (hA v c M H'):=fun L H'=>by
  refine Pz.seqX (by kernel_rfl) (by simp) (p5 ((b50y n X s ad us i oo e 0 s2 L L.length (hA v c M H')).trans ?_))
  exact biff (by rw [decide_eq_true_eq]; exact Int.lt_irrefl _) rfl
 obtain ⟨rfl,rfl⟩:=hq
 rcases hL with rfl | rfl
 ·have eH:addH H [⟨(oo:Int),a,l1⟩] = updH H oo a (H oo a+l1):=rfl
  rw [eH]
  exact Pz.count (P:=P42) (G:=G42) (A:=A42) (f:=5) (p:=LP50) (by kernel_rfl) (fun k=>v50 n X s ad us i oo e 0 s2 (hdV [⟨oo,a,l1⟩] none) k) (fun k=>match k with | 0=>hA v c M H | _=>hA v c M (updH H oo a (H oo a+l1))) (n:=1) (e:=.exit 8) (by simp)
   (fun k hk=>by
    obtain rfl:k = 0:=by omega
    exact res50a ho ha [] (by simp) w1) (fin [⟨oo,a,l1⟩] _)
 ·have h2:0<=updH H oo a (H oo a+l1) oo b/\updH H oo a (H oo a+l1) oo b<=200000:=by
   rw [updH_eq]
   have:=hH oo b
   split <;> omega
  have w2:IntKind.i64.wrap (updH H oo a (H oo a+l1) oo b+l2) = updH H oo a (H oo a+l1) oo b+l2:=wr64 (by omega) (by omega)
  have eH:addH H [⟨(oo:Int),a,l1⟩,⟨(oo:Int),b,l2⟩] = updH (updH H oo a (H oo a+l1)) oo b (updH H oo a (H oo a+l1) oo b+l2):=rfl
  rw [eH]
  exact Pz.count (P:=P42) (G:=G42) (A:=A42) (f:=5) (p:=LP50) (by kernel_rfl) (fun k=>v50 n X s ad us i oo e 0 s2 (hdV [⟨oo,a,l1⟩,⟨oo,b,l2⟩] none) k) (fun k=>match k with | 0=>hA v c M H | 1=>hA v c M (updH H oo a (H oo a+l1)) | _=>hA v c M (updH (updH H oo a (H oo a+l1)) oo b (updH H oo a (H oo a+l1) oo b+l2))) (n:=2) (e:=.exit 8) (by simp)
   (fun k hk=>by
    have:k = 0 ∨ k = 1:=by omega
    rcases this with rfl | rfl
    ·exact res50a ho ha [⟨oo,b,l2⟩] (by simp) w1
    ·exact res50b ho hb ⟨oo,a,l1⟩ [] (by simp) w2) (fin [⟨oo,a,l1⟩,⟨oo,b,l2⟩] _)
theorem res50n {w:Int} (hw:w ≠ 0):P5 ([2,2,2,2,2,2,2,2] ++ R0a) [0,3,4,5,6,7,8,11,12,13,14] (u11 n X s ad us i o e w s2 (hdV L none)) (hA v c M H) .normal [0,3,4,5,6,7,11,12,13] (w4A n X s ad us i e w s2) (hA v c M H):=by
 refine Pz.seq (by kernel_rfl) (p5 (r49 n X s ad us i o e w s2 (hdV L none) (hA v c M H))) (Pz.blk (id:=8) (e:=.exit 8) (by kernel_rfl) rfl ?_)
 refine Pz.count (P:=P42) (G:=G42) (A:=A42) (f:=5) (p:=LP50) (by kernel_rfl) (fun k=>v50 n X s ad us i o e w s2 (hdV L none) 0) (fun k=>hA v c M H) (n:=0) (e:=.exit 8) (by simp) (fun k hk=>absurd hk (Nat.not_lt_zero _)) ?_
 refine Pz.seqX (by kernel_rfl) (by simp) (p5 ((b50y n X s ad us i o e w s2 L 0 (hA v c M H)).trans ?_))
 by_cases q:Int.ofNat 0<Int.ofNat L.length
 ·exact bift (decide_eq_true q) (biff (by rw [decide_eq_true_eq]; exact hw) rfl)
 ·exact biff (by rw [decide_eq_true_eq]; exact q) rfl
end
open Go.Proofs
structure Out (M:List Cne) (H:Nat->Nat->Int) (M':List Cne) (H':Nat->Nat->Int) (i:Nat) (ad us E:Int) (r1:List Cne) (r2:List Hld):Prop where
 inv:AInv M' H' (i+1) ad us
 ok:E = 0->r1 = M'/\r2 = hsL H'
 no:E ≠ 0->r1 = []/\r2 = []/\M' = M/\H' = H
theorem act_num {x:Act} (h:x.Ok):∃ (oo a b:Nat) (l1 l2:Int),1<=oo/\oo<=5/\1<=a/\a<=4/\1<=b/\b<=4/\1<=l1/\l1<=256/\1<=l2/\l2<=256/\1+x.o.tmod 5 = (oo:Int)/\1+x.a.tmod 4 = (a:Int)/\1+x.l = l1/\(hlX x = [⟨oo,a,l1⟩] ∨ hlX x = [⟨oo,a,l1⟩,⟨oo,b,l2⟩]):=by
 have h1:=mod4 h.a.1
 have h2:=h.l
 have h3:=mod5 h.o.1
 have h4:=div4 h.m
 have h5:=mod4 (div3 h.m).1
 refine ⟨(1+x.o.tmod 5).toNat,(1+x.a.tmod 4).toNat,(1+(x.m.tdiv 3).tmod 4).toNat,1+x.l,1+x.m.tdiv 4,by omega,by omega,by omega,by omega,by omega,by omega,by omega,by omega,by omega,by omega,by omega,by omega,rfl,?_⟩
 have e1:(((1+x.o.tmod 5).toNat:Nat):Int) = 1+x.o.tmod 5:=by omega
 have e2:(((1+x.a.tmod 4).toNat:Nat):Int) = 1+x.a.tmod 4:=by omega
 have e3:(((1+(x.m.tdiv 3).tmod 4).toNat:Nat):Int) = 1+(x.m.tdiv 3).tmod 4:=by omega
 rw [e1,e2,e3]
 unfold hlX hL
 by_cases c:x.m.tmod 3 = 2
 ·rw [if_pos c]; exact .inr rfl
 ·rw [if_neg c]; exact .inl rfl
theorem sm1_is {a:Nat} {l:Int} (hl:0<=l/\l<=1000) (q:Int) (k:Nat):sm1 a l k = hdN [⟨q,a,l⟩] k:=by
 have w:IntKind.i64.wrap (0+l) = l:=by rw [Int.zero_add]; exact wr64 (by omega) (by omega)
 unfold sm1
 rw [w]
 simp only [hdN]
 by_cases c:k = a
 ·subst c; simp
 ·rw [show (k==a) = false by simp [c],if_neg (by omega)]; rfl
theorem sm2_is {a b:Nat} {l m:Int} (hl:0<=l/\l<=1000) (hm:0<=m/\m<=1000) (q q2:Int) (k:Nat):sm2 a l b m k = hdN [⟨q,a,l⟩,⟨q2,b,m⟩] k:=by
 have e:=fun k=>sm1_is hl q (a:=a) k
 have e1:hdN [⟨q,a,l⟩,⟨q2,b,m⟩] k = hdN [⟨q,a,l⟩] k+hdN [⟨q2,b,m⟩] k:=hdN_app [⟨q,a,l⟩] [⟨q2,b,m⟩] k
 rw [e1]
 unfold sm2
 rw [e,e]
 have hb:0<=hdN [⟨q,a,l⟩] b/\hdN [⟨q,a,l⟩] b<=1000:=by simp only [hdN]; split <;> omega
 rw [wr64 (by omega) (by omega)]
 by_cases c:k = b
 ·subst c
  have:hdN [⟨q2,(k:Int),m⟩] k = m:=by simp [hdN]
  rw [this]; simp
 ·have:hdN [⟨q2,(b:Int),m⟩] k = 0:=by simp only [hdN]; rw [if_neg (by omega)]; rfl
  rw [this,show (k==b) = false by simp [c],Int.add_zero]; rfl
section
variable {n:Nat} {X:Nat->Act} {M:List Cne} {H:Nat->Nat->Int} {i:Nat} {ad us:Int} {v:Nat} {c:Option Nat}
def l4a:List Nat:=[0,3,4,5,6,7,8,9,10,12,13,68]
def lWa:List Nat:=[0,3,4,5,6,7,11,12,13]
theorem freeT16 (hI:AInv M H i ad us) (k:Nat) (h1:1<=k) (h4:k<=4):ToldOk P42 G42 16 [.vp (mC (cnR v M c) H),.int .i64 k] (.int .i64 (cnN M k - hSum H k)) :=
 (freeM M H k (fourA ⟨h1,h4⟩) (fun c hc=>by have:=hI.mb c hc; omega) (by have:=hI.ml; have:=hI.i40; omega) (fun o a=>by have:=hI.hb o a; omega)).sim (.cons (simVp v M c H) (.cons (.refl _) .nil))
theorem resT (hI:AInv M H i ad us) (hi:i<40) (hin:i<n) (hx:(X i).Ok) {w:Int} (hw:w = 1 ∨ w = 2):∃ E H' r1 r2,Out M H M H' i ad us E r1 r2 ∧
 P5 S0a l4a (v4A n X (rS M (hsL H)) ad us i (1+(X i).o.tmod 5) (1+(X i).a.tmod 4) (1+(X i).l) w) (hA v c M H) .normal lWa (w4A n X (rS M (hsL H)) ad us i E E (rS r1 r2)) (hA v c M H'):=by
 obtain ⟨oo,a,b,l1,l2,o1,o2,a1,a2,b1,b2,m1,m2,m3,m4,eo,ea,el,hL⟩:=act_num hx
 have t14:=actT hx
 have hok:∀ d,d ∈ hlX (X i)->1<=d.o/\d.o<=5/\1<=d.a/\d.a<=4/\1<=d.l/\d.l<=256:=fun d hd=>by
  rcases hL with e | e <;> rw [e] at hd
  ·simp at hd; subst hd; dsimp only; omega
  ·simp at hd
   rcases hd with rfl | rfl <;> dsimp only <;> omega
 have hlen:(hlX (X i)).length<=2:=by rcases hL with e | e <;> rw [e] <;> simp
 obtain ⟨nd1,nd2⟩:=hI.need hok hlen
 have hres:=hI.res hi hok hlen
 have hmis:=hI.mis (hlX (X i))
 obtain ⟨F,hF,hG⟩:∃ F:Nat->Int,(∀ k,F k = hdN (hlX (X i)) k)/\∀ e s2 nd h,P5 ([1,2,2,2,2] ++ R0a) l13 (vH n X (rS M (hsL H)) ad us i oo e 0 s2 (hdV (hlX (X i)) none) nd ++ [sumR fun _=>0]) h .normal l13 (vH n X (rS M (hsL H)) ad us i oo e 0 s2 (hdV (hlX (X i)) none) nd ++ [sumR F]) h:=by
  rcases hL with e | e <;> rw [e]
  ·exact ⟨sm1 a l1,fun k=>sm1_is ⟨by omega,by omega⟩ oo k,fun e s2 nd h=>Pz.run hm42 none_ok (m:=3) (by kernel_rfl) loops0 (rG1 n X _ ad us i oo e oo l1 s2 nd h a (fourA ⟨a1,a2⟩))⟩
  ·exact ⟨sm2 a l1 b l2,fun k=>sm2_is ⟨by omega,by omega⟩ ⟨by omega,by omega⟩ oo oo k,fun e s2 nd h=>Pz.run hm42 none_ok (m:=3) (by kernel_rfl) loops0 (rG2 n X _ ad us i oo e oo l1 oo l2 s2 nd h a b (fourA ⟨a1,a2⟩) (fourA ⟨b1,b2⟩))⟩
 have hLb:∀ k:Int,0<=hdN (hlX (X i)) k/\hdN (hlX (X i)) k<=2000000000:=fun k=>by
  have:=hdN_bd (hlX (X i)) (fun d hd=>by have:=hok d hd; omega) k
  omega
 have hLs:∀ k:Int,hdN (hlX (X i)) k<=512:=fun k=>by
  rcases hL with e | e <;> rw [e] <;> simp only [hdN] <;> repeat' split
  all_goals omega
 have h50:∀ e s2,P5 ([2,2,2,2,2,2,2,2] ++ R0a) [0,3,4,5,6,7,8,11,12,13,14] (u11 n X (rS M (hsL H)) ad us i oo e 0 s2 (hdV (hlX (X i)) none)) (hA v c M H) .normal lWa (w4A n X (rS M (hsL H)) ad us i e 0 s2) (hA v c M (addH H (hlX (X i)))):=fun e s2 =>
  res50 ⟨o1,o2⟩ (q:=oo) (q2:=oo) ⟨a1,a2⟩ ⟨b1,b2⟩ (l1:=l1) (l2:=l2) ⟨by omega,by omega⟩ ⟨by omega,by omega⟩ (fun x y=>by have:=hI.hb x y; omega) hL ⟨rfl,rfl⟩
 have t8:=reserveT M (hsL H) (hlX (X i)) (by have:=hI.v.cl; omega) (by have:=hI.v.hl; omega) (by omega)
 have t15:=needT M (hsL H) (hlX (X i)) (by have:=hI.v.cl; omega) (by have:=hI.v.hl; omega) (by omega) nd1
 rw [nd2] at t15
 clear hL
 generalize hlX (X i) = L at *
 generalize hf:misF M (hsL H) L = f at *
 have t8:=t8.sim (.cons (simSt _ _) (.cons (.refl _) .nil))
 have t15:=t15.sim (.cons (simSt _ _) (.cons (.refl _) .nil))
 obtain ⟨p14,h14⟩:=is_val P42 G42 14
 obtain ⟨p8,h8⟩:=is_val P42 G42 8
 obtain ⟨p15,h15⟩:=is_val P42 G42 15
 have body:∀ E r1 r2 H',rsv M (hsL H) L = (r1,r2,E)->wvN f 4 = E->(P5 ([2,2,2,2,2,2,2,2] ++ R0a) [0,3,4,5,6,7,8,11,12,13,14] (u11 n X (rS M (hsL H)) ad us i oo E E (rS r1 r2) (hdV L none)) (hA v c M H) .normal lWa (w4A n X (rS M (hsL H)) ad us i E E (rS r1 r2)) (hA v c M H')) →
  P5 S0a l4a (v4A n X (rS M (hsL H)) ad us i oo a l1 w) (hA v c M H) .normal lWa (w4A n X (rS M (hsL H)) ad us i E E (rS r1 r2)) (hA v c M H'):=fun E r1 r2 H' er ew h50'=>by
  rw [er] at t8
  have pC:P5 ([1] ++ R0a) [0,3,4,5,6,7,8,12,13,139] (vA n X (rS M (hsL H)) ad us i ++ [.int .i64 oo,.int .i64 0,rS M (hsL H),.bool true]) (hA v c M H) .normal [0,3,4,5,6,7,8,12,13,14] (vA n X (rS M (hsL H)) ad us i ++ [.int .i64 oo,.int .i64 0,rS M (hsL H),hdV L none]) (hA v c M H) :=
   Pz.run hm42 (told_add none_ok (callF_told h14)) (m:=0) (by kernel_rfl) loops0 ((rC n X (rS M (hsL H)) ad us oo i (hA v c M H) p14 L).trans (BT (bift (callF_yes h14 t14) rfl)))
  have pD:P5 ([1,2] ++ R0a) [0,3,4,5,6,7,8,12,13,14] (vA n X (rS M (hsL H)) ad us i ++ [.int .i64 oo,.int .i64 0,rS M (hsL H),hdV L none]) (hA v c M H) .normal [0,3,4,5,6,7,8,11,12,13,14] (vA n X (rS M (hsL H)) ad us i ++ [.int .i64 oo,.int .i64 E,.int .i64 0,rS r1 r2,hdV L none]) (hA v c M H) :=
   Pz.run hm42 (told_add none_ok (callF_told h8)) (m:=0) (by kernel_rfl) loops0 ((rD n X M r1 (hsL H) r2 ad us oo i (hA v c M H) p8 L E).trans (bift (callF_yes h8 t8) rfl))
  have pE:P5 ([1,2,2] ++ R0a) [0,3,4,5,6,7,8,11,12,13,14] (vA n X (rS M (hsL H)) ad us i ++ [.int .i64 oo,.int .i64 E,.int .i64 0,rS r1 r2,hdV L none]) (hA v c M H) .normal [0,3,4,5,6,7,8,11,12,13,14,15] (vH n X (rS M (hsL H)) ad us i oo E 0 (rS r1 r2) (hdV L none) (cnV (ndM f) (some (ndM f).length))) (hA v c M H) :=
   Pz.run hm42 (told_add none_ok (callF_told h15)) (m:=0) (by kernel_rfl) loops0 ((rE n X M (hsL H) ad us oo i E (rS r1 r2) (hA v c M H) p15 L (ndM f)).trans (bift (callF_yes h15 t15) rfl))
  have pF:P5 ([1,2,2,2] ++ R0a) [0,3,4,5,6,7,8,11,12,13,14,15] (vH n X (rS M (hsL H)) ad us i oo E 0 (rS r1 r2) (hdV L none) (cnV (ndM f) (some (ndM f).length))) (hA v c M H) .normal l13 (vH n X (rS M (hsL H)) ad us i oo E 0 (rS r1 r2) (hdV L none) (cnV (ndM f) (some (ndM f).length)) ++ [sumR fun _=>0]) (hA v c M H):=p5 (rF n X (rS M (hsL H)) ad us oo i E (rS r1 r2) (hdV L none) _ (hA v c M H))
  have pH:P5 ([1,2,2,2,2,2] ++ R0a) l13 (vH n X (rS M (hsL H)) ad us i oo E 0 (rS r1 r2) (hdV L none) (cnV (ndM f) (some (ndM f).length)) ++ [sumR F]) (hA v c M H) .normal [0,3,4,5,6,7,8,11,12,13,14,15,16,18] (vH n X (rS M (hsL H)) ad us i oo E 0 (rS r1 r2) (hdV L none) (cnV (ndM f) (some (ndM f).length)) ++ [sumR F,.int .i64 0]) (hA v c M H):=p5 (rHh n X (rS M (hsL H)) ad us oo i E (rS r1 r2) (hdV L none) _ (sumR F) (hA v c M H))
  have p40:=res40 (n:=n) (X:=X) (s:=rS M (hsL H)) (ad:=ad) (us:=us) (i:=i) (o:=oo) (e:=E) (s2:=rS r1 r2) (L:=L) (F:=F) (v:=v) (c:=c) (M:=M) (H:=H) (fr:=fun z=>cnN M z - hSum H z.toNat) (fun k h1 h4=>by
   show ToldOk P42 G42 16 _ (.int .i64 (cnN M k - hSum H ((k:Nat):Int).toNat))
   exact freeT16 hI k h1 h4) (f:=f) (fun k h1 h4=>by
   have e1:=hmis k h1 h4
   have e2:=hF k
   have e3:=hI.hs k h1 h4
   have e4:=hI.cn k
   have e5:=hLb k
   have e6:=hLs k
   have e7:=(hSum_nn hI.hg 1 k).1
   show f k = cnN M k - hSum H k - F k/\0<=cnN M k - hSum H k/\cnN M k - hSum H k<=1000000000/\0<=F k/\F k<=1000000000
   omega)
  rw [ew] at p40
  have p47:P5 ([1,2,2,2,2,2,2,2] ++ R0a) [0,3,4,5,6,7,8,11,12,13,14,15,18] (w40 n X (rS M (hsL H)) ad us i oo E E (rS r1 r2) (hdV L none) (ndM f) (ndM f).length) (hA v c M H) .normal [0,3,4,5,6,7,8,11,12,13,14] (u11 n X (rS M (hsL H)) ad us i oo E E (rS r1 r2) (hdV L none)) (hA v c M H) :=
   p5 ((r47 n X (rS M (hsL H)) ad us i oo E E (rS r1 r2) (hdV L none) (ndM f) (ndM f).length (hA v c M H)).trans (biff (by simp) (biff (by simp) rfl)))
  have pR:P5 R0a [0,3,4,5,6,7,8,12,13,139] (vA n X (rS M (hsL H)) ad us i ++ [.int .i64 oo,.int .i64 0,rS M (hsL H),.bool true]) (hA v c M H) .normal lWa (w4A n X (rS M (hsL H)) ad us i E E (rS r1 r2)) (hA v c M H') :=
   Pz.seq (by kernel_rfl) pC (Pz.seq (by kernel_rfl) pD (Pz.seq (by kernel_rfl) pE (Pz.seq (by kernel_rfl) pF (Pz.seq (by kernel_rfl) (hG E (rS r1 r2) _ _) (Pz.seq (by kernel_rfl) pH (Pz.seq (by kernel_rfl) (Pz.seq (by kernel_rfl) (p5 (r39 n X (rS M (hsL H)) ad us i oo E 0 (rS r1 r2) (hdV L none) (ndM f) F (hA v c M H))) (Pz.blk (id:=6) (by kernel_rfl) rfl p40)) (Pz.seq (by kernel_rfl) p47 h50')))))))
  rcases hw with rfl | rfl
  ·exact Pz.seq (by kernel_rfl) (p5 (rA n X (rS M (hsL H)) ad us i oo a l1 (hA v c M H))) (Pz.condF 112 (by kernel_rfl) (by kernel_rfl) (Pz.seq (by kernel_rfl) (p5 (rB n X (rS M (hsL H)) ad us i oo a l1 (hA v c M H))) (Pz.condT 139 (by kernel_rfl) (by kernel_rfl) pR)))
  ·exact Pz.seq (by kernel_rfl) (p5 (rA2 n X (rS M (hsL H)) ad us i oo a l1 (hA v c M H))) (Pz.condF 112 (by kernel_rfl) (by kernel_rfl) (Pz.seq (by kernel_rfl) (p5 (rB2 n X (rS M (hsL H)) ad us i oo a l1 (hA v c M H))) (Pz.condT 139 (by kernel_rfl) (by kernel_rfl) pR)))
 rw [eo,ea,el]
 rcases hres with ⟨⟨k,k1,k4,hk⟩,e⟩ | ⟨hk,e,hI'⟩
 ·refine ⟨18,H,[],[],⟨hI.up hi,fun h=>absurd h (by decide),fun _=>⟨rfl,rfl,rfl,rfl⟩⟩,body 18 [] [] H e ?_ (res50n (by decide))⟩
  unfold wvN
  rw [if_neg]
  intro q
  have q:=List.length_eq_zero_iff.1 q
  unfold preN at q
  rw [List.filter_eq_nil_iff] at q
  have hm:=hmis k k1 k4
  refine q (k:Int) ?_ (by rw [decide_eq_true_eq]; omega)
  rcases fourA ⟨k1,k4⟩ with rfl | rfl | rfl | rfl <;> simp
 ·refine ⟨0,addH H L,M,hsL (addH H L),⟨hI',fun _=>⟨rfl,rfl⟩,fun h=>absurd rfl h⟩,body 0 M (hsL (addH H L)) (addH H L) e ?_ (h50 0 _)⟩
  refine wvN_le f 4 (List.length_eq_zero_iff.2 ?_)
  unfold preN
  rw [List.filter_eq_nil_iff]
  intro x hx
  rw [decide_eq_true_eq]
  have:∃ k:Nat,1<=k/\k<=4/\x = k:=by
   simp at hx
   rcases hx with rfl | rfl | rfl | rfl
   ·exact ⟨1,by decide,by decide,rfl⟩
   ·exact ⟨2,by decide,by decide,rfl⟩
   ·exact ⟨3,by decide,by decide,rfl⟩
   ·exact ⟨4,by decide,by decide,rfl⟩
  obtain ⟨k,k1,k4,rfl⟩:=this
  have:=hmis k k1 k4
  have:=hk k k1 k4
  omega
end
open Go.Proofs
section
variable {n:Nat} {X:Nat->Act} {M:List Cne} {H:Nat->Nat->Int} {i:Nat} {ad us:Int} {v:Nat} {c:Option Nat}
theorem wkN (x:T) (w m:Nat) (f:Nat->List T) (v:Nat) (M M2:List Cne) (E:Blk) (H:Nat->Nat->Int) (s:T) (ad us i e z:Int) (r1:List Cne) (r2:List Hld) (cs:List Cne) (hs:List Hld) (hl:M2.length = m) (hf:∀ j,j<m->f j = (M2.getD j cn0).c):Wk G42 A42 5 0 lWa (w4A n X (rS cs hs) ad us i e z (rS r1 r2)) [⟨0,31,1,fun e=>mWl e x (.own 3 w 0 m none) H,false,false,none⟩,cBl v M,E,cB w m f false] (w4A n X (rS cs hs) ad us i e z (rS r1 r2)) (hA w none M2 H):=fun nt=>by
 subst hl
 refine .trans (.canon [0,3] rfl) ?_
 refine .same (.cons ⟨rfl,rfl,rfl,(fun h=>by cases h),fun j hj=>?_⟩ (.cons ⟨rfl,rfl,rfl,id,fun j hj=>(hf j hj).symm⟩ .nil))
 obtain rfl:=one_of hj
 rfl
theorem addA (hI:AInv M H i ad us) (hi:i<40) (hx:(X i).Ok):∃ w r1 r2,Out M H (M ++ [cnX (X i)]) H i (ad+(cnX (X i)).l) us 0 r1 r2 ∧
 P5 S0a l4a (v4A n X (rS M (hsL H)) ad us i (1+(X i).o.tmod 5) (1+(X i).a.tmod 4) (1+(X i).l) 0) (hA v c M H) .normal lWa (w4A n X (rS M (hsL H)) (ad+(cnX (X i)).l) us i 0 0 (rS r1 r2)) (hA w none (M ++ [cnX (X i)]) H):=by
 have h1:=mod4 hx.a.1
 have h2:=hx.l
 obtain ⟨q1,q2⟩:=hI.add hi (x:=cnX (X i)) ⟨by show 1<=1+(X i).a.tmod 4; omega,by show 1+(X i).a.tmod 4<=4; omega,by show 1<=1+(X i).l; omega,by show 1+(X i).l<=256; omega⟩
 have t13:=addT M (hsL H) (cnX (X i)) (by have:=hI.v.cl; omega) (by have:=hI.v.hl; omega)
 rw [q1] at t13
 have t13:=t13.sim (.cons (simSt _ _) (.cons (.refl _) .nil))
 obtain ⟨p,hp⟩:=is_val P42 G42 13
 have ha:ad<=256 * i/\us<=ad/\0<=us:=by
  have:=hI.us0
  have:=hI.sum
  have:=hI.cn 1
  have:=hI.cn 2
  have:=hI.cn 3
  have:=hI.cn 4
  omega
 have ew:IntKind.i64.wrap (ad+(1+(X i).l)) = ad+(cnX (X i)).l:=wr64 (by omega) (by omega)
 have hml:=hI.ml
 have gd:∀ j,j<=M.length->((M ++ [cnX (X i)]).getD j cn0) = if j<M.length then M.getD j cn0 else cnX (X i):=fun j hj=>by
  simp only [List.getD_eq_getElem?_getD]
  by_cases q:j<M.length
  ·rw [if_pos q,List.getElem?_append_left q]
  ·obtain rfl:j = M.length:=by omega
   rw [if_neg q,List.getElem?_append_right (Nat.le_refl _),Nat.sub_self]
   rfl
 have key:∃ vs' h',codeL P42 G42 A42 (K5a p (M ++ [cnX (X i)]) (hsL H) 0) 0 5 [] (nav S0a) l4a (v4A n X (rS M (hsL H)) ad us i (1+(X i).o.tmod 5) (1+(X i).a.tmod 4) (1+(X i).l) 0) (hA v c M H) lWa = some (.normal,vs',h')/\∃ w,Wk G42 A42 5 0 lWa vs' h' (w4A n X (rS M (hsL H)) (ad+(cnX (X i)).l) us i 0 0 (rS (M ++ [cnX (X i)]) (hsL H))) (hA w none (M ++ [cnX (X i)]) H):=by
  have e:=zAd n X M (M ++ [cnX (X i)]) (hsL H) (hsL H) ad us i (1+(X i).o.tmod 5) (1+(X i).a.tmod 4) (1+(X i).l) v c H 0 p
  rw [ew] at e
  simp only [Nat.zero_add] at e
  rw [show decF (p [stV M (hsL H),T.agg [T.int .i64 (1+(X i).a.tmod 4),T.int .i64 (1+(X i).l)]] (T.tup [stV (M ++ [cnX (X i)]) (hsL H),T.int .i64 0])) = true from callF_yes hp t13,cond_true,beq_self_eq_true,bleT (Nat.le_refl _)] at e
  simp only [Bool.and_self,cond_true] at e
  by_cases c0:M.length = 0
  ·rw [show (M.length==0) = true by simp [c0],cond_true] at e
   refine ⟨_,_,e,0,wkN _ _ _ _ _ _ _ _ _ (rS M (hsL H)) _ _ _ _ _ _ _ _ _ (by simp [c0]) fun j hj=>?_⟩
   obtain rfl:j = 0:=by omega
   rw [gd 0 (by omega),if_neg (by omega)]
   rfl
  ·rw [show (M.length==0) = false by simpa using c0,cond_false,bleT (show M.length * 17<=70368744177664 by omega),cond_true,bleF (show 0<M.length by omega),cond_false,bleT (show (M.length+1) * 17<=70368744177664 by omega),cond_true,bleF (show M.length<M.length+1 by omega),cond_false] at e
   refine ⟨_,_,e,1,wkN _ _ _ _ _ _ _ _ _ (rS M (hsL H)) _ _ _ _ _ _ _ _ _ (by simp) fun j hj=>?_⟩
   rw [gd j (by omega),bltD0]
   by_cases q:j<M.length
   ·rw [if_pos q,decide_eq_true q]; rfl
   ·obtain rfl:j = M.length:=by omega
    rw [if_neg q,decide_eq_false q,Nat.sub_self]
    rfl
 obtain ⟨vs',h',e,w,hw⟩:=key
 exact ⟨w,_,_,⟨q2,fun _=>⟨rfl,rfl⟩,fun h=>absurd rfl h⟩,Pz.post (Pz.run hm42 (told_add none_ok (callF_told hp)) (m:=0) (by kernel_rfl) loops0 e) hw⟩
theorem relA (hI:AInv M H i ad us) (hi:i<40) (hx:(X i).Ok):∃ E H' r1 r2,Out M H M H' i ad us E r1 r2 ∧
 P5 S0a l4a (v4A n X (rS M (hsL H)) ad us i (1+(X i).o.tmod 5) (1+(X i).a.tmod 4) (1+(X i).l) 3) (hA v c M H) .normal lWa (w4A n X (rS M (hsL H)) ad us i E E (rS r1 r2)) (hA v c M H'):=by
 obtain ⟨oo,a,b,l1,l2,o1,o2,a1,a2,b1,b2,m1,m2,m3,m4,eo,ea,el,hL⟩:=act_num hx
 rw [eo]
 obtain ⟨q1,q2,q3⟩:=hI.rel hi ⟨o1,o2⟩
 have t17:=releaseT M (hsL H) oo (by have:=hI.v.cl; omega) (by have:=hI.v.hl; omega)
 obtain ⟨p,hp⟩:=is_val P42 G42 17
 have ok:∀ c2 h2 E,OrcOk P42 G42 (K5r p c2 h2 E):=fun _ _ _=>told_add none_ok (callF_told hp)
 have z0:H oo 0 = 0:=hI.hg.out oo 0 (by omega)
 by_cases c0:∀ a,H oo a = 0
 ·obtain ⟨e1,e2⟩:=q1 c0
  rw [e1] at t17
  have t17:=t17.sim (.cons (simSt _ _) (.cons (.refl _) .nil))
  refine ⟨7,H,[],[],⟨hI.up hi,fun h=>absurd h (by decide),fun _=>⟨rfl,rfl,rfl,rfl⟩⟩,?_⟩
  have w:=wkU v c M H (zerH H oo) lWa (w4A n X (rS M (hsL H)) ad us i 7 7 (rS [] []))
  rw [e2] at w
  refine Pz.post (Pz.run hm42 (ok [] [] 7) (m:=0) (by kernel_rfl) loops0 ((zRe n X M [] (hsL H) [] ad us i (1+(X i).a.tmod 4) (1+(X i).l) v c H 7 p oo (five ⟨o1,o2⟩)).trans (bift (callF_yes hp t17) ?_))) w
  rw [e2]
  exact bift (decide_eq_true z0) (bift (decide_eq_true (c0 1)) (bift (decide_eq_true (c0 2)) (bift (decide_eq_true (c0 3)) (bift (decide_eq_true (c0 4)) rfl))))
 ·have e1:=q2 c0
  rw [e1] at t17
  have t17:=t17.sim (.cons (simSt _ _) (.cons (.refl _) .nil))
  refine ⟨0,zerH H oo,M,hsL (zerH H oo),⟨q3,fun _=>⟨rfl,rfl⟩,fun h=>absurd rfl h⟩,?_⟩
  refine Pz.post (Pz.run hm42 (ok M (hsL (zerH H oo)) 0) (m:=0) (by kernel_rfl) loops0 ((zRe n X M M (hsL H) (hsL (zerH H oo)) ad us i (1+(X i).a.tmod 4) (1+(X i).l) v c H 0 p oo (five ⟨o1,o2⟩)).trans (bift (callF_yes hp t17) ?_))) (wkU v c M H (zerH H oo) lWa _)
  have c1:¬ (H oo 1 = 0/\H oo 2 = 0/\H oo 3 = 0/\H oo 4 = 0):=fun h=>c0 fun a=>by
   by_cases r:1<=a/\a<=4
   ·rcases fourA r with rfl | rfl | rfl | rfl
    ·exact h.1
    ·exact h.2.1
    ·exact h.2.2.1
    ·exact h.2.2.2
   ·exact hI.hg.out oo a (by omega)
  refine bift (decide_eq_true z0) ?_
  by_cases d1:H oo 1 = 0
  ·refine bift (decide_eq_true d1) ?_
   by_cases d2:H oo 2 = 0
   ·refine bift (decide_eq_true d2) ?_
    by_cases d3:H oo 3 = 0
    ·refine bift (decide_eq_true d3) ?_
     exact biff (by rw [decide_eq_true_eq]; exact fun d4=>c1 ⟨d1,d2,d3,d4⟩) rfl
    ·exact biff (by rw [decide_eq_true_eq]; exact d3) rfl
   ·exact biff (by rw [decide_eq_true_eq]; exact d2) rfl
  ·exact biff (by rw [decide_eq_true_eq]; exact d1) rfl
theorem useA (hI:AInv M H i ad us) (hi:i<40) (hx:(X i).Ok) (hc:c = none ∨ M = []):∃ E M' H' us' r1 r2 X',Out M H M' H' i ad us' E r1 r2/\StM M' H' X' ∧
 P5 S0a l4a (v4A n X (rS M (hsL H)) ad us i (1+(X i).o.tmod 5) (1+(X i).a.tmod 4) (1+(X i).l) 4) (hA v c M H) .normal lWa (w4A n X (rS M (hsL H)) ad us' i E E (rS r1 r2)) X':=by
 obtain ⟨oo,a,b,l1,l2,o1,o2,a1,a2,b1,b2,m1,m2,m3,m4,eo,ea,el,hL⟩:=act_num hx
 rw [eo,ea,el]
 obtain ⟨cs2,hs2,kn,E,hU,t11⟩:=useT M (hsL H) oo a l1 (by have:=hI.v.cl; omega) (by have:=hI.v.hl; omega)
 have t11:=t11.sim (.cons (simSt _ _) (.cons (.refl _) (.cons (.refl _) (.cons (.refl _) .nil))))
 obtain ⟨p,hp⟩:=is_val P42 G42 11
 obtain ⟨q,hq⟩:=is_ref P42 G42 18
 have ok:∀ kn2 Y,OrcOk P42 G42 (K5u p q cs2 hs2 E kn kn2 Y):=fun _ _=>told_addRef (told_add none_ok (callF_told hp)) (refF_told hq)
 have eq:=fun kn2 Y=>zUs n X M cs2 (hsL H) hs2 ad us i l1 v c H E kn kn2 p q Y oo a (five ⟨o1,o2⟩) (fourA ⟨a1,a2⟩)
 have hb:=hI.hb oo a
 rcases hI.use hi ⟨o1,o2⟩ ⟨a1,a2⟩ ⟨m1,m2⟩ hU with ⟨h0,rfl,rfl,rfl⟩ | ⟨h0,h1,rfl,rfl,rfl⟩ | ⟨h1,hC,rfl,rfl⟩
 ·refine ⟨7,M,H,us,[],[],hA v c M H,⟨hI.up hi,fun h=>absurd h (by decide),fun _=>⟨rfl,rfl,rfl,rfl⟩⟩,.inl ⟨v,c,hc,rfl⟩,?_⟩
  exact Pz.run hm42 (ok 0 []) (m:=0) (by kernel_rfl) loops0 ((eq 0 []).trans (bift (callF_yes hp t11) (bift (decide_eq_true h0) rfl)))
 ·refine ⟨18,M,H,us,[],[],hA v c M H,⟨hI.up hi,fun h=>absurd h (by decide),fun _=>⟨rfl,rfl,rfl,rfl⟩⟩,.inl ⟨v,c,hc,rfl⟩,?_⟩
  exact Pz.run hm42 (ok 0 []) (m:=0) (by kernel_rfl) loops0 ((eq 0 []).trans (bift (callF_yes hp t11) (biff (by rw [decide_eq_true_eq]; exact h0) (bift (decide_eq_true h1) rfl))))
 ·have hfit:l1<=cnN M a:=by
   have:=hI.hs a a1 a2
   have:=(hSum_nn hI.hg oo a).2
   omega
  have hcut:=hI.cut hi ⟨o1,o2⟩ ⟨a1,a2⟩ m1 h1 hC
  obtain ⟨M2,kn2,Y,hC2,hY,t18⟩:=takeT M (updH H oo a (H oo a - l1)) v c hc a l1 (by have:=hI.ml; omega) ⟨by omega,by omega⟩ (fun d hd=>by have:=hI.mb d hd; omega) hfit
  obtain ⟨rfl,rfl⟩:=hC.unique hC2
  have w1:IntKind.i64.wrap (H oo a - l1) = H oo a - l1:=wr64 (by omega) (by omega)
  have hs:=hI.sum
  have c1:=hI.cn 1
  have c2:=hI.cn 2
  have c3:=hI.cn 3
  have c4:=hI.cn 4
  have hu:=hI.us0
  have hi0:=hI.i40
  have w2:IntKind.i64.wrap (us+l1) = us+l1:=wr64 (by omega) (by omega)
  have t18':ToldRef P42 G42 18 [.ptr 0 0 0 0,.int .i64 a,.int .i64 l1] [mU (.own 1 v 0 M.length c) H (updH H oo a (H oo a - l1)),cBl v M] (.int .i64 kn) Y:=t18.same (.cons ⟨rfl,rfl,rfl,id,fun j hj=>by
   obtain rfl:=one_of hj
   rfl⟩ (.cons ⟨rfl,rfl,rfl,id,fun _ _=>rfl⟩ .nil))
  refine ⟨0,cs2,updH H oo a (H oo a - l1),us+l1,cs2,hsL (updH H oo a (H oo a - l1)),Y,⟨hcut,fun _=>⟨rfl,rfl⟩,fun h=>absurd rfl h⟩,hY,?_⟩
  refine Pz.run hm42 (ok kn Y) (m:=0) (by kernel_rfl) loops0 ((eq kn Y).trans ?_)
  rw [w1,w2]
  exact bift (callF_yes hp t11) (biff (by rw [decide_eq_true_eq]; omega) (biff (by rw [decide_eq_true_eq]; omega) (bift (refF_yes hq t18') (biff (by simp) rfl))))
end
open Go.Proofs
def lAa:List Nat:=[0,3,4,5,6,7]
noncomputable def K5t (p20 p19 p10:List T->T->Prop) (cs:List Cne) (hs:List Hld) (b:Bool) (E:Int):Orc:=((noneO.add 20 (callF p20 fun _=>some (.agg [.new (cnV cs none),.new (hdV hs none)]))).add 19 (callF p19 fun _=>some (.bool b))).add 10 (callF p10 fun _=>some (.int .i64 E))
noncomputable def K5g (p q:List T->T->Prop) (fr:Int->Int):Orc:=(noneO.add 16 (callF p fun a=>some (.int .i64 (fr (argZ a))))).add 12 (callF q fun a=>some (.int .i64 (fr (argZ a))))
noncomputable def K5z:Orc:=noneO.add 9 fun a=>match a with | []=>.ret (.bool true) | _=>.none
def LP5:List Nat:=[0,2,1,2,2,2,2,2]
def LP66:List Nat:=[0,2,1,2,2,2,2,2,2,2,2] ++ BBa
theorem y66 (n:Nat) (X:Nat->Act) (M:List Cne) (hs:List Hld) (ad us i l:Int) (v:Nat) (c:Option Nat) (H:Nat->Nat->Int) (p q:List T->T->Prop) (fr:Int->Int) (k:Nat) (hk:k = 1 ∨ k = 2 ∨ k = 3 ∨ k = 4):codeL P42 G42 A42 (K5g p q fr) 8 5 [] (nav (0 :: LP66)) [0,3,4,5,6,7,23,24] (vA n X (rS M hs) ad us i ++ [.int .i64 l,.int .i64 k]) (hA v c M H) [0,3,4,5,6,7,23,24] =
 (bif decF (q [stV M hs,.int .i64 k] (.int .i64 (fr k))) then
  bif decF (p [.vp (mC (cnR v M c) H),.int .i64 k] (.int .i64 (fr k))) then
  bif !decide (fr k = fr k) then some (.ret,vA n X (rS M hs) ad us i ++ [.int .i64 l,.int .i64 k],hA v c M H)
  else bif decF (p [.vp (mC (cnR v M c) H),.int .i64 k] (.int .i64 (fr k))) then
  some (.normal,vA n X (rS M hs) ad us i ++ [.int .i64 (IntKind.i64.wrap (IntKind.i64.wrap (IntKind.i64.wrap (IntKind.i64.wrap (IntKind.i64.wrap (IntKind.i64.wrap (l+fr k)+H 1 k)+H 2 k)+H 3 k)+H 4 k)+H 5 k)),.int .i64 (k+1:Nat)],hA v c M H)
  else none
  else none
 else none):=by
 obtain rfl | rfl | rfl | rfl:=hk
 all_goals kernel_rfl
theorem y58 (n:Nat) (X:Nat->Act) (M r1:List Cne) (hs r2:List Hld) (ad us i E:Int) (h:Heap):codeL P42 G42 A42 noneO 0 5 [] (nav ([1,2,2,2,2] ++ BBa)) lWa (w4A n X (rS M hs) ad us i E E (rS r1 r2)) h [0,3,4,5,6,7,11,13] =
(
 bif !decide (E = E) then
 some ((.ret,[acV n X,.ptr 0 0 0 0,rS M hs,.int .i64 ad,.int .i64 us,.int .i64 i,.int .i64 E,rS r1 r2],h))
 else
 bif !decide (E = 0) then
 bif !decide (IntKind.i64.wrap (Int.ofNat r1.length+Int.ofNat r2.length) = (0:Int)) then
 some ((.ret,[acV n X,.ptr 0 0 0 0,rS M hs,.int .i64 ad,.int .i64 us,.int .i64 i,.int .i64 E,rS r1 r2],h))
 else
 some ((.normal,[acV n X,.ptr 0 0 0 0,rS M hs,.int .i64 ad,.int .i64 us,.int .i64 i,.int .i64 E,rS r1 r2],h))
 else
 some ((.normal,[acV n X,.ptr 0 0 0 0,rS M hs,.int .i64 ad,.int .i64 us,.int .i64 i,.int .i64 E,rS r1 r2],h))):=by kernel_rfl
theorem y60 (n:Nat) (X:Nat->Act) (M r1:List Cne) (hs r2:List Hld) (ad us i E:Int) (h:Heap):codeL P42 G42 A42 noneO 0 5 [] (nav ([1,2,2,2,2,2] ++ BBa)) [0,3,4,5,6,7,11,13] (vA n X (rS M hs) ad us i ++ [.int .i64 E,rS r1 r2]) h lAa =
(
 bif decide (E = 0) then
 some ((.normal,vA n X (rS r1 r2) ad us i,h))
 else
 some ((.normal,vA n X (rS M hs) ad us i,h))):=by kernel_rfl
theorem y62 (n:Nat) (X:Nat->Act) (M cs:List Cne) (hs hs2:List Hld) (ad us i:Int) (v:Nat) (c:Option Nat) (H:Nat->Nat->Int) (p20 p19 p10:List T->T->Prop) (b:Bool) (E:Int):codeL P42 G42 A42 (K5t p20 p19 p10 cs hs2 b E) 0 5 [] (nav ([1,2,2,2,2,2,2] ++ BBa)) lAa (vA n X (rS M hs) ad us i) (hA v c M H) lAa =
(
 bif decF (p20 [.vp (mC (bif v==v&&((0:Nat)+M.length).ble M.length then .view 2 M.length (fun j=>(M.getD ((0:Nat)+j) (Cne.mk (0:Int) (0:Int))).c) c
 else .undef) H)] (.agg [(cnV cs
 none).new,(hdV hs2
 none).new])) then
 bif decF (p19 [stV M hs,.agg (sA cs hs2
 none
 none)] (.bool b)) then
 bif b then
 bif decF (p10 [stV M hs] (.int .i64 E)) then
 bif !decide (E = 0) then
 some ((.ret,vA n X (rS M hs) ad us i,hA v c M H))
 else
 some ((.normal,vA n X (rS M hs) ad us i,hA v c M H))
 else none else
 bif decide (0<IntKind.i64.wrap (Int.ofNat M.length+Int.ofNat hs.length)) then
 some ((.ret,vA n X (rS M hs) ad us i,hA v c M H))
 else
 bif decF (p10 [stV M hs] (.int .i64 E)) then
 bif !decide (E = 0) then
 some ((.ret,vA n X (rS M hs) ad us i,hA v c M H))
 else
 some ((.normal,vA n X (rS M hs) ad us i,hA v c M H))
 else none else none else
 none):=by kernel_rfl
theorem y64 (n:Nat) (X:Nat->Act) (s:T) (ad us i:Int) (h:Heap):codeL P42 G42 A42 noneO 0 5 [] (nav ([1,2,2,2,2,2,2,2] ++ BBa)) lAa (vA n X s ad us i) h [0,3,4,5,6,7,23] =
(
 some ((.normal,[acV n X,.ptr 0 0 0 0,s,.int .i64 ad,.int .i64 us,.int .i64 i,.int .i64 0],h))):=by kernel_rfl
theorem y75 (n:Nat) (X:Nat->Act) (s:T) (ad us i l:Int) (h:Heap):codeL P42 G42 A42 noneO 0 5 [] (nav ([2,2,2,2,2,2,2,2,2] ++ BBa)) [0,3,4,5,6,7,23] (vA n X s ad us i ++ [.int .i64 l]) h lAa =
(
 bif !decide (IntKind.i64.wrap (l+us) = ad) then
 some ((.ret,vA n X s ad us i,h))
 else
 some ((.normal,vA n X s ad us i,h))):=by kernel_rfl
theorem y8 (n:Nat) (X:Nat->Act) (s:T) (ad us:Int) (i:Nat) (h:Heap):codeL P42 G42 A42 noneO 0 5 [] (nav ([2,2,0] ++ LP5)) lAa (vA n X s ad us i) h lAa =
(
 some ((.normal,vA n X s ad us (IntKind.i64.wrap (Int.ofNat i+1)),h))):=by kernel_rfl
theorem y7 (n:Nat) (X:Nat->Act) (s:T) (ad us:Int) (i:Nat) (h:Heap):codeL P42 G42 A42 noneO 0 5 [] (nav ([1,0] ++ LP5)) lAa (vA n X s ad us i) h lAa =
(
 bif decide (Int.ofNat i<Int.ofNat n) then
 some ((.normal,vA n X s ad us (Int.ofNat i),h))
 else
 some ((.exit 0,vA n X s ad us (Int.ofNat i),h))):=by kernel_rfl
theorem y7x (n:Nat) (X:Nat->Act) (s:T) (ad us:Int) (i:Nat) (h:Heap):codeL P42 G42 A42 noneO 0 5 [] (nav ([1,0] ++ LP5)) lAa (vA n X s ad us i) h [] =
(
 bif decide (Int.ofNat i<Int.ofNat n) then
 some ((.normal,[],h))
 else
 some ((.exit 0,[],h))):=by kernel_rfl
theorem y77 (h:Heap):codeL P42 G42 A42 K5z 0 5 [] (nav [2,2,2,2,2,2]) [] [] h [2] =
(
 some ((.ret,[.bool true],h))):=by kernel_rfl
theorem y0 (n:Nat) (X:Nat->Act):codeL P42 G42 A42 noneO 0 5 [] (nav [1]) [0] [acV n X] [] [0] =
(
 some ((.normal,[acV n X],[]))):=by kernel_rfl
theorem y1 (n:Nat) (X:Nat->Act):codeL P42 G42 A42 noneO 0 5 [] (nav [1,2]) [0] [acV n X] [] [0] =
(
 bif decide (40<Int.ofNat n) then none else
 some ((.normal,[acV n X],[]))):=by kernel_rfl
theorem y1z (n:Nat) (X:Nat->Act):stepV P42 G42 A42 K5z 0 5 [acV n X] =
(
 bif decide (40<Int.ofNat n) then
 some (.bool true)
 else
 none):=by kernel_rfl
theorem y3 (n:Nat) (X:Nat->Act):codeL P42 G42 A42 noneO 0 5 [] (nav [1,2,2]) [0] [acV n X] [] [0,3] =
(
 some ((.normal,[acV n X,.ptr 0 0 0 0],[.mk 0 31 1 (fun x=>[.nils,.int .i64 0,.int .i64 0,.int .i64 0,.int .i64 0,.int .i64 0,.int .i64 0,.int .i64 0,.int .i64 0,.int .i64 0,.int .i64 0,.int .i64 0,.int .i64 0,.int .i64 0,.int .i64 0,.int .i64 0,.int .i64 0,.int .i64 0,.int .i64 0,.int .i64 0,.int .i64 0,.int .i64 0,.int .i64 0,.int .i64 0,.int .i64 0,.int .i64 0,.int .i64 0,.int .i64 0,.int .i64 0,.int .i64 0,.int .i64 0]) false false
 none]))):=by kernel_rfl
theorem y4 (n:Nat) (X:Nat->Act) (h:Heap):codeL P42 G42 A42 noneO 0 5 [] (nav [1,2,2,2]) [0,3] [acV n X,.ptr 0 0 0 0] h [0,3,4] =
(
 some ((.normal,[acV n X,.ptr 0 0 0 0,.reg [.nils,.nils]],h))):=by kernel_rfl
theorem y5 (n:Nat) (X:Nat->Act) (s:T) (h:Heap):codeL P42 G42 A42 noneO 0 5 [] (nav [1,2,2,2,2]) [0,3,4] [acV n X,.ptr 0 0 0 0,s] h [0,3,4,5,6] =
(
 some ((.normal,[acV n X,.ptr 0 0 0 0,s,.int .i64 0,.int .i64 0],h))):=by kernel_rfl
theorem y6 (n:Nat) (X:Nat->Act) (s:T) (h:Heap):codeL P42 G42 A42 noneO 0 5 [] (nav [1,1,2,2,2,2,2]) [0,3,4,5,6] [acV n X,.ptr 0 0 0 0,s,.int .i64 0,.int .i64 0] h lAa =
(
 some ((.normal,vA n X s (0:Int) (0:Int) (0:Int),h))):=by kernel_rfl
theorem y66x (n:Nat) (X:Nat->Act) (s:T) (ad us i l:Int) (h:Heap):codeL P42 G42 A42 noneO 0 5 [] (nav ([1,0] ++ LP66)) [0,3,4,5,6,7,23,24] (vA n X s ad us i ++ [.int .i64 l,.int .i64 5]) h [0,3,4,5,6,7,23] =
(
 some ((.exit 10,[acV n X,.ptr 0 0 0 0,s,.int .i64 ad,.int .i64 us,.int .i64 i,.int .i64 l],h))):=by kernel_rfl
theorem y65 (n:Nat) (X:Nat->Act) (s:T) (ad us i l:Int) (h:Heap):codeL P42 G42 A42 noneO 0 5 [] (nav ([1,1,2,2,2,2,2,2,2,2] ++ BBa)) [0,3,4,5,6,7,23] (vA n X s ad us i ++ [.int .i64 l]) h [0,3,4,5,6,7,23,24] =
(
 some ((.normal,[acV n X,.ptr 0 0 0 0,s,.int .i64 ad,.int .i64 us,.int .i64 i,.int .i64 l,.int .i64 1],h))):=by kernel_rfl
open Go.Proofs
section
variable {n:Nat} {X:Nat->Act} {M:List Cne} {H:Nat->Nat->Int} {i:Nat} {ad us:Int} {v:Nat} {c:Option Nat}
theorem stM_A {X':Heap} (h:StM M H X') (s:T) (hs:List Hld) (cs:List Cne):∃ w c,(c = none ∨ M = [])/\Wk G42 A42 5 0 lAa (vA n X (rS cs hs) ad us i) X' (vA n X (rS cs hs) ad us i) (hA w c M H):=by
 rcases h with ⟨w,c,hc,rfl⟩ | ⟨w,c,u,L,hc,rfl⟩
 ·exact ⟨w,c,hc,fun nt=>.refl _ _⟩
 ·refine ⟨w,c,hc,fun nt=>.trans (.canon [0,2] rfl) ?_⟩
  refine .same (.cons ⟨rfl,rfl,rfl,(fun h=>by cases h),fun j hj=>?_⟩ (.cons ⟨rfl,rfl,rfl,id,fun _ _=>rfl⟩ .nil))
  obtain rfl:=one_of hj
  rfl
theorem actsA (hI:AInv M H i ad us) (hi:i<40) (hin:i<n) (hx:(X i).Ok) (hc:c = none ∨ M = []):∃ E M' H' ad' us' r1 r2 X',Out M H M' H' i ad' us' E r1 r2/\StM M' H' X' ∧
 P5 S0a l4a (v4A n X (rS M (hsL H)) ad us i (1+(X i).o.tmod 5) (1+(X i).a.tmod 4) (1+(X i).l) ((X i).w.tmod 5)) (hA v c M H) .normal lWa (w4A n X (rS M (hsL H)) ad' us' i E E (rS r1 r2)) X':=by
 have h5:=mod5 hx.w.1
 have:(X i).w.tmod 5 = 0 ∨ (X i).w.tmod 5 = 1 ∨ (X i).w.tmod 5 = 2 ∨ (X i).w.tmod 5 = 3 ∨ (X i).w.tmod 5 = 4:=by omega
 rcases this with e | e | e | e | e <;> rw [e]
 ·obtain ⟨w,r1,r2,q1,q2⟩:=addA (n:=n) (v:=v) (c:=c) hI hi hx
  exact ⟨0,_,H,_,us,r1,r2,_,⟨q1.inv,q1.ok,fun h=>absurd rfl h⟩,.inl ⟨w,none,.inl rfl,rfl⟩,q2⟩
 ·obtain ⟨E,H',r1,r2,q1,q2⟩:=resT (n:=n) (v:=v) (c:=c) hI hi hin hx (w:=1) (.inl rfl)
  exact ⟨E,M,H',ad,us,r1,r2,_,q1,.inl ⟨v,c,hc,rfl⟩,q2⟩
 ·obtain ⟨E,H',r1,r2,q1,q2⟩:=resT (n:=n) (v:=v) (c:=c) hI hi hin hx (w:=2) (.inr rfl)
  exact ⟨E,M,H',ad,us,r1,r2,_,q1,.inl ⟨v,c,hc,rfl⟩,q2⟩
 ·obtain ⟨E,H',r1,r2,q1,q2⟩:=relA (n:=n) (v:=v) (c:=c) hI hi hx
  exact ⟨E,M,H',ad,us,r1,r2,_,q1,.inl ⟨v,c,hc,rfl⟩,q2⟩
 ·obtain ⟨E,M',H',us',r1,r2,X',q1,q2,q3⟩:=useA (n:=n) (v:=v) (c:=c) hI hi hx hc
  exact ⟨E,M',H',ad,us',r1,r2,X',q1,q2,q3⟩
def lfS (M:List Cne):Nat->Int
 | 0=>0
 | k+1=>lfS M k+cnN M (k+1:Nat)
theorem lf66 (hI:AInv M H i ad us) (n:Nat) (X:Nat->Act) (z:Int):P5 ([1,2,2,2,2,2,2,2,2] ++ BBa) [0,3,4,5,6,7,23] (vA n X (rS M (hsL H)) ad us z ++ [.int .i64 0]) (hA v c M H) .normal [0,3,4,5,6,7,23] (vA n X (rS M (hsL H)) ad us z ++ [.int .i64 (lfS M 4)]) (hA v c M H):=by
 obtain ⟨p,hp⟩:=is_val P42 G42 16
 obtain ⟨q,hq⟩:=is_val P42 G42 12
 have t16:=fun k h1 h4=>freeT16 (v:=v) (c:=c) hI k h1 h4
 have t12:∀ k:Nat,1<=k->k<=4->ToldOk P42 G42 12 [stV M (hsL H),.int .i64 k] (.int .i64 (cnN M k - hSum H k)):=fun k h1 h4=>by
  have t:=freeOT M (hsL H) k (by have:=hI.v.cl; omega) (by have:=hI.v.hl; omega)
  unfold freeO at t
  rw [if_neg (by rw [ckE_iff.2 hI.v]; simp),hI.fr k h1 h4] at t
  exact t.sim (.cons (simSt _ _) (.cons (.refl _) .nil))
 have hlf:∀ k,k<=4->0<=lfS M k/\lfS M k<=20000 * k:=fun k=>by
  induction k with
  | zero=>intro _; exact ⟨Int.le_refl _,Int.le_refl _⟩
  | succ k ih =>
   intro hk
   have:=ih (by omega)
   have:=hI.cn (k+1:Nat)
   simp only [lfS]
   omega
 refine Pz.seq (by kernel_rfl) (p5 (y65 n X (rS M (hsL H)) ad us z 0 (hA v c M H))) (Pz.blk (id:=10) (e:=.exit 10) (by kernel_rfl) rfl ?_)
 refine Pz.count (P:=P42) (G:=G42) (A:=A42) (f:=5) (p:=LP66) (by kernel_rfl) (fun r=>vA n X (rS M (hsL H)) ad us z ++ [.int .i64 (lfS M r),.int .i64 (r+1:Nat)]) (fun _=>hA v c M H) (n:=4) (e:=.exit 10) (by simp) (fun r hr=>?_) ?_
 ·have hk:r+1 = 1 ∨ r+1 = 2 ∨ r+1 = 3 ∨ r+1 = 4:=by omega
  have t1:=t16 (r+1) (by omega) (by omega)
  have t2:=t12 (r+1) (by omega) (by omega)
  refine Pz.run hm42 (told_add (told_add none_ok (callF_told hp)) (callF_told hq)) (m:=8) (by kernel_rfl) loops0 ((y66 n X M (hsL H) ad us z (lfS M r) v c H p q (fun x=>cnN M x - hSum H x.toNat) (r+1) hk).trans ?_)
  show (bif decF (q [stV M (hsL H),.int .i64 (r+1:Nat)] (.int .i64 (cnN M (r+1:Nat) - hSum H (r+1)))) then _ else _) = _
  refine bift (callF_yes hq t2) (bift (callF_yes hp t1) (biff (by simp) (bift (callF_yes hp t1) ?_)))
  have b0:=hlf r (by omega)
  have b1:=hI.cn (r+1:Nat)
  have b2:=hI.hs (r+1) (by omega) (by omega)
  have b3:=(hSum_nn hI.hg 1 (r+1)).1
  have h1:=hI.hb 1 (r+1)
  have h2:=hI.hb 2 (r+1)
  have h3:=hI.hb 3 (r+1)
  have h4:=hI.hb 4 (r+1)
  have h5:=hI.hb 5 (r+1)
  have hS:hSum H (r+1) = H 1 (r+1)+H 2 (r+1)+H 3 (r+1)+H 4 (r+1)+H 5 (r+1):=rfl
  show some (Ex.normal,vA n X (rS M (hsL H)) ad us z ++ [T.int .i64 (IntKind.i64.wrap (IntKind.i64.wrap (IntKind.i64.wrap (IntKind.i64.wrap (IntKind.i64.wrap (IntKind.i64.wrap (lfS M r+(cnN M (r+1:Nat) - hSum H (r+1)))+H 1 (r+1))+H 2 (r+1))+H 3 (r+1))+H 4 (r+1))+H 5 (r+1))),T.int .i64 (r+1+1:Nat)],hA v c M H) = _
  have es:lfS M (r+1) = lfS M r+cnN M (r+1:Nat):=rfl
  generalize lfS M (r+1) = z1 at *
  generalize lfS M r = z0 at *
  generalize cnN M (r+1:Nat) = y at *
  generalize hSum H (r+1) = g at *
  generalize H 1 (r+1) = g1 at *
  generalize H 2 (r+1) = g2 at *
  generalize H 3 (r+1) = g3 at *
  generalize H 4 (r+1) = g4 at *
  generalize H 5 (r+1) = g5 at *
  rw [show IntKind.i64.wrap (z0+(y - g)) = z0+(y - g) from wr64 (by omega) (by omega),show IntKind.i64.wrap (z0+(y - g)+g1) = z0+(y - g)+g1 from wr64 (by omega) (by omega),show IntKind.i64.wrap (z0+(y - g)+g1+g2) = z0+(y - g)+g1+g2 from wr64 (by omega) (by omega),show IntKind.i64.wrap (z0+(y - g)+g1+g2+g3) = z0+(y - g)+g1+g2+g3 from wr64 (by omega) (by omega),show IntKind.i64.wrap (z0+(y - g)+g1+g2+g3+g4) = z0+(y - g)+g1+g2+g3+g4 from wr64 (by omega) (by omega),show IntKind.i64.wrap (z0+(y - g)+g1+g2+g3+g4+g5) = z1 by rw [wr64 (by omega) (by omega)]; omega]
 ·exact Pz.seqX (by kernel_rfl) (by simp) (p5 (y66x n X (rS M (hsL H)) ad us z (lfS M 4) (hA v c M H)))
theorem roundA (hI:AInv M H i ad us) (hi:i<40) (hin:i<n) (hx:(X i).Ok) (hc:c = none ∨ M = []):∃ M' H' ad' us' w c',AInv M' H' (i+1) ad' us'/\(c' = none ∨ M' = []) ∧
 P5 (0 :: LP5) lAa (vA n X (rS M (hsL H)) ad us i) (hA v c M H) .normal lAa (vA n X (rS M' (hsL H')) ad' us' (i+1:Nat)) (hA w c' M' H'):=by
 obtain ⟨E,M',H',ad',us',r1,r2,X',hO,hS,pS⟩:=actsA (n:=n) (v:=v) hI hi hin hx hc
 obtain ⟨w,c',hc',hw⟩:=stM_A (i:=i) (ad:=ad') (us:=us') (n:=n) (X:=X) hS (rS M' (hsL H')) (hsL H') M'
 have hI':=hO.inv
 refine ⟨M',H',ad',us',w,c',hI',hc',?_⟩
 have bi:decide (Int.ofNat i<Int.ofNat n) = true:=decide_eq_true (show (i:Int)<(n:Int) by omega)
 have bj:(decide ((0:Int)<=Int.ofNat i)&&decide (Int.ofNat i<Int.ofNat n)) = true:=by rw [bi,decide_eq_true (show (0:Int)<=Int.ofNat i from Int.natCast_nonneg _)]; rfl
 have o1:=mod5 hx.o.1
 have a1:=mod4 hx.a.1
 have l1:=hx.l
 have e1:IntKind.i64.wrap ((X i).o.tmod 5) = (X i).o.tmod 5:=wr64 (by omega) (by omega)
 have e2:IntKind.i64.wrap (1+(X i).o.tmod 5) = 1+(X i).o.tmod 5:=wr64 (by omega) (by omega)
 have e3:IntKind.i64.wrap ((X i).a.tmod 4) = (X i).a.tmod 4:=wr64 (by omega) (by omega)
 have e4:IntKind.i64.wrap (1+(X i).a.tmod 4) = 1+(X i).a.tmod 4:=wr64 (by omega) (by omega)
 have e5:IntKind.i64.wrap (X i).l = (X i).l:=wr64 (by omega) (by omega)
 have e6:IntKind.i64.wrap (1+(X i).l) = 1+(X i).l:=wr64 (by omega) (by omega)
 have k1:=z1 n X (rS M (hsL H)) ad us i (hA v c M H)
 rw [e1,e2,e3,e4,e5,e6] at k1
 have q1:P5 ([1] ++ BBa) lAa (vA n X (rS M (hsL H)) ad us i) (hA v c M H) .normal [0,3,4,5,6,7,8,9,10] (w4A n X (rS M (hsL H)) ad us i (1+(X i).o.tmod 5) (1+(X i).a.tmod 4) (.int .i64 (1+(X i).l))) (hA v c M H):=p5 (k1.trans (bift bj (bift bj (bift bj rfl))))
 have q2:=p5 (z2 n X (rS M (hsL H)) ad us i (1+(X i).o.tmod 5) (1+(X i).a.tmod 4) (.int .i64 (1+(X i).l)) (hA v c M H))
 have q3:=p5 (z3 n X M (hsL H) ad us i (1+(X i).o.tmod 5) (1+(X i).a.tmod 4) (1+(X i).l) (hA v c M H))
 have q4:P5 ([1,1,2,2,2] ++ BBa) [0,3,4,5,6,7,8,9,10,12,13] [acV n X,.ptr 0 0 0 0,rS M (hsL H),.int .i64 ad,.int .i64 us,.int .i64 i,.int .i64 (1+(X i).o.tmod 5),.int .i64 (1+(X i).a.tmod 4),.int .i64 (1+(X i).l),.int .i64 0,rS M (hsL H)] (hA v c M H) .normal l4a (v4A n X (rS M (hsL H)) ad us i (1+(X i).o.tmod 5) (1+(X i).a.tmod 4) (1+(X i).l) ((X i).w.tmod 5)) (hA v c M H) :=
  p5 ((z4 n X M (hsL H) ad us (1+(X i).o.tmod 5) (1+(X i).a.tmod 4) (1+(X i).l) i (hA v c M H)).trans (bift bj rfl))
 have q5:P5 ([1,2,2,2,2] ++ BBa) lWa (w4A n X (rS M (hsL H)) ad' us' i E E (rS r1 r2)) X' .normal [0,3,4,5,6,7,11,13] (vA n X (rS M (hsL H)) ad' us' i ++ [.int .i64 E,rS r1 r2]) X':=by
  refine p5 ((y58 n X M r1 (hsL H) r2 ad' us' i E X').trans (biff (by simp) ?_))
  by_cases q:E = 0
  ·exact biff (by simp [q]) rfl
  ·obtain ⟨rfl,rfl,_,_⟩:=hO.no q
   exact bift (by simp [q]) (biff (by simp; rfl) rfl)
 have q6:P5 ([1,2,2,2,2,2] ++ BBa) [0,3,4,5,6,7,11,13] (vA n X (rS M (hsL H)) ad' us' i ++ [.int .i64 E,rS r1 r2]) X' .normal lAa (vA n X (rS M' (hsL H')) ad' us' i) X':=by
  refine p5 ((y60 n X M r1 (hsL H) r2 ad' us' i E X').trans ?_)
  by_cases q:E = 0
  ·obtain ⟨rfl,rfl⟩:=hO.ok q
   exact bift (decide_eq_true q) rfl
  ·obtain ⟨_,_,rfl,rfl⟩:=hO.no q
   exact biff (by rw [decide_eq_true_eq]; exact q) rfl
 have q7:P5 ([1,2,2,2,2,2,2] ++ BBa) lAa (vA n X (rS M' (hsL H')) ad' us' i) (hA w c' M' H') .normal lAa (vA n X (rS M' (hsL H')) ad' us' i) (hA w c' M' H'):=by
  obtain ⟨p20,h20⟩:=is_val P42 G42 20
  obtain ⟨p19,h19⟩:=is_val P42 G42 19
  obtain ⟨p10,h10⟩:=is_val P42 G42 10
  have t20:=(stockT M' H' (by have:=hI'.ml; have:=hI'.i40; omega)).sim (.cons (simVp w M' c' H') .nil)
  have t19:=sameT M' M' (hsL H') (hsL H') (by have:=hI'.v.cl; omega) (by have:=hI'.v.hl; omega)
  rw [smB_iff.2 ⟨rfl,rfl⟩] at t19
  have t10:=checkT M' (hsL H') (by have:=hI'.v.cl; omega) (by have:=hI'.v.hl; omega)
  rw [ckE_iff.2 hI'.v] at t10
  have t10:=t10.sim (.cons (simSt _ _) .nil)
  exact Pz.run hm42 (told_add (told_add (told_add none_ok (callF_told h20)) (callF_told h19)) (callF_told h10)) (m:=0) (by kernel_rfl) loops0 ((y62 n X M' M' (hsL H') (hsL H') ad' us' i w c' H' p20 p19 p10 true 0).trans (bift (callF_yes h20 t20) (bift (callF_yes h19 t19) (bift rfl (bift (callF_yes h10 t10) (biff (by simp) rfl))))))
 have q8:=p5 (y64 n X (rS M' (hsL H')) ad' us' i (hA w c' M' H'))
 have q9:=lf66 (v:=w) (c:=c') hI' n X i
 have q10:P5 ([2,2,2,2,2,2,2,2,2] ++ BBa) [0,3,4,5,6,7,23] (vA n X (rS M' (hsL H')) ad' us' i ++ [.int .i64 (lfS M' 4)]) (hA w c' M' H') .normal lAa (vA n X (rS M' (hsL H')) ad' us' i) (hA w c' M' H'):=by
  refine p5 ((y75 n X (rS M' (hsL H')) ad' us' i (lfS M' 4) (hA w c' M' H')).trans ?_)
  have hs:lfS M' 4+us' = ad':=by
   have:=hI'.sum
   show 0+cnN M' 1+cnN M' 2+cnN M' 3+cnN M' 4+us' = ad'
   omega
  have hb:=hI'.us0
  have c1:=hI'.cn 1
  have c2:=hI'.cn 2
  have c3:=hI'.cn 3
  have c4:=hI'.cn 4
  have hsum:=hI'.sum
  rw [hs,wr64 (by omega) (by have:=hI'.i40; omega)]
  exact biff (by simp) rfl
 have q11:P5 ([2,2,0] ++ LP5) lAa (vA n X (rS M' (hsL H')) ad' us' i) (hA w c' M' H') .normal lAa (vA n X (rS M' (hsL H')) ad' us' (i+1:Nat)) (hA w c' M' H'):=by
  refine p5 ((y8 n X (rS M' (hsL H')) ad' us' i (hA w c' M' H')).trans ?_)
  rw [up1 (by omega)]
  rfl
 have q0:P5 ([1,0] ++ LP5) lAa (vA n X (rS M (hsL H)) ad us i) (hA v c M H) .normal lAa (vA n X (rS M (hsL H)) ad us i) (hA v c M H):=p5 ((y7 n X (rS M (hsL H)) ad us i (hA v c M H)).trans (bift bi rfl))
 have pB:P5 BBa lAa (vA n X (rS M (hsL H)) ad us i) (hA v c M H) .normal lAa (vA n X (rS M' (hsL H')) ad' us' i) (hA w c' M' H') :=
  Pz.seq (by kernel_rfl) q1 (Pz.seq (by kernel_rfl) q2 (Pz.seq (by kernel_rfl) q3 (Pz.seq (by kernel_rfl) (Pz.seq (by kernel_rfl) q4 (Pz.blk (id:=2) (by kernel_rfl) rfl pS)) (Pz.seq (by kernel_rfl) q5 (Pz.seq (by kernel_rfl) (Pz.post q6 hw) (Pz.seq (by kernel_rfl) q7 (Pz.seq (by kernel_rfl) q8 (Pz.seq (by kernel_rfl) q9 q10))))))))
 exact Pz.seq (by kernel_rfl) q0 (Pz.seq (by kernel_rfl) (Pz.blk (id:=1) (by kernel_rfl) rfl pB) q11)
end
theorem actsT (n:Nat) (X:Nat->Act) (hX:∀ j,j<n->(X j).Ok):ToldOk P42 G42 5 [acV n X] (.bool true):=by
 by_cases c1:40<n
 ·exact stepV_told hm42 hn42 (told_add none_ok one9B) (K:=K5z) (A:=A42) (m:=0) ((y1z n X).trans (BT rfl))
 obtain ⟨e,vs1,h1,⟨rfl,rfl⟩,hP⟩:=Pz.loop (P:=P42) (G:=G42) (A:=A42) (f:=5) (h0:=([]:Heap)) (p:=LP5) (l:=lAa) (l1:=[]) (by kernel_rfl)
  (fun m vs h=>∃ i M H ad us v c,i<=n/\m = n - i/\AInv M H i ad us/\(c = none ∨ M = [])/\vs = vA n X (rS M (hsL H)) ad us i/\h = hA v c M H)
  (fun e vs h=>e = .exit 0/\vs = [])
  (fun m vs h hI=>by
   obtain ⟨i,M,H,ad,us,v,c,hi,rfl,hA',hc,rfl,rfl⟩:=hI
   by_cases q:i<n
   ·obtain ⟨M',H',ad',us',w,c',r1,r2,r3⟩:=roundA (v:=v) hA' (by omega) q (hX i q) hc
    exact .inl ⟨n - (i+1),_,_,by omega,r3,i+1,M',H',ad',us',w,c',by omega,rfl,r1,r2,rfl,rfl⟩
   ·exact .inr ⟨.exit 0,[],hA v c M H,by simp,Pz.seqX (by kernel_rfl) (by simp) (p5 ((y7x n X (rS M (hsL H)) ad us i (hA v c M H)).trans (BF rfl))),rfl,rfl⟩)
  (n:=n - 0) (vs:=vA n X (rS [] (hsL fun _ _=>0)) 0 0 ((0:Nat):Int)) (h:=hA 0 none [] fun _ _=>0) ⟨0,[],_,0,0,0,none,Nat.zero_le _,rfl,.nil,.inl rfl,rfl,rfl⟩
 have gh:Wk G42 A42 5 0 lAa (vA n X (.reg [.nils,.nils]) 0 0 0) [mB .nils fun _ _=>0] (vA n X (rS [] (hsL fun _ _=>0)) 0 0 ((0:Nat):Int)) (hA 0 none [] fun _ _=>0):=fun nt=>by
  have e:hsL (fun _ _=>0) = []:=by decide
  rw [e]
  refine .trans (.slS (vs2:=vA n X (rS [] []) 0 0 0) (.cons (.refl _) (.cons (.refl _) (.cons (.inr (.inl ⟨_,_,rfl,rfl,.cons (.inr ⟨rfl,.nilv _ _ (.inr rfl),rfl⟩) (.cons (.inr ⟨rfl,.nilv _ _ (.inr rfl),rfl⟩) .nil)⟩)) (.cons (.refl _) (.cons (.refl _) (.cons (.refl _) .nil)))))) (.refl _)) ?_
  refine .gh [cBl 0 []] (fun b hb=>by simp at hb; subst hb; exact ⟨rfl,rfl⟩) (.cons (.refl _) (.cons (.refl _) (.cons (.refl _) (.cons (.refl _) (.cons (.refl _) (.cons (.refl _) .nil)))))) (.chg ⟨rfl,rfl,rfl,rfl⟩ rfl (fun j hj=>?_) (.refl _))
  exact .cons (.own (b:=cBl 0 []) (Nat.le_refl 1) rfl rfl) (.refl _)
 have b0:P5 [1,1,2,2,2,2,2] [0,3,4,5,6] [acV n X,.ptr 0 0 0 0,.reg [.nils,.nils],.int .i64 0,.int .i64 0] [mB .nils fun _ _=>0] .normal lAa (vA n X (.reg [.nils,.nils]) 0 0 0) [mB .nils fun _ _=>0]:=p5 (y6 n X (.reg [.nils,.nils]) _)
 have b1:P5 [1,2] [0] [acV n X] [] .normal [0] [acV n X] []:=p5 ((y1 n X).trans (BF rfl))
 have pz:P5 [2,2,2,2,2,2] [] [] h1 .ret [2] [.bool true] h1:=Pz.run hm42 (told_add none_ok one9B) (m:=0) (by kernel_rfl) loops0 (y77 h1)
 refine Pz.told hn42 Try.func5 (by kernel_rfl) (by kernel_rfl) rfl (Pz.seq (by kernel_rfl) (p5 (y0 n X)) (Pz.seq (by kernel_rfl) b1 (Pz.seq (by kernel_rfl) (p5 (y3 n X)) (Pz.seq (by kernel_rfl) (p5 (y4 n X _)) (Pz.seq (by kernel_rfl) (p5 (y5 n X _ _)) (Pz.seq (by kernel_rfl) (Pz.seq (by kernel_rfl) (Pz.post b0 gh) (Pz.blk (id:=0) (by kernel_rfl) rfl hP)) pz)))))) ?_
 kernel_rfl
end Go.Ab

