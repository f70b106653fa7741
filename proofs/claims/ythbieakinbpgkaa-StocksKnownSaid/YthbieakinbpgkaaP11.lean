/- A part of the proof: nothing is assumed. -/
import Derived.Test.YthbieakinbpgkaaP9
import Derived.Test.YthbieakinbpgkaaP10
import Derived.Test.YthbieakinbpgkaaP4
import Derived.Shelf.Spec.SlicesGrow
import Derived.Ground.Names8Prog
import Derived.Test.YthbieakinbpgkaaProg
set_option linter.all false
namespace Go.Ab
open Go.Proofs
structure Cne where
 (a l:Int)
structure Hld where
 (o a l:Int)
def Cne.c (x:Cne):List T:=[.int .i64 x.a,.int .i64 x.l]
def Hld.c (x:Hld):List T:=[.int .i64 x.o,.int .i64 x.a,.int .i64 x.l]
def cn0:Cne:=⟨0,0⟩
def hd0:Hld:=⟨0,0,0⟩
def cnV (l:List Cne) (c:Option Nat):T:=.view 2 l.length (fun j=>(l.getD j cn0).c) c
def hdV (l:List Hld) (c:Option Nat):T:=.view 3 l.length (fun j=>(l.getD j hd0).c) c
structure Sm where
 (has:List Int->Bool) (val:List Int->Int) (born:List Int->Nat) (clock:Nat)
def Sm.m (s:Sm):MapD:=⟨.int .i64,.i64,s.has,s.val,s.born,s.clock,none⟩
def putS (s:Sm) (a z:Int):Sm:=⟨fun l=>keq l [a] || s.has l,fun l=>bif keq l [a] then z else s.val l,fun l=>bif keq l [a] then bif s.has [a] then s.born [a] else s.clock else s.born l,bif s.has [a] then s.clock else s.clock+1⟩
def delS (s:Sm) (a z:Int):Sm:=⟨fun l=>!keq l [a]&&(keq l [a] || s.has l),fun l=>bif keq l [a] then 0 else bif keq l [a] then z else s.val l,fun l=>bif keq l [a] then bif s.has [a] then s.born [a] else s.clock else s.born l,bif s.has [a] then s.clock else s.clock+1⟩
def addS (s:Sm) (a l:Int):Sm:=if IntKind.i64.wrap (s.val [a]+l) = 0 then delS s a (IntKind.i64.wrap (s.val [a]+l)) else putS s a (IntKind.i64.wrap (s.val [a]+l))
noncomputable def K37 (p:List T->Heap->T->Heap->Prop) (v:Nat) (s:Sm):Orc:=noneO.addRef 37 (refF p fun _ _=>some (.tup [],[mapBlk v s.m]))
noncomputable def K23 (p:List T->Heap->T->Heap->Prop) (v:Nat) (s:Sm):Orc:=noneO.addRef 23 (refF p fun _ _=>some (.tup [],[mapBlk v s.m]))
def v23 (v:Nat) (hs:List Hld) (c:Option Nat) (i:Nat):List T:=[.mp 0 v,hdV hs c,.int .i64 hs.length,.int .i64 i]
def v22 (cs:List Cne) (hs:List Hld) (i:Nat):List T:=[.reg [cnV cs none,hdV hs none],.mp 0 0,cnV cs none,.int .i64 cs.length,.int .i64 i]
def smE:Sm:=⟨fun _=>false,fun _=>0,fun _=>0,0⟩
theorem k37 (s:Sm) (v:Nat) (a l:Int):stepR P42 G42 A42 noneO 0 37 [] [.mp 0 v,.int .i64 a,.int .i64 l] [mapBlk v s.m] =
(
 bif v==v then
 bif v==v then
 bif v==v then
 bif decide ((bif decide (a = a)&&true then IntKind.i64.wrap (s.val [a]+l)
 else s.val [a]) = (0:Int)) then
 bif v==v then
 some ((.tup [],[.mk v 0 0 (fun x=>[]) false false (some (MapD.mk (KS.int IntKind.i64) IntKind.i64 (fun l=>!keq l [a]&&(keq l [a] || s.has l)) (fun l_1 =>
 bif keq l_1 [a] then (0:Int)
 else
 bif keq l_1 [a] then IntKind.i64.wrap (s.val [a]+l)
 else s.val l_1) (fun l =>
 bif keq l [a] then
 bif s.has [a] then s.born [a]
 else s.clock
 else s.born l) (bif s.has [a] then s.clock
 else s.clock+1)
 none))]))
 else none else
 some ((.tup [],[.mk v 0 0 (fun x=>[]) false false (some (MapD.mk (KS.int IntKind.i64) IntKind.i64 (fun l=>keq l [a] || s.has l) (fun l_1 =>
 bif keq l_1 [a] then IntKind.i64.wrap (s.val [a]+l)
 else s.val l_1) (fun l =>
 bif keq l [a] then
 bif s.has [a] then s.born [a]
 else s.clock
 else s.born l) (bif s.has [a] then s.clock
 else s.clock+1)
 none))]))
 else none else none else
 none):=by kernel_rfl
theorem i23 (v:Nat) (hs:List Hld) (c:Option Nat) (i:Nat) (s s2:Sm) (p:List T->Heap->T->Heap->Prop):iterR P42 G42 A42 (K37 p v s2) 0 23 [] 1 (v23 v hs c i) [mapBlk v s.m] =
(
 bif decide (Int.ofNat i<Int.ofNat hs.length) then
 bif decide (0<=Int.ofNat i)&&decide (Int.ofNat i<Int.ofNat hs.length) then
 bif decF (p [T.mp (0:Nat) v,.int .i64 (hs.getD i (Hld.mk (0:Int) (0:Int) (0:Int))).a,.int .i64 (IntKind.i64.wrap ((0:Int) - (hs.getD i (Hld.mk (0:Int) (0:Int) (0:Int))).l))] [.mk v 0 0 (fun x=>[]) false false (some (MapD.mk (KS.int IntKind.i64) IntKind.i64 s.has s.val s.born s.clock
 none))] (.tup []) [.mk v 0 0 (fun x=>[]) false false (some (MapD.mk (KS.int IntKind.i64) IntKind.i64 s2.has s2.val s2.born s2.clock
 none))]) then
 some ((.normal,[T.mp (0:Nat) v,hdV hs c,.int .i64 (.ofNat hs.length),.int .i64 (IntKind.i64.wrap (Int.ofNat i+1))],[.mk v 0 0 (fun x=>[]) false false (some (MapD.mk (KS.int IntKind.i64) IntKind.i64 s2.has s2.val s2.born s2.clock
 none))]))
 else none else none else
 some ((.exit 0,[],[.mk v 0 0 (fun x=>[]) false false (some (MapD.mk (KS.int IntKind.i64) IntKind.i64 s.has s.val s.born s.clock
 none))]))):=by kernel_rfl
theorem k23 (v:Nat) (hs:List Hld) (c:Option Nat) (s s2:Sm):stepR P42 G42 A42 noneO 0 23 [(1,litS (v23 v hs c 0) [mapBlk v s.m] (.exit 0) [] [mapBlk v s2.m])] [.mp 0 v,hdV hs c] [mapBlk v s.m] =
(
 bif weakF (v23 v hs c (nat_lit 0)) [.mk v 0 0 (fun x=>[]) false false (some (MapD.mk (KS.int IntKind.i64) IntKind.i64 s.has s.val s.born s.clock
 none))] (v23 v hs c (nat_lit 0)) [.mk v 0 0 (fun x=>[]) false false (some (MapD.mk (KS.int IntKind.i64) IntKind.i64 s.has s.val s.born s.clock
 none))] then
 some ((.tup [],[.mk v 0 0 (fun x=>[]) false false (some (MapD.mk (KS.int IntKind.i64) IntKind.i64 s2.has s2.val s2.born s2.clock
 none))]))
 else
 none):=by kernel_rfl
theorem i22 (cs:List Cne) (hs:List Hld) (i:Nat) (s s2:Sm) (p:List T->Heap->T->Heap->Prop):iterR P42 G42 A42 (K37 p 0 s2) 0 22 [] 3 (v22 cs hs i) [mapBlk 0 s.m] =
(
 bif decide (Int.ofNat i<Int.ofNat cs.length) then
 bif decide (0<=Int.ofNat i)&&decide (Int.ofNat i<Int.ofNat cs.length) then
 bif decF (p (T.mp (0:Nat) (0:Nat) :: (cs.getD i (Cne.mk (0:Int) (0:Int))).c) [.mk 0 0 0 (fun x=>[]) false false (some (MapD.mk (KS.int IntKind.i64) IntKind.i64 s.has s.val s.born s.clock
 none))] (.tup []) [.mk 0 0 0 (fun x=>[]) false false (some (MapD.mk (KS.int IntKind.i64) IntKind.i64 s2.has s2.val s2.born s2.clock
 none))]) then
 some ((.normal,[.reg [cnV cs
 none,hdV hs
 none],T.mp (0:Nat) (0:Nat),cnV cs
 none,.int .i64 (.ofNat cs.length),.int .i64 (IntKind.i64.wrap (Int.ofNat i+1))],[.mk 0 0 0 (fun x=>[]) false false (some (MapD.mk (KS.int IntKind.i64) IntKind.i64 s2.has s2.val s2.born s2.clock
 none))]))
 else none else none else
 some ((.exit 0,[.reg [cnV cs
 none,hdV hs
 none],T.mp (0:Nat) (0:Nat)],[.mk 0 0 0 (fun x=>[]) false false (some (MapD.mk (KS.int IntKind.i64) IntKind.i64 s.has s.val s.born s.clock
 none))]))):=by kernel_rfl
theorem k22 (cs:List Cne) (hs:List Hld) (s s2:Sm) (p:List T->Heap->T->Heap->Prop):stepL P42 G42 A42 (K23 p 0 s2) 0 22 [(3,litS (v22 cs hs 0) [mapBlk 0 smE.m] (.exit 0) [.reg [cnV cs none,hdV hs none],.mp 0 0] [mapBlk 0 s.m])] [.agg [cnV cs none,hdV hs none]] =
(
 bif weakF (v22 cs hs (nat_lit 0)) [.mk 0 0 0 (fun x=>[]) false false (some (MapD.mk (KS.int IntKind.i64) IntKind.i64 (fun x=>false) (fun x=>(0:Int)) (fun x=>(0:Nat)) (0:Nat)
 none))] (v22 cs hs (nat_lit 0)) [.mk 0 0 0 (fun x=>[]) false false (some (MapD.mk (KS.int IntKind.i64) IntKind.i64 (fun x=>false) (fun x=>(0:Int)) (fun x=>(0:Nat)) (0:Nat)
 none))] then
 bif decF (p [T.mp (0:Nat) (0:Nat),hdV hs
 none] [.mk 0 0 0 (fun x=>[]) false false (some (MapD.mk (KS.int IntKind.i64) IntKind.i64 s.has s.val s.born s.clock
 none))] (.tup []) [.mk 0 0 0 (fun x=>[]) false false (some (MapD.mk (KS.int IntKind.i64) IntKind.i64 s2.has s2.val s2.born s2.clock
 none))]) then
 some (T.freshm (MapD.mk (KS.int IntKind.i64) IntKind.i64 s2.has s2.val s2.born s2.clock
 none))
 else none else
 none):=by kernel_rfl
theorem addR (s:Sm) (v:Nat) (a l:Int):ToldRef P42 G42 37 [.mp 0 v,.int .i64 a,.int .i64 l] [mapBlk v s.m] (.tup []) [mapBlk v (addS s a l).m]:=by
 refine stepR_told hm42 hn42 none_ok (A:=A42) (m:=0) (by kernel_rfl) loops0 ?_
 rw [k37]
 refine BT (BT (BT ?_ (by simp)) (by simp)) (by simp)
 unfold addS
 have e:(bif decide (a = a)&&true then IntKind.i64.wrap (s.val [a]+l) else s.val [a]) = IntKind.i64.wrap (s.val [a]+l):=by simp
 rw [e]
 by_cases q:IntKind.i64.wrap (s.val [a]+l) = 0
 ·rw [if_pos q,dT q]
  exact bift rfl (BT rfl (by simp))
 ·rw [if_neg q,dF q]
  rfl
def takeS (s:Sm) (hs:List Hld):Nat->Sm
 | 0=>s
 | i+1=>addS (takeS s hs i) (hs.getD i hd0).a (IntKind.i64.wrap (0 - (hs.getD i hd0).l))
def putC (cs:List Cne):Nat->Sm
 | 0=>smE
 | i+1=>addS (putC cs i) (cs.getD i cn0).a (cs.getD i cn0).l
def freeS (cs:List Cne) (hs:List Hld):Sm:=takeS (putC cs cs.length) hs hs.length
theorem takeR (s:Sm) (v:Nat) (hs:List Hld) (c:Option Nat) (hn:hs.length<=1000000):ToldRef P42 G42 23 [.mp 0 v,hdV hs c] [mapBlk v s.m] (.tup []) [mapBlk v (takeS s hs hs.length).m]:=by
 obtain ⟨p,hp⟩:=is_ref P42 G42 37
 have l1:LoopOk P42 G42 (A42 23) 23 1 (litS (v23 v hs c 0) [mapBlk v s.m] (.exit 0) [] [mapBlk v (takeS s hs hs.length).m]):=by
  refine loop_steps hm42 (by kernel_rfl) (fun i=>v23 v hs c i) (fun i=>[mapBlk v (takeS s hs i).m]) (n:=hs.length) (fun i hi=>?_) ?_
  ·have t:=addR (takeS s hs i) v (hs.getD i hd0).a (IntKind.i64.wrap (0 - (hs.getD i hd0).l))
   refine Step.mk0 (A:=A42) (m:=0) (K:=K37 p v (takeS s hs (i+1))) (told_addRef none_ok (refF_told hp)) rfl rfl loops0 (h1:=[mapBlk v (takeS s hs (i+1)).m]) ?_ (.refl _)
   rw [i23,up1 (by omega)]
   exact BT (BT (bift (refF_yes hp t) rfl))
  ·refine Last.mk0 (A:=A42) (m:=0) (K:=K37 p v s) (told_addRef none_ok (refF_told hp)) rfl rfl loops0 (h1:=[mapBlk v (takeS s hs hs.length).m]) (by simp) ?_ (.refl _)
   rw [i23]
   exact BF rfl
 refine stepR_told hm42 hn42 none_ok (A:=A42) (m:=0) (by kernel_rfl) (loops1 l1) ?_
 rw [k23]
 exact bift (weakF_of ⟨rfl,.refl _⟩) rfl
theorem freeT (cs:List Cne) (hs:List Hld) (h1:cs.length<=1000000) (h2:hs.length<=1000000):ToldOk P42 G42 22 [.agg [cnV cs none,hdV hs none]] (.freshm (freeS cs hs).m):=by
 obtain ⟨p,hp⟩:=is_ref P42 G42 37
 obtain ⟨q,hq⟩:=is_ref P42 G42 23
 have l1:LoopOk P42 G42 (A42 22) 22 3 (litS (v22 cs hs 0) [mapBlk 0 smE.m] (.exit 0) [.reg [cnV cs none,hdV hs none],.mp 0 0] [mapBlk 0 (putC cs cs.length).m]):=by
  refine loop_steps hm42 (by kernel_rfl) (fun i=>v22 cs hs i) (fun i=>[mapBlk 0 (putC cs i).m]) (n:=cs.length) (fun i hi=>?_) ?_
  ·have t:=addR (putC cs i) 0 (cs.getD i cn0).a (cs.getD i cn0).l
   refine Step.mk0 (A:=A42) (m:=0) (K:=K37 p 0 (putC cs (i+1))) (told_addRef none_ok (refF_told hp)) rfl rfl loops0 (h1:=[mapBlk 0 (putC cs (i+1)).m]) ?_ (.refl _)
   rw [i22,up1 (by omega)]
   exact BT (BT (bift (refF_yes hp t) rfl))
  ·refine Last.mk0 (A:=A42) (m:=0) (K:=K37 p 0 smE) (told_addRef none_ok (refF_told hp)) rfl rfl loops0 (h1:=[mapBlk 0 (putC cs cs.length).m]) (by simp) ?_ (.refl _)
   rw [i22]
   exact BF rfl
 have t:=takeR (putC cs cs.length) 0 hs none h2
 refine stepL_told hm42 hn42 (told_addRef none_ok (refF_told hq)) (K:=K23 q 0 (freeS cs hs)) (A:=A42) (m:=0) (by kernel_rfl) (loops1 l1) ?_
 rw [k22]
 refine bift (weakF_of ⟨rfl,.refl _⟩) (bift (refF_yes hq t) ?_)
 rfl
open Go.Proofs
def cmpIF (a b:Int):Int:=if a<b then -1 else if b<a then 1 else 0
def cmpH (x y:Hld):Int:=if cmpIF x.o y.o ≠ 0 then cmpIF x.o y.o else cmpIF x.a y.a
def cvB (x:Cne):Bool:=decide (1<=x.a)&&decide (x.a<=1000)&&decide (1<=x.l)&&decide (x.l<=1000000000)
def hvB (x:Hld):Bool:=decide (1<=x.o)&&decide (x.o<=100000)&&cvB ⟨x.a,x.l⟩
noncomputable def K21 (p:List T->T->Prop) (b:Bool):Orc:=noneO.add 28 (callF p fun _=>some (.bool b))
noncomputable def K43 (p:List T->T->Prop):Orc:=noneO.add 51 (callF p fun _=>some (.bool false))
noncomputable def K29 (p q:List T->T->Prop) (z:Int):Orc:=(noneO.add 42 (callF p fun _=>some (.int .i64 z))).add 43 (callF q fun l=>match l with | [.int _ a,.int _ b]=>some (.int .i64 (cmpIF a b)) | _=>none)
theorem k28 (x:Cne):stepV P42 G42 A42 noneO 0 28 [.agg x.c] =
(
 bif decide (1<=x.a) then
 bif decide (x.a<=1000) then
 bif decide (1<=x.l) then
 bif decide (x.l<=1000000000) then
 some (.bool true)
 else
 some (.bool false)
 else
 some (.bool false)
 else
 some (.bool false)
 else
 some (.bool false)):=by kernel_rfl
theorem k21 (x:Hld) (b:Bool) (p:List T->T->Prop):stepV P42 G42 A42 (K21 p b) 0 21 [.agg x.c] =
(
 bif decide (1<=x.o) then
 bif decide (x.o<=100000) then
 bif decF (p [.agg [.int .i64 x.a,.int .i64 x.l]] (.bool b)) then
 bif b then
 some (.bool true)
 else
 some (.bool false)
 else none else
 some (.bool false)
 else
 some (.bool false)):=by kernel_rfl
theorem k51 (a:Int):stepV P42 G42 A42 noneO 0 51 [.int .i64 a] =
(
 bif !decide (a = a) then
 some (.bool true)
 else
 some (.bool false)):=by kernel_rfl
theorem k43 (a b:Int) (p:List T->T->Prop):stepV P42 G42 A42 (K43 p) 0 43 [.int .i64 a,.int .i64 b] =
(
 bif decF (p [.int .i64 a] (.bool false)) then
 bif decF (p [.int .i64 b] (.bool false)) then
 bif decide (a<b) then
 some (.int .i64 (-1:Int))
 else
 bif decide (b<a) then
 some (.int .i64 1)
 else
 some (.int .i64 0)
 else none else
 none):=by kernel_rfl
theorem k42 (x y:Int) (f:Nat->List T):stepV P42 G42 A42 noneO 3 42 [.view 1 2 (fun j=>[[.int .i64 x],[.int .i64 y]].getD j []) none] =
(
 bif !decide (x = 0) then
 some (.int .i64 x)
 else
 bif !decide (y = 0) then
 some (.int .i64 y)
 else
 some (.int .i64 0)):=by kernel_rfl
theorem k29 (x y:Hld) (z:Int) (p q:List T->T->Prop):stepV P42 G42 A42 (K29 p q z) 0 29 [.agg x.c,.agg y.c] =
(
 bif decF (q [.int .i64 x.o,.int .i64 y.o] (.int .i64 (cmpIF x.o y.o))) then
 bif decF (q [.int .i64 x.a,.int .i64 y.a] (.int .i64 (cmpIF x.a y.a))) then
 bif decF (p [.view 1 2 (fun j=>[[T.int .i64 (cmpIF x.o y.o)],[T.int .i64 (cmpIF x.a y.a)]].getD j []) (some 2)] (.int .i64 z)) then
 some (.int .i64 z)
 else none else none else
 none):=by kernel_rfl
theorem cvT (x:Cne):ToldOk P42 G42 28 [.agg x.c] (.bool (cvB x)):=by
 refine stepV_told hm42 hn42 none_ok (A:=A42) (m:=0) ?_
 rw [k28]
 unfold cvB
 cases decide (1<=x.a) <;> cases decide (x.a<=1000) <;> cases decide (1<=x.l) <;> cases decide (x.l<=1000000000) <;> rfl
theorem hvT (x:Hld):ToldOk P42 G42 21 [.agg x.c] (.bool (hvB x)):=by
 obtain ⟨p,hp⟩:=is_val P42 G42 28
 have t:=cvT ⟨x.a,x.l⟩
 refine stepV_told hm42 hn42 (told_add none_ok (callF_told hp)) (K:=K21 p (cvB ⟨x.a,x.l⟩)) (A:=A42) (m:=0) ?_
 rw [k21]
 unfold hvB
 cases h1:decide (1<=x.o)
 ·rfl
 cases h2:decide (x.o<=100000)
 ·rfl
 rw [cond_true,cond_true]
 refine bift (callF_yes hp t) ?_
 cases cvB ⟨x.a,x.l⟩ <;> rfl
theorem nanT (a:Int):ToldOk P42 G42 51 [.int .i64 a] (.bool false):=by
 refine stepV_told hm42 hn42 none_ok (A:=A42) (m:=0) ?_
 rw [k51]
 exact biff (by simp) rfl
theorem cmpT (a b:Int):ToldOk P42 G42 43 [.int .i64 a,.int .i64 b] (.int .i64 (cmpIF a b)):=by
 obtain ⟨p,hp⟩:=is_val P42 G42 51
 refine stepV_told hm42 hn42 (told_add none_ok (callF_told hp)) (K:=K43 p) (A:=A42) (m:=0) ?_
 rw [k43]
 refine bift (callF_yes hp (nanT a)) (bift (callF_yes hp (nanT b)) ?_)
 unfold cmpIF
 by_cases h1:a<b
 ·rw [dT h1,if_pos h1]; rfl
 ·rw [dF h1,if_neg h1]
  by_cases h2:b<a
  ·rw [dT h2,if_pos h2]; rfl
  ·rw [dF h2,if_neg h2]; rfl
theorem orT (x y:Int) (c:Option Nat):ToldOk P42 G42 42 [.view 1 2 (fun j=>[[.int .i64 x],[.int .i64 y]].getD j []) c] (.int .i64 (if x ≠ 0 then x else y)):=by
 have t:ToldOk P42 G42 42 [.view 1 2 (fun j=>[[.int .i64 x],[.int .i64 y]].getD j []) none] (.int .i64 (if x ≠ 0 then x else y)):=by
  refine stepV_told hm42 hn42 none_ok (A:=A42) (m:=3) ?_
  rw [k42 x y (fun _=>[])]
  by_cases h1:x = 0
  ·rw [dT h1,if_neg (by simpa using h1)]
   refine biff (by simp) ?_
   by_cases h2:y = 0
   ·rw [dT h2,h2]; rfl
   ·rw [dF h2]; rfl
  ·rw [dF h1,if_pos h1]
   rfl
 exact t.sim (.cons (.view (.inr rfl) fun j _=>.refl _) (.refl _))
theorem cmpHT (x y:Hld):ToldOk P42 G42 29 [.agg x.c,.agg y.c] (.int .i64 (cmpH x y)):=by
 obtain ⟨p,hp⟩:=is_val P42 G42 42
 obtain ⟨q,hq⟩:=is_val P42 G42 43
 have t:=orT (cmpIF x.o y.o) (cmpIF x.a y.a) (some 2)
 refine stepV_told hm42 hn42 (told_add (told_add none_ok (callF_told hp)) (callF_told hq)) (K:=K29 p q (cmpH x y)) (A:=A42) (m:=0) ?_
 rw [k29]
 exact bift (callF_yes hq (cmpT _ _)) (bift (callF_yes hq (cmpT _ _)) (bift (callF_yes hp t) rfl))
def cnN:List Cne->Int->Int
 | [],_=>0
 | c :: r,x=>(if c.a = x then c.l else 0)+cnN r x
def hdN:List Hld->Int->Int
 | [],_=>0
 | c :: r,x=>(if c.a = x then c.l else 0)+hdN r x
theorem cnN_app (l m:List Cne) (x:Int):cnN (l ++ m) x = cnN l x+cnN m x:=by
 induction l with
 | nil=>simp [cnN]
 | cons c l ih=>simp only [List.cons_append,cnN,ih]; omega
theorem hdN_app (l m:List Hld) (x:Int):hdN (l ++ m) x = hdN l x+hdN m x:=by
 induction l with
 | nil=>simp [hdN]
 | cons c l ih=>simp only [List.cons_append,hdN,ih]; omega
theorem cnN_bd (l:List Cne) (h:∀ c,c ∈ l->0<=c.l/\c.l<=1000000000) (x:Int):0<=cnN l x/\cnN l x<=1000000000 * l.length:=by
 induction l with
 | nil=>simp [cnN]
 | cons c l ih =>
  have h1:=ih fun c hc=>h c (by simp [hc])
  have h2:=h c (by simp)
  simp only [cnN,List.length_cons]
  split <;> omega
theorem hdN_bd (l:List Hld) (h:∀ c,c ∈ l->0<=c.l/\c.l<=1000000000) (x:Int):0<=hdN l x/\hdN l x<=1000000000 * l.length:=by
 induction l with
 | nil=>simp [hdN]
 | cons c l ih =>
  have h1:=ih fun c hc=>h c (by simp [hc])
  have h2:=h c (by simp)
  simp only [hdN,List.length_cons]
  split <;> omega
structure Rep (s:Sm) (S:Int->Int) (k:Nat):Prop where
 val:∀ x,s.val [x] = S x
 has:∀ x,s.has [x] = decide (S x ≠ 0)
 clock:s.clock<=k
theorem keq1 (x a:Int):keq [x] [a] = decide (x = a):=by simp [keq]
theorem Rep.add {s:Sm} {S:Int->Int} {k:Nat} (h:Rep s S k) {a l:Int} (hb:-9223372036854775808<=S a+l/\S a+l<=9223372036854775807):Rep (addS s a l) (fun x=>if x = a then S x+l else S x) (k+1):=by
 have hw:IntKind.i64.wrap (s.val [a]+l) = S a+l:=by rw [h.val,wr64 hb.1 hb.2]
 have hc:=h.clock
 unfold addS
 rw [hw]
 by_cases q:S a+l = 0
 ·rw [if_pos q]
  refine ⟨fun x=>?_,fun x=>?_,?_⟩
  ·simp only [delS,keq1]
   by_cases e:x = a
   ·subst e; simp [q]
   ·simp [e,h.val]
  ·simp only [delS,keq1]
   by_cases e:x = a
   ·subst e; simp [q]
   ·simp [e,h.has]
  ·simp only [delS]
   cases s.has [a] <;> simp <;> omega
 ·rw [if_neg q]
  refine ⟨fun x=>?_,fun x=>?_,?_⟩
  ·simp only [putS,keq1]
   by_cases e:x = a
   ·subst e; simp
   ·simp [e,h.val]
  ·simp only [putS,keq1]
   by_cases e:x = a
   ·subst e; simp [q]
   ·simp [e,h.has]
  ·simp only [putS]
   cases s.has [a] <;> simp <;> omega
theorem Rep.cong {s:Sm} {S S2:Int->Int} {k k2:Nat} (h:Rep s S k) (hS:∀ x,S x = S2 x) (hk:k<=k2):Rep s S2 k2 :=
 ⟨fun x=>(h.val x).trans (hS x),fun x=>by rw [h.has x,hS x],Nat.le_trans h.clock hk⟩
theorem mem_getD {α:Type} {l:List α} {i:Nat} (h:i<l.length) (d:α):l.getD i d ∈ l:=by
 rw [List.getD_eq_getElem?_getD,List.getElem?_eq_getElem h]
 exact List.getElem_mem h
theorem take_one {α:Type} {l:List α} {i:Nat} (h:i<l.length) (d:α):l.take (i+1) = l.take i ++ [l.getD i d]:=by
 rw [List.take_succ,List.getD_eq_getElem?_getD,List.getElem?_eq_getElem h]
 rfl
theorem putC_rep (cs:List Cne) (h:∀ c,c ∈ cs->0<=c.l/\c.l<=1000000000) (hn:cs.length<=1000000):∀ i,i<=cs.length->Rep (putC cs i) (cnN (cs.take i)) i
 | 0,_=>⟨fun _=>rfl,fun _=>rfl,Nat.le_refl _⟩
 | i+1,hi=>by
  have ih:=putC_rep cs h hn i (by omega)
  have e:=take_one (l:=cs) (i:=i) (by omega) cn0
  have hb:=cnN_bd (cs.take i) (fun c hc=>h c (List.mem_of_mem_take hc)) (cs.getD i cn0).a
  have hc:=h _ (mem_getD (l:=cs) (i:=i) (by omega) cn0)
  have hl:(cs.take i).length<=1000000:=by simp; omega
  refine (ih.add (a:=(cs.getD i cn0).a) (l:=(cs.getD i cn0).l) (by omega)).cong (fun x=>?_) (Nat.le_refl _)
  rw [e,cnN_app]
  simp only [cnN]
  by_cases q:x = (cs.getD i cn0).a
  ·rw [if_pos q,if_pos q.symm]; omega
  ·rw [if_neg q,if_neg (fun e=>q e.symm)]; omega
theorem takeS_rep {s:Sm} {S:Int->Int} {k:Nat} (hs:List Hld) (hr:Rep s S k) (hS:∀ x,-1000000000000000000<=S x/\S x<=1000000000000000000) (h:∀ c,c ∈ hs->0<=c.l/\c.l<=1000000000) (hn:hs.length<=1000000):∀ i,i<=hs.length->Rep (takeS s hs i) (fun x=>S x - hdN (hs.take i) x) (k+i)
 | 0,_=>hr.cong (fun x=>by simp [hdN]) (by omega)
 | i+1,hi=>by
  have ih:=takeS_rep hs hr hS h hn i (by omega)
  have e:=take_one (l:=hs) (i:=i) (by omega) hd0
  have hb:=hdN_bd (hs.take i) (fun c hc=>h c (List.mem_of_mem_take hc)) (hs.getD i hd0).a
  have hc:=h _ (mem_getD (l:=hs) (i:=i) (by omega) hd0)
  have hl:(hs.take i).length<=1000000:=by simp; omega
  have hx:=hS (hs.getD i hd0).a
  have hw:IntKind.i64.wrap (0 - (hs.getD i hd0).l) = 0 - (hs.getD i hd0).l:=wr64 (by omega) (by omega)
  simp only [takeS]
  rw [hw]
  refine (ih.add (a:=(hs.getD i hd0).a) (l:=0 - (hs.getD i hd0).l) (by omega)).cong (fun x=>?_) (by omega)
  rw [e,hdN_app]
  simp only [hdN]
  by_cases q:x = (hs.getD i hd0).a
  ·rw [if_pos q,if_pos q.symm]; omega
  ·rw [if_neg q,if_neg (fun e=>q e.symm)]; omega
def frF (cs:List Cne) (hs:List Hld) (x:Int):Int:=cnN cs x - hdN hs x
theorem freeS_rep (cs:List Cne) (hs:List Hld) (h1:∀ c,c ∈ cs->0<=c.l/\c.l<=1000000000) (h2:∀ c,c ∈ hs->0<=c.l/\c.l<=1000000000) (n1:cs.length<=1000000) (n2:hs.length<=1000000):Rep (freeS cs hs) (frF cs hs) (cs.length+hs.length):=by
 have r1:=putC_rep cs h1 n1 cs.length (Nat.le_refl _)
 rw [List.take_length] at r1
 have r2:=takeS_rep hs r1 (fun x=>by have:=cnN_bd cs h1 x; omega) h2 n2 hs.length (Nat.le_refl _)
 rw [List.take_length] at r2
 exact r2
theorem cn_out {cs:List Cne} {x:Int} (h:∀ c,c ∈ cs->c.a ≠ x):cnN cs x = 0:=by
 induction cs with
 | nil=>rfl
 | cons c l ih =>
  simp only [cnN]
  rw [if_neg (h c (by simp)),ih fun c hc=>h c (by simp [hc])]; rfl
theorem hd_out {cs:List Hld} {x:Int} (h:∀ c,c ∈ cs->c.a ≠ x):hdN cs x = 0:=by
 induction cs with
 | nil=>rfl
 | cons c l ih =>
  simp only [hdN]
  rw [if_neg (h c (by simp)),ih fun c hc=>h c (by simp [hc])]; rfl
theorem Rep.good {s:Sm} {S:Int->Int} {k:Nat} (h:Rep s S k) (hk:k<=1000000000) (hS:∀ x,-1000000000000000000<=S x/\S x<=1000000000000000000) (hx:∀ x,S x ≠ 0->-9223372036854775808<=x/\x<=9223372036854775807):MGood s.m :=
 ⟨rfl,rfl,fun x hh=>hx x (by have:=h.has x; rw [show s.has [x] = true from hh] at this; simpa using this.symm),fun x _=>by
  have:=hS x
  show -9223372036854775808<=s.val [x]/\s.val [x]<=9223372036854775807
  rw [h.val]; omega,Nat.le_trans h.clock hk⟩
theorem Rep.short {s:Sm} {S:Int->Int} {k:Nat} (h:Rep s S k):shortM s.m = true ↔ ∃ x,S x<0:=by
 rw [shortM_iff]
 constructor
 ·rintro ⟨x,_,hx⟩
  exact ⟨x,by rw [← h.val x]; exact hx⟩
 ·rintro ⟨x,hx⟩
  refine ⟨x,?_,by show s.val [x]<0; rw [h.val]; exact hx⟩
  show s.has [x] = true
  rw [h.has]
  simp; omega
open Go.Proofs
def v10a (cs:List Cne) (hs:List Hld) (i:Nat):List T:=[.reg [cnV cs none,hdV hs none],cnV cs none,.int .i64 cs.length,.int .i64 i]
def v10b (cs:List Cne) (hs:List Hld) (i:Nat):List T:=[.reg [cnV cs none,hdV hs none],hdV hs none,.int .i64 hs.length,.int .i64 i]
noncomputable def K10a (p:List T->T->Prop) (b:Bool):Orc:=noneO.add 28 (callF p fun _=>some (.bool b))
noncomputable def K10b (p q:List T->T->Prop) (b:Bool) (z:Int):Orc:=(noneO.add 29 (callF q fun _=>some (.int .i64 z))).add 21 (callF p fun _=>some (.bool b))
noncomputable def K10 (p:List T->T->Prop) (q:List T->Heap->T->Heap->Prop) (s:Sm) (b:Bool):Orc:=(noneO.addRef 24 (refF q fun _ h=>some (.bool b,h))).add 22 (callF p fun _=>some (.freshm s.m))
noncomputable def l10 (x y:List T->Heap->Ex->List T->Heap->Prop) (cs:List Cne) (hs:List Hld) (b1 b2:Bool):List (Nat × (List T->Heap->LT)):=[(4,loopF x (.ite b1 (.ret (.exit 0) [.reg [cnV cs none,hdV hs none],.undef] []) (.ret .ret [.reg [cnV cs none,hdV hs none],.int .i64 1] []))),(10,loopF y (.ite b2 (.ret (.exit 2) [.reg [cnV cs none,hdV hs none],.undef] []) (.ret .ret [.reg [cnV cs none,hdV hs none],.int .i64 1] [])))]
theorem i10a (cs:List Cne) (hs:List Hld) (i:Nat) (b:Bool) (p:List T->T->Prop):iterR P42 G42 A42 (K10a p b) 0 10 [] 4 (v10a cs hs i) [] =
(
 bif decide (Int.ofNat i<Int.ofNat cs.length) then
 bif decide (0<=Int.ofNat i)&&decide (Int.ofNat i<Int.ofNat cs.length) then
 bif decF (p [.agg (cs.getD i (Cne.mk (0:Int) (0:Int))).c] (.bool b)) then
 bif b then
 some ((.normal,[.reg [cnV cs
 none,hdV hs
 none],cnV cs
 none,.int .i64 (.ofNat cs.length),.int .i64 (IntKind.i64.wrap (Int.ofNat i+1))],[]))
 else
 some ((.ret,[.reg [cnV cs
 none,hdV hs
 none],.int .i64 1],[]))
 else none else none else
 some ((.exit 0,[.reg [cnV cs
 none,hdV hs
 none],.undef],[]))):=by kernel_rfl
theorem i10b (cs:List Cne) (hs:List Hld) (i:Nat) (b:Bool) (z:Int) (p q:List T->T->Prop):iterR P42 G42 A42 (K10b p q b z) 0 10 [] 10 (v10b cs hs i) [] =
(
 bif decide (Int.ofNat i<Int.ofNat hs.length) then
 bif decide (0<=Int.ofNat i)&&decide (Int.ofNat i<Int.ofNat hs.length) then
 bif decF (p [.agg (hs.getD i (Hld.mk (0:Int) (0:Int) (0:Int))).c] (.bool b)) then
 bif b then
 bif decide (0<Int.ofNat i) then
 bif decide (0<=IntKind.i64.wrap (Int.ofNat i - 1))&&decide (IntKind.i64.wrap (Int.ofNat i - 1)<Int.ofNat hs.length) then
 bif decF (q [.agg (hs.getD (IntKind.i64.wrap (Int.ofNat i - (1:Int))).toNat (Hld.mk (0:Int) (0:Int) (0:Int))).c,.agg (hs.getD i (Hld.mk (0:Int) (0:Int) (0:Int))).c] (.int .i64 z)) then
 bif decide (0<=z) then
 some ((.ret,[.reg [cnV cs
 none,hdV hs
 none],.int .i64 1],[]))
 else
 some ((.normal,[.reg [cnV cs
 none,hdV hs
 none],hdV hs
 none,.int .i64 (.ofNat hs.length),.int .i64 (IntKind.i64.wrap (Int.ofNat i+1))],[]))
 else none else none else
 some ((.normal,[.reg [cnV cs
 none,hdV hs
 none],hdV hs
 none,.int .i64 (.ofNat hs.length),.int .i64 (IntKind.i64.wrap (Int.ofNat i+1))],[]))
 else
 some ((.ret,[.reg [cnV cs
 none,hdV hs
 none],.int .i64 1],[]))
 else none else none else
 some ((.exit 2,[.reg [cnV cs
 none,hdV hs
 none],.undef],[]))):=by kernel_rfl
theorem k10 (cs:List Cne) (hs:List Hld) (s:Sm) (b b1 b2:Bool) (p:List T->T->Prop) (q:List T->Heap->T->Heap->Prop) (x y:List T->Heap->Ex->List T->Heap->Prop):stepL P42 G42 A42 (K10 p q s b) 0 10 (l10 x y cs hs b1 b2) [.agg [cnV cs none,hdV hs none]] =
(
 bif decide (512<Int.ofNat cs.length) then
 some (.int .i64 3)
 else
 bif decide (512<Int.ofNat hs.length) then
 some (.int .i64 3)
 else
 bif b1 then
 bif decF (x (v10a cs hs (nat_lit 0)) [] (.exit 0) [.reg [cnV cs
 none,hdV hs
 none],.undef] []) then
 bif b2 then
 bif decF (y (v10b cs hs (nat_lit 0)) [] (.exit 2) [.reg [cnV cs
 none,hdV hs
 none],.undef] []) then
 bif decF (p [.agg [cnV cs
 none,hdV hs
 none]] (T.freshm (MapD.mk (KS.int IntKind.i64) IntKind.i64 s.has s.val s.born s.clock
 none))) then
 bif decF (q [T.mp (0:Nat) (0:Nat)] [.mk 0 0 0 (fun x=>[]) false false (some (MapD.mk (KS.int IntKind.i64) IntKind.i64 s.has s.val s.born s.clock
 none))] (.bool b) [.mk 0 0 0 (fun x=>[]) false false (some (MapD.mk (KS.int IntKind.i64) IntKind.i64 s.has s.val s.born s.clock
 none))]) then
 bif b then
 some (.int .i64 18)
 else
 some (.int .i64 0)
 else none else none else none else
 bif decF (y (v10b cs hs (nat_lit 0)) [] .ret [.reg [cnV cs
 none,hdV hs
 none],.int .i64 1] []) then
 some (.int .i64 1)
 else none else none else
 bif decF (x (v10a cs hs (nat_lit 0)) [] .ret [.reg [cnV cs
 none,hdV hs
 none],.int .i64 1] []) then
 some (.int .i64 1)
 else
 none):=by kernel_rfl
def hkB (hs:List Hld) (i:Nat):Bool:=hvB (hs.getD i hd0)&&(decide (i = 0) || decide (cmpH (hs.getD (i - 1) hd0) (hs.getD i hd0)<0))
def cOk (cs:List Cne):Bool:=allB (fun i=>cvB (cs.getD i cn0)) cs.length
def hOk (hs:List Hld):Bool:=allB (hkB hs) hs.length
noncomputable def ckE (cs:List Cne) (hs:List Hld):Int:=if 512<cs.length ∨ 512<hs.length then 3 else if cOk cs = false ∨ hOk hs = false then 1 else if shortM (freeS cs hs).m = true then 18 else 0
theorem scan10a (cs:List Cne) (hs:List Hld) (hn:cs.length<=1000000):(cOk cs = true->LoopOk P42 G42 (A42 10) 10 4 (litS (v10a cs hs 0) [] (.exit 0) [.reg [cnV cs none,hdV hs none],.undef] []))/\(cOk cs = false->LoopOk P42 G42 (A42 10) 10 4 (litS (v10a cs hs 0) [] .ret [.reg [cnV cs none,hdV hs none],.int .i64 1] [])):=by
 obtain ⟨p,hp⟩:=is_val P42 G42 28
 refine loop_scan hm42 (by kernel_rfl) (fun i=>v10a cs hs i) (fun _=>[]) (fun i=>cvB (cs.getD i cn0)) (n:=cs.length) (fun i hi _ hg=>?_) (fun i hi _ hg=>?_) (fun _=>?_)
 ·have t:=cvT (cs.getD i cn0)
  rw [hg] at t
  refine Step.mk0 (A:=A42) (m:=0) (K:=K10a p true) (told_add none_ok (callF_told hp)) rfl rfl loops0 (h1:=[]) ?_ .nil
  rw [i10a,up1 (by omega)]
  exact BT (BT (bift (callF_yes hp t) rfl))
 ·have t:=cvT (cs.getD i cn0)
  rw [hg] at t
  refine Last.mk0 (A:=A42) (m:=0) (K:=K10a p false) (told_add none_ok (callF_told hp)) rfl rfl loops0 (h1:=[]) (by simp) ?_ .nil
  rw [i10a]
  exact BT (BT (bift (callF_yes hp t) rfl))
 ·refine Last.mk0 (A:=A42) (m:=0) (K:=K10a p true) (told_add none_ok (callF_told hp)) rfl rfl loops0 (h1:=[]) (by simp) ?_ .nil
  rw [i10a]
  exact BF rfl
theorem scan10b (cs:List Cne) (hs:List Hld) (hn:hs.length<=1000000):(hOk hs = true->LoopOk P42 G42 (A42 10) 10 10 (litS (v10b cs hs 0) [] (.exit 2) [.reg [cnV cs none,hdV hs none],.undef] []))/\(hOk hs = false->LoopOk P42 G42 (A42 10) 10 10 (litS (v10b cs hs 0) [] .ret [.reg [cnV cs none,hdV hs none],.int .i64 1] [])):=by
 obtain ⟨p,hp⟩:=is_val P42 G42 21
 obtain ⟨q,hq⟩:=is_val P42 G42 29
 have key:∀ i,i<hs.length->iterR P42 G42 A42 (K10b p q (hvB (hs.getD i hd0)) (cmpH (hs.getD (i - 1) hd0) (hs.getD i hd0))) 0 10 [] 10 (v10b cs hs i) [] = if hkB hs i = true then some (.normal,v10b cs hs (i+1),[]) else some (.ret,[.reg [cnV cs none,hdV hs none],.int .i64 1],[]):=fun i hi=>by
  have t1:=hvT (hs.getD i hd0)
  have t2:=cmpHT (hs.getD (i - 1) hd0) (hs.getD i hd0)
  rw [i10b,up1 (by omega)]
  refine BT (BT (bift (callF_yes hp t1) ?_))
  unfold hkB
  cases hvB (hs.getD i hd0)
  ·rfl
  rw [cond_true,Bool.true_and]
  rcases Nat.eq_zero_or_pos i with h0 | h0
  ·subst h0
   exact BF (by simp; rfl)
  ·have e:IntKind.i64.wrap (Int.ofNat i - (1:Int)) = Int.ofNat (i - 1):=by
    rw [wr64 (x:=Int.ofNat i - 1) (by show (_:Int)<=(i:Int) - 1; omega) (by show (i:Int) - 1<=_; omega)]
    show (i:Int) - 1 = ((i - 1:Nat):Int); omega
   have e2:(Int.ofNat (i - 1)).toNat = i - 1:=rfl
   rw [e,e2]
   refine BT (BT (bift (callF_yes hq t2) ?_))
   have e3:decide (i = 0) = false:=decide_eq_false (by omega)
   rw [e3,Bool.false_or]
   by_cases h1:cmpH (hs.getD (i - 1) hd0) (hs.getD i hd0)<0
   ·rw [dT h1,dF (show ¬ 0<=cmpH (hs.getD (i - 1) hd0) (hs.getD i hd0) by omega)]; rfl
   ·rw [dF h1,dT (show 0<=cmpH (hs.getD (i - 1) hd0) (hs.getD i hd0) by omega)]; rfl
 refine loop_scan hm42 (by kernel_rfl) (fun i=>v10b cs hs i) (fun _=>[]) (hkB hs) (n:=hs.length) (fun i hi _ hg=>?_) (fun i hi _ hg=>?_) (fun _=>?_)
 ·refine Step.mk0 (A:=A42) (m:=0) (told_add (told_add none_ok (callF_told hq)) (callF_told hp)) rfl rfl loops0 (h1:=[]) ((key i hi).trans (by rw [if_pos hg])) .nil
 ·refine Last.mk0 (A:=A42) (m:=0) (told_add (told_add none_ok (callF_told hq)) (callF_told hp)) rfl rfl loops0 (h1:=[]) (by simp) ((key i hi).trans (by rw [if_neg (by rw [hg]; simp)])) .nil
 ·refine Last.mk0 (A:=A42) (m:=0) (K:=K10b p q true 0) (told_add (told_add none_ok (callF_told hq)) (callF_told hp)) rfl rfl loops0 (h1:=[]) (by simp) ?_ .nil
  rw [i10b]
  exact BF rfl
theorem cOk_iff {cs:List Cne}:cOk cs = true ↔ ∀ c,c ∈ cs->cvB c = true:=by
 unfold cOk
 rw [allB_iff]
 constructor
 ·intro h c hc
  obtain ⟨i,hi,rfl⟩:=List.mem_iff_getElem.1 hc
  have:=h i hi
  rwa [List.getD_eq_getElem?_getD,List.getElem?_eq_getElem hi] at this
 ·exact fun h i hi=>h _ (mem_getD hi cn0)
theorem hOk_val {hs:List Hld} (h:hOk hs = true):∀ c,c ∈ hs->hvB c = true:=by
 unfold hOk at h
 rw [allB_iff] at h
 intro c hc
 obtain ⟨i,hi,rfl⟩:=List.mem_iff_getElem.1 hc
 have:=h i hi
 unfold hkB at this
 rw [List.getD_eq_getElem?_getD,List.getElem?_eq_getElem hi] at this
 exact (Bool.and_eq_true _ _ ▸ this).1
theorem cvB_iff {c:Cne}:cvB c = true ↔ 1<=c.a/\c.a<=1000/\1<=c.l/\c.l<=1000000000:=by
 unfold cvB
 simp only [Bool.and_eq_true,decide_eq_true_eq]
 constructor
 ·rintro ⟨⟨⟨h1,h2⟩,h3⟩,h4⟩; exact ⟨h1,h2,h3,h4⟩
 ·rintro ⟨h1,h2,h3,h4⟩; exact ⟨⟨⟨h1,h2⟩,h3⟩,h4⟩
theorem hvB_iff {c:Hld}:hvB c = true ↔ 1<=c.o/\c.o<=100000/\1<=c.a/\c.a<=1000/\1<=c.l/\c.l<=1000000000:=by
 unfold hvB
 simp only [Bool.and_eq_true,decide_eq_true_eq,cvB_iff]
 constructor
 ·rintro ⟨⟨h1,h2⟩,h3⟩; exact ⟨h1,h2,h3⟩
 ·rintro ⟨h1,h2,h3⟩; exact ⟨⟨h1,h2⟩,h3⟩
theorem fr_good (cs:List Cne) (hs:List Hld) (h1:∀ c,c ∈ cs->cvB c = true) (h2:∀ c,c ∈ hs->hvB c = true) (n1:cs.length<=1000000) (n2:hs.length<=1000000):Rep (freeS cs hs) (frF cs hs) (cs.length+hs.length)/\MGood (freeS cs hs).m:=by
 have c1:∀ c,c ∈ cs->0<=c.l/\c.l<=1000000000:=fun c hc=>by have:=cvB_iff.1 (h1 c hc); omega
 have c2:∀ c,c ∈ hs->0<=c.l/\c.l<=1000000000:=fun c hc=>by have:=hvB_iff.1 (h2 c hc); omega
 have r:=freeS_rep cs hs c1 c2 n1 n2
 refine ⟨r,r.good (by omega) (fun x=>?_) fun x hx=>?_⟩
 ·have:=cnN_bd cs c1 x
  have:=hdN_bd hs c2 x
  unfold frF; omega
 ·refine Classical.byContradiction fun hq=>hx ?_
  have e1:cnN cs x = 0:=cn_out fun c hc=>by have:=cvB_iff.1 (h1 c hc); omega
  have e2:hdN hs x = 0:=hd_out fun c hc=>by have:=hvB_iff.1 (h2 c hc); omega
  unfold frF
  rw [e1,e2]; rfl
theorem checkT (cs:List Cne) (hs:List Hld) (n1:cs.length<=1000000) (n2:hs.length<=1000000):ToldOk P42 G42 10 [.agg [cnV cs none,hdV hs none]] (.int .i64 (ckE cs hs)):=by
 obtain ⟨p,hp⟩:=is_val P42 G42 22
 obtain ⟨q,hq⟩:=is_ref P42 G42 24
 obtain ⟨x,hx⟩:=is_loop P42 G42 (A42 10) 10 4
 obtain ⟨y,hy⟩:=is_loop P42 G42 (A42 10) 10 10
 have s1:=scan10a cs hs n1
 have s2:=scan10b cs hs n2
 have t1:=freeT cs hs n1 n2
 refine stepL_told hm42 hn42 (told_add (told_addRef none_ok (refF_told hq)) (callF_told hp)) (K:=K10 p q (freeS cs hs) (shortM (freeS cs hs).m)) (A:=A42) (m:=0) (l:=l10 x y cs hs (cOk cs) (hOk hs)) (by kernel_rfl) (loopsC (loopF_ok hx _) (loops1 (loopF_ok hy _))) ?_
 rw [k10]
 unfold ckE
 by_cases q1:512<cs.length
 ·rw [if_pos (.inl q1)]
  exact BT rfl
 refine BF ?_
 by_cases q2:512<hs.length
 ·rw [if_pos (.inr q2)]
  exact BT rfl
 refine BF ?_
 rw [if_neg (by omega)]
 cases h1:cOk cs
 ·rw [if_pos (.inl rfl)]
  exact biff (by simp) (bift (decF_iff.2 (loopF_y hx (s1.2 h1))) rfl)
 refine bift rfl (bift (decF_iff.2 (loopF_y hx (s1.1 h1))) ?_)
 cases h2:hOk hs
 ·rw [if_pos (.inr rfl)]
  exact biff (by simp) (bift (decF_iff.2 (loopF_y hy (s2.2 h2))) rfl)
 refine bift rfl (bift (decF_iff.2 (loopF_y hy (s2.1 h2))) ?_)
 rw [if_neg (by simp)]
 have g:=fr_good cs hs (cOk_iff.1 h1) (hOk_val h2) n1 n2
 have t2:ToldRef P42 G42 24 [.mp 0 0] [mapBlk 0 (freeS cs hs).m] (.bool (shortM (freeS cs hs).m)) [mapBlk 0 (freeS cs hs).m]:=shortR (b:=mapBlk 0 (freeS cs hs).m) rfl rfl g.2
 refine bift (callF_yes hp t1) (bift (refF_yes hq t2) ?_)
 cases shortM (freeS cs hs).m <;> rfl
open Go.Proofs Go.RowKit Go.Maps
theorem eq_emp {P:Program} {t e:TypeId} (ht:P.underlying t = some (.slice e)) (a:Addr) (c:Nat) (w:World):(binOp .eql t (.slice (some a) 0 c) (.slice none 0 0)).run P w = .ok (.bool false) w:=by
 show (do pure (.bool (← Op.equal t (.slice (some a) 0 c) (.slice none 0 0))):Sem Value).run P w = _
 simp [Op.equal,Op.maxDepth,run_equalIn_snil' w 9999 ht a 0 c]
set_option maxRecDepth 100000 in
theorem clone40_emp (a:Addr) (w:World):Calls P42 40 #[.slice (some a) 0 0] w fun e w'=>e = .returned (.slice (some ⟨w.heap.size,0,none⟩) 0 0)/\w' = w.alloc (.cells #[] 23):=by
 have h1:=eq_emp (P:=P42) (t:=24) Try.underlying24 a 0 w
 go_enter Try.func40,Try.ntmps40
 go_wp2
 go_ret
 exact ⟨rfl,rfl⟩
set_option maxRecDepth 100000 in
theorem clone41_emp (a:Addr) (w:World):Calls P42 41 #[.slice (some a) 0 0] w fun e w'=>e = .returned (.slice (some ⟨w.heap.size,0,none⟩) 0 0)/\w' = w.alloc (.cells #[] 29):=by
 have h1:=eq_emp (P:=P42) (t:=25) Try.underlying25 a 0 w
 go_enter Try.func41,Try.ntmps41
 go_wp2
 go_ret
 exact ⟨rfl,rfl⟩
theorem clone_emp {f e:Nat} {sz:Nat} {g g':Nat->List T} {cap:Option Nat} (hc:∀ (a:Addr) (w:World),Calls P42 f #[.slice (some a) 0 0] w fun e' w'=>e' = .returned (.slice (some ⟨w.heap.size,0,none⟩) 0 0)/\w' = w.alloc (.cells #[] e))
 (hn:ToldOk P42 G42 f [.nils] (.fresh true sz 0 g' 0 (some 0))) (hp:∀ c,0<c->ToldOk P42 G42 f [.view sz 0 g (some c)] (.fresh true sz 0 g' 0 (some 0))):ToldOk P42 G42 f [.view sz 0 g cap] (.fresh true sz 0 g' 0 (some 0)):=by
 refine ⟨hn.enters,fun w U cargs hU hgl ha=>?_⟩
 obtain ⟨v0,a1,a2⟩:=ha.2 0 _ rfl
 obtain rfl:=args1 ha.1.symm a1
 have mk:∀ {x:T} {v:Value},VI w U x v->ArgsVI w U [x] #[v]:=fun {x v} hx=>⟨rfl,fun i y hy=>by
  cases i with
  | zero=>simp at hy; subst hy; exact ⟨v,rfl,hx⟩
  | succ i=>simp at hy⟩
 cases a2 with
 | vnil _ _ _ _=>exact hn.calls w U _ hU hgl (mk .nils)
 | view _ _ _ _ a cc vs hs hcap hn2 hU2 hl hcl hv =>
  rcases Nat.eq_zero_or_pos cc with q | q
  ·subst q
   refine (hc a w).mono fun e' w' ⟨h1,h2⟩=>⟨_,h1,?_⟩
   subst h2
   refine ⟨⟨⟨rfl,rfl,rfl,by simp,fun b hb=>RowKit.Below.heap_alloc w _ b hb⟩,Nat.le_refl _⟩,U,[w.heap.size],fun b hb=>hb,fun b hb=>⟨.inl hb,by have:=hU b hb; simp; omega⟩,by simp,fun b hb=>?_,?_⟩
   ·simp only [List.mem_singleton] at hb
    subst hb
    exact ⟨Nat.le_refl _,by simp,fun h=>Nat.lt_irrefl _ (hU _ h)⟩
   ·exact RT0.fresh true sz 0 g' 0 (some 0) w.heap.size 0 0 ⟨w.heap.size,0,none⟩ #[] e rfl (fun h=>absurd h (Nat.lt_irrefl _)) (Nat.le_refl _) (fun m hm=>by obtain rfl:=Option.some.inj hm; exact ⟨rfl,Nat.le_refl _⟩) (Nat.le_refl _) (fun h=>by cases h) (heap_new w _) (by simp) (by simp) (fun j hj=>by omega) (fun j o c hj=>by omega) (fun _ j hj=>by omega)
  ·exact (hp cc q).calls w U _ hU hgl (mk (.view sz 0 g (some cc) a cc vs hs (fun m hm=>Option.some.inj hm) (Nat.zero_le _) hU2 hl hcl hv))
open Go.Proofs
noncomputable def K26 (p q:List T->T->Prop) (n m:Nat) (f:Nat->Cne) (g:Nat->Hld) (c1 c2:Option Nat):Orc:=(((noneO.add 41 (callF q fun _=>some (.fresh true 3 m (fun j=>(g j).c) m c2))).add 40 (callF p fun _=>some (.fresh true 2 n (fun j=>(f j).c) n c1))).inl P42 G42 A42 noneO 0 34).inl P42 G42 A42 noneO 0 31
theorem k40n (x:Nat):stepV P42 G42 A42 noneO 0 40 [.nils] =
(
 some (.nils)):=by kernel_rfl
theorem k40 (n:Nat) (f:Nat->Cne) (c:Option Nat):stepV P42 G42 A42 noneO 0 40 [.view 2 n (fun j=>(f j).c) c] =
(
 bif Nat.blt 0 (match c with | some x=>x | none=>(0:Nat)) || Nat.blt 0 n then
 bif n==(0:Nat) then
 some (.fresh true (2:Nat) (0:Nat) (fun j=>[]) (0:Nat) (some 0))
 else
 bif (((0:Nat)+n) * (17:Nat)).ble 70368744177664 then
 bif ((0:Nat)+n).ble 0 then
 bif ((0:Nat)+n).ble 0 then
 some (bif ((0:Nat)+((0:Nat)+n)).ble 0 then .fresh true (2:Nat) (0:Nat) (fun j =>
 bif Nat.ble 0 (0+j)&&((0:Nat)+j).blt (0+n) then (f ((0:Nat)+j)).c
 else []) (0+n) (some 0)
 else .undef)
 else none else
 some (bif ((0:Nat)+((0:Nat)+n)).ble (0+n) then .fresh true (2:Nat) (0+n) (fun j=>(f ((0:Nat)+j)).c) (0+n) none else .undef)
 else none else
 none):=by kernel_rfl
theorem k41n (x:Nat):stepV P42 G42 A42 noneO 0 41 [.nils] =
(
 some (.nils)):=by kernel_rfl
theorem k41 (n:Nat) (f:Nat->Hld) (c:Option Nat):stepV P42 G42 A42 noneO 0 41 [.view 3 n (fun j=>(f j).c) c] =
(
 bif Nat.blt 0 (match c with | some x=>x | none=>(0:Nat)) || Nat.blt 0 n then
 bif n==(0:Nat) then
 some (.fresh true (3:Nat) (0:Nat) (fun j=>[]) (0:Nat) (some 0))
 else
 bif (((0:Nat)+n) * (25:Nat)).ble 70368744177664 then
 bif ((0:Nat)+n).ble 0 then
 bif ((0:Nat)+n).ble 0 then
 some (bif ((0:Nat)+((0:Nat)+n)).ble 0 then .fresh true (3:Nat) (0:Nat) (fun j =>
 bif Nat.ble 0 (0+j)&&((0:Nat)+j).blt (0+n) then (f ((0:Nat)+j)).c
 else []) (0+n) (some 0)
 else .undef)
 else none else
 some (bif ((0:Nat)+((0:Nat)+n)).ble (0+n) then .fresh true (3:Nat) (0+n) (fun j=>(f ((0:Nat)+j)).c) (0+n) none else .undef)
 else none else
 none):=by kernel_rfl
theorem k26a (n m:Nat) (f:Nat->Cne) (g:Nat->Hld) (p q:List T->T->Prop) (x y:T):stepV P42 G42 A42 (K26 p q n m f g none none) 0 26 [.view 2 n (fun j=>(f j).c) none,.view 3 m (fun j=>(g j).c) none] =
(
 bif decF (p [.view 2 n (fun j=>(f j).c)
 none] (.fresh true (2:Nat) n (fun j=>(f j).c) n
 none)) then
 bif decide (0<=Int.ofNat n)&&decide (Int.ofNat n<=Int.ofNat n)&&decide (Int.ofNat n<=Int.ofNat n) then
 bif decF (q [.view 3 m (fun j=>(g j).c)
 none] (.fresh true (3:Nat) m (fun j=>(g j).c) m
 none)) then
 bif decide (0<=Int.ofNat m)&&decide (Int.ofNat m<=Int.ofNat m)&&decide (Int.ofNat m<=Int.ofNat m) then
 some (.agg [bif ((0:Nat)+n).ble n then .fresh true (2:Nat) n (fun j=>(f ((0:Nat)+j)).c) n (some n)
 else .undef,
 bif ((0:Nat)+m).ble m then .fresh true (3:Nat) m (fun j=>(g ((0:Nat)+j)).c) m (some m)
 else .undef])
 else none else none else none else
 none):=by kernel_rfl
theorem k26b (n:Nat) (f:Nat->Cne) (g:Nat->Hld) (p q:List T->T->Prop) (x y:T):stepV P42 G42 A42 (K26 p q n 0 f g none (some 0)) 0 26 [.view 2 n (fun j=>(f j).c) none,.view 3 0 (fun j=>(g j).c) none] =
(
 bif decF (p [.view 2 n (fun j=>(f j).c)
 none] (.fresh true (2:Nat) n (fun j=>(f j).c) n
 none)) then
 bif decide (0<=Int.ofNat n)&&decide (Int.ofNat n<=Int.ofNat n)&&decide (Int.ofNat n<=Int.ofNat n) then
 bif decF (q [.view 3 0 (fun j=>(g j).c)
 none] (.fresh true (3:Nat) (0:Nat) (fun j=>(g j).c) (0:Nat) (some 0))) then
 some (.agg [bif ((0:Nat)+n).ble n then .fresh true (2:Nat) n (fun j=>(f ((0:Nat)+j)).c) n (some n)
 else .undef,.fresh true (3:Nat) (0:Nat) (fun j=>(g ((0:Nat)+j)).c) (0:Nat) (some 0)])
 else none else none else
 none):=by kernel_rfl
theorem k26c (m:Nat) (f:Nat->Cne) (g:Nat->Hld) (p q:List T->T->Prop) (x y:T):stepV P42 G42 A42 (K26 p q 0 m f g (some 0) none) 0 26 [.view 2 0 (fun j=>(f j).c) none,.view 3 m (fun j=>(g j).c) none] =
(
 bif decF (p [.view 2 0 (fun j=>(f j).c)
 none] (.fresh true (2:Nat) (0:Nat) (fun j=>(f j).c) (0:Nat) (some 0))) then
 bif decF (q [.view 3 m (fun j=>(g j).c)
 none] (.fresh true (3:Nat) m (fun j=>(g j).c) m
 none)) then
 bif decide (0<=Int.ofNat m)&&decide (Int.ofNat m<=Int.ofNat m)&&decide (Int.ofNat m<=Int.ofNat m) then
 some (.agg [.fresh true (2:Nat) (0:Nat) (fun j=>(f ((0:Nat)+j)).c) (0:Nat) (some 0),
 bif ((0:Nat)+m).ble m then .fresh true (3:Nat) m (fun j=>(g ((0:Nat)+j)).c) m (some m)
 else .undef])
 else none else none else
 none):=by kernel_rfl
theorem k26d (f:Nat->Cne) (g:Nat->Hld) (p q:List T->T->Prop) (x y:T):stepV P42 G42 A42 (K26 p q 0 0 f g (some 0) (some 0)) 0 26 [.view 2 0 (fun j=>(f j).c) none,.view 3 0 (fun j=>(g j).c) none] =
(
 bif decF (p [.view 2 0 (fun j=>(f j).c)
 none] (.fresh true (2:Nat) (0:Nat) (fun j=>(f j).c) (0:Nat) (some 0))) then
 bif decF (q [.view 3 0 (fun j=>(g j).c)
 none] (.fresh true (3:Nat) (0:Nat) (fun j=>(g j).c) (0:Nat) (some 0))) then
 some (.agg [.fresh true (2:Nat) (0:Nat) (fun j=>(f ((0:Nat)+j)).c) (0:Nat) (some 0),.fresh true (3:Nat) (0:Nat) (fun j=>(g ((0:Nat)+j)).c) (0:Nat) (some 0)])
 else none else
 none):=by kernel_rfl
theorem clnC0 (f:Nat->Cne) (c:Option Nat):ToldOk P42 G42 40 [.view 2 0 (fun j=>(f j).c) c] (.fresh true 2 0 (fun j=>(f j).c) 0 (some 0)):=by
 refine clone_emp clone40_emp ?_ fun c hc=>?_
 ·have t:ToldOk P42 G42 40 [.nils] .nils:=stepV_told hm42 hn42 none_ok (A:=A42) (m:=0) (k40n 0)
  exact t.resTo (.nfr _ _ _ _ (.inr rfl))
 ·have t:ToldOk P42 G42 40 [.view 2 0 (fun j=>(f j).c) (some c)] (.fresh true 2 0 (fun j=>[]) 0 (some 0)):=by
   refine stepV_told hm42 hn42 none_ok (A:=A42) (m:=0) ?_
   rw [k40]
   exact bift (by rw [show Nat.blt 0 c = true from Nat.ble_eq_true_of_le hc]; rfl) (bift rfl rfl)
  exact t.resTo (.fresh (Nat.le_refl _) (Nat.le_refl _) (fun m hm=>by obtain rfl:=Option.some.inj hm; exact Nat.le_refl _) fun j hj=>by omega)
theorem clnCP (n:Nat) (f:Nat->Cne) (c:Option Nat) (h:0<n) (hn:n<=1000000):ToldOk P42 G42 40 [.view 2 n (fun j=>(f j).c) c] (.fresh true 2 n (fun j=>(f j).c) n none):=by
 have t:ToldOk P42 G42 40 [.view 2 n (fun j=>(f j).c) c] (.fresh true 2 n (fun j=>(f (0+j)).c) n none):=by
  refine stepV_told hm42 hn42 none_ok (A:=A42) (m:=0) ?_
  rw [k40]
  refine bift (by rw [show Nat.blt 0 n = true from Nat.ble_eq_true_of_le h,Bool.or_true]) (biff (by simp; omega) (BT (BF ?_)))
  rw [Nat.zero_add,Nat.zero_add,bleT (Nat.le_refl _)]
  rfl
 simp only [Nat.zero_add] at t
 exact t
theorem clnH0 (f:Nat->Hld) (c:Option Nat):ToldOk P42 G42 41 [.view 3 0 (fun j=>(f j).c) c] (.fresh true 3 0 (fun j=>(f j).c) 0 (some 0)):=by
 refine clone_emp clone41_emp ?_ fun c hc=>?_
 ·have t:ToldOk P42 G42 41 [.nils] .nils:=stepV_told hm42 hn42 none_ok (A:=A42) (m:=0) (k41n 0)
  exact t.resTo (.nfr _ _ _ _ (.inr rfl))
 ·have t:ToldOk P42 G42 41 [.view 3 0 (fun j=>(f j).c) (some c)] (.fresh true 3 0 (fun j=>[]) 0 (some 0)):=by
   refine stepV_told hm42 hn42 none_ok (A:=A42) (m:=0) ?_
   rw [k41]
   exact bift (by rw [show Nat.blt 0 c = true from Nat.ble_eq_true_of_le hc]; rfl) (bift rfl rfl)
  exact t.resTo (.fresh (Nat.le_refl _) (Nat.le_refl _) (fun m hm=>by obtain rfl:=Option.some.inj hm; exact Nat.le_refl _) fun j hj=>by omega)
theorem clnHP (n:Nat) (f:Nat->Hld) (c:Option Nat) (h:0<n) (hn:n<=1000000):ToldOk P42 G42 41 [.view 3 n (fun j=>(f j).c) c] (.fresh true 3 n (fun j=>(f j).c) n none):=by
 have t:ToldOk P42 G42 41 [.view 3 n (fun j=>(f j).c) c] (.fresh true 3 n (fun j=>(f (0+j)).c) n none):=by
  refine stepV_told hm42 hn42 none_ok (A:=A42) (m:=0) ?_
  rw [k41]
  refine bift (by rw [show Nat.blt 0 n = true from Nat.ble_eq_true_of_le h,Bool.or_true]) (biff (by simp; omega) (BT (BF ?_)))
  rw [Nat.zero_add,Nat.zero_add,bleT (Nat.le_refl _)]
  rfl
 simp only [Nat.zero_add] at t
 exact t
theorem madeF (n m:Nat) (f:Nat->Cne) (g:Nat->Hld) (hn:n<=1000000) (hm:m<=1000000):ToldOk P42 G42 26 [.view 2 n (fun j=>(f j).c) none,.view 3 m (fun j=>(g j).c) none] (.agg [.fresh true 2 n (fun j=>(f j).c) n (some n),.fresh true 3 m (fun j=>(g j).c) m (some m)]):=by
 obtain ⟨p,hp⟩:=is_val P42 G42 40
 obtain ⟨q,hq⟩:=is_val P42 G42 41
 have ok:∀ c1 c2,OrcOk P42 G42 (K26 p q n m f g c1 c2):=fun c1 c2=>told_inl hm42 hn42 (told_inl hm42 hn42 (told_add (told_add none_ok (callF_told hq)) (callF_told hp)) none_ok) none_ok
 have t:ToldOk P42 G42 26 [.view 2 n (fun j=>(f j).c) none,.view 3 m (fun j=>(g j).c) none] (.agg [.fresh true 2 n (fun j=>(f (0+j)).c) n (some n),.fresh true 3 m (fun j=>(g (0+j)).c) m (some m)]):=by
  rcases Nat.eq_zero_or_pos n with h1 | h1 <;> rcases Nat.eq_zero_or_pos m with h2 | h2
  ·subst h1; subst h2
   refine stepV_told hm42 hn42 (ok (some 0) (some 0)) (A:=A42) (m:=0) ?_
   rw [k26d f g p q .undef .undef]
   exact bift (callF_yes hp (clnC0 f none)) (bift (callF_yes hq (clnH0 g none)) rfl)
  ·subst h1
   refine stepV_told hm42 hn42 (ok (some 0) none) (A:=A42) (m:=0) ?_
   rw [k26c m f g p q .undef .undef]
   refine bift (callF_yes hp (clnC0 f none)) (bift (callF_yes hq (clnHP m g none h2 hm)) (BT ?_))
   rw [Nat.zero_add,bleT (Nat.le_refl _)]; rfl
  ·subst h2
   refine stepV_told hm42 hn42 (ok none (some 0)) (A:=A42) (m:=0) ?_
   rw [k26b n f g p q .undef .undef]
   refine bift (callF_yes hp (clnCP n f none h1 hn)) (BT (bift (callF_yes hq (clnH0 g none)) ?_))
   rw [Nat.zero_add,bleT (Nat.le_refl _)]; rfl
  ·refine stepV_told hm42 hn42 (ok none none) (A:=A42) (m:=0) ?_
   rw [k26a n m f g p q .undef .undef]
   refine bift (callF_yes hp (clnCP n f none h1 hn)) (BT (bift (callF_yes hq (clnHP m g none h2 hm)) (BT ?_)))
   rw [Nat.zero_add,bleT (Nat.le_refl _),Nat.zero_add,bleT (Nat.le_refl _)]; rfl
 simp only [Nat.zero_add] at t
 exact t
end Go.Ab

namespace Go.Proofs
open Go.Shelf
def grow42_ren:Go.Shelf.Ren:=⟨fun | 4=>48 | n=>n,fun | 22=>25 | 25=>29 | 3=>3 | 4=>4 | 9=>9 | 20=>20 | 0=>0 | n=>n,fun | n=>n⟩
theorem grow42:Go.Proofs.Lays8.n4 Try.prog grow42_ren:={
 mixed:=by kernel_rfl
 f4:=⟨Try.f48.name,by decide,Try.func48.trans (congrArg some (by kernel_rfl))⟩
 t0:=Try.underlying0
 a0:=Try.isAgg0
 z0:=Try.sizeOf0
 v0:=Try.zeroValue0
 t3:=Try.underlying3
 a3:=Try.isAgg3
 z3:=Try.sizeOf3
 v3:=Try.zeroValue3
 t4:=Try.underlying4
 a4:=Try.isAgg4
 z4:=Try.sizeOf4
 v4:=Try.zeroValue4
 t9:=Try.underlying9
 a9:=Try.isAgg9
 z9:=Try.sizeOf9
 v9:=Try.zeroValue9
 t20:=Try.underlying20
 a20:=Try.isAgg20
 z20:=Try.sizeOf20
 v20:=Try.zeroValue20
 t22:=Try.underlying25
 a22:=Try.isAgg25
 z22:=Try.sizeOf25
 v22:=Try.zeroValue25 }
end Go.Proofs

namespace Go.Ab
open Go.Proofs
noncomputable def i29:TypeInfo:=(P42.info? 29).getD default
theorem i29_is:P42.info? 29 = some i29:=by kernel_rfl
theorem i29_zero:i29.zero = some (.agg #[.int .i64 0,.int .i64 0,.int .i64 0]):=by kernel_rfl
theorem i29_size:i29.size = 3:=by kernel_rfl
theorem i29_bytes:i29.bytes = 24:=by kernel_rfl
theorem growT (n:Nat) (h0:0<n) (hn:n<=1000000):ToldOk P42 G42 48 [.nils,.int .i64 n] (.fresh true 3 0 (fun _=>[]) 0 none):=by
 refine ⟨⟨Try.f48,Try.func48,by kernel_rfl,by kernel_rfl⟩,fun w U cargs hU hgl ha=>?_⟩
 obtain ⟨v0,a1,a2⟩:=ha.2 0 _ rfl
 obtain ⟨v1,a3,a4⟩:=ha.2 1 _ rfl
 have hc2:cargs = #[v0,v1]:=by
  have hs:cargs.size = 2:=ha.1.symm
  refine Array.ext (by simp [hs]) fun k h1 h2=>?_
  match k,h1 with
  | 0,_=>simpa [Array.getElem?_eq_getElem (show 0<cargs.size by omega)] using a1
  | 1,_=>simpa [Array.getElem?_eq_getElem (show 1<cargs.size by omega)] using a3
  | k+2,h1=>omega
 subst hc2
 cases a2
 cases a4
 have hb:i29.bytes = 24:=i29_bytes
 have hs:=i29_size
 have hcall:=Any8.slices_Grow_grow grow42 i29 (.agg #[.int .i64 0,.int .i64 0,.int .i64 0]) i29_is i29_zero (by rw [hs]; omega) none 0 0 n [] w (Nat.le_refl _) (by omega) (by rw [hb]; omega) (by omega) (by simp) (fun _=>rfl) (fun a h=>by cases h)
 refine hcall.mono fun e' w' ⟨h1,h2⟩=>⟨_,h1,?_⟩
 have hge:=grownCap_ge w (0+n) 0 29
 replace h2:w' = w.drew.alloc (.cells (([]:List Value).toArray ++ Builtin.zeroCells (Value.agg #[.int .i64 0,.int .i64 0,.int .i64 0]).cells (0+n - 0) ++ Builtin.zeroCells (Value.agg #[.int .i64 0,.int .i64 0,.int .i64 0]).cells (grownCap w (0+n) 0 29 - (0+n))) 29):=h2
 show RV w U _ (.slice (some ⟨w.heap.size,0,none⟩) 0 (grownCap w (0+n) 0 29)) w'
 generalize grownCap w (0+n) 0 29 = gc at h2 hge ⊢
 have hcs:(([]:List Value).toArray ++ Builtin.zeroCells (Value.agg #[.int .i64 0,.int .i64 0,.int .i64 0]).cells (0+n - 0) ++ Builtin.zeroCells (Value.agg #[.int .i64 0,.int .i64 0,.int .i64 0]).cells (gc - (0+n))).size = gc * 3:=by
  have h3:(Value.agg #[.int .i64 0,.int .i64 0,.int .i64 0]).cells.size = 3:=rfl
  simp only [Array.size_append,List.size_toArray,List.length_nil,size_zeroCells,h3]
  omega
 generalize ([]:List Value).toArray ++ Builtin.zeroCells (Value.agg #[.int .i64 0,.int .i64 0,.int .i64 0]).cells (0+n - 0) ++ Builtin.zeroCells (Value.agg #[.int .i64 0,.int .i64 0,.int .i64 0]).cells (gc - (0+n)) = cs at h2 hcs
 subst h2
 refine ⟨⟨⟨rfl,rfl,rfl,by simp,fun b hb=>?_⟩,Nat.le_refl _⟩,U,[w.heap.size],fun b hb=>hb,fun b hb=>⟨.inl hb,by have:=hU b hb; simp; omega⟩,by simp,fun b hb=>?_,?_⟩
 ·exact RowKit.Below.heap_alloc w.drew _ b hb
 ·simp only [List.mem_singleton] at hb
  subst hb
  exact ⟨Nat.le_refl _,by simp,fun h=>Nat.lt_irrefl _ (hU _ h)⟩
 ·exact RT0.fresh true 3 0 (fun _=>[]) 0 none w.heap.size 0 gc ⟨w.heap.size,0,none⟩ cs 29 rfl (fun _=>rfl) (Nat.zero_le _) (fun m hm=>by cases hm) (Nat.le_refl _) (fun _=>Nat.zero_le _) (heap_new w.drew _) (by simp) (by rw [hcs]; omega) (fun j hj=>by omega) (fun j o c hj=>by omega) (fun _ j hj=>by omega)
open Go.Proofs
def hV (n:Nat) (f:Nat->Hld) (c:Option Nat):T:=.view 3 n (fun j=>(f j).c) c
def two38 (n m:Nat) (f g:Nat->Hld) (c d:Option Nat):T:=.view 1 2 (fun j=>[[hV n f c],[hV m g d]].getD j []) (some 2)
noncomputable def K38 (p:List T->T->Prop):Orc:=noneO.add 48 (callF p fun _=>some (.fresh true 3 0 (fun _=>[]) 0 none))
theorem k38 (n m:Nat) (f g:Nat->Hld) (c d:Option Nat) (p:List T->T->Prop):stepV P42 G42 A42 (K38 p) 3 38 [two38 n m f g c d] =
(
 bif decide (IntKind.i64.wrap (0+Int.ofNat n)<(0:Int)) then none else
 bif decide (IntKind.i64.wrap (IntKind.i64.wrap (0+Int.ofNat n)+Int.ofNat m)<(0:Int)) then none else
 bif decF (p [.nils,.int .i64 (IntKind.i64.wrap (IntKind.i64.wrap (0+Int.ofNat n)+Int.ofNat m))] (.fresh true (3:Nat) (0:Nat) (fun x=>[]) (0:Nat)
 none)) then
 bif n==(0:Nat) then
 bif m==(0:Nat) then
 some (.fresh true (3:Nat) (0:Nat) (fun j=>[]) (0:Nat)
 none)
 else
 bif (((0:Nat)+m) * (25:Nat)).ble 70368744177664 then
 bif ((0:Nat)+m).ble 0 then
 some (bif ((0:Nat)+((0:Nat)+m)).ble 0 then .fresh true (3:Nat) (0:Nat) (fun j =>
 bif Nat.ble 0 (0+j)&&((0:Nat)+j).blt (0+m) then (g ((0:Nat)+j)).c
 else []) (0+m) none else .undef)
 else
 some (bif ((0:Nat)+((0:Nat)+m)).ble (0+m) then .fresh true (3:Nat) (0+m) (fun j=>(g ((0:Nat)+j)).c) (0+m) none else .undef)
 else none else
 bif (((0:Nat)+n) * (25:Nat)).ble 70368744177664 then
 bif ((0:Nat)+n).ble 0 then
 bif ((0:Nat)+((0:Nat)+n)).ble 0 then
 bif m==(0:Nat) then
 some (bif ((0:Nat)+((0:Nat)+n)).ble 0 then .fresh true (3:Nat) (0:Nat) (fun j =>
 bif Nat.ble 0 (0+j)&&((0:Nat)+j).blt (0+n) then (f ((0:Nat)+j)).c
 else []) (0+n) none else .undef)
 else
 bif (((0:Nat)+n+m) * (25:Nat)).ble 70368744177664 then
 bif ((0:Nat)+((0:Nat)+n)+m).ble 0 then
 some (bif ((0:Nat)+((0:Nat)+n+m)).ble 0 then .fresh true (3:Nat) (0:Nat) (fun j =>
 bif ((0:Nat)+((0:Nat)+n)).ble (0+j)&&((0:Nat)+j).blt ((0:Nat)+(0+n)+m) then (g ((0:Nat)+j - ((0:Nat)+((0:Nat)+n)))).c
 else
 bif Nat.ble 0 (0+j)&&((0:Nat)+j).blt (0+n) then (f ((0:Nat)+j)).c
 else []) (0+n+m) none else .undef)
 else
 some (bif ((0:Nat)+((0:Nat)+n+m)).ble (0+n+m) then .fresh true (3:Nat) (0+n+m) (fun j =>
 bif ((0:Nat)+j).blt (0+n) then
 bif Nat.ble 0 ((0:Nat)+(0+j))&&((0:Nat)+((0:Nat)+j)).blt (0+n) then (f ((0:Nat)+((0:Nat)+j))).c
 else []
 else (g ((0:Nat)+j - ((0:Nat)+n))).c) (0+n+m) none else .undef)
 else none else none else
 bif ((0:Nat)+((0:Nat)+n)).ble (0+n) then
 bif m==(0:Nat) then
 some (bif ((0:Nat)+((0:Nat)+n)).ble (0+n) then .fresh true (3:Nat) (0+n) (fun j=>(f ((0:Nat)+j)).c) (0+n) none else .undef)
 else
 bif (((0:Nat)+n+m) * (25:Nat)).ble 70368744177664 then
 bif ((0:Nat)+((0:Nat)+n)+m).ble (0+n) then
 some (bif ((0:Nat)+((0:Nat)+n+m)).ble (0+n) then .fresh true (3:Nat) (0+n) (fun j =>
 bif ((0:Nat)+((0:Nat)+n)).ble (0+j)&&((0:Nat)+j).blt ((0:Nat)+(0+n)+m) then (g ((0:Nat)+j - ((0:Nat)+((0:Nat)+n)))).c
 else (f ((0:Nat)+j)).c) (0+n+m) none else .undef)
 else
 some (bif ((0:Nat)+((0:Nat)+n+m)).ble (0+n+m) then .fresh true (3:Nat) (0+n+m) (fun j =>
 bif ((0:Nat)+j).blt (0+n) then (f ((0:Nat)+((0:Nat)+j))).c
 else (g ((0:Nat)+j - ((0:Nat)+n))).c) (0+n+m) none else .undef)
 else none else none else none else
 none):=by kernel_rfl
def stepsTo (n m:Nat) (f g:Nat->Hld) (c d:Option Nat) (G:Nat->List T):Prop:=ToldOk P42 G42 38 [two38 n m f g c d] (.fresh true 3 (n+m) G (n+m) none)
theorem concT (n m:Nat) (f g:Nat->Hld) (c d:Option Nat) (hn:n<=400000) (hm:m<=400000) (h0:0<n+m):ToldOk P42 G42 38 [two38 n m f g c d] (.fresh true 3 (n+m) (fun j=>bif Nat.blt j n then (f j).c else (g (j - n)).c) (n+m) none):=by
 have key:stepsTo n m f g c d (bif m==0 then (fun j=>(f j).c) else fun j=>bif Nat.blt j n then (f j).c else (g (j - n)).c):=by
  obtain ⟨p,hp⟩:=is_val P42 G42 48
  refine stepV_told hm42 hn42 (told_add none_ok (callF_told hp)) (K:=K38 p) (A:=A42) (m:=3) ?_
  rw [k38]
  have e1:IntKind.i64.wrap ((0:Int)+Int.ofNat n) = Int.ofNat n:=by rw [Int.zero_add]; exact wr64 (by show (_:Int)<=(n:Int); omega) (by show (n:Int)<=_; omega)
  have e2:IntKind.i64.wrap (Int.ofNat n+Int.ofNat m) = Int.ofNat (n+m):=by
   rw [wr64 (by show (_:Int)<=(n:Int)+(m:Int); omega) (by show (n:Int)+(m:Int)<=_; omega)]
   show (n:Int)+(m:Int) = ((n+m:Nat):Int)
   omega
  rw [e1,e2]
  have n1:¬ ((decide (Int.ofNat n<(0:Int))) = true):=by simp
  have n2:¬ ((decide (Int.ofNat (n+m)<(0:Int))) = true):=by rw [decide_eq_true_eq]; exact Int.not_lt.2 (Int.natCast_nonneg _)
  refine biff n1 (biff n2 (bift (callF_yes hp (growT (n+m) h0 (by omega))) ?_))
  simp only [Nat.zero_add]
  rcases Nat.eq_zero_or_pos n with q | q
  ·subst q
   refine bift rfl (biff (by simp; omega) (bift (bleT (by omega)) (biff (by rw [bleF (by omega)]; simp) ?_)))
   rw [bleT (by omega),show (m==0) = false by simp; omega]
   simp only [Nat.zero_add,cond_true]
   rfl
  ·refine biff (by simp; omega) (bift (bleT (by omega)) (biff (by rw [bleF (by omega)]; simp) (bift (bleT (Nat.le_refl _)) ?_)))
   rcases Nat.eq_zero_or_pos m with q2 | q2
   ·subst q2
    refine bift rfl ?_
    rw [bleT (Nat.le_refl _)]
    rfl
   ·refine biff (by simp; omega) (bift (bleT (by omega)) (biff (by rw [bleF (by omega)]; simp) ?_))
    rw [bleT (Nat.le_refl _),show (m==0) = false by simp; omega]
    rfl
 refine ToldOk.resTo key (.fresh (Nat.le_refl _) (Nat.le_refl _) (fun m hm=>by cases hm) fun j hj=>?_)
 rcases Nat.eq_zero_or_pos m with q2 | q2
 ·subst q2
  rw [show Nat.blt j n = true from Nat.ble_eq_true_of_le hj]
  rfl
 ·rw [show (m==0) = false by simp; omega]
  rfl
end Go.Ab

