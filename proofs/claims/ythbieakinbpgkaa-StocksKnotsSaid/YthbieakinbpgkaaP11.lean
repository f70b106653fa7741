/- A part of the proof: nothing is assumed. -/
import Derived.Test.YthbieakinbpgkaaP9
import Derived.Test.YthbieakinbpgkaaP10
set_option linter.all false
namespace Go.Ab
open Go.Proofs
structure Cne where
 (a l:Int)
structure Hld where
 (o a l:Int)
def Cne.c (x:Cne):List T:=[.int .i64 x.a,.int .i64 x.l]
def Hld.c (x:Hld):List T:=[.int .i64 x.o,.int .i64 x.a,.int .i64 x.l]
def cn0:Cne:=⟨0,0⟩
def hd0:Hld:=⟨0,0,0⟩
def cnV (l:List Cne) (c:Option Nat):T:=.view 2 l.length (fun j=>(l.getD j cn0).c) c
def hdV (l:List Hld) (c:Option Nat):T:=.view 3 l.length (fun j=>(l.getD j hd0).c) c
structure Sm where
 (has:List Int->Bool) (val:List Int->Int) (born:List Int->Nat) (clock:Nat)
def Sm.m (s:Sm):MapD:=⟨.int .i64,.i64,s.has,s.val,s.born,s.clock,none⟩
def putS (s:Sm) (a z:Int):Sm:=⟨fun l=>keq l [a] || s.has l,fun l=>bif keq l [a] then z else s.val l,fun l=>bif keq l [a] then bif s.has [a] then s.born [a] else s.clock else s.born l,bif s.has [a] then s.clock else s.clock+1⟩
def delS (s:Sm) (a z:Int):Sm:=⟨fun l=>!keq l [a]&&(keq l [a] || s.has l),fun l=>bif keq l [a] then 0 else bif keq l [a] then z else s.val l,fun l=>bif keq l [a] then bif s.has [a] then s.born [a] else s.clock else s.born l,bif s.has [a] then s.clock else s.clock+1⟩
def addS (s:Sm) (a l:Int):Sm:=if IntKind.i64.wrap (s.val [a]+l) = 0 then delS s a (IntKind.i64.wrap (s.val [a]+l)) else putS s a (IntKind.i64.wrap (s.val [a]+l))
noncomputable def K37 (p:List T->Heap->T->Heap->Prop) (v:Nat) (s:Sm):Orc:=noneO.addRef 37 (refF p fun _ _=>some (.tup [],[mapBlk v s.m]))
noncomputable def K23 (p:List T->Heap->T->Heap->Prop) (v:Nat) (s:Sm):Orc:=noneO.addRef 23 (refF p fun _ _=>some (.tup [],[mapBlk v s.m]))
def v23 (v:Nat) (hs:List Hld) (c:Option Nat) (i:Nat):List T:=[.mp 0 v,hdV hs c,.int .i64 hs.length,.int .i64 i]
def v22 (cs:List Cne) (hs:List Hld) (i:Nat):List T:=[.reg [cnV cs none,hdV hs none],.mp 0 0,cnV cs none,.int .i64 cs.length,.int .i64 i]
def smE:Sm:=⟨fun _=>false,fun _=>0,fun _=>0,0⟩
theorem k37 (s:Sm) (v:Nat) (a l:Int):stepR P42 G42 A42 noneO 0 37 [] [.mp 0 v,.int .i64 a,.int .i64 l] [mapBlk v s.m] =
(
 bif v==v then
 bif v==v then
 bif v==v then
 bif decide ((bif decide (a = a)&&true then IntKind.i64.wrap (s.val [a]+l)
 else s.val [a]) = (0:Int)) then
 bif v==v then
 some ((.tup [],[.mk v 0 0 (fun x=>[]) false false (some (MapD.mk (KS.int IntKind.i64) IntKind.i64 (fun l=>!keq l [a]&&(keq l [a] || s.has l)) (fun l_1 =>
 bif keq l_1 [a] then (0:Int)
 else
 bif keq l_1 [a] then IntKind.i64.wrap (s.val [a]+l)
 else s.val l_1) (fun l =>
 bif keq l [a] then
 bif s.has [a] then s.born [a]
 else s.clock
 else s.born l) (bif s.has [a] then s.clock
 else s.clock+1)
 none))]))
 else none else
 some ((.tup [],[.mk v 0 0 (fun x=>[]) false false (some (MapD.mk (KS.int IntKind.i64) IntKind.i64 (fun l=>keq l [a] || s.has l) (fun l_1 =>
 bif keq l_1 [a] then IntKind.i64.wrap (s.val [a]+l)
 else s.val l_1) (fun l =>
 bif keq l [a] then
 bif s.has [a] then s.born [a]
 else s.clock
 else s.born l) (bif s.has [a] then s.clock
 else s.clock+1)
 none))]))
 else none else none else
 none):=by kernel_rfl
theorem i23 (v:Nat) (hs:List Hld) (c:Option Nat) (i:Nat) (s s2:Sm) (p:List T->Heap->T->Heap->Prop):iterR P42 G42 A42 (K37 p v s2) 0 23 [] 1 (v23 v hs c i) [mapBlk v s.m] =
(
 bif decide (Int.ofNat i<Int.ofNat hs.length) then
 bif decide (0<=Int.ofNat i)&&decide (Int.ofNat i<Int.ofNat hs.length) then
 bif decF (p [T.mp (0:Nat) v,.int .i64 (hs.getD i (Hld.mk (0:Int) (0:Int) (0:Int))).a,.int .i64 (IntKind.i64.wrap ((0:Int) - (hs.getD i (Hld.mk (0:Int) (0:Int) (0:Int))).l))] [.mk v 0 0 (fun x=>[]) false false (some (MapD.mk (KS.int IntKind.i64) IntKind.i64 s.has s.val s.born s.clock
 none))] (.tup []) [.mk v 0 0 (fun x=>[]) false false (some (MapD.mk (KS.int IntKind.i64) IntKind.i64 s2.has s2.val s2.born s2.clock
 none))]) then
 some ((.normal,[T.mp (0:Nat) v,hdV hs c,.int .i64 (.ofNat hs.length),.int .i64 (IntKind.i64.wrap (Int.ofNat i+1))],[.mk v 0 0 (fun x=>[]) false false (some (MapD.mk (KS.int IntKind.i64) IntKind.i64 s2.has s2.val s2.born s2.clock
 none))]))
 else none else none else
 some ((.exit 0,[],[.mk v 0 0 (fun x=>[]) false false (some (MapD.mk (KS.int IntKind.i64) IntKind.i64 s.has s.val s.born s.clock
 none))]))):=by kernel_rfl
theorem k23 (v:Nat) (hs:List Hld) (c:Option Nat) (s s2:Sm):stepR P42 G42 A42 noneO 0 23 [(1,litS (v23 v hs c 0) [mapBlk v s.m] (.exit 0) [] [mapBlk v s2.m])] [.mp 0 v,hdV hs c] [mapBlk v s.m] =
(
 bif weakF (v23 v hs c (nat_lit 0)) [.mk v 0 0 (fun x=>[]) false false (some (MapD.mk (KS.int IntKind.i64) IntKind.i64 s.has s.val s.born s.clock
 none))] (v23 v hs c (nat_lit 0)) [.mk v 0 0 (fun x=>[]) false false (some (MapD.mk (KS.int IntKind.i64) IntKind.i64 s.has s.val s.born s.clock
 none))] then
 some ((.tup [],[.mk v 0 0 (fun x=>[]) false false (some (MapD.mk (KS.int IntKind.i64) IntKind.i64 s2.has s2.val s2.born s2.clock
 none))]))
 else
 none):=by kernel_rfl
theorem i22 (cs:List Cne) (hs:List Hld) (i:Nat) (s s2:Sm) (p:List T->Heap->T->Heap->Prop):iterR P42 G42 A42 (K37 p 0 s2) 0 22 [] 3 (v22 cs hs i) [mapBlk 0 s.m] =
(
 bif decide (Int.ofNat i<Int.ofNat cs.length) then
 bif decide (0<=Int.ofNat i)&&decide (Int.ofNat i<Int.ofNat cs.length) then
 bif decF (p (T.mp (0:Nat) (0:Nat) :: (cs.getD i (Cne.mk (0:Int) (0:Int))).c) [.mk 0 0 0 (fun x=>[]) false false (some (MapD.mk (KS.int IntKind.i64) IntKind.i64 s.has s.val s.born s.clock
 none))] (.tup []) [.mk 0 0 0 (fun x=>[]) false false (some (MapD.mk (KS.int IntKind.i64) IntKind.i64 s2.has s2.val s2.born s2.clock
 none))]) then
 some ((.normal,[.reg [cnV cs
 none,hdV hs
 none],T.mp (0:Nat) (0:Nat),cnV cs
 none,.int .i64 (.ofNat cs.length),.int .i64 (IntKind.i64.wrap (Int.ofNat i+1))],[.mk 0 0 0 (fun x=>[]) false false (some (MapD.mk (KS.int IntKind.i64) IntKind.i64 s2.has s2.val s2.born s2.clock
 none))]))
 else none else none else
 some ((.exit 0,[.reg [cnV cs
 none,hdV hs
 none],T.mp (0:Nat) (0:Nat)],[.mk 0 0 0 (fun x=>[]) false false (some (MapD.mk (KS.int IntKind.i64) IntKind.i64 s.has s.val s.born s.clock
 none))]))):=by kernel_rfl
theorem k22 (cs:List Cne) (hs:List Hld) (s s2:Sm) (p:List T->Heap->T->Heap->Prop):stepL P42 G42 A42 (K23 p 0 s2) 0 22 [(3,litS (v22 cs hs 0) [mapBlk 0 smE.m] (.exit 0) [.reg [cnV cs none,hdV hs none],.mp 0 0] [mapBlk 0 s.m])] [.agg [cnV cs none,hdV hs none]] =
(
 bif weakF (v22 cs hs (nat_lit 0)) [.mk 0 0 0 (fun x=>[]) false false (some (MapD.mk (KS.int IntKind.i64) IntKind.i64 (fun x=>false) (fun x=>(0:Int)) (fun x=>(0:Nat)) (0:Nat)
 none))] (v22 cs hs (nat_lit 0)) [.mk 0 0 0 (fun x=>[]) false false (some (MapD.mk (KS.int IntKind.i64) IntKind.i64 (fun x=>false) (fun x=>(0:Int)) (fun x=>(0:Nat)) (0:Nat)
 none))] then
 bif decF (p [T.mp (0:Nat) (0:Nat),hdV hs
 none] [.mk 0 0 0 (fun x=>[]) false false (some (MapD.mk (KS.int IntKind.i64) IntKind.i64 s.has s.val s.born s.clock
 none))] (.tup []) [.mk 0 0 0 (fun x=>[]) false false (some (MapD.mk (KS.int IntKind.i64) IntKind.i64 s2.has s2.val s2.born s2.clock
 none))]) then
 some (T.freshm (MapD.mk (KS.int IntKind.i64) IntKind.i64 s2.has s2.val s2.born s2.clock
 none))
 else none else
 none):=by kernel_rfl
theorem addR (s:Sm) (v:Nat) (a l:Int):ToldRef P42 G42 37 [.mp 0 v,.int .i64 a,.int .i64 l] [mapBlk v s.m] (.tup []) [mapBlk v (addS s a l).m]:=by
 refine stepR_told hm42 hn42 none_ok (A:=A42) (m:=0) (by kernel_rfl) loops0 ?_
 rw [k37]
 refine BT (BT (BT ?_ (by simp)) (by simp)) (by simp)
 unfold addS
 have e:(bif decide (a = a)&&true then IntKind.i64.wrap (s.val [a]+l) else s.val [a]) = IntKind.i64.wrap (s.val [a]+l):=by simp
 rw [e]
 by_cases q:IntKind.i64.wrap (s.val [a]+l) = 0
 ·rw [if_pos q,dT q]
  exact bift rfl (BT rfl (by simp))
 ·rw [if_neg q,dF q]
  rfl
def takeS (s:Sm) (hs:List Hld):Nat->Sm
 | 0=>s
 | i+1=>addS (takeS s hs i) (hs.getD i hd0).a (IntKind.i64.wrap (0 - (hs.getD i hd0).l))
def putC (cs:List Cne):Nat->Sm
 | 0=>smE
 | i+1=>addS (putC cs i) (cs.getD i cn0).a (cs.getD i cn0).l
def freeS (cs:List Cne) (hs:List Hld):Sm:=takeS (putC cs cs.length) hs hs.length
theorem takeR (s:Sm) (v:Nat) (hs:List Hld) (c:Option Nat) (hn:hs.length<=1000000):ToldRef P42 G42 23 [.mp 0 v,hdV hs c] [mapBlk v s.m] (.tup []) [mapBlk v (takeS s hs hs.length).m]:=by
 obtain ⟨p,hp⟩:=is_ref P42 G42 37
 have l1:LoopOk P42 G42 (A42 23) 23 1 (litS (v23 v hs c 0) [mapBlk v s.m] (.exit 0) [] [mapBlk v (takeS s hs hs.length).m]):=by
  refine loop_steps hm42 (by kernel_rfl) (fun i=>v23 v hs c i) (fun i=>[mapBlk v (takeS s hs i).m]) (n:=hs.length) (fun i hi=>?_) ?_
  ·have t:=addR (takeS s hs i) v (hs.getD i hd0).a (IntKind.i64.wrap (0 - (hs.getD i hd0).l))
   refine Step.mk0 (A:=A42) (m:=0) (K:=K37 p v (takeS s hs (i+1))) (told_addRef none_ok (refF_told hp)) rfl rfl loops0 (h1:=[mapBlk v (takeS s hs (i+1)).m]) ?_ (.refl _)
   rw [i23,up1 (by omega)]
   exact BT (BT (bift (refF_yes hp t) rfl))
  ·refine Last.mk0 (A:=A42) (m:=0) (K:=K37 p v s) (told_addRef none_ok (refF_told hp)) rfl rfl loops0 (h1:=[mapBlk v (takeS s hs hs.length).m]) (by simp) ?_ (.refl _)
   rw [i23]
   exact BF rfl
 refine stepR_told hm42 hn42 none_ok (A:=A42) (m:=0) (by kernel_rfl) (loops1 l1) ?_
 rw [k23]
 exact bift (weakF_of ⟨rfl,.refl _⟩) rfl
theorem freeT (cs:List Cne) (hs:List Hld) (h1:cs.length<=1000000) (h2:hs.length<=1000000):ToldOk P42 G42 22 [.agg [cnV cs none,hdV hs none]] (.freshm (freeS cs hs).m):=by
 obtain ⟨p,hp⟩:=is_ref P42 G42 37
 obtain ⟨q,hq⟩:=is_ref P42 G42 23
 have l1:LoopOk P42 G42 (A42 22) 22 3 (litS (v22 cs hs 0) [mapBlk 0 smE.m] (.exit 0) [.reg [cnV cs none,hdV hs none],.mp 0 0] [mapBlk 0 (putC cs cs.length).m]):=by
  refine loop_steps hm42 (by kernel_rfl) (fun i=>v22 cs hs i) (fun i=>[mapBlk 0 (putC cs i).m]) (n:=cs.length) (fun i hi=>?_) ?_
  ·have t:=addR (putC cs i) 0 (cs.getD i cn0).a (cs.getD i cn0).l
   refine Step.mk0 (A:=A42) (m:=0) (K:=K37 p 0 (putC cs (i+1))) (told_addRef none_ok (refF_told hp)) rfl rfl loops0 (h1:=[mapBlk 0 (putC cs (i+1)).m]) ?_ (.refl _)
   rw [i22,up1 (by omega)]
   exact BT (BT (bift (refF_yes hp t) rfl))
  ·refine Last.mk0 (A:=A42) (m:=0) (K:=K37 p 0 smE) (told_addRef none_ok (refF_told hp)) rfl rfl loops0 (h1:=[mapBlk 0 (putC cs cs.length).m]) (by simp) ?_ (.refl _)
   rw [i22]
   exact BF rfl
 have t:=takeR (putC cs cs.length) 0 hs none h2
 refine stepL_told hm42 hn42 (told_addRef none_ok (refF_told hq)) (K:=K23 q 0 (freeS cs hs)) (A:=A42) (m:=0) (by kernel_rfl) (loops1 l1) ?_
 rw [k22]
 refine bift (weakF_of ⟨rfl,.refl _⟩) (bift (refF_yes hq t) ?_)
 rfl
end Go.Ab

