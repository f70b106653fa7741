/- A part of the proof: nothing is assumed. -/
import Derived.Test.YtkmijhnagbjbkaaP4
import Derived.Test.YtkmijhnagbjbkaaProg
import Derived.KernelRfl
import GoSem.Step
set_option linter.all false
namespace Go.Ab
open Go.Proofs
def G05:Nat->Option (List T):=gOf []
def A05:FuncId->Ann:=fun f=>match f with
 | 2=>⟨[],fun _ _=>[],false⟩
 | 3=>⟨[7,11],fun r o=>match r with | 7=>bif o then [2] else [3,5,7,8] | 11=>bif o then [2,3,5,7,8,9] else [3,5,7,8,9,10] | _=>[],false⟩
 | 4=>⟨[3,7,10],fun _ _=>[],false⟩
 | 5=>⟨[3,8,10,14,17,21],fun r o=>match r with | 10=>bif o then [3,5,7,8,9,10,11,12,13,14,15] else [3,5,6,7,8,9,10,11,12,13,14,15,16] | 15=>bif o then [3,5,6,7,8,9,10,11,12,13,14,15,16] else [3,5,6,7,8,9,10,11,12,13,14,15,16,17,18] | 25=>bif o then [7,12] else [3,5,7,10,12,19] | 28=>bif o then [3,5,7,10,12,19] else [3,5,7,10,12,19,20] | 33=>bif o then [3,5,7,10,12,19,20,21,22] else [3,5,7,10,12,19,20,21,22,23] | 37=>bif o then [3,5,7,10,12,19,20,21,22] else [3,5,7,10,12,19,20,21,22,24] | _=>[],false⟩
 | 6=>⟨[5,11],fun r o=>match r with | 4=>bif o then [1,5,7,8,9] else [1,5,7,8,9,10] | 15=>bif o then [7,11] else [7,11,13] | 19=>bif o then [7,11] else [7,11,14] | _=>[],false⟩
 | 7=>⟨[7],fun r o=>match r with | 8=>bif o then [2,3,5] else [3,4,5,6] | 17=>bif o then [3,4,6,9] else [3,4,6,7,9,10] | _=>[],false⟩
 | 8=>⟨[9,14],fun r o=>match r with | 4=>bif o then [4,6] else [0,4,5,6,7] | 11=>bif o then [0,4,5,6,7,8,9] else [0,4,5,6,7,8,9,10] | 17=>bif o then [0,4,5,6,7,8,9] else [0,4,5,6,7,8,9,12] | _=>[],false⟩
 | 9=>⟨[],fun _ _=>[],false⟩
 | 10=>⟨[],fun _ _=>[],false⟩
 | 11=>⟨[],fun r o=>match r with | 3=>bif o then [3] else [3,6,7,8] | _=>[],false⟩
 | 12=>⟨[4,5,7],fun r o=>match r with | 6=>bif o then [5,7,8] else [5,7,8,9] | 11=>bif o then [8] else [5,7,8,10] | _=>[],false⟩
 | 13=>⟨[4,6],fun _ _=>[],false⟩
 | 14=>⟨[3,4,9],fun r o=>match r with | 2=>bif o then [4,5] else [3,4,14,15,16] | 5=>bif o then [3,4,5,14,15,16] else [3,4,6,14,15,16,21,22,23] | _=>[],false⟩
 | 15=>⟨[3,5,8],fun r o=>match r with | 6=>bif o then [3,6] else [3,6,27,28,29] | _=>[],false⟩
 | 16=>⟨[3,4],fun _ _=>[],false⟩
 | 17=>⟨[],fun r o=>match r with | 3=>bif o then [3] else [0,3,4] | _=>[],false⟩
 | 18=>⟨[3],fun _ _=>[],false⟩
 | 19=>⟨[],fun _ _=>[],false⟩
 | 20=>⟨[5,15],fun r o=>match r with | 13=>bif o then [11] else [11,50,51,52] | 17=>bif o then [11,50,51,52] else [11,12,50,51,52,63,64,65] | _=>[],false⟩
 | 21=>⟨[8,9],fun r o=>match r with | 5=>bif o then [4,5] else [0,1,5,6] | 10=>bif o then [0,1,5,6] else [0,1,5,6,7] | 16=>bif o then [0,1,5,6,7] else [0,1,5,6,7,8,9,10] | _=>[],false⟩
 | 22=>⟨[],fun _ _=>[],false⟩
 | 23=>⟨[],fun _ _=>[],false⟩
 | 24=>⟨[3],fun _ _=>[],false⟩
 | 25=>⟨[3],fun _ _=>[],false⟩
 | 26=>⟨[],fun _ _=>[],false⟩
 | 27=>⟨[],fun _ _=>[],false⟩
 | 28=>⟨[2,3],fun _ _=>[],false⟩
 | 29=>⟨[],fun r o=>match r with | 3=>bif o then [2,3] else [3,6,7,8] | _=>[],false⟩
 | 30=>⟨[],fun _ _=>[],false⟩
 | 31=>⟨[],fun _ _=>[],false⟩
 | 32=>⟨[],fun r o=>match r with | 4=>bif o then [0,2] else [0,3] | 9=>bif o then [0,3] else [0,3,4,5] | _=>[],false⟩
 | 33=>⟨[1,2],fun _ _=>[],false⟩
 | 34=>⟨[],fun _ _=>[],false⟩
 | 35=>⟨[],fun _ _=>[],false⟩
 | 36=>⟨[6],fun r o=>match r with | 2=>bif o then [2] else [0,7,8,9] | 5=>bif o then [0,2,7,8,9] else [0,7,8,9,13,14,15] | _=>[],false⟩
 | 37=>⟨[7,9],fun r o=>match r with | 3=>bif o then [2] else [3,11,12,13] | 6=>bif o then [2,3,11,12,13] else [3,11,12,13,17,18,19] | 9=>bif o then [2,3,11,12,13,17,18,19] else [3,11,12,13,17,18,19,24,25,26] | _=>[],false⟩
 | 38=>⟨[10,11],fun r o=>match r with | 5=>bif o then [4] else [0,3,4,5,6] | 8=>bif o then [0,3,4,5,6,7] else [0,3,4,5,6,7,28,29,30] | 12=>bif o then [0,3,4,5,6,7,8,28,29,30] else [0,3,4,5,6,7,8,10,28,29,30] | _=>[],false⟩
 | 39=>⟨[3],fun r o=>match r with | 2=>bif o then [4] else [0,3,7,8] | _=>[],false⟩
 | 40=>⟨[],fun r o=>match r with | 2=>bif o then [] else [0,1,2,3,4,10,11] | _=>[],false⟩
 | 41=>⟨[],fun _ _=>[],false⟩
 | 42=>⟨[],fun _ _=>[],false⟩
 | 43=>⟨[],fun _ _=>[],false⟩
 | 44=>⟨[],fun _ _=>[],false⟩
 | 45=>⟨[3,6,8],fun r o=>match r with | 6=>bif o then [0,3,4] else [0,3,28,29,30] | 12=>bif o then [3,4] else [0,3,40,41,42] | _=>[],false⟩
 | 46=>⟨[2,4],fun _ _=>[],false⟩
 | 47=>⟨[],fun r o=>match r with | 1=>bif o then [] else [0,1,2,3,8] | 4=>bif o then [0,1,2,3,8] else [0,1,2,3,8,9] | _=>[],false⟩
 | 48=>⟨[],fun r o=>match r with | 4=>bif o then [0,3,8,9,10] else [0,3,8,9,10,11] | 8=>bif o then [] else [0,3,8,9,12] | _=>[],false⟩
 | 49=>⟨[],fun r o=>match r with | 5=>bif o then [] else [0,1,8,9,10,11] | _=>[],false⟩
 | 50=>⟨[],fun _ _=>[],false⟩
 | 51=>⟨[],fun r o=>match r with | 2=>bif o then [] else [0,8,9] | _=>[],false⟩
 | 52=>⟨[],fun r o=>match r with | 3=>bif o then [8] else [0,1,2,3,9,10] | 5=>bif o then [0,1,2,3,9,10] else [0,1,2,3,9,10] | 14=>bif o then [0,1,2,3,9,10] else [0,1,2,3,9,10,11] | 20=>bif o then [0,1,2,3,9,10] else [0,1,2,3,9,10,12] | _=>[],false⟩
 | 53=>⟨[],fun r o=>match r with | 7=>bif o then [11] else [0,1,4,11,12] | 3=>bif o then [0,1,4,11,12] else [0,1,4,11,12] | 5=>bif o then [0,1,4,11,12] else [0,1,4,11,12] | _=>[],false⟩
 | 54=>⟨[],fun r o=>match r with | 3=>bif o then [0,1,4,12,13] else [0,1,4,12,13] | 5=>bif o then [0,1,4,12,13] else [0,1,4,12,13] | 17=>bif o then [0,1,13] else [0,1,4,12,13] | 13=>bif o then [0,1,4,12,13] else [0,1,4,12,13] | 15=>bif o then [0,1,4,12,13] else [0,1,4,12,13] | _=>[],false⟩
 | 55=>⟨[],fun _ _=>[],false⟩
 | 56=>⟨[],fun _ _=>[],false⟩
 | 57=>⟨[],fun _ _=>[],false⟩
 | 58=>⟨[],fun r o=>match r with | 1=>bif o then [] else [0,2,3,4,10] | _=>[],false⟩
 | 59=>⟨[],fun _ _=>[],false⟩
 | 60=>⟨[],fun _ _=>[],false⟩
 | 61=>⟨[],fun _ _=>[],false⟩
 | 62=>⟨[],fun _ _=>[],false⟩
 | 63=>⟨[],fun _ _=>[],false⟩
 | 64=>⟨[6],fun r o=>match r with | 2=>bif o then [0] else [0,8,9,10] | _=>[],false⟩
 | 65=>⟨[],fun _ _=>[],false⟩
 | 66=>⟨[2,3],fun _ _=>[],false⟩
 | 67=>⟨[],fun _ _=>[],false⟩
 | _=>⟨[],fun _ _=>[],false⟩
noncomputable abbrev P05:Program:=Try.prog
theorem hm05:P05.follows .mixedOrders = true:=by kernel_rfl
theorem hn05:namesOk P05 = true:=by kernel_rfl
theorem hl05:laidOutB P05 = true:=by kernel_rfl
open Go.Proofs
structure Idd where
 (y n:Int)
structure Pss where
 (y n:Int) (f:Bool) (d:Int)
structure Lpp where
 (b:Int) (w:Bool) (th:Nat->Idd) (nt:Nat) (ps:Nat->Pss) (np:Nat)
def Idd.c (a:Idd):List T:=[.int .u8 a.y,.int .i64 a.n]
def Pss.c (p:Pss):List T:=[.int .u8 p.y,.int .i64 p.n,.bool p.f,.int .u8 p.d]
def Pss.id (p:Pss):Idd:=⟨p.y,p.n⟩
def idV (g:Nat->Idd) (n:Nat) (c:Option Nat):T:=.view 2 n (fun j=>(g j).c) c
def psV (g:Nat->Pss) (n:Nat) (c:Option Nat):T:=.view 4 n (fun j=>(g j).c) c
def Lpp.c (l:Lpp):List T:=[.int .u8 l.b,.bool l.w,idV l.th l.nt none,psV l.ps l.np none]
structure Tbl where
 h:Nat
 ln:Nat->Nat
 L:Nat->Nat->Lpp
def lpV (g:Nat->Lpp) (n:Nat) (c:Option Nat):T:=.view 4 n (fun j=>(g j).c) c
def Tbl.v (t:Tbl):T:=.view 1 t.h (fun y=>[lpV (t.L y) (t.ln y) none]) none
structure Idd.Ok (a:Idd):Prop where
 y:0<=a.y/\a.y<256
 n:-9223372036854775808<=a.n/\a.n<=9223372036854775807
structure Pss.Ok (p:Pss):Prop where
 i:p.id.Ok
 d:0<=p.d/\p.d<256
structure Lpp.Ok (l:Lpp):Prop where
 b:0<=l.b/\l.b<256
 th:∀ j,(l.th j).Ok
 ps:∀ j,(l.ps j).Ok
 nt:l.nt<=100000
 np:l.np<=100000
structure Tbl.Ok (t:Tbl):Prop where
 h:t.h<=1000
 ln:∀ y,t.ln y<=10000
 L:∀ y i,(t.L y i).Ok
def Tbl.has (t:Tbl) (a:Idd):Bool:=decide (1<=a.y)&&decide (a.y<=t.h)&&decide (0<=a.n)&&decide (a.n<(t.ln (a.y - 1).toNat:Int))
def Tbl.sum (t:Tbl):Nat->Nat
 | 0=>0
 | y+1=>t.sum y+t.ln y
theorem hasT (t:Tbl) (ht:t.Ok) (a:Idd) (ha:a.Ok):ToldOk P05 G05 25 [t.v,.agg a.c] (.bool (t.has a)):=by
 refine stepV_told hm05 hn05 none_ok (K:=noneO) (A:=A05) (m:=0) ?_
 rw [(show stepV P05 G05 A05 noneO 0 25 [t.v,.agg a.c] =
(
 bif decide (1<=a.y) then
 bif decide (IntKind.i64.wrap a.y<=Int.ofNat t.h) then
 bif decide (0<=a.n) then
 bif decide (0<=IntKind.u8.wrap (a.y - 1))&&decide (IntKind.u8.wrap (a.y - 1)<Int.ofNat t.h) then
 bif decide (a.n<Int.ofNat (t.ln (IntKind.u8.wrap (a.y - (1:Int))).toNat)) then
 some (.bool true)
 else
 some (.bool false)
 else none else
 some (.bool false)
 else
 some (.bool false)
 else
 some (.bool false)) from by kernel_rfl)]
 unfold Tbl.has
 have:=ha.y
 have:=ht.h
 clear ht ha
 by_cases h1:1<=a.y
 ·have e1:IntKind.i64.wrap a.y = a.y:=wr64 (by omega) (by omega)
  have e2:IntKind.u8.wrap (a.y - 1) = a.y - 1:=wr8 (by omega) (by omega)
  rw [e1,e2,dT h1]
  by_cases h2:a.y<=t.h
  ·rw [dT h2]
   by_cases h3:0<=a.n
   ·rw [dT h3]
    generalize t.ln (a.y - 1).toNat = k
    by_cases h4:a.n<(k:Int)
    ·rw [dT h4]
     (repeat (first | refine BS ?_ | refine BF ?_))
     rfl
    ·rw [dF h4]
     (repeat (first | refine BS ?_ | refine BF ?_))
     rfl
   ·rw [dF h3]
    (repeat (first | refine BS ?_ | refine BF ?_))
    rfl
  ·rw [dF h2]
   (repeat (first | refine BS ?_ | refine BF ?_))
   rfl
 ·rw [dF h1]
  (repeat (first | refine BS ?_ | refine BF ?_))
  rfl
theorem copyIdT (g:Nat->Idd) (n:Nat) (c:Option Nat) (hn:n<=1000000):ToldOk P05 G05 26 [idV g n c] (.fresh true 2 n (fun j=>(g j).c) n (some n)):=by
 refine ToldOk.resTo (r:=.fresh true 2 (n - 0) (fun j=>bif Nat.ble 0 (0+j)&&Nat.blt (0+j) (0+n.min n) then (g (0+j - 0)).c else [T.int .u8 0,T.int .i64 0]) n (some n)) ?_ (.fresh (Nat.le_refl _) (by omega) (fun m hm=>by obtain rfl:=Option.some.inj hm; omega) fun j hj=>by rw [Nat.zero_add,bleT (Nat.zero_le _),show Nat.min n n = n from Nat.min_self n,Nat.zero_add,bltT hj]; rfl)
 refine stepV_told hm05 hn05 none_ok (K:=noneO) (A:=A05) (m:=0) ?_
 rw [(show stepV P05 G05 A05 noneO 0 26 [idV g n c] =
(
 bif decide (0<=Int.ofNat n)&&decide (Int.ofNat n<=Int.ofNat n)&&decide (Int.ofNat n * 16<=140737488355328)&&decide (Int.ofNat n<=9223372036854775807) then
 bif ((0:Nat)+n).ble n then
 some (bif ((0:Nat)+n).ble n then .fresh true (2:Nat) (n - 0) (fun j =>
 bif Nat.ble 0 (0+j)&&((0:Nat)+j).blt (0+n.min n) then (g ((0:Nat)+j - (0:Nat))).c
 else [.int .u8 0,.int .i64 0]) n (some n)
 else .undef)
 else none else
 none) from by kernel_rfl)]
 refine BS ?_
 refine BS ?_
 rw [Nat.zero_add,bleT (Nat.le_refl _)]
 rfl
theorem copyPsT (g:Nat->Pss) (n:Nat) (c:Option Nat) (hn:n<=1000000):ToldOk P05 G05 44 [psV g n c] (.fresh true 4 n (fun j=>(g j).c) n (some n)):=by
 refine ToldOk.resTo (r:=.fresh true 4 (n - 0) (fun j=>bif Nat.ble 0 (0+j)&&Nat.blt (0+j) (0+n.min n) then (g (0+j - 0)).c else [T.int .u8 0,T.int .i64 0,T.bool false,T.int .u8 0]) n (some n)) ?_ (.fresh (Nat.le_refl _) (by omega) (fun m hm=>by obtain rfl:=Option.some.inj hm; omega) fun j hj=>by rw [Nat.zero_add,bleT (Nat.zero_le _),show Nat.min n n = n from Nat.min_self n,Nat.zero_add,bltT hj]; rfl)
 refine stepV_told hm05 hn05 none_ok (K:=noneO) (A:=A05) (m:=0) ?_
 rw [(show stepV P05 G05 A05 noneO 0 44 [psV g n c] =
(
 bif decide (0<=Int.ofNat n)&&decide (Int.ofNat n<=Int.ofNat n)&&decide (Int.ofNat n * 24<=140737488355328)&&decide (Int.ofNat n<=9223372036854775807) then
 bif ((0:Nat)+n).ble n then
 some (bif ((0:Nat)+n).ble n then .fresh true (4:Nat) (n - 0) (fun j =>
 bif Nat.ble 0 (0+j)&&((0:Nat)+j).blt (0+n.min n) then (g ((0:Nat)+j - (0:Nat))).c
 else [.int .u8 0,.int .i64 0,.bool false,.int .u8 0]) n (some n)
 else .undef)
 else none else
 none) from by kernel_rfl)]
 refine BS ?_
 refine BS ?_
 rw [Nat.zero_add,bleT (Nat.le_refl _)]
 rfl
open Go.Proofs
def nlT (l:Lpp):T:=.agg [.int .u8 l.b,.bool l.w,.fresh true 2 l.nt (fun j=>(l.th j).c) l.nt (some l.nt),.fresh true 4 l.np (fun j=>(l.ps j).c) l.np (some l.np)]
def zlT:T:=.agg [.int .u8 0,.bool false,.nils,.nils]
noncomputable def K33 (p q:List T->T->Prop) (l:Lpp):Orc:=(noneO.add 26 (callF p fun _=>some (.fresh true 2 l.nt (fun j=>(l.th j).c) l.nt (some l.nt)))).add 44 (callF q fun _=>some (.fresh true 4 l.np (fun j=>(l.ps j).c) l.np (some l.np)))
noncomputable def K16 (p q:List T->T->Prop) (b:Bool) (r:T):Orc:=(noneO.add 25 (callF p fun _=>some (.bool b))).add 33 (callF q fun _=>some r)
def needI (l:Lpp) (i:Nat):Idd:=if i<l.nt then l.th i else (l.ps (i - l.nt)).id
def b64 (g:Nat->Pss) (n:Nat):Blk:=⟨0,4,n,fun e=>(g e).c,true,false,none⟩
def v64 (l:Nat->Pss) (n:Nat) (c:Option Nat) (m k:Nat):List T:=[.own 0 0 0 m (some n),psV l n c,.int .i64 n,.int .i64 k]
noncomputable def K64 (p:List T->T->Prop) (b:Bool):Orc:=noneO.add 66 (callF p fun _=>some (.bool b))
theorem copyLoopT (l:Lpp) (hl:l.Ok):ToldOk P05 G05 33 [.agg l.c] (nlT l):=by
 obtain ⟨p,hp⟩:=is_val P05 G05 26
 obtain ⟨q,hq⟩:=is_val P05 G05 44
 have t1:=copyIdT l.th l.nt none (by have:=hl.nt; omega)
 have t2:=copyPsT l.ps l.np none (by have:=hl.np; omega)
 refine stepV_told hm05 hn05 (told_add (told_add none_ok (callF_told hp)) (callF_told hq)) (K:=K33 p q l) (A:=A05) (m:=0) ?_
 rw [(show stepV P05 G05 A05 (K33 p q l) 0 33 [.agg l.c] =
(
 bif decF (p [idV l.th l.nt
 none] (.fresh true (2:Nat) l.nt (fun j=>(l.th j).c) l.nt (some l.nt))) then
 bif decF (q [psV l.ps l.np
 none] (.fresh true (4:Nat) l.np (fun j=>(l.ps j).c) l.np (some l.np))) then
 some (.agg [.int .u8 l.b,.bool l.w,
 bif ((0:Nat)+l.nt).ble l.nt then .fresh true (2:Nat) (l.nt - 0) (fun j=>(l.th ((0:Nat)+j)).c) l.nt (some l.nt)
 else .undef,
 bif ((0:Nat)+l.np).ble l.np then .fresh true (4:Nat) (l.np - 0) (fun j=>(l.ps ((0:Nat)+j)).c) l.np (some l.np)
 else .undef])
 else none else
 none) from by kernel_rfl)]
 clear hl
 (repeat (first | refine BS ?_ | refine BF ?_))
 simp only [Nat.zero_add,Nat.sub_zero]
 rw [bleT (Nat.le_refl _),bleT (Nat.le_refl _)]
 rfl
theorem findT (t:Tbl) (ht:t.Ok) (a:Idd) (ha:a.Ok):ToldOk P05 G05 16 [t.v,.agg a.c] (bif t.has a then .tup [nlT (t.L (a.y - 1).toNat a.n.toNat),.int .i64 0] else .tup [zlT,.int .i64 7]):=by
 obtain ⟨p,hp⟩:=is_val P05 G05 25
 obtain ⟨q,hq⟩:=is_val P05 G05 33
 have t1:=hasT t ht a ha
 have t2:=copyLoopT _ (ht.L (a.y - 1).toNat a.n.toNat)
 have hy:=ha.y
 have hh:=ht.h
 cases hb:t.has a
 ·rw [hb] at t1
  refine stepV_told hm05 hn05 (told_add (told_add none_ok (callF_told hp)) (callF_told hq)) (K:=K16 p q false .nils) (A:=A05) (m:=0) ?_
  rw [(show stepV P05 G05 A05 (K16 p q false .nils) 0 16 [t.v,.agg a.c] =
(
 bif decF (p [t.v,.agg a.c] (.bool false)) then
 some (.tup [.agg [.int .u8 0,.bool false,.nils,.nils],.int .i64 7])
 else
 none) from by kernel_rfl)]
  clear ht ha hb t2
  (repeat (first | refine BS ?_ | refine BF ?_))
  rfl
 ·rw [hb] at t1
  simp only [Tbl.has,Bool.and_eq_true,decide_eq_true_eq] at hb
  generalize hx:t.L (a.y - 1).toNat a.n.toNat = l at *
  refine stepV_told hm05 hn05 (told_add (told_add none_ok (callF_told hp)) (callF_told hq)) (K:=K16 p q true (nlT l)) (A:=A05) (m:=0) ?_
  rw [(show stepV P05 G05 A05 (K16 p q true (nlT l)) 0 16 [t.v,.agg a.c] =
(
 bif decF (p [t.v,.agg a.c] (.bool true)) then
 bif decide (0<=IntKind.u8.wrap (a.y - 1))&&decide (IntKind.u8.wrap (a.y - 1)<Int.ofNat t.h) then
 bif decide (0<=a.n)&&decide (a.n<Int.ofNat (t.ln (IntKind.u8.wrap (a.y - (1:Int))).toNat)) then
 bif decF (q [.agg (t.L (IntKind.u8.wrap (a.y - (1:Int))).toNat a.n.toNat).c] (nlT l)) then
 some (.tup [.agg [.int .u8 l.b,.bool l.w,
 bif ((0:Nat)+l.nt).ble l.nt then .fresh true (2:Nat) (l.nt - 0) (fun j=>(l.th ((0:Nat)+j)).c) l.nt (some l.nt)
 else .undef,
 bif ((0:Nat)+l.np).ble l.np then .fresh true (4:Nat) (l.np - 0) (fun j=>(l.ps ((0:Nat)+j)).c) l.np (some l.np)
 else .undef],.int .i64 0])
 else none else none else none else
 none) from by kernel_rfl)]
  have e1:IntKind.u8.wrap (a.y - 1) = a.y - 1:=wr8 (by omega) (by omega)
  rw [e1,hx]
  clear ht ha hx
  refine BS ?_
  refine BS ?_
  refine bift (by rw [dT (by omega),dT (by rw [ofNatE]; omega)]; rfl) ?_
  refine BS ?_
  simp only [Nat.zero_add,Nat.sub_zero]
  rw [bleT (Nat.le_refl _),bleT (Nat.le_refl _)]
  rfl
theorem i64 (l g:Nat->Pss) (n:Nat) (c:Option Nat) (m k:Nat) (b:Bool) (p:List T->T->Prop):iterR P05 G05 A05 (K64 p b) 0 64 [] 2 (v64 l n c m k) [b64 g n] =
(
 bif decide (Int.ofNat k<Int.ofNat n) then
 bif decide (0<=Int.ofNat k)&&decide (Int.ofNat k<Int.ofNat n) then
 bif decide (0<Int.ofNat m) then
 bif decide (0<=IntKind.i64.wrap (Int.ofNat m - 1))&&decide (IntKind.i64.wrap (Int.ofNat m - 1)<Int.ofNat m) then
 bif ((0:Nat)+(IntKind.i64.wrap (Int.ofNat m - (1:Int))).toNat).blt n then
 bif decF (p [.agg (g ((0:Nat)+(IntKind.i64.wrap (Int.ofNat m - (1:Int))).toNat)).c,.agg (l k).c] (.bool b)) then
 bif b then
 bif decide (0<=IntKind.i64.wrap (Int.ofNat m - 1))&&decide (IntKind.i64.wrap (Int.ofNat m - 1)<=Int.ofNat n)&&decide (Int.ofNat n<=Int.ofNat n) then
 some ((.normal,[.own 0 0 0 ((IntKind.i64.wrap (Int.ofNat m - (1:Int))).toNat - 0) (some (n - 0)),psV l n c,.int .i64 (.ofNat n),.int .i64 (IntKind.i64.wrap (Int.ofNat k+1))],[b64 g n]))
 else none else
 bif ((0:Nat)+m).ble n then
 bif ((m+(1:Nat)) * (25:Nat)).ble 70368744177664 then
 bif (m+(1:Nat)).ble n then
 bif ((0:Nat)+m+(1:Nat)).ble n then
 some ((.normal,[.own 0 0 0 (m+1) (some n),psV l n c,.int .i64 (.ofNat n),.int .i64 (IntKind.i64.wrap (Int.ofNat k+1))],[.mk 0 4 n (fun j =>
 bif ((0:Nat)+m).ble j&&j.blt (0+m+1) then [(l k).c].getD ((0:Nat)+(j - (0+m))) []
 else (g j).c) true false
 none,.mk 0 4 1 (fun j=>[(l k).c].getD j []) true true
 none]))
 else none else
 some ((.normal,[.own [b64 g n,Blk.mk 0 4 1 (fun j=>[(l k).c].getD j []) true true
 none].length (0:Nat) (0:Nat) (m+1)
 none,psV l n c,.int .i64 (.ofNat n),.int .i64 (IntKind.i64.wrap (Int.ofNat k+1))],[b64 g n,.mk 0 4 1 (fun j=>[(l k).c].getD j []) true true
 none,.mk 0 4 (m+1) (fun j =>
 bif j.blt m then (g ((0:Nat)+j)).c
 else [(l k).c].getD ((0:Nat)+(j - m)) []) true false
 none]))
 else none else none else none else none else none else
 bif ((0:Nat)+m).ble n then
 bif ((m+(1:Nat)) * (25:Nat)).ble 70368744177664 then
 bif (m+(1:Nat)).ble n then
 bif ((0:Nat)+m+(1:Nat)).ble n then
 some ((.normal,[.own 0 0 0 (m+1) (some n),psV l n c,.int .i64 (.ofNat n),.int .i64 (IntKind.i64.wrap (Int.ofNat k+1))],[.mk 0 4 n (fun j =>
 bif ((0:Nat)+m).ble j&&j.blt (0+m+1) then [(l k).c].getD ((0:Nat)+(j - (0+m))) []
 else (g j).c) true false
 none,.mk 0 4 1 (fun j=>[(l k).c].getD j []) true true
 none]))
 else none else
 some ((.normal,[.own [b64 g n,Blk.mk 0 4 1 (fun j=>[(l k).c].getD j []) true true
 none].length (0:Nat) (0:Nat) (m+1)
 none,psV l n c,.int .i64 (.ofNat n),.int .i64 (IntKind.i64.wrap (Int.ofNat k+1))],[b64 g n,.mk 0 4 1 (fun j=>[(l k).c].getD j []) true true
 none,.mk 0 4 (m+1) (fun j =>
 bif j.blt m then (g ((0:Nat)+j)).c
 else [(l k).c].getD ((0:Nat)+(j - m)) []) true false
 none]))
 else none else none else none else
 some ((.exit 0,[.own 0 0 0 m (some n)],[b64 g n]))):=by kernel_rfl
open Go.Proofs
section
variable (t:Tbl) (l:Lpp) (i y:Nat) (b b1 b2:Bool) (p:List T->T->Prop) (x z:List T->Heap->Ex->List T->Heap->Prop) (g:Nat->Pss) (m:Nat)
end
open Go.Proofs
def tkH (K:List Int) (hs:List Int->Bool):List Int->Bool:=fun l=>keq l K || (keq l K || hs l)
def hF:List (List Int)->List Int->Bool
 | []=>fun _=>false
 | K :: L=>tkH K (hF L)
section
variable (t:Tbl) (y i k:Nat) (hs hs1 hs2:List Int->Bool) (vl vl1 vl2:List Int->Int) (bn bn1 bn2:List Int->Nat) (ck ck1 ck2:Nat) (x:List T->Heap->Ex->List T->Heap->Prop) (b:Bool)
end
open Go.Proofs
def bkR (g:Nat->Idd) (n:Nat):Blk:=⟨0,2,n,fun e=>(g e).c,true,false,none⟩
def thr (m:Nat->Int) (a:Idd):Bool:=decide (a.n<m (a.y - 1).toNat)
def upd (s:Nat->Int) (y:Nat) (v:Int):Nat->Int:=fun e=>bif e==y then v else s e
theorem upd_at (s:Nat->Int) (y:Nat) (v:Int):upd s y v y = v:=by simp [upd]
open Go.Proofs
open Go.Proofs
def cM (M:Nat->Nat):Nat->Int:=fun e=>(M e:Int)
def nN (t:Tbl) (M:Nat->Nat) (y:Nat):Nat:=(t.L y (M y)).nt+(t.L y (M y)).np
def rdy (t:Tbl) (M:Nat->Nat) (y:Nat):Bool:=decide (M y<t.ln y)&&allB (fun i=>thr (cM M) (needI (t.L y (M y)) i)) (nN t M y)
def inc (M:Nat->Nat) (y:Nat):Nat->Nat:=fun e=>bif e==y then M e+1 else M e
theorem inc_at (M:Nat->Nat) (y:Nat):inc M y y = M y+1:=by unfold inc; simp
theorem inc_ne (M:Nat->Nat) {y e:Nat} (h:e ≠ y):inc M y e = M e:=by unfold inc; rw [show (e==y) = false by simpa using h]; rfl
theorem thr_inc {M:Nat->Nat} {y:Nat} {a:Idd} (h:thr (cM M) a = true):thr (cM (inc M y)) a = true:=by
 unfold thr cM at *
 rw [decide_eq_true_eq] at *
 by_cases q:(a.y - 1).toNat = y
 ·rw [q] at h ⊢; rw [inc_at]; omega
 ·rw [inc_ne M q]; exact h
def SOk (t:Tbl) (M:Nat->Nat) (s:Nat->Int):Prop:=∀ y,y<t.h->∃ c:Nat,s y = (c:Int)/\c<=nN t M y/\∀ i,i<c->thr (cM M) (needI (t.L y (M y)) i) = true
theorem needOk {l:Lpp} (hl:l.Ok) (i:Nat):(needI l i).Ok:=by
 unfold needI
 by_cases h:i<l.nt
 ·rw [if_pos h]; exact hl.th i
 ·rw [if_neg h]; exact (hl.ps _).i
theorem SOk.upd {t:Tbl} {M:Nat->Nat} {s:Nat->Int} (h:SOk t M s) {y c:Nat} (hc:c<=nN t M y) (hg:∀ i,i<c->thr (cM M) (needI (t.L y (M y)) i) = true):SOk t M (Go.Ab.upd s y c):=by
 intro z hz
 by_cases q:z = y
 ·subst q; exact ⟨c,upd_at _ _ _,hc,hg⟩
 ·obtain ⟨d,q1,q2,q3⟩:=h z hz
  refine ⟨d,?_,q2,q3⟩
  rw [← q1]; unfold Go.Ab.upd; rw [show (z==y) = false by simpa using q]; rfl
theorem SOk.take {t:Tbl} {M:Nat->Nat} {s:Nat->Int} (h:SOk t M s) (y:Nat):SOk t (inc M y) (Go.Ab.upd s y 0):=by
 intro z hz
 by_cases q:z = y
 ·subst q; exact ⟨0,upd_at _ _ _,Nat.zero_le _,fun i hi=>by omega⟩
 ·obtain ⟨d,q1,q2,q3⟩:=h z hz
  refine ⟨d,?_,?_,?_⟩
  ·rw [← q1]; unfold Go.Ab.upd; rw [show (z==y) = false by simpa using q]; rfl
  ·unfold nN at *; rw [inc_ne M q]; exact q2
  ·rw [inc_ne M q]; exact fun i hi=>thr_inc (q3 i hi)
open Go.Proofs
def pick (t:Tbl) (M:Nat->Nat):Option Nat:=(List.range t.h).find? (rdy t M)
open Go.Proofs
open Go.Proofs
def v39 (g:Nat->Idd) (n:Nat) (a:Idd) (i:Nat):List T:=[idV g n none,.reg a.c,.int .i64 n,.int .i64 i]
noncomputable def l39 (x:List T->Heap->Ex->List T->Heap->Prop) (b:Bool) (k:Nat):List (Nat × (List T->Heap->LT)):=[(2,loopF x (.ite b (.ret .ret [.int .i64 k] []) (.ret (.exit 0) [.undef] [])))]
noncomputable def K24 (p:List T->T->Prop) (k:Int):Orc:=noneO.add 39 (callF p fun _=>some (.int .i64 k))
def v14i (t:Tbl) (a:Idd) (y i:Nat):List T:=[.reg a.c,.reg [.int .u8 0,.int .i64 0],.int .i64 y,t.v,.int .i64 t.h,.int .i64 y,lpV (t.L y) (t.ln y) none,.int .i64 (t.ln y),.int .i64 i]
def v14o (t:Tbl) (a:Idd) (y:Nat):List T:=[.reg a.c,.reg [.int .u8 0,.int .i64 0],t.v,.int .i64 t.h,.int .i64 y]
def x14 (t:Tbl) (a:Idd) (y:Nat) (r:Idd) (v:T):List T:=[.reg a.c,.reg r.c,v,t.v,.int .i64 t.h,.int .i64 y]
noncomputable def l14i (x:List T->Heap->Ex->List T->Heap->Prop) (t:Tbl) (a:Idd) (y:Nat) (b:Bool) (r:Idd):List (Nat × (List T->Heap->LT)):=[(5,loopF x (.ite b (.ret .ret (x14 t a y r (.bool true)) []) (.ret (.exit 2) (x14 t a y ⟨0,0⟩ .undef) [])))]
noncomputable def l14 (x:List T->Heap->Ex->List T->Heap->Prop) (b:Bool) (r:Idd):List (Nat × (List T->Heap->LT)):=[(2,loopF x (.ite b (.ret .ret [.reg r.c,.bool true] []) (.ret (.exit 0) [.reg [.int .u8 0,.int .i64 0],.undef] [])))]
noncomputable def K14 (p:List T->T->Prop) (b:Bool):Orc:=noneO.add 24 (callF p fun _=>some (.bool b))
theorem i39 (g:Nat->Idd) (n:Nat) (a:Idd) (i:Nat):iterR P05 G05 A05 noneO 0 39 [] 2 (v39 g n a i) [] =
(
 bif decide (Int.ofNat i<Int.ofNat n) then
 bif decide (0<=Int.ofNat i)&&decide (Int.ofNat i<Int.ofNat n) then
 bif decide (a.y = (g i).y) then
 bif decide (a.n = (g i).n) then
 some ((.ret,[.int .i64 (.ofNat i)],[]))
 else
 some ((.normal,[idV g n
 none,.reg a.c,.int .i64 (.ofNat n),.int .i64 (IntKind.i64.wrap (Int.ofNat i+1))],[]))
 else
 some ((.normal,[idV g n
 none,.reg a.c,.int .i64 (.ofNat n),.int .i64 (IntKind.i64.wrap (Int.ofNat i+1))],[]))
 else none else
 some ((.exit 0,[.undef],[]))):=by kernel_rfl
theorem k39 (g:Nat->Idd) (n:Nat) (a:Idd) (b:Bool) (k:Nat) (x:List T->Heap->Ex->List T->Heap->Prop):stepL P05 G05 A05 noneO 0 39 (l39 x b k) [idV g n none,.agg a.c] =
(
 bif b then
 bif decF (x (v39 g n a (nat_lit 0)) [] .ret [.int .i64 (.ofNat k)] []) then
 some (.int .i64 (.ofNat k))
 else none else
 bif decF (x (v39 g n a (nat_lit 0)) [] (.exit 0) [.undef] []) then
 some (.int .i64 (-1:Int))
 else
 none):=by kernel_rfl
theorem k24 (g:Nat->Idd) (n:Nat) (a:Idd) (k:Int) (p:List T->T->Prop):stepV P05 G05 A05 (K24 p k) 0 24 [idV g n none,.agg a.c] =
(
 bif decF (p [idV g n
 none,.agg a.c] (.int .i64 k)) then
 bif decide (0<=k) then
 some (.bool true)
 else
 some (.bool false)
 else
 none):=by kernel_rfl
theorem i14i (t:Tbl) (a:Idd) (y i:Nat) (b:Bool) (p:List T->T->Prop):iterR P05 G05 A05 (K14 p b) 0 14 [] 5 (v14i t a y i) [] =
(
 bif decide (Int.ofNat i<Int.ofNat (t.ln y)) then
 bif decide (0<=Int.ofNat i)&&decide (Int.ofNat i<Int.ofNat (t.ln y)) then
 bif decF (p [idV (t.L y i).th (t.L y i).nt
 none,.agg a.c] (.bool b)) then
 bif b then
 some ((.ret,[.reg a.c,.reg [.int .u8 (IntKind.u8.wrap (IntKind.i64.wrap (Int.ofNat y+1))),.int .i64 (.ofNat i)],.bool true,t.v,.int .i64 (.ofNat t.h),.int .i64 (.ofNat y)],[]))
 else
 some ((.normal,[.reg a.c,.reg [.int .u8 0,.int .i64 0],.int .i64 (.ofNat y),t.v,.int .i64 (.ofNat t.h),.int .i64 (.ofNat y),lpV (t.L y) (t.ln y)
 none,.int .i64 (.ofNat (t.ln y)),.int .i64 (IntKind.i64.wrap (Int.ofNat i+1))],[]))
 else none else none else
 some ((.exit 2,[.reg a.c,.reg [.int .u8 0,.int .i64 0],.undef,t.v,.int .i64 (.ofNat t.h),.int .i64 (.ofNat y)],[]))):=by kernel_rfl
theorem i14o (t:Tbl) (a:Idd) (y:Nat) (b:Bool) (r:Idd) (x:List T->Heap->Ex->List T->Heap->Prop):iterR P05 G05 A05 noneO 0 14 (l14i x t a y b r) 2 (v14o t a y) [] =
(
 bif decide (Int.ofNat y<Int.ofNat t.h) then
 bif decide (0<=Int.ofNat y)&&decide (Int.ofNat y<Int.ofNat t.h) then
 bif b then
 bif decF (x (v14i t a y (nat_lit 0)) [] .ret [.reg a.c,.reg r.c,.bool true,t.v,.int .i64 (.ofNat t.h),.int .i64 (.ofNat y)] []) then
 some ((.ret,[.reg r.c,.bool true],[]))
 else none else
 bif decF (x (v14i t a y (nat_lit 0)) [] (.exit 2) [.reg a.c,.reg [.int .u8 0,.int .i64 0],.undef,t.v,.int .i64 (.ofNat t.h),.int .i64 (.ofNat y)] []) then
 some ((.normal,[.reg a.c,.reg [.int .u8 0,.int .i64 0],t.v,.int .i64 (.ofNat t.h),.int .i64 (IntKind.i64.wrap (Int.ofNat y+1))],[]))
 else none else none else
 some ((.exit 0,[.reg [.int .u8 0,.int .i64 0],.undef],[]))):=by kernel_rfl
theorem k14 (t:Tbl) (a:Idd) (b:Bool) (r:Idd) (x:List T->Heap->Ex->List T->Heap->Prop):stepL P05 G05 A05 noneO 0 14 (l14 x b r) [t.v,.agg a.c] =
(
 bif decide ((0:Int) ≤
 bif decide (255<Int.ofNat t.h) then (255:Int)
 else Int.ofNat t.h)&&decide ((bif decide (255<Int.ofNat t.h) then (255:Int)
 else Int.ofNat t.h)<=Int.ofNat t.h) then
 bif (bif decide ((255:Int)<Int.ofNat t.h) then (255:Int)
 else Int.ofNat t.h).toNat.ble t.h then
 bif b then
 bif decF (x [.reg a.c,.reg [.int .u8 0,.int .i64 0],.view 1 ((bif decide ((255:Int)<Int.ofNat t.h) then (255:Int)
 else Int.ofNat t.h).toNat - 0) (fun j=>[lpV (t.L (0+j)) (t.ln (0+j))
 none])
 none,.int .i64 (.ofNat ((bif decide ((255:Int)<Int.ofNat t.h) then (255:Int)
 else Int.ofNat t.h).toNat - 0)),.int .i64 0] [] .ret [.reg r.c,.bool true] []) then
 some (.tup [.agg r.c,.bool true])
 else none else
 bif decF (x [.reg a.c,.reg [.int .u8 0,.int .i64 0],.view 1 ((bif decide ((255:Int)<Int.ofNat t.h) then (255:Int)
 else Int.ofNat t.h).toNat - 0) (fun j=>[lpV (t.L (0+j)) (t.ln (0+j))
 none])
 none,.int .i64 (.ofNat ((bif decide ((255:Int)<Int.ofNat t.h) then (255:Int)
 else Int.ofNat t.h).toNat - 0)),.int .i64 0] [] (.exit 0) [.reg [.int .u8 0,.int .i64 0],.undef] []) then
 some (.tup [.agg [.int .u8 0,.int .i64 0],.bool false])
 else none else none else
 none):=by kernel_rfl
def eqI (x a:Idd):Bool:=decide (a.y = x.y)&&decide (a.n = x.n)
def cnt (g:Nat->Idd) (n:Nat) (a:Idd):Bool:=!(allB (fun i=>!(eqI (g i) a)) n)
theorem scan39 (g:Nat->Idd) (n:Nat) (a:Idd) (hn:n<=1000000):(cnt g n a = false->LoopOk P05 G05 (A05 39) 39 2 (litS (v39 g n a 0) [] (.exit 0) [.undef] []))/\(cnt g n a = true->∃ e v h,(e = .ret/\h = []/\∃ k:Nat,v = [.int .i64 k])/\LoopOk P05 G05 (A05 39) 39 2 (litS (v39 g n a 0) [] e v h)):=by
 have key:=loop_scanE (P:=P05) (Gl:=G05) (e1:=.exit 0) (v1:=[.undef]) (h1:=[]) hm05 (f:=39) (r:=2) (by kernel_rfl) (an:=A05 39) (fun i=>v39 g n a i) (fun _=>[]) (fun i=>!(eqI (g i) a)) (n:=n) (fun e v h=>e = .ret/\h = []/\∃ k:Nat,v = [.int .i64 k]) (fun i hi _ hg=>?_) (fun i hi _ hg=>?_) (fun _=>?_)
 ·unfold cnt
  exact ⟨fun h=>key.1 (by simpa using h),fun h=>key.2 (by simpa using h)⟩
 ·refine Step.mk0 (A:=A05) (m:=0) none_ok rfl rfl loops0 (h1:=[]) ?_ .nil
  rw [i39,up1 (by omega)]
  unfold eqI at hg
  refine BT (BT ?_)
  by_cases q:a.y = (g i).y
  ·have q2:¬ a.n = (g i).n:=fun q2=>by simp [q,q2] at hg
   exact BT (BF rfl)
  ·exact BF rfl
 ·refine ⟨_,_,_,⟨rfl,rfl,i,rfl⟩,?_⟩
  refine Last.mk0 (A:=A05) (m:=0) none_ok rfl rfl loops0 (h1:=[]) (by simp) ?_ .nil
  rw [i39]
  unfold eqI at hg
  have q:a.y = (g i).y/\a.n = (g i).n:=by simpa using hg
  obtain ⟨q1,q2⟩:=q
  exact BT (BT (BT (BT rfl)))
 ·refine Last.mk0 (A:=A05) (m:=0) none_ok rfl rfl loops0 (h1:=[]) (by simp) ?_ .nil
  rw [i39]
  exact BF rfl
theorem containsT (g:Nat->Idd) (n:Nat) (a:Idd) (hn:n<=1000000):ToldOk P05 G05 24 [idV g n none,.agg a.c] (.bool (cnt g n a)):=by
 obtain ⟨x,hx⟩:=is_loop P05 G05 (A05 39) 39 2
 obtain ⟨p,hp⟩:=is_val P05 G05 39
 have sc:=scan39 g n a hn
 cases hb:cnt g n a
 ·have t1:=sc.1 hb
  have t2:ToldOk P05 G05 39 [idV g n none,.agg a.c] (.int .i64 (-1)):=by
   refine stepL_told hm05 hn05 (K:=noneO) none_ok (A:=A05) (m:=0) (l:=l39 x false 0) (by kernel_rfl) (loops1 (loopF_ok hx _)) ?_
   rw [k39]
   exact biff (by simp) (BS rfl)
  refine stepV_told hm05 hn05 (K:=K24 p (-1)) (told_add none_ok (callF_told hp)) (A:=A05) (m:=0) ?_
  rw [k24]
  exact BS (biff (by decide) rfl)
 ·obtain ⟨e,v,h,⟨rfl,rfl,k,rfl⟩,t1⟩:=sc.2 hb
  have t2:ToldOk P05 G05 39 [idV g n none,.agg a.c] (.int .i64 k):=by
   refine stepL_told hm05 hn05 (K:=noneO) none_ok (A:=A05) (m:=0) (l:=l39 x true k) (by kernel_rfl) (loops1 (loopF_ok hx _)) ?_
   rw [k39]
   exact bift rfl (BS rfl)
  refine stepV_told hm05 hn05 (K:=K24 p k) (told_add none_ok (callF_told hp)) (A:=A05) (m:=0) ?_
  rw [k24]
  exact BS (bift (by simp) rfl)
def abI (t:Tbl) (a:Idd) (y i:Nat):Bool:=!(cnt (t.L y i).th (t.L y i).nt a)
def abY (t:Tbl) (a:Idd) (y:Nat):Bool:=allB (abI t a y) (t.ln y)
theorem scan14i (t:Tbl) (ht:t.Ok) (a:Idd) (y:Nat) (hy:y<255):(abY t a y = true->LoopOk P05 G05 (A05 14) 14 5 (litS (v14i t a y 0) [] (.exit 2) (x14 t a y ⟨0,0⟩ .undef) [])) ∧
 (abY t a y = false->∃ e v h,(e = .ret/\h = []/\∃ i:Nat,i<t.ln y/\abI t a y i = false/\v = x14 t a y ⟨(y:Int)+1,i⟩ (.bool true))/\LoopOk P05 G05 (A05 14) 14 5 (litS (v14i t a y 0) [] e v h)):=by
 obtain ⟨p,hp⟩:=is_val P05 G05 24
 have hK:∀ b,OrcOk P05 G05 (K14 p b):=fun b=>told_add none_ok (callF_told hp)
 have hn:=ht.ln y
 have hnt:=fun i=>(ht.L y i).nt
 clear ht
 refine loop_scanE hm05 (by kernel_rfl) (fun i=>v14i t a y i) (fun _=>[]) (abI t a y) (n:=t.ln y) _ (fun i hi _ hg=>?_) (fun i hi _ hg=>?_) (fun _=>?_)
 ·have t1:=containsT (t.L y i).th (t.L y i).nt a (by have:=hnt i; omega)
  unfold abI at hg
  rw [show cnt (t.L y i).th (t.L y i).nt a = false by simpa using hg] at t1
  clear hg hnt
  refine Step.mk0 (A:=A05) (m:=0) (hK false) rfl rfl loops0 (h1:=[]) ?_ .nil
  rw [i14i]
  simp only [up1 (show i<=1000000 by omega)]
  exact BT (BT (BS (biff (by simp) rfl)))
 ·have t1:=containsT (t.L y i).th (t.L y i).nt a (by have:=hnt i; omega)
  refine ⟨.ret,x14 t a y ⟨(y:Int)+1,i⟩ (.bool true),[],⟨rfl,rfl,i,hi,hg,rfl⟩,?_⟩
  unfold abI at hg
  rw [show cnt (t.L y i).th (t.L y i).nt a = true by simpa using hg] at t1
  clear hg hnt
  refine Last.mk0 (A:=A05) (m:=0) (hK true) rfl rfl loops0 (h1:=[]) (by simp) ?_ .nil
  rw [i14i]
  simp only [up1 (show y<=1000000 by omega)]
  have h8:IntKind.u8.wrap (Int.ofNat (y+1)) = ((y:Int)+1):=by rw [wr8 (by show (0:Int)<=((y+1:Nat):Int); omega) (by show ((y+1:Nat):Int)<=255; omega)]; show ((y+1:Nat):Int) = _; omega
  rw [h8]
  exact BT (BT (BS (bift rfl rfl)))
 ·clear hnt
  refine Last.mk0 (A:=A05) (m:=0) (hK true) rfl rfl loops0 (h1:=[]) (by simp) ?_ .nil
  rw [i14i]
  exact BF rfl
theorem scan14o (t:Tbl) (ht:t.Ok) (a:Idd) (hh:t.h<=255):(allB (abY t a) t.h = true->LoopOk P05 G05 (A05 14) 14 2 (litS (v14o t a 0) [] (.exit 0) [.reg [.int .u8 0,.int .i64 0],.undef] [])) ∧
 (allB (abY t a) t.h = false->∃ e v h,(e = .ret/\h = []/\∃ y i:Nat,y<t.h/\i<t.ln y/\abI t a y i = false/\v = [.reg (⟨(y:Int)+1,i⟩:Idd).c,.bool true])/\LoopOk P05 G05 (A05 14) 14 2 (litS (v14o t a 0) [] e v h)):=by
 obtain ⟨x,hx⟩:=is_loop P05 G05 (A05 14) 14 5
 refine loop_scanE hm05 (by kernel_rfl) (fun y=>v14o t a y) (fun _=>[]) (abY t a) (n:=t.h) _ (fun y hy _ hg=>?_) (fun y hy _ hg=>?_) (fun _=>?_)
 ·have t1:=(scan14i t ht a y (by omega)).1 hg
  clear hg ht
  refine Step.mk0 (A:=A05) (m:=0) (l:=l14i x t a y false ⟨0,0⟩) none_ok rfl rfl (loops1 (loopF_ok hx _)) (h1:=[]) ?_ .nil
  rw [i14o,up1 (by omega)]
  exact BT (BT (biff (by simp) (BS rfl)))
 ·obtain ⟨e,v,h,⟨rfl,rfl,i,p1,p2,rfl⟩,t1⟩:=(scan14i t ht a y (by omega)).2 hg
  clear hg ht
  refine ⟨.ret,[.reg (⟨(y:Int)+1,i⟩:Idd).c,.bool true],[],⟨rfl,rfl,y,i,hy,p1,p2,rfl⟩,?_⟩
  clear p1 p2
  refine Last.mk0 (A:=A05) (m:=0) (l:=l14i x t a y true ⟨(y:Int)+1,i⟩) none_ok rfl rfl (loops1 (loopF_ok hx _)) (h1:=[]) (by simp) ?_ .nil
  rw [i14o]
  exact BT (BT (bift rfl (BS rfl)))
 ·clear ht
  refine Last.mk0 (A:=A05) (m:=0) (l:=l14i x t a t.h true ⟨0,0⟩) none_ok rfl rfl (loops1 (loopF_ok hx _)) (h1:=[]) (by simp) ?_ .nil
  rw [i14o]
  exact BF rfl
theorem aboveT (t:Tbl) (ht:t.Ok) (a:Idd) (hh:t.h<=255):(allB (abY t a) t.h = true->ToldOk P05 G05 14 [t.v,.agg a.c] (.tup [.agg (⟨0,0⟩:Idd).c,.bool false])) ∧
 (allB (abY t a) t.h = false->∃ y i:Nat,y<t.h/\i<t.ln y/\cnt (t.L y i).th (t.L y i).nt a = true/\ToldOk P05 G05 14 [t.v,.agg a.c] (.tup [.agg (⟨(y:Int)+1,i⟩:Idd).c,.bool true])):=by
 obtain ⟨x,hx⟩:=is_loop P05 G05 (A05 14) 14 2
 have sc:=scan14o t ht a hh
 clear ht
 constructor
 ·intro h
  have t1:=sc.1 h
  clear sc h
  refine stepL_told hm05 hn05 (K:=noneO) none_ok (A:=A05) (m:=0) (l:=l14 x false ⟨0,0⟩) (by kernel_rfl) (loops1 (loopF_ok hx _)) ?_
  rw [k14,show decide ((255:Int)<Int.ofNat t.h) = false from decide_eq_false (by show ¬ (255:Int)<(t.h:Int); omega)]
  simp only [cond_false,ofNatE,toNatE,Nat.sub_zero,Nat.zero_add]
  exact BT (BT (BS rfl))
 ·intro h
  obtain ⟨e,v,hp,⟨rfl,rfl,y,i,p1,p2,p3,rfl⟩,t1⟩:=sc.2 h
  clear sc h
  refine ⟨y,i,p1,p2,by unfold abI at p3; simpa using p3,?_⟩
  clear p1 p2 p3
  refine stepL_told hm05 hn05 (K:=noneO) none_ok (A:=A05) (m:=0) (l:=l14 x true ⟨(y:Int)+1,i⟩) (by kernel_rfl) (loops1 (loopF_ok hx _)) ?_
  rw [k14,show decide ((255:Int)<Int.ofNat t.h) = false from decide_eq_false (by show ¬ (255:Int)<(t.h:Int); omega)]
  simp only [cond_false,ofNatE,toNatE,Nat.sub_zero,Nat.zero_add]
  exact BT (BT (bift rfl (BS rfl)))
open Go.Proofs
noncomputable def KC (p q r:List T->T->Prop) (a b c:Int):Orc:=((noneO.add 30 (callF p fun _=>some (.int .i64 a))).add 31 (callF q fun _=>some (.int .i64 b))).add 29 (callF r fun _=>some (.int .i64 c))
noncomputable def KN:Orc:=(noneO.inl P05 G05 A05 noneO 0 42).inl P05 G05 A05 noneO 0 43
theorem KN_ok:OrcOk P05 G05 KN:=told_inl hm05 hn05 (told_inl hm05 hn05 none_ok none_ok) none_ok
def orF (x y:Int):Int:=if x = 0 then y else x
def cmpJ (x y:Int):Int:=if x<y then -1 else if y<x then 1 else 0
def cmpI (a b:Idd):Int:=orF (cmpJ a.y b.y) (cmpJ a.n b.n)
theorem cmp30 (x y:Int):ToldOk P05 G05 30 [.int .u8 x,.int .u8 y] (.int .i64 (cmpJ x y)):=by
 refine stepV_told hm05 hn05 KN_ok (K:=KN) (A:=A05) (m:=0) ?_
 rw [(show stepV P05 G05 A05 KN 0 30 [.int .u8 x,.int .u8 y] =
(
 bif !decide (x = x) then
 bif !decide (y = y) then
 some (.int .i64 0)
 else
 some (.int .i64 (-1:Int))
 else
 bif !decide (y = y) then
 some (.int .i64 1)
 else
 bif decide (x<y) then
 some (.int .i64 (-1:Int))
 else
 bif decide (y<x) then
 some (.int .i64 1)
 else
 some (.int .i64 0)) from by kernel_rfl)]
 refine biff (by simp) (biff (by simp) ?_)
 unfold cmpJ
 by_cases h:x<y
 ·rw [dT h,if_pos h]; rfl
 ·rw [dF h,if_neg h]
  by_cases h2:y<x
  ·rw [dT h2,if_pos h2]; rfl
  ·rw [dF h2,if_neg h2]; rfl
theorem cmp31 (x y:Int):ToldOk P05 G05 31 [.int .i64 x,.int .i64 y] (.int .i64 (cmpJ x y)):=by
 refine stepV_told hm05 hn05 KN_ok (K:=KN) (A:=A05) (m:=0) ?_
 rw [(show stepV P05 G05 A05 KN 0 31 [.int .i64 x,.int .i64 y] =
(
 bif !decide (x = x) then
 bif !decide (y = y) then
 some (.int .i64 0)
 else
 some (.int .i64 (-1:Int))
 else
 bif !decide (y = y) then
 some (.int .i64 1)
 else
 bif decide (x<y) then
 some (.int .i64 (-1:Int))
 else
 bif decide (y<x) then
 some (.int .i64 1)
 else
 some (.int .i64 0)) from by kernel_rfl)]
 refine biff (by simp) (biff (by simp) ?_)
 unfold cmpJ
 by_cases h:x<y
 ·rw [dT h,if_pos h]; rfl
 ·rw [dF h,if_neg h]
  by_cases h2:y<x
  ·rw [dT h2,if_pos h2]; rfl
  ·rw [dF h2,if_neg h2]; rfl
theorem orT05 (x y:Int):ToldOk P05 G05 29 [.view 1 2 (fun j=>[[T.int .i64 x],[.int .i64 y]].getD j []) (some 2)] (.int .i64 (orF x y)):=by
 refine stepV_told hm05 hn05 none_ok (K:=noneO) (A:=A05) (m:=3) ?_
 rw [(show stepV P05 G05 A05 noneO 3 29 [.view 1 2 (fun j=>[[T.int .i64 x],[.int .i64 y]].getD j []) (some 2)] =
(
 bif !decide (x = 0) then
 some (.int .i64 x)
 else
 bif !decide (y = 0) then
 some (.int .i64 y)
 else
 some (.int .i64 0)) from by kernel_rfl)]
 unfold orF
 by_cases h:x = 0
 ·rw [dT h,if_pos h]
  by_cases h2:y = 0
  ·rw [dT h2,h2]; rfl
  ·rw [dF h2]; rfl
 ·rw [dF h,if_neg h]; rfl
theorem k28 (x y:Idd) (p q r:List T->T->Prop) (a b c:Int):stepV P05 G05 A05 (KC p q r a b c) 0 28 [.agg x.c,.agg y.c] =
(
 bif decF (p [.int .u8 x.y,.int .u8 y.y] (.int .i64 a)) then
 bif decF (q [.int .i64 x.n,.int .i64 y.n] (.int .i64 b)) then
 bif decF (r [.view 1 2 (fun j=>[[T.int .i64 a],[T.int .i64 b]].getD j []) (some 2)] (.int .i64 c)) then
 some (.int .i64 c)
 else none else none else
 none):=by kernel_rfl
theorem closT (x y:Idd):ToldOk P05 G05 28 [.agg x.c,.agg y.c] (.int .i64 (cmpI x y)):=by
 obtain ⟨p,hp⟩:=is_val P05 G05 30
 obtain ⟨q,hq⟩:=is_val P05 G05 31
 obtain ⟨r,hr⟩:=is_val P05 G05 29
 have t1:=cmp30 x.y y.y
 have t2:=cmp31 x.n y.n
 have t3:=orT05 (cmpJ x.y y.y) (cmpJ x.n y.n)
 unfold cmpI
 generalize orF (cmpJ x.y y.y) (cmpJ x.n y.n) = c at *
 generalize cmpJ x.y y.y = a at *
 generalize cmpJ x.n y.n = b at *
 refine stepV_told hm05 hn05 (K:=KC p q r a b c) (told_add (told_add (told_add none_ok (callF_told hp)) (callF_told hq)) (callF_told hr)) (A:=A05) (m:=0) ?_
 rw [k28]
 exact BS (BS (BS rfl))
def dec (v:Int):Idd:=⟨v / 18446744073709551616,v % 18446744073709551616 - 9223372036854775808⟩
def enc (a:Idd):Int:=a.y * 18446744073709551616+(a.n+9223372036854775808)
theorem dec_enc {a:Idd} (h:a.Ok):dec (enc a) = a:=by
 obtain ⟨y,n⟩:=a
 have h1:=h.n
 unfold dec enc
 dsimp only at *
 have e1:(y * 18446744073709551616+(n+9223372036854775808)) / 18446744073709551616 = y:=by omega
 have e2:(y * 18446744073709551616+(n+9223372036854775808)) % 18446744073709551616 = n+9223372036854775808:=by omega
 rw [e1,e2]
 congr 1
 omega
theorem dec_lt (v w:Int):cmpI (dec v) (dec w)<0 ↔ v<w:=by
 unfold cmpI cmpJ orF dec
 dsimp only
 constructor
 ·intro h
  split at h <;> split at h <;> omega
 ·intro h
  split <;> split <;> omega
theorem dec_inj {v w:Int} (h:dec v = dec w):v = w:=by
 unfold dec at h
 injection h with h1 h2
 omega
def Mem (y:Nat->Int) (a b:Nat) (v:Int):Prop:=∃ j,a<=j/\j<b/\y j = v
structure Pr (y z:Nat->Int) (a b:Nat):Prop where
 mem:∀ v,Mem z a b v ↔ Mem y a b v
 out:∀ j,j<a ∨ b<=j->z j = y j
theorem Pr.refl (y:Nat->Int) (a b:Nat):Pr y y a b:=⟨fun _=>Iff.rfl,fun _ _=>rfl⟩
theorem Pr.trans {x y z:Nat->Int} {a b:Nat} (h1:Pr x y a b) (h2:Pr y z a b):Pr x z a b :=
 ⟨fun v=>(h2.mem v).trans (h1.mem v),fun j hj=>(h2.out j hj).trans (h1.out j hj)⟩
theorem Pr.swap (y:Nat->Int) {a b i j:Nat} (hi:a<=i/\i<b) (hj:a<=j/\j<b):Pr y (fun e=>if e = i then y j else if e = j then y i else y e) a b:=by
 refine ⟨fun v=>⟨fun ⟨e,h1,h2,h3⟩=>?_,fun ⟨e,h1,h2,h3⟩=>?_⟩,fun e he=>?_⟩
 ·dsimp only at h3
  by_cases q:e = i
  ·rw [if_pos q] at h3; exact ⟨j,hj.1,hj.2,h3⟩
  ·rw [if_neg q] at h3
   by_cases q2:e = j
   ·rw [if_pos q2] at h3; exact ⟨i,hi.1,hi.2,h3⟩
   ·rw [if_neg q2] at h3; exact ⟨e,h1,h2,h3⟩
 ·by_cases q:e = i
  ·refine ⟨j,hj.1,hj.2,?_⟩
   try dsimp only
   by_cases q2:j = i
   ·rw [if_pos q2,q2,← q]; exact h3
   ·rw [if_neg q2,if_pos rfl,← q]; exact h3
  ·by_cases q2:e = j
   ·refine ⟨i,hi.1,hi.2,?_⟩
    try dsimp only
    rw [if_pos rfl,← q2]; exact h3
   ·refine ⟨e,h1,h2,?_⟩
    try dsimp only
    rw [if_neg q,if_neg q2]; exact h3
 ·try dsimp only
  rw [if_neg (by omega),if_neg (by omega)]
def Asc (y:Nat->Int) (a b:Nat):Prop:=∀ p q,a<=p->p<q->q<b->y p<=y q
structure Ins (x y:Nat->Int) (a b i j:Nat):Prop where
 pr:Pr x y a b
 lo:a<=j
 hi:j<=i
 lt:i<b
 rest:∀ p q,a<=p->p<q->q<=i->p ≠ j->q ≠ j->y p<=y q
 up:∀ q,j<q->q<=i->y j<=y q
theorem Ins.start {x y:Nat->Int} {a b i:Nat} (hp:Pr x y a b) (h1:a<=i) (h2:i<b) (hs:Asc y a i):Ins x y a b i i :=
 ⟨hp,h1,Nat.le_refl _,h2,fun p q h3 h4 h5 h6 h7=>hs p q h3 h4 (by omega),fun q h3 h4=>by omega⟩
theorem Ins.step {x y:Nat->Int} {a b i j:Nat} (h:Ins x y a b i (j+1)) (ha:a<=j) (hlt:y (j+1)<y j):Ins x (fun e=>if e = j then y (j+1) else if e = j+1 then y j else y e) a b i j:=by
 have hi:=h.hi
 have hl:=h.lt
 refine ⟨h.pr.trans (Pr.swap y (i:=j) (j:=j+1) ⟨ha,by omega⟩ ⟨by omega,by omega⟩),ha,by omega,hl,fun p q h3 h4 h5 h6 h7=>?_,fun q h3 h4=>?_⟩
 ·try dsimp only
  rw [if_neg h6,if_neg h7]
  by_cases q1:p = j+1
  ·rw [if_pos q1,if_neg (by omega)]
   exact h.rest j q ha (by omega) h5 (by omega) (by omega)
  ·rw [if_neg q1]
   by_cases q2:q = j+1
   ·rw [if_pos q2]; exact h.rest p j h3 (by omega) (by omega) (by omega) (by omega)
   ·rw [if_neg q2]; exact h.rest p q h3 h4 h5 (by omega) (by omega)
 ·try dsimp only
  rw [if_pos rfl,if_neg (by omega)]
  by_cases q2:q = j+1
  ·rw [if_pos q2]; omega
  ·rw [if_neg q2]; exact h.up q (by omega) h4
theorem Ins.last {x y:Nat->Int} {a b i j:Nat} (h:Ins x y a b i j) (hl:j = a ∨ ∃ k,j = k+1/\y k<=y j):Asc y a (i+1):=by
 intro p q h1 h2 h3
 have hlo:=h.lo
 by_cases q1:p = j
 ·subst q1; exact h.up q h2 (by omega)
 ·by_cases q2:q = j
  ·rcases hl with hl | ⟨k,hk,hl⟩
   ·omega
   ·rw [q2]
    by_cases q3:p = k
    ·rw [q3]; exact hl
    ·exact Int.le_trans (h.rest p k h1 (by omega) (by have:=h.hi; omega) q1 (by omega)) hl
  ·exact h.rest p q h1 h2 (by omega) q1 q2
def SAsc (z:Nat->Int) (k:Nat):Prop:=∀ p q,p<q->q<k->z p<z q
structure Cmp (y z:Nat->Int) (n k m:Nat):Prop where
 k1:1<=k
 km:k<=m
 mn:m<=n
 asc:SAsc z k
 mem:∀ v,Mem z 0 k v ↔ Mem y 0 m v
 last:z (k - 1) = y (m - 1)
 keep:∀ j,m<=j->z j = y j
 at1:z (m - 1) = y (m - 1)
theorem Cmp.start (y:Nat->Int) {n:Nat} (hn:1<=n):Cmp y y n 1 1 :=
 ⟨Nat.le_refl _,Nat.le_refl _,hn,fun p q h1 h2=>by omega,fun _=>Iff.rfl,rfl,fun _ _=>rfl,rfl⟩
theorem mem_succ {y:Nat->Int} {m:Nat} {v:Int}:Mem y 0 (m+1) v ↔ Mem y 0 m v ∨ y m = v:=by
 constructor
 ·rintro ⟨j,h1,h2,h3⟩
  by_cases q:j = m
  ·subst q; exact .inr h3
  ·exact .inl ⟨j,h1,by omega,h3⟩
 ·rintro (⟨j,h1,h2,h3⟩ | h)
  ·exact ⟨j,h1,by omega,h3⟩
  ·exact ⟨m,Nat.zero_le _,by omega,h⟩
theorem mem_congr {y z:Nat->Int} {a b:Nat} {v:Int} (h:∀ j,a<=j->j<b->z j = y j):Mem z a b v ↔ Mem y a b v:=by
 constructor
 ·rintro ⟨j,h1,h2,h3⟩; exact ⟨j,h1,h2,by rw [← h j h1 h2]; exact h3⟩
 ·rintro ⟨j,h1,h2,h3⟩; exact ⟨j,h1,h2,by rw [h j h1 h2]; exact h3⟩
theorem Cmp.same {y z:Nat->Int} {n k m:Nat} (h:Cmp y z n k m) (hm:m<n) (he:y m = y (m - 1)):Cmp y z n k (m+1):=by
 have h1:=h.k1
 have h2:=h.km
 refine ⟨h1,by omega,hm,h.asc,fun v=>?_,?_,fun j hj=>h.keep j (by omega),?_⟩
 ·rw [h.mem,mem_succ]
  constructor
  ·exact .inl
  ·rintro (q | q)
   ·exact q
   ·exact ⟨m - 1,Nat.zero_le _,by omega,by rw [← he]; exact q⟩
 ·rw [h.last,Nat.add_sub_cancel,he]
 ·rw [Nat.add_sub_cancel]; exact h.keep m (Nat.le_refl _)
theorem Cmp.new {y z:Nat->Int} {n k m:Nat} (h:Cmp y z n k m) (hs:Asc y 0 n) (hm:m<n) (he:y m ≠ y (m - 1)):Cmp y (fun e=>if e = k then z m else z e) n (k+1) (m+1):=by
 have h1:=h.k1
 have h2:=h.km
 have hz:z m = y m:=h.keep m (Nat.le_refl _)
 have hlt:z (k - 1)<z m:=by
  rw [h.last,hz]
  have:=hs (m - 1) m (Nat.zero_le _) (by omega) hm
  omega
 refine ⟨by omega,by omega,hm,fun p q h3 h4=>?_,fun v=>?_,?_,fun j hj=>?_,?_⟩
 ·try dsimp only
  rw [if_neg (by omega:¬ p = k)]
  by_cases q1:q = k
  ·rw [if_pos q1]
   by_cases q2:p = k - 1
   ·rw [q2]; exact hlt
   ·exact Int.lt_trans (h.asc p (k - 1) (by omega) (by omega)) hlt
  ·rw [if_neg q1]; exact h.asc p q h3 (by omega)
 ·rw [mem_succ,mem_succ,← h.mem,mem_congr (y:=z) (z:=fun e=>if e = k then z m else z e) (fun j _ hj=>if_neg (by omega))]
  try dsimp only
  rw [if_pos rfl,hz]
 ·try dsimp only
  rw [if_pos (by omega),Nat.add_sub_cancel,hz]
 ·try dsimp only
  rw [if_neg (by omega)]; exact h.keep j (by omega)
 ·try dsimp only
  rw [Nat.add_sub_cancel]
  by_cases q:m = k
  ·rw [if_pos q,hz]
  ·rw [if_neg q,hz]
theorem Cmp.pre {y:Nat->Int} {n k:Nat} (h:Cmp y y n k k) (hs:Asc y 0 n) (hk:k<n) (he:y k ≠ y (k - 1)):Cmp y y n (k+1) (k+1):=by
 have h2:=h.new hs hk he
 have e:(fun e=>if e = k then y k else y e) = y:=by
  funext e
  by_cases q:e = k
  ·rw [if_pos q,q]
  ·rw [if_neg q]
 rw [e] at h2
 exact h2
open Go.Proofs
def v47a (n a b:Nat) (c:Option Nat) (i:Int):List T:=[.own 0 0 0 n c,.int .i64 a,.int .i64 b,.fn 28 [],.int .i64 i]
def v47j (n a b:Nat) (c:Option Nat) (i j:Int):List T:=[.own 0 0 0 n c,.int .i64 a,.int .i64 b,.fn 28 [],.int .i64 i,.int .i64 j]
noncomputable def K47 (p:List T->T->Prop) (c:Int):Orc:=noneO.add 28 (callF p fun _=>some (.int .i64 c))
def xd (x:Nat->Int):Nat->Idd:=fun e=>dec (x e)
theorem swap_same (g g1:Nat->Idd) (i j n:Nat) (h:∀ e,g1 e = if e = i then g j else if e = j then g i else g e):SameBlks [⟨0,2,n,fun e=>[T.int .u8 (bif e==i then (g j).y else bif e==j then (g i).y else (g e).y),.int .i64 (bif e==i then (g j).n else bif e==j then (g i).n else (g e).n)],true,false,none⟩] [bkR g1 n]:=by
 refine .cons ⟨rfl,rfl,rfl,id,fun e _=>?_⟩ .nil
 show (g1 e).c = [T.int .u8 (bif e==i then (g j).y else bif e==j then (g i).y else (g e).y),.int .i64 (bif e==i then (g j).n else bif e==j then (g i).n else (g e).n)]
 rw [h e]
 by_cases q:e = i
 ·rw [if_pos q,show (e==i) = true by simpa using q]; rfl
 ·rw [if_neg q,show (e==i) = false by simpa using q]
  by_cases q2:e = j
  ·rw [if_pos q2,show (e==j) = true by simpa using q2]; rfl
  ·rw [if_neg q2,show (e==j) = false by simpa using q2]; rfl
theorem i47j (n a b i j:Nat) (c:Option Nat) (g:Nat->Idd) (p:List T->T->Prop) (r:Int):iterR P05 G05 A05 (K47 p r) 0 47 [] 4 (v47j n a b c i (j+1:Nat)) [bkR g n] =
(
 bif decide (Int.ofNat a<Int.ofNat (j+1)) then
 bif decide (0<=Int.ofNat (j+1))&&decide (Int.ofNat (j+1)<Int.ofNat n) then
 bif ((0:Nat)+(j+(1:Nat))).blt n then
 bif decide (0<=IntKind.i64.wrap (Int.ofNat (j+1) - (1:Int)))&&decide (IntKind.i64.wrap (Int.ofNat (j+1) - (1:Int))<Int.ofNat n) then
 bif ((0:Nat)+(IntKind.i64.wrap (Int.ofNat (j+(1:Nat)) - (1:Int))).toNat).blt n then
 bif decF (p [.agg (g ((0:Nat)+(j+(1:Nat)))).c,.agg (g ((0:Nat)+(IntKind.i64.wrap (Int.ofNat (j+(1:Nat)) - (1:Int))).toNat)).c] (.int .i64 r)) then
 bif decide (r<0) then
 bif decide (0<=IntKind.i64.wrap (Int.ofNat (j+1) - (1:Int)))&&decide (IntKind.i64.wrap (Int.ofNat (j+1) - (1:Int))<Int.ofNat n) then
 bif ((0:Nat)+(IntKind.i64.wrap (Int.ofNat (j+(1:Nat)) - (1:Int))).toNat).blt n then
 bif decide (0<=Int.ofNat (j+1))&&decide (Int.ofNat (j+1)<Int.ofNat n) then
 bif ((0:Nat)+(j+(1:Nat))).blt n then
 bif decide (0<=Int.ofNat (j+1))&&decide (Int.ofNat (j+1)<Int.ofNat n) then
 bif ((0:Nat)+(j+(1:Nat))).blt n&&(g ((0:Nat)+(IntKind.i64.wrap (Int.ofNat (j+(1:Nat)) - (1:Int))).toNat)).c.length==(2:Nat)&&true&&true then
 bif decide (0<=IntKind.i64.wrap (Int.ofNat (j+1) - (1:Int)))&&decide (IntKind.i64.wrap (Int.ofNat (j+1) - (1:Int))<Int.ofNat n) then
 bif ((0:Nat)+(IntKind.i64.wrap (Int.ofNat (j+(1:Nat)) - (1:Int))).toNat).blt n&&(g ((0:Nat)+(j+(1:Nat)))).c.length==(2:Nat)&&true&&true then
 some ((.normal,v47j n a b c (Int.ofNat i) (IntKind.i64.wrap (Int.ofNat (j+1) - (1:Int))),[.mk 0 2 n (fun e=>[.int .u8 (bif e==(0:Nat)+(IntKind.i64.wrap (Int.ofNat (j+(1:Nat)) - (1:Int))).toNat then (g ((0:Nat)+(j+(1:Nat)))).y
 else
 bif e==(0:Nat)+(j+1) then (g ((0:Nat)+(IntKind.i64.wrap (Int.ofNat (j+(1:Nat)) - (1:Int))).toNat)).y
 else (g e).y),.int .i64 (bif e==(0:Nat)+(IntKind.i64.wrap (Int.ofNat (j+(1:Nat)) - (1:Int))).toNat then (g ((0:Nat)+(j+(1:Nat)))).n
 else
 bif e==(0:Nat)+(j+1) then (g ((0:Nat)+(IntKind.i64.wrap (Int.ofNat (j+(1:Nat)) - (1:Int))).toNat)).n
 else (g e).n)]) true false
 none]))
 else none else none else none else none else none else none else none else none else
 some ((.exit 2,v47a n a b c (Int.ofNat i),[bkR g n]))
 else none else none else none else none else none else
 some ((.exit 2,v47a n a b c (Int.ofNat i),[bkR g n]))):=by kernel_rfl
theorem i47e (n b i m:Nat) (c:Option Nat) (g:Nat->Idd) (p:List T->T->Prop) (r:Int):iterR P05 G05 A05 (K47 p r) 0 47 [] 4 (v47j n m b c i m) [bkR g n] =
(
 bif decide (Int.ofNat m<Int.ofNat m) then
 bif decide (0<=Int.ofNat m)&&decide (Int.ofNat m<Int.ofNat n) then
 bif ((0:Nat)+m).blt n then
 bif decide (0<=IntKind.i64.wrap (Int.ofNat m - 1))&&decide (IntKind.i64.wrap (Int.ofNat m - 1)<Int.ofNat n) then
 bif ((0:Nat)+(IntKind.i64.wrap (Int.ofNat m - (1:Int))).toNat).blt n then
 bif decF (p [.agg (g ((0:Nat)+m)).c,.agg (g ((0:Nat)+(IntKind.i64.wrap (Int.ofNat m - (1:Int))).toNat)).c] (.int .i64 r)) then
 bif decide (r<0) then
 bif decide (0<=IntKind.i64.wrap (Int.ofNat m - 1))&&decide (IntKind.i64.wrap (Int.ofNat m - 1)<Int.ofNat n) then
 bif ((0:Nat)+(IntKind.i64.wrap (Int.ofNat m - (1:Int))).toNat).blt n then
 bif decide (0<=Int.ofNat m)&&decide (Int.ofNat m<Int.ofNat n) then
 bif ((0:Nat)+m).blt n then
 bif decide (0<=Int.ofNat m)&&decide (Int.ofNat m<Int.ofNat n) then
 bif ((0:Nat)+m).blt n&&(g ((0:Nat)+(IntKind.i64.wrap (Int.ofNat m - (1:Int))).toNat)).c.length==(2:Nat)&&true&&true then
 bif decide (0<=IntKind.i64.wrap (Int.ofNat m - 1))&&decide (IntKind.i64.wrap (Int.ofNat m - 1)<Int.ofNat n) then
 bif ((0:Nat)+(IntKind.i64.wrap (Int.ofNat m - (1:Int))).toNat).blt n&&(g ((0:Nat)+m)).c.length==(2:Nat)&&true&&true then
 some ((.normal,v47j n m b c (Int.ofNat i) (IntKind.i64.wrap (Int.ofNat m - 1)),[.mk 0 2 n (fun e=>[.int .u8 (bif e==(0:Nat)+(IntKind.i64.wrap (Int.ofNat m - (1:Int))).toNat then (g ((0:Nat)+m)).y
 else
 bif e==0+m then (g ((0:Nat)+(IntKind.i64.wrap (Int.ofNat m - (1:Int))).toNat)).y
 else (g e).y),.int .i64 (bif e==(0:Nat)+(IntKind.i64.wrap (Int.ofNat m - (1:Int))).toNat then (g ((0:Nat)+m)).n
 else
 bif e==0+m then (g ((0:Nat)+(IntKind.i64.wrap (Int.ofNat m - (1:Int))).toNat)).n
 else (g e).n)]) true false
 none]))
 else none else none else none else none else none else none else none else none else
 some ((.exit 2,v47a n m b c (Int.ofNat i),[bkR g n]))
 else none else none else none else none else none else
 some ((.exit 2,v47a n m b c (Int.ofNat i),[bkR g n]))):=by kernel_rfl
theorem i47a (n a b i:Nat) (c:Option Nat) (g g1:Nat->Idd):iterR P05 G05 A05 noneO 0 47 [(4,litS (v47j n a b c i i) [bkR g n] (.exit 2) (v47a n a b c i) [bkR g1 n])] 1 (v47a n a b c i) [bkR g n] =
(
 bif decide (Int.ofNat i<Int.ofNat b) then
 bif weakF (v47j n a b c (Int.ofNat i) (Int.ofNat i)) [bkR g n] (v47j n a b c (Int.ofNat i) (Int.ofNat i)) [bkR g n] then
 some ((.normal,v47a n a b c (IntKind.i64.wrap (Int.ofNat i+1)),[bkR g1 n]))
 else none else
 some ((.exit 0,[],[bkR g n]))):=by kernel_rfl
theorem i47b (n a b i:Nat) (c:Option Nat) (g:Nat->Idd):iterR P05 G05 A05 noneO 0 47 [] 1 (v47a n a b c i) [bkR g n] =
(
 bif decide (Int.ofNat i<Int.ofNat b) then none else
 some ((.exit 0,[],[bkR g n]))):=by kernel_rfl
theorem k47 (n a b:Nat) (c:Option Nat) (g g1:Nat->Idd):stepR P05 G05 A05 noneO 0 47 [(1,litS (v47a n a b c (a+1:Nat)) [bkR g n] (.exit 0) [] [bkR g1 n])] [.own 0 0 0 n c,.int .i64 a,.int .i64 b,.fn 28 []] [bkR g n] =
(
 bif weakF (v47a n a b c (IntKind.i64.wrap (Int.ofNat a+1))) [bkR g n] (v47a n a b c (Int.ofNat (a+1))) [bkR g n] then
 some ((.tup [],[bkR g1 n]))
 else
 none):=by kernel_rfl
theorem l47j (n a b:Nat) (c:Option Nat) (x y:Nat->Int) (i:Nat) (hn:n<=1000) (hb:b<=n) (hi:a<=i) (hi2:i<b) (hp:Pr x y a b) (hs:Asc y a i) :
 ∃ z,(Pr x z a b/\Asc z a (i+1))/\LoopOk P05 G05 (A05 47) 47 4 (litS (v47j n a b c i i) [bkR (xd y) n] (.exit 2) (v47a n a b c i) [bkR (xd z) n]):=by
 obtain ⟨p,hpp⟩:=is_val P05 G05 28
 have hK:∀ r,OrcOk P05 G05 (K47 p r):=fun r=>told_add none_ok (callF_told hpp)
 refine Exists.elim (loop_exists (P:=P05) (Gl:=G05) (f:=47) (r:=4) (an:=A05 47) (k:=1) hm05 (by kernel_rfl)
  (fun m vs h=>∃ j y',m = j/\vs = v47j n a b c i j/\h = [bkR (xd y') n]/\Ins x y' a b i j)
  (fun e vs1 h1=>∃ z,e = .exit 2/\vs1 = v47a n a b c i/\h1 = [bkR (xd z) n]/\(Pr x z a b/\Asc z a (i+1)))
  (fun m vs h ⟨j,y',hm,hv,hh,hI⟩=>?_) (n:=i) (vs:=v47j n a b c i i) (h:=[bkR (xd y) n]) rfl ⟨i,y,rfl,rfl,rfl,Ins.start hp hi hi2 hs⟩) ?_
 ·subst hm hv hh
  have h2:=hI.lo
  have h3:=hI.hi
  rcases Nat.lt_or_ge a m with q | q
  ·obtain ⟨j,rfl⟩:∃ j,m = j+1:=⟨m - 1,by omega⟩
   have ej:IntKind.i64.wrap (Int.ofNat (j+1) - 1) = Int.ofNat j:=by
    rw [wr64 (by show (-9223372036854775808:Int)<=((j+1:Nat):Int) - 1; omega) (by show ((j+1:Nat):Int) - 1<=_; omega)]
    show ((j+1:Nat):Int) - 1 = (j:Int)
    omega
   have t1:=closT (dec (y' (j+1))) (dec (y' j))
   by_cases q2:y' (j+1)<y' j
   ·have hr:=(dec_lt (y' (j+1)) (y' j)).2 q2
    generalize cmpI (dec (y' (j+1))) (dec (y' j)) = r at *
    refine .inl ⟨j,_,_,Nat.lt_succ_self _,?_,⟨j,_,rfl,rfl,rfl,hI.step (by omega) q2⟩⟩
    clear hI hp hs
    refine Step.mk0 (A:=A05) (m:=0) (hK r) rfl rfl loops0 (h1:=[⟨0,2,n,fun e=>[T.int .u8 (bif e==j then (xd y' (j+1)).y else bif e==j+1 then (xd y' j).y else (xd y' e).y),.int .i64 (bif e==j then (xd y' (j+1)).n else bif e==j+1 then (xd y' j).n else (xd y' e).n)],true,false,none⟩]) ?_ (swap_same (xd y') _ j (j+1) n fun e=>?_)
    ·rw [i47j,ej,show (Int.ofNat j).toNat = j from rfl]
     simp only [Nat.zero_add]
     (repeat (first | refine BS ?_ | refine BF ?_))
     refine bift (by rw [bltT (by omega)]; rfl) ?_
     (repeat (first | refine BS ?_ | refine BF ?_))
     exact bift (by rw [bltT (by omega)]; rfl) rfl
    ·unfold xd
     show dec (if e = j then y' (j+1) else if e = j+1 then y' j else y' e) = _
     by_cases q3:e = j
     ·rw [if_pos q3,if_pos q3]
     ·rw [if_neg q3,if_neg q3]
      by_cases q4:e = j+1
      ·rw [if_pos q4,if_pos q4]
      ·rw [if_neg q4,if_neg q4]
   ·have hr:¬ cmpI (dec (y' (j+1))) (dec (y' j))<0:=fun w=>q2 ((dec_lt _ _).1 w)
    refine .inr ⟨_,_,_,?_,y',rfl,rfl,rfl,hI.pr,hI.last (.inr ⟨j,rfl,by omega⟩)⟩
    generalize cmpI (dec (y' (j+1))) (dec (y' j)) = r at *
    clear hI hp hs q2
    refine Last.mk0 (A:=A05) (m:=0) (hK r) rfl rfl loops0 (h1:=[bkR (xd y') n]) (by simp) ?_ (.refl _)
    rw [i47j,ej,show (Int.ofNat j).toNat = j from rfl]
    simp only [Nat.zero_add]
    (repeat (first | refine BS ?_ | refine BF ?_))
    rfl
  ·obtain rfl:m = a:=by omega
   refine .inr ⟨_,_,_,?_,y',rfl,rfl,rfl,hI.pr,hI.last (.inl rfl)⟩
   clear hI hp hs
   refine Last.mk0 (A:=A05) (m:=0) (hK 0) rfl rfl loops0 (h1:=[bkR (xd y') n]) (by simp) ?_ (.refl _)
   rw [i47e]
   exact BF rfl
 ·rintro e ⟨vs1,h1,⟨z,rfl,rfl,rfl,hz⟩,hl⟩
  exact ⟨z,hz,hl⟩
theorem l47 (n a b:Nat) (c:Option Nat) (x:Nat->Int) (hn:n<=1000) (hb:b<=n) (hab:a<=b) :
 ∃ z,(Pr x z a b/\Asc z a b)/\LoopOk P05 G05 (A05 47) 47 1 (litS (v47a n a b c (a+1:Nat)) [bkR (xd x) n] (.exit 0) [] [bkR (xd z) n]):=by
 refine Exists.elim (loop_exists (P:=P05) (Gl:=G05) (f:=47) (r:=1) (an:=A05 47) (k:=1) hm05 (by kernel_rfl)
  (fun m vs h=>∃ i y,m = b - i/\a<i/\vs = v47a n a b c i/\h = [bkR (xd y) n]/\Pr x y a b/\Asc y a (min i b))
  (fun e vs1 h1=>∃ z,e = .exit 0/\vs1 = []/\h1 = [bkR (xd z) n]/\(Pr x z a b/\Asc z a b))
  (fun m vs h ⟨i,y,hm,hai,hv,hh,hI⟩=>?_) (n:=b - (a+1)) (vs:=v47a n a b c (a+1:Nat)) (h:=[bkR (xd x) n]) rfl ⟨a+1,x,rfl,by omega,rfl,rfl,.refl _ _ _,fun p q _ _ _=>by omega⟩) ?_
 ·subst hm hv hh
  rcases Nat.lt_or_ge i b with q | q
  ·rw [Nat.min_eq_left (by omega)] at hI
   obtain ⟨z,hz,hl⟩:=l47j n a b c x y i hn hb (by omega) q hI.1 hI.2
   refine .inl ⟨b - (i+1),_,_,by omega,?_,⟨i+1,z,rfl,by omega,rfl,rfl,hz.1,by rw [Nat.min_eq_left (by omega)]; exact hz.2⟩⟩
   clear hz hI
   refine Step.mk0 (A:=A05) (m:=0) none_ok rfl rfl (loops1 hl) (h1:=[bkR (xd z) n]) ?_ (.refl _)
   rw [i47a,up1 (by omega)]
   exact BT (bift (weakF_of ⟨rfl,.refl _⟩) rfl)
  ·rw [Nat.min_eq_right q] at hI
   refine .inr ⟨_,_,_,?_,y,rfl,rfl,rfl,hI⟩
   clear hI
   refine Last.mk0 (A:=A05) (m:=0) (l:=[]) none_ok rfl rfl loops0 (h1:=[bkR (xd y) n]) (by simp) ?_ (.refl _)
   rw [i47b]
   exact BF rfl
 ·rintro e ⟨vs1,h1,⟨z,rfl,rfl,rfl,hz⟩,hl⟩
  exact ⟨z,hz,hl⟩
theorem ins05 (n a b:Nat) (c:Option Nat) (x:Nat->Int) (hn:n<=1000) (hb:b<=n) (hab:a<=b) :
 ∃ z,(Pr x z a b/\Asc z a b)/\ToldRef P05 G05 47 [.own 0 0 0 n c,.int .i64 a,.int .i64 b,.fn 28 []] [bkR (xd x) n] (.tup []) [bkR (xd z) n]:=by
 obtain ⟨z,hz,hl⟩:=l47 n a b c x hn hb hab
 refine ⟨z,hz,?_⟩
 clear hz
 refine stepR_told hm05 hn05 none_ok (A:=A05) (m:=0) (by kernel_rfl) (loops1 hl) ?_
 rw [k47,up1 (by omega)]
 exact bift (weakF_of ⟨rfl,.refl _⟩) rfl
open Go.Proofs
noncomputable def K40 (p:List T->Heap->T->Heap->Prop) (n:Nat) (g:Nat->Idd):Orc:=noneO.addRef 47 (refF p fun _ _=>some (.tup [],[bkR g n]))
noncomputable def K86f:Orc:=noneO.inl P05 G05 A05 noneO 0 56
noncomputable def K27 (p41:List T->T->Prop) (lim:Int) (p:List T->Heap->T->Heap->Prop) (n:Nat) (g:Nat->Idd):Orc:=(noneO.add 41 (callF p41 fun _=>some (.int .i64 lim))).addRef 40 (refF p fun _ _=>some (.tup [],[bkR g n]))
theorem k40 (n:Nat) (c:Option Nat) (g g1:Nat->Idd) (lim:Int) (p:List T->Heap->T->Heap->Prop):stepR P05 G05 A05 (K40 p n g1) 1 40 [] [.own 0 0 0 n c,.int .i64 0,.int .i64 n,.int .i64 lim,.fn 28 []] [bkR g n] =
(
 bif decide (IntKind.i64.wrap (Int.ofNat n - 0)<=(12:Int)) then
 bif decF (p [.own 0 0 0 n c,.int .i64 0,.int .i64 (.ofNat n),.fn (28:Nat) []] [bkR g n] (.tup []) [bkR g1 n]) then
 some ((.tup [],[bkR g1 n]))
 else none else
 bif decide (lim = 0) then none else
 none):=by kernel_rfl
theorem k27 (n:Nat) (c:Option Nat) (g g1:Nat->Idd) (lim:Int) (p41:List T->T->Prop) (p:List T->Heap->T->Heap->Prop):stepR P05 G05 A05 (K27 p41 lim p n g1) 0 27 [] [.own 0 0 0 n c,.fn 28 []] [bkR g n] =
(
 bif decF (p41 [.int .u64 (IntKind.u64.wrap (Int.ofNat n))] (.int .i64 lim)) then
 bif decF (p [.own 0 0 0 n c,.int .i64 0,.int .i64 (.ofNat n),.int .i64 lim,.fn (28:Nat) []] [bkR g n] (.tup []) [bkR g1 n]) then
 some ((.tup [],[bkR g1 n]))
 else none else
 none):=by kernel_rfl
theorem pdq05 (n:Nat) (c:Option Nat) (x:Nat->Int) (lim:Int) (hn:n<=12) :
 ∃ z,(Pr x z 0 n/\Asc z 0 n)/\ToldRef P05 G05 40 [.own 0 0 0 n c,.int .i64 0,.int .i64 n,.int .i64 lim,.fn 28 []] [bkR (xd x) n] (.tup []) [bkR (xd z) n]:=by
 obtain ⟨z,hz,t1⟩:=ins05 n 0 n c x (by omega) (Nat.le_refl _) (Nat.zero_le _)
 obtain ⟨p,hp⟩:=is_ref P05 G05 47
 refine ⟨z,hz,?_⟩
 clear hz
 refine stepR_told hm05 hn05 (K:=K40 p n (xd z)) (told_addRef none_ok (refF_told hp)) (A:=A05) (m:=1) (by kernel_rfl) (l:=[]) loops0 ?_
 rw [k40]
 exact BT (BS rfl)
theorem wru64 {x:Int} (h1:0<=x) (h2:x<=1000000):IntKind.u64.wrap x = x:=by
 simp only [IntKind.wrap,IntKind.signed,IntKind.bits]
 simp
 omega
theorem len05 (n:Nat) (hn:n<=12):∃ lim:Int,ToldOk P05 G05 41 [.int .u64 n] (.int .i64 lim):=by
 have key:∀ (n:Nat) (lim:Int),stepV P05 G05 A05 K86f 0 41 [.int .u64 n] = some (.int .i64 lim)->ToldOk P05 G05 41 [.int .u64 n] (.int .i64 lim):=fun n lim h=>stepV_told hm05 hn05 (told_inl hm05 hn05 none_ok none_ok) h
 obtain rfl | rfl | rfl | rfl | rfl | rfl | rfl | rfl | rfl | rfl | rfl | rfl | rfl:n = 0 ∨ n = 1 ∨ n = 2 ∨ n = 3 ∨ n = 4 ∨ n = 5 ∨ n = 6 ∨ n = 7 ∨ n = 8 ∨ n = 9 ∨ n = 10 ∨ n = 11 ∨ n = 12:=by omega
 ·exact ⟨0,key 0 0 (by kernel_rfl)⟩
 ·exact ⟨1,key 1 1 (by kernel_rfl)⟩
 ·exact ⟨2,key 2 2 (by kernel_rfl)⟩
 ·exact ⟨2,key 3 2 (by kernel_rfl)⟩
 ·exact ⟨3,key 4 3 (by kernel_rfl)⟩
 ·exact ⟨3,key 5 3 (by kernel_rfl)⟩
 ·exact ⟨3,key 6 3 (by kernel_rfl)⟩
 ·exact ⟨3,key 7 3 (by kernel_rfl)⟩
 ·exact ⟨4,key 8 4 (by kernel_rfl)⟩
 ·exact ⟨4,key 9 4 (by kernel_rfl)⟩
 ·exact ⟨4,key 10 4 (by kernel_rfl)⟩
 ·exact ⟨4,key 11 4 (by kernel_rfl)⟩
 ·exact ⟨4,key 12 4 (by kernel_rfl)⟩
theorem sort05 (n:Nat) (c:Option Nat) (x:Nat->Int) (hn:n<=12) :
 ∃ z,(Pr x z 0 n/\Asc z 0 n)/\ToldRef P05 G05 27 [.own 0 0 0 n c,.fn 28 []] [bkR (xd x) n] (.tup []) [bkR (xd z) n]:=by
 obtain ⟨lim,t1⟩:=len05 n hn
 obtain ⟨z,hz,t2⟩:=pdq05 n c x lim hn
 obtain ⟨p,hp⟩:=is_ref P05 G05 40
 obtain ⟨q,hq⟩:=is_val P05 G05 41
 refine ⟨z,hz,?_⟩
 clear hz
 refine stepR_told hm05 hn05 (K:=K27 q lim p n (xd z)) (told_addRef (told_add none_ok (callF_told hq)) (refF_told hp)) (A:=A05) (m:=0) (by kernel_rfl) (l:=[]) loops0 ?_
 rw [k27,show IntKind.u64.wrap (Int.ofNat n) = (n:Int) from wru64 (by show (0:Int)<=(n:Int); omega) (by show (n:Int)<=1000000; omega)]
 exact BS (BS rfl)
open Go.Proofs
def v32 (n:Nat) (c:Option Nat) (k:Int):List T:=[.own 0 0 0 n c,.int .i64 k]
def v32b (n:Nat) (c c2:Option Nat) (k:Int) (i0:Nat) (m:Int):List T:=[.own 0 0 0 n c,.int .i64 k,.own 0 0 i0 (n - i0) c2,.int .i64 m]
noncomputable def l32 (x:List T->Heap->Ex->List T->Heap->Prop) (e:Ex) (vs:List T) (h:Heap):List (Nat × (List T->Heap->LT)):=[(9,loopF x (.ret e vs h))]
noncomputable def l32o (x:List T->Heap->Ex->List T->Heap->Prop) (e:Ex) (vs:List T) (h:Heap):List (Nat × (List T->Heap->LT)):=[(4,loopF x (.ret e vs h))]
structure CompOk (y z:Nat->Int) (n k:Nat):Prop where
 k1:1<=k
 kn:k<=n
 asc:SAsc z k
 mem:∀ v,Mem z 0 k v ↔ Mem y 0 n v
theorem i32b (n i0 k:Nat) (c c2:Option Nat) (g:Nat->Idd) (m:Nat):iterR P05 G05 A05 noneO 0 32 [] 9 (v32b n c c2 k i0 (m+1:Nat)) [bkR g n] =
(
 bif decide (Int.ofNat (m+1)<Int.ofNat (n - i0)) then
 bif decide (0<=Int.ofNat (m+1))&&decide (Int.ofNat (m+1)<Int.ofNat (n - i0)) then
 bif (i0+(m+(1:Nat))).blt n then
 bif decide (0<=IntKind.i64.wrap (Int.ofNat (m+1) - (1:Int)))&&decide (IntKind.i64.wrap (Int.ofNat (m+1) - (1:Int))<Int.ofNat (n - i0)) then
 bif (i0+(IntKind.i64.wrap (Int.ofNat (m+(1:Nat)) - (1:Int))).toNat).blt n then
 bif decide ((g (i0+(m+(1:Nat)))).y = (g (i0+(IntKind.i64.wrap (Int.ofNat (m+(1:Nat)) - (1:Int))).toNat)).y) then
 bif decide ((g (i0+(m+(1:Nat)))).n = (g (i0+(IntKind.i64.wrap (Int.ofNat (m+(1:Nat)) - (1:Int))).toNat)).n) then
 some ((.normal,v32b n c c2 (Int.ofNat k) i0 (IntKind.i64.wrap (Int.ofNat (m+1)+(1:Int))),[bkR g n]))
 else
 bif decide (0<=Int.ofNat (m+1))&&decide (Int.ofNat (m+1)<Int.ofNat (n - i0)) then
 bif (i0+(m+(1:Nat))).blt n then
 bif decide (0<=Int.ofNat k)&&decide (Int.ofNat k<Int.ofNat n) then
 bif ((0:Nat)+k).blt n&&(g (i0+(m+(1:Nat)))).c.length==(2:Nat)&&true&&true then
 some ((.normal,v32b n c c2 (IntKind.i64.wrap (Int.ofNat k+1)) i0 (IntKind.i64.wrap (Int.ofNat (m+1)+(1:Int))),[.mk 0 2 n (fun e=>[.int .u8 (bif e==0+k then (g (i0+(m+(1:Nat)))).y
 else (g e).y),.int .i64 (bif e==0+k then (g (i0+(m+(1:Nat)))).n
 else (g e).n)]) true false
 none]))
 else none else none else none else none else
 bif decide (0<=Int.ofNat (m+1))&&decide (Int.ofNat (m+1)<Int.ofNat (n - i0)) then
 bif (i0+(m+(1:Nat))).blt n then
 bif decide (0<=Int.ofNat k)&&decide (Int.ofNat k<Int.ofNat n) then
 bif ((0:Nat)+k).blt n&&(g (i0+(m+(1:Nat)))).c.length==(2:Nat)&&true&&true then
 some ((.normal,v32b n c c2 (IntKind.i64.wrap (Int.ofNat k+1)) i0 (IntKind.i64.wrap (Int.ofNat (m+1)+(1:Int))),[.mk 0 2 n (fun e=>[.int .u8 (bif e==0+k then (g (i0+(m+(1:Nat)))).y
 else (g e).y),.int .i64 (bif e==0+k then (g (i0+(m+(1:Nat)))).n
 else (g e).n)]) true false
 none]))
 else none else none else none else none else none else none else none else none else
 some ((.exit 2,v32 n c (Int.ofNat k),[bkR g n]))):=by kernel_rfl
theorem i32n (n k j:Nat) (g g1:Nat->Idd) (x:List T->Heap->Ex->List T->Heap->Prop):iterR P05 G05 A05 noneO 0 32 (l32 x (.exit 2) (v32 n none j) [bkR g1 n]) 4 (v32 n none (k+1:Nat)) [bkR g n] =
(
 bif decide (Int.ofNat (k+1)<Int.ofNat n) then
 bif decide (0<=Int.ofNat (k+1))&&decide (Int.ofNat (k+1)<Int.ofNat n) then
 bif ((0:Nat)+(k+(1:Nat))).blt n then
 bif decide (0<=IntKind.i64.wrap (Int.ofNat (k+1) - (1:Int)))&&decide (IntKind.i64.wrap (Int.ofNat (k+1) - (1:Int))<Int.ofNat n) then
 bif ((0:Nat)+(IntKind.i64.wrap (Int.ofNat (k+(1:Nat)) - (1:Int))).toNat).blt n then
 bif decide ((g ((0:Nat)+(k+(1:Nat)))).y = (g ((0:Nat)+(IntKind.i64.wrap (Int.ofNat (k+(1:Nat)) - (1:Int))).toNat)).y) then
 bif decide ((g ((0:Nat)+(k+(1:Nat)))).n = (g ((0:Nat)+(IntKind.i64.wrap (Int.ofNat (k+(1:Nat)) - (1:Int))).toNat)).n) then
 bif decide (0<=Int.ofNat (k+1))&&decide (Int.ofNat (k+1)<=Int.ofNat n)&&decide (Int.ofNat n<=Int.ofNat (n - 0)) then
 bif decF (x [.own 0 0 0 n
 none,.int .i64 (.ofNat (k+1)),.own 0 0 ((0:Nat)+(k+1)) (n - (k+1))
 none,.int .i64 1] [bkR g n] (.exit 2) (v32 n
 none (Int.ofNat j)) [bkR g1 n]) then
 bif decide (0<=Int.ofNat j)&&decide (Int.ofNat j<=Int.ofNat n)&&decide (Int.ofNat n<=Int.ofNat (n - 0)) then
 bif ((0:Nat)+j+(n - j)).ble n then
 bif decide (0<=Int.ofNat j)&&decide (Int.ofNat j<=Int.ofNat (n - 0)) then
 some ((.ret,[.own 0 0 0 n
 none,.own 0 0 0 (j - 0)
 none],[.mk 0 2 n (fun j_1 =>
 bif ((0:Nat)+j).ble j_1&&j_1.blt (0+j+(n - j)) then [.int .u8 0,.int .i64 0]
 else (g1 j_1).c) true false
 none]))
 else none else none else none else none else none else
 some ((.normal,v32 n
 none (IntKind.i64.wrap (Int.ofNat (k+1)+(1:Int))),[bkR g n]))
 else
 some ((.normal,v32 n
 none (IntKind.i64.wrap (Int.ofNat (k+1)+(1:Int))),[bkR g n]))
 else none else none else none else none else
 some ((.exit 0,[.own 0 0 0 n
 none,.undef],[bkR g n]))):=by kernel_rfl
theorem i32s (n k j:Nat) (g g1:Nat->Idd) (x:List T->Heap->Ex->List T->Heap->Prop):iterR P05 G05 A05 noneO 0 32 (l32 x (.exit 2) (v32 n (some n) j) [bkR g1 n]) 4 (v32 n (some n) (k+1:Nat)) [bkR g n] =
(
 bif decide (Int.ofNat (k+1)<Int.ofNat n) then
 bif decide (0<=Int.ofNat (k+1))&&decide (Int.ofNat (k+1)<Int.ofNat n) then
 bif ((0:Nat)+(k+(1:Nat))).blt n then
 bif decide (0<=IntKind.i64.wrap (Int.ofNat (k+1) - (1:Int)))&&decide (IntKind.i64.wrap (Int.ofNat (k+1) - (1:Int))<Int.ofNat n) then
 bif ((0:Nat)+(IntKind.i64.wrap (Int.ofNat (k+(1:Nat)) - (1:Int))).toNat).blt n then
 bif decide ((g ((0:Nat)+(k+(1:Nat)))).y = (g ((0:Nat)+(IntKind.i64.wrap (Int.ofNat (k+(1:Nat)) - (1:Int))).toNat)).y) then
 bif decide ((g ((0:Nat)+(k+(1:Nat)))).n = (g ((0:Nat)+(IntKind.i64.wrap (Int.ofNat (k+(1:Nat)) - (1:Int))).toNat)).n) then
 bif decide (0<=Int.ofNat (k+1))&&decide (Int.ofNat (k+1)<=Int.ofNat n)&&decide (Int.ofNat n<=Int.ofNat n) then
 bif decF (x [.own 0 0 0 n (some n),.int .i64 (.ofNat (k+1)),.own 0 0 ((0:Nat)+(k+1)) (n - (k+1)) (some (n - (k+1))),.int .i64 1] [bkR g n] (.exit 2) (v32 n (some n) (Int.ofNat j)) [bkR g1 n]) then
 bif decide (0<=Int.ofNat j)&&decide (Int.ofNat j<=Int.ofNat n)&&decide (Int.ofNat n<=Int.ofNat n) then
 bif ((0:Nat)+j+(n - j)).ble n then
 bif decide (0<=Int.ofNat j)&&decide (Int.ofNat j<=Int.ofNat n) then
 some ((.ret,[.own 0 0 0 n (some n),.own 0 0 0 (j - 0) (some (n - 0))],[.mk 0 2 n (fun j_1 =>
 bif ((0:Nat)+j).ble j_1&&j_1.blt (0+j+(n - j)) then [.int .u8 0,.int .i64 0]
 else (g1 j_1).c) true false
 none]))
 else none else none else none else none else none else
 some ((.normal,v32 n (some n) (IntKind.i64.wrap (Int.ofNat (k+1)+(1:Int))),[bkR g n]))
 else
 some ((.normal,v32 n (some n) (IntKind.i64.wrap (Int.ofNat (k+1)+(1:Int))),[bkR g n]))
 else none else none else none else none else
 some ((.exit 0,[.own 0 0 0 n (some n),.undef],[bkR g n]))):=by kernel_rfl
theorem k32r (n k:Nat) (c c2:Option Nat) (g g1:Nat->Idd) (x:List T->Heap->Ex->List T->Heap->Prop):stepR P05 G05 A05 noneO 0 32 (l32o x .ret [.own 0 0 0 n c,.own 0 0 0 k c2] [bkR g1 n]) [.own 0 0 0 n c] [bkR g n] =
(
 bif decide (Int.ofNat n<2) then
 some ((.own 0 0 0 n c,[bkR g n]))
 else
 bif decF (x (v32 n c (1:Int)) [bkR g n] .ret [.own 0 0 0 n c,.own 0 0 0 k c2] [bkR g1 n]) then
 some ((.own 0 0 0 k c2,[bkR g1 n]))
 else
 none):=by kernel_rfl
theorem k32e (n:Nat) (c:Option Nat) (g g1:Nat->Idd) (x:List T->Heap->Ex->List T->Heap->Prop):stepR P05 G05 A05 noneO 0 32 (l32o x (.exit 0) [.own 0 0 0 n c,.undef] [bkR g1 n]) [.own 0 0 0 n c] [bkR g n] =
(
 bif decide (Int.ofNat n<2) then
 some ((.own 0 0 0 n c,[bkR g n]))
 else
 bif decF (x (v32 n c (1:Int)) [bkR g n] (.exit 0) [.own 0 0 0 n c,.undef] [bkR g1 n]) then
 some ((.own 0 0 0 n c,[bkR g1 n]))
 else
 none):=by kernel_rfl
theorem Cmp.ok {y z:Nat->Int} {n k:Nat} (h:Cmp y z n k n):CompOk y z n k:=⟨h.k1,h.km,h.asc,h.mem⟩
theorem set_same (g g1:Nat->Idd) (i j n:Nat) (h:∀ e,g1 e = if e = i then g j else g e):SameBlks [⟨0,2,n,fun e=>[T.int .u8 (bif e==i then (g j).y else (g e).y),.int .i64 (bif e==i then (g j).n else (g e).n)],true,false,none⟩] [bkR g1 n]:=by
 refine .cons ⟨rfl,rfl,rfl,id,fun e _=>?_⟩ .nil
 show (g1 e).c = [T.int .u8 (bif e==i then (g j).y else (g e).y),.int .i64 (bif e==i then (g j).n else (g e).n)]
 rw [h e]
 by_cases q:e = i
 ·rw [if_pos q,show (e==i) = true by simpa using q]; rfl
 ·rw [if_neg q,show (e==i) = false by simpa using q]; rfl
theorem l32b (n i0:Nat) (c c2:Option Nat) (y:Nat->Int) (hn:n<=1000) (hi:i0<n) (hs:Asc y 0 n) (hc:Cmp y y n i0 (i0+1)) :
 ∃ z k,CompOk y z n k/\LoopOk P05 G05 (A05 32) 32 9 (litS (v32b n c c2 i0 i0 1) [bkR (xd y) n] (.exit 2) (v32 n c k) [bkR (xd z) n]):=by
 refine Exists.elim (loop_exists (P:=P05) (Gl:=G05) (f:=32) (r:=9) (an:=A05 32) (k:=1) hm05 (by kernel_rfl)
  (fun s vs h=>∃ (m k:Nat) (z:Nat->Int),s = n - (i0+(m+1))/\vs = v32b n c c2 k i0 (m+1:Nat)/\h = [bkR (xd z) n]/\Cmp y z n k (i0+(m+1)))
  (fun e vs1 h1=>∃ (z:Nat->Int) (k:Nat),e = .exit 2/\vs1 = v32 n c k/\h1 = [bkR (xd z) n]/\CompOk y z n k)
  (fun s vs h ⟨m,k,z,hm,hv,hh,hI⟩=>?_) (n:=n - (i0+(0+1))) (vs:=v32b n c c2 i0 i0 1) (h:=[bkR (xd y) n]) rfl ⟨0,i0,y,rfl,rfl,rfl,hc⟩) ?_
 ·subst hm hv hh
  have h1:=hI.km
  have h2:=hI.mn
  have h3:=hI.keep (i0+(m+1)) (Nat.le_refl _)
  have h4:=hI.at1
  rw [show i0+(m+1) - 1 = i0+m by omega] at h4
  have ej:IntKind.i64.wrap (Int.ofNat (m+1) - 1) = Int.ofNat m:=by
   rw [wr64 (by show (-9223372036854775808:Int)<=((m+1:Nat):Int) - 1; omega) (by show ((m+1:Nat):Int) - 1<=_; omega)]
   show ((m+1:Nat):Int) - 1 = (m:Int)
   omega
  rcases Nat.lt_or_ge (i0+(m+1)) n with q | q
  ·by_cases q2:z (i0+(m+1)) = z (i0+m)
   ·refine .inl ⟨n - (i0+(m+1+1)),_,_,by omega,?_,⟨m+1,k,z,rfl,rfl,rfl,hI.same q (by rw [show i0+(m+1) - 1 = i0+m by omega,← h3,← h4]; exact q2)⟩⟩
    have e1:(xd z (i0+(m+1))).y = (xd z (i0+m)).y:=by unfold xd; rw [q2]
    have e2:(xd z (i0+(m+1))).n = (xd z (i0+m)).n:=by unfold xd; rw [q2]
    clear hI hs hc h3 h4 q2
    refine Step.mk0 (A:=A05) (m:=0) none_ok rfl rfl loops0 (h1:=[bkR (xd z) n]) ?_ (.refl _)
    rw [i32b,ej,up1 (by omega),show (Int.ofNat m).toNat = m from rfl]
    exact BT (BT (BT (BT (BT (BT (BT rfl))))))
   ·refine .inl ⟨n - (i0+(m+1+1)),_,_,by omega,?_,⟨m+1,k+1,_,rfl,rfl,rfl,hI.new hs q (by rw [show i0+(m+1) - 1 = i0+m by omega,← h3,← h4]; exact q2)⟩⟩
    have e3:¬ ((xd z (i0+(m+1))).y = (xd z (i0+m)).y/\(xd z (i0+(m+1))).n = (xd z (i0+m)).n):=fun ⟨w1,w2⟩=>q2 (dec_inj (by
     unfold xd at w1 w2
     generalize dec (z (i0+(m+1))) = A at *
     generalize dec (z (i0+m)) = B at *
     cases A; cases B
     dsimp only at w1 w2
     rw [w1,w2]))
    clear hI hs hc h3 h4 q2
    refine Step.mk0 (A:=A05) (m:=0) none_ok rfl rfl loops0 (h1:=[⟨0,2,n,fun e=>[T.int .u8 (bif e==k then (xd z (i0+(m+1))).y else (xd z e).y),.int .i64 (bif e==k then (xd z (i0+(m+1))).n else (xd z e).n)],true,false,none⟩]) ?_ (set_same (xd z) _ k (i0+(m+1)) n fun e=>?_)
    ·rw [i32b,ej,up1 (by omega),up1 (by omega),show (Int.ofNat m).toNat = m from rfl]
     simp only [Nat.zero_add]
     refine BT (BT (BT (BT (BT ?_))))
     by_cases w:(xd z (i0+(m+1))).y = (xd z (i0+m)).y
     ·have w2:¬ (xd z (i0+(m+1))).n = (xd z (i0+m)).n:=fun w2=>e3 ⟨w,w2⟩
      refine BT (BF (BT (BT (BT (bift (by rw [bltT (by omega)]; rfl) rfl)))))
     ·exact BF (BT (BT (BT (bift (by rw [bltT (by omega)]; rfl) rfl))))
    ·unfold xd
     show dec (if e = k then z (i0+(m+1)) else z e) = _
     by_cases q3:e = k
     ·rw [if_pos q3,if_pos q3]
     ·rw [if_neg q3,if_neg q3]
  ·have e:i0+(m+1) = n:=by omega
   rw [e] at hI
   refine .inr ⟨_,_,_,?_,z,k,rfl,rfl,rfl,hI.ok⟩
   clear hI hs hc h3 h4
   refine Last.mk0 (A:=A05) (m:=0) none_ok rfl rfl loops0 (h1:=[bkR (xd z) n]) (by simp) ?_ (.refl _)
   rw [i32b]
   exact BF rfl
 ·rintro e ⟨vs1,h1,⟨z,k,rfl,rfl,rfl,hz⟩,hl⟩
  exact ⟨z,k,hz,hl⟩
def clr (g:Nat->Idd) (j n:Nat):Nat->Idd:=fun i=>bif Nat.ble (0+j) i&&Nat.blt i (0+j+(n - j)) then ⟨0,0⟩ else g i
theorem clr_same (g:Nat->Idd) (j n:Nat):SameBlks [⟨0,2,n,fun i=>bif Nat.ble (0+j) i&&Nat.blt i (0+j+(n - j)) then [T.int .u8 0,.int .i64 0] else (g i).c,true,false,none⟩] [bkR (clr g j n) n]:=by
 refine .cons ⟨rfl,rfl,rfl,id,fun i _=>?_⟩ .nil
 show (clr g j n i).c = bif Nat.ble (0+j) i&&Nat.blt i (0+j+(n - j)) then [T.int .u8 0,.int .i64 0] else (g i).c
 unfold clr
 cases Nat.ble (0+j) i&&Nat.blt i (0+j+(n - j)) <;> rfl
theorem clr_lt {g:Nat->Idd} {j n i:Nat} (h:i<j):clr g j n i = g i:=by
 unfold clr
 rw [bleF (by omega)]
 rfl
def Post32 (n:Nat) (c:Option Nat) (y:Nat->Int):Ex->List T->Heap->Prop:=fun e v h=>∃ (g1:Nat->Idd) (z:Nat->Int) (k:Nat) (r:T),(e = .ret/\r = .own 0 0 0 k c ∨ e = .exit 0/\r = .undef/\k = n)/\v = [.own 0 0 0 n c,r]/\h = [bkR g1 n]/\CompOk y z n k/\∀ j,j<k->g1 j = dec (z j)
theorem l32t (n:Nat) (c:Option Nat) (hcc:c = none ∨ c = some n) (y:Nat->Int) (hn:n<=1000) (h1:1<=n) (hs:Asc y 0 n) :
 ∃ e v h,Post32 n c y e v h/\LoopOk P05 G05 (A05 32) 32 4 (litS (v32 n c 1) [bkR (xd y) n] e v h):=by
 obtain ⟨x,hx⟩:=is_loop P05 G05 (A05 32) 32 9
 refine loop_exists (P:=P05) (Gl:=G05) (f:=32) (r:=4) (an:=A05 32) (k:=1) hm05 (by kernel_rfl)
  (fun s vs h=>∃ k:Nat,s = n - (k+1)/\vs = v32 n c (k+1:Nat)/\h = [bkR (xd y) n]/\Cmp y y n (k+1) (k+1)) _ ?_ (n:=n - (0+1)) rfl ⟨0,rfl,rfl,rfl,Cmp.start y h1⟩
 rintro s vs h ⟨k,rfl,rfl,rfl,hI⟩
 have hmn:=hI.mn
 have ej:IntKind.i64.wrap (Int.ofNat (k+1) - 1) = Int.ofNat k:=by
  rw [wr64 (by show (-9223372036854775808:Int)<=((k+1:Nat):Int) - 1; omega) (by show ((k+1:Nat):Int) - 1<=_; omega)]
  show ((k+1:Nat):Int) - 1 = (k:Int)
  omega
 rcases Nat.lt_or_ge (k+1) n with q | q
 ·by_cases q2:y (k+1) = y k
  ·obtain ⟨z,j,hz,t1⟩:=l32b n (k+1) c (c.map fun _=>n - (k+1)) y hn q hs (hI.same q q2)
   have hj:=hz.kn
   have hj1:=hz.k1
   refine .inr ⟨.ret,[.own 0 0 0 n c,.own 0 0 0 j c],[bkR (clr (xd z) j n) n],?_,clr (xd z) j n,z,j,_,.inl ⟨rfl,rfl⟩,rfl,rfl,hz,fun i hi=>clr_lt hi⟩
   have e1:(xd y (k+1)).y = (xd y k).y:=by unfold xd; rw [q2]
   have e2:(xd y (k+1)).n = (xd y k).n:=by unfold xd; rw [q2]
   clear hz hI hs q2
   rcases hcc with rfl | rfl
   ·refine Last.mk0 (A:=A05) (m:=0) (l:=l32 x (.exit 2) (v32 n none j) [bkR (xd z) n]) none_ok rfl rfl (loops1 (loopF_ok hx _)) (h1:=[⟨0,2,n,fun i=>bif Nat.ble (0+j) i&&Nat.blt i (0+j+(n - j)) then [T.int .u8 0,.int .i64 0] else (xd z i).c,true,false,none⟩]) (by simp) ?_ (clr_same _ _ _)
    rw [i32n,ej,show (Int.ofNat k).toNat = k from rfl]
    unfold v32b at t1
    simp only [Nat.zero_add] at t1 ⊢
    refine BT (BT (BT (BT (BT (BT (BT (BT (BS (BT (BT (BT rfl)))))))))))
   ·refine Last.mk0 (A:=A05) (m:=0) (l:=l32 x (.exit 2) (v32 n (some n) j) [bkR (xd z) n]) none_ok rfl rfl (loops1 (loopF_ok hx _)) (h1:=[⟨0,2,n,fun i=>bif Nat.ble (0+j) i&&Nat.blt i (0+j+(n - j)) then [T.int .u8 0,.int .i64 0] else (xd z i).c,true,false,none⟩]) (by simp) ?_ (clr_same _ _ _)
    rw [i32s,ej,show (Int.ofNat k).toNat = k from rfl]
    unfold v32b at t1
    simp only [Nat.zero_add] at t1 ⊢
    refine BT (BT (BT (BT (BT (BT (BT (BT (BS (BT (BT (BT rfl)))))))))))
  ·refine .inl ⟨n - (k+1+1),_,_,by omega,?_,⟨k+1,rfl,rfl,rfl,hI.pre hs q q2⟩⟩
   have e3:¬ ((xd y (k+1)).y = (xd y k).y/\(xd y (k+1)).n = (xd y k).n):=fun ⟨w1,w2⟩=>q2 (dec_inj (by
    unfold xd at w1 w2
    generalize dec (y (k+1)) = A at *
    generalize dec (y k) = B at *
    cases A; cases B
    dsimp only at w1 w2
    rw [w1,w2]))
   clear hI hs q2
   rcases hcc with rfl | rfl
   ·refine Step.mk0 (A:=A05) (m:=0) (l:=l32 x (.exit 2) (v32 n none ((0:Nat):Int)) [bkR (xd y) n]) none_ok rfl rfl (loops1 (loopF_ok hx _)) (h1:=[bkR (xd y) n]) ?_ (.refl _)
    rw [i32n,ej,up1 (by omega),show (Int.ofNat k).toNat = k from rfl]
    simp only [Nat.zero_add]
    refine BT (BT (BT (BT (BT ?_))))
    by_cases w:(xd y (k+1)).y = (xd y k).y
    ·have w2:¬ (xd y (k+1)).n = (xd y k).n:=fun w2=>e3 ⟨w,w2⟩
     exact BT (BF rfl)
    ·exact BF rfl
   ·refine Step.mk0 (A:=A05) (m:=0) (l:=l32 x (.exit 2) (v32 n (some n) ((0:Nat):Int)) [bkR (xd y) n]) none_ok rfl rfl (loops1 (loopF_ok hx _)) (h1:=[bkR (xd y) n]) ?_ (.refl _)
    rw [i32s,ej,up1 (by omega),show (Int.ofNat k).toNat = k from rfl]
    simp only [Nat.zero_add]
    refine BT (BT (BT (BT (BT ?_))))
    by_cases w:(xd y (k+1)).y = (xd y k).y
    ·have w2:¬ (xd y (k+1)).n = (xd y k).n:=fun w2=>e3 ⟨w,w2⟩
     exact BT (BF rfl)
    ·exact BF rfl
 ·have e:k+1 = n:=by omega
  rw [e] at hI
  refine .inr ⟨.exit 0,[.own 0 0 0 n c,.undef],[bkR (xd y) n],?_,xd y,y,n,_,.inr ⟨rfl,rfl,rfl⟩,rfl,rfl,hI.ok,fun _ _=>rfl⟩
  clear hI hs
  rcases hcc with rfl | rfl
  ·refine Last.mk0 (A:=A05) (m:=0) (l:=l32 x (.exit 2) (v32 n none (0:Nat)) [bkR (xd y) n]) none_ok rfl rfl (loops1 (loopF_ok hx _)) (h1:=[bkR (xd y) n]) (by simp) ?_ (.refl _)
   rw [i32n]
   exact BF rfl
  ·refine Last.mk0 (A:=A05) (m:=0) (l:=l32 x (.exit 2) (v32 n (some n) (0:Nat)) [bkR (xd y) n]) none_ok rfl rfl (loops1 (loopF_ok hx _)) (h1:=[bkR (xd y) n]) (by simp) ?_ (.refl _)
   rw [i32s]
   exact BF rfl
theorem comp05 (n:Nat) (c:Option Nat) (hcc:c = none ∨ c = some n) (y:Nat->Int) (hn:n<=1000) (h1:1<=n) (hs:Asc y 0 n) :
 ∃ (g1:Nat->Idd) (z:Nat->Int) (k:Nat),CompOk y z n k/\(∀ j,j<k->g1 j = dec (z j))/\ToldRef P05 G05 32 [.own 0 0 0 n c] [bkR (xd y) n] (.own 0 0 0 k c) [bkR g1 n]:=by
 obtain ⟨x,hx⟩:=is_loop P05 G05 (A05 32) 32 4
 obtain ⟨e,v,h,⟨g1,z,k,r,he,rfl,rfl,hz,hg⟩,t1⟩:=l32t n c hcc y hn h1 hs
 clear hs
 rcases Nat.lt_or_ge n 2 with q | q
 ·obtain rfl:n = 1:=by omega
  refine ⟨xd y,y,1,⟨Nat.le_refl _,Nat.le_refl _,fun p q h1 h2=>by omega,fun _=>Iff.rfl⟩,fun _ _=>rfl,?_⟩
  refine stepR_told hm05 hn05 none_ok (K:=noneO) (A:=A05) (m:=0) (by kernel_rfl) (l:=l32o x .ret [.own 0 0 0 1 c,.own 0 0 0 0 c] [bkR (xd y) 1]) (loops1 (loopF_ok hx _)) ?_
  rw [k32r]
  exact bift (by decide) rfl
 ·refine ⟨g1,z,k,hz,hg,?_⟩
  clear hz hg
  rcases he with ⟨rfl,rfl⟩ | ⟨rfl,rfl,rfl⟩
  ·refine stepR_told hm05 hn05 none_ok (K:=noneO) (A:=A05) (m:=0) (by kernel_rfl) (l:=l32o x .ret [.own 0 0 0 n c,.own 0 0 0 k c] [bkR g1 n]) (loops1 (loopF_ok hx _)) ?_
   rw [k32r]
   exact BF (BS rfl)
  ·refine stepR_told hm05 hn05 none_ok (K:=noneO) (A:=A05) (m:=0) (by kernel_rfl) (l:=l32o x (.exit 0) [.own 0 0 0 k c,.undef] [bkR g1 k]) (loops1 (loopF_ok hx _)) ?_
   rw [k32e]
   exact BF (BS rfl)
end Go.Ab

