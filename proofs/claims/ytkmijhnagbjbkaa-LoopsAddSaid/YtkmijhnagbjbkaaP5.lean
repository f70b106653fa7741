/- A part of the proof: nothing is assumed. -/
import Derived.Test.YtkmijhnagbjbkaaP4
import Derived.Test.YtkmijhnagbjbkaaProg
import Derived.KernelRfl
import GoSem.Step
set_option linter.all false
namespace Go.Ab
open Go.Proofs
def G05:Nat->Option (List T):=gOf []
def A05:FuncId->Ann:=fun f=>match f with
 | 2=>⟨[],fun _ _=>[],false⟩
 | 3=>⟨[7,11],fun r o=>match r with | 7=>bif o then [2] else [3,5,7,8] | 11=>bif o then [2,3,5,7,8,9] else [3,5,7,8,9,10] | _=>[],false⟩
 | 4=>⟨[3,7,10],fun _ _=>[],false⟩
 | 5=>⟨[3,8,10,14,17,21],fun r o=>match r with | 10=>bif o then [3,5,7,8,9,10,11,12,13,14,15] else [3,5,6,7,8,9,10,11,12,13,14,15,16] | 15=>bif o then [3,5,6,7,8,9,10,11,12,13,14,15,16] else [3,5,6,7,8,9,10,11,12,13,14,15,16,17,18] | 25=>bif o then [7,12] else [3,5,7,10,12,19] | 28=>bif o then [3,5,7,10,12,19] else [3,5,7,10,12,19,20] | 33=>bif o then [3,5,7,10,12,19,20,21,22] else [3,5,7,10,12,19,20,21,22,23] | 37=>bif o then [3,5,7,10,12,19,20,21,22] else [3,5,7,10,12,19,20,21,22,24] | _=>[],false⟩
 | 6=>⟨[5,11],fun r o=>match r with | 4=>bif o then [1,5,7,8,9] else [1,5,7,8,9,10] | 15=>bif o then [7,11] else [7,11,13] | 19=>bif o then [7,11] else [7,11,14] | _=>[],false⟩
 | 7=>⟨[7],fun r o=>match r with | 8=>bif o then [2,3,5] else [3,4,5,6] | 17=>bif o then [3,4,6,9] else [3,4,6,7,9,10] | _=>[],false⟩
 | 8=>⟨[9,14],fun r o=>match r with | 4=>bif o then [4,6] else [0,4,5,6,7] | 11=>bif o then [0,4,5,6,7,8,9] else [0,4,5,6,7,8,9,10] | 17=>bif o then [0,4,5,6,7,8,9] else [0,4,5,6,7,8,9,12] | _=>[],false⟩
 | 9=>⟨[],fun _ _=>[],false⟩
 | 10=>⟨[],fun _ _=>[],false⟩
 | 11=>⟨[],fun r o=>match r with | 3=>bif o then [3] else [3,6,7,8] | _=>[],false⟩
 | 12=>⟨[4,5,7],fun r o=>match r with | 6=>bif o then [5,7,8] else [5,7,8,9] | 11=>bif o then [8] else [5,7,8,10] | _=>[],false⟩
 | 13=>⟨[4,6],fun _ _=>[],false⟩
 | 14=>⟨[3,4,9],fun r o=>match r with | 2=>bif o then [4,5] else [3,4,14,15,16] | 5=>bif o then [3,4,5,14,15,16] else [3,4,6,14,15,16,21,22,23] | _=>[],false⟩
 | 15=>⟨[3,5,8],fun r o=>match r with | 6=>bif o then [3,6] else [3,6,27,28,29] | _=>[],false⟩
 | 16=>⟨[3,4],fun _ _=>[],false⟩
 | 17=>⟨[],fun r o=>match r with | 3=>bif o then [3] else [0,3,4] | _=>[],false⟩
 | 18=>⟨[3],fun _ _=>[],false⟩
 | 19=>⟨[],fun _ _=>[],false⟩
 | 20=>⟨[5,15],fun r o=>match r with | 13=>bif o then [11] else [11,50,51,52] | 17=>bif o then [11,50,51,52] else [11,12,50,51,52,63,64,65] | _=>[],false⟩
 | 21=>⟨[8,9],fun r o=>match r with | 5=>bif o then [4,5] else [0,1,5,6] | 10=>bif o then [0,1,5,6] else [0,1,5,6,7] | 16=>bif o then [0,1,5,6,7] else [0,1,5,6,7,8,9,10] | _=>[],false⟩
 | 22=>⟨[],fun _ _=>[],false⟩
 | 23=>⟨[],fun _ _=>[],false⟩
 | 24=>⟨[3],fun _ _=>[],false⟩
 | 25=>⟨[3],fun _ _=>[],false⟩
 | 26=>⟨[],fun _ _=>[],false⟩
 | 27=>⟨[],fun _ _=>[],false⟩
 | 28=>⟨[2,3],fun _ _=>[],false⟩
 | 29=>⟨[],fun r o=>match r with | 3=>bif o then [2,3] else [3,6,7,8] | _=>[],false⟩
 | 30=>⟨[],fun _ _=>[],false⟩
 | 31=>⟨[],fun _ _=>[],false⟩
 | 32=>⟨[],fun r o=>match r with | 4=>bif o then [0,2] else [0,3] | 9=>bif o then [0,3] else [0,3,4,5] | _=>[],false⟩
 | 33=>⟨[1,2],fun _ _=>[],false⟩
 | 34=>⟨[],fun _ _=>[],false⟩
 | 35=>⟨[],fun _ _=>[],false⟩
 | 36=>⟨[6],fun r o=>match r with | 2=>bif o then [2] else [0,7,8,9] | 5=>bif o then [0,2,7,8,9] else [0,7,8,9,13,14,15] | _=>[],false⟩
 | 37=>⟨[7,9],fun r o=>match r with | 3=>bif o then [2] else [3,11,12,13] | 6=>bif o then [2,3,11,12,13] else [3,11,12,13,17,18,19] | 9=>bif o then [2,3,11,12,13,17,18,19] else [3,11,12,13,17,18,19,24,25,26] | _=>[],false⟩
 | 38=>⟨[10,11],fun r o=>match r with | 5=>bif o then [4] else [0,3,4,5,6] | 8=>bif o then [0,3,4,5,6,7] else [0,3,4,5,6,7,28,29,30] | 12=>bif o then [0,3,4,5,6,7,8,28,29,30] else [0,3,4,5,6,7,8,10,28,29,30] | _=>[],false⟩
 | 39=>⟨[3],fun r o=>match r with | 2=>bif o then [4] else [0,3,7,8] | _=>[],false⟩
 | 40=>⟨[],fun r o=>match r with | 2=>bif o then [] else [0,1,2,3,4,10,11] | _=>[],false⟩
 | 41=>⟨[],fun _ _=>[],false⟩
 | 42=>⟨[],fun _ _=>[],false⟩
 | 43=>⟨[],fun _ _=>[],false⟩
 | 44=>⟨[],fun _ _=>[],false⟩
 | 45=>⟨[3,6,8],fun r o=>match r with | 6=>bif o then [0,3,4] else [0,3,28,29,30] | 12=>bif o then [3,4] else [0,3,40,41,42] | _=>[],false⟩
 | 46=>⟨[2,4],fun _ _=>[],false⟩
 | 47=>⟨[],fun r o=>match r with | 1=>bif o then [] else [0,1,2,3,8] | 4=>bif o then [0,1,2,3,8] else [0,1,2,3,8,9] | _=>[],false⟩
 | 48=>⟨[],fun r o=>match r with | 4=>bif o then [0,3,8,9,10] else [0,3,8,9,10,11] | 8=>bif o then [] else [0,3,8,9,12] | _=>[],false⟩
 | 49=>⟨[],fun r o=>match r with | 5=>bif o then [] else [0,1,8,9,10,11] | _=>[],false⟩
 | 50=>⟨[],fun _ _=>[],false⟩
 | 51=>⟨[],fun r o=>match r with | 2=>bif o then [] else [0,8,9] | _=>[],false⟩
 | 52=>⟨[],fun r o=>match r with | 3=>bif o then [8] else [0,1,2,3,9,10] | 5=>bif o then [0,1,2,3,9,10] else [0,1,2,3,9,10] | 14=>bif o then [0,1,2,3,9,10] else [0,1,2,3,9,10,11] | 20=>bif o then [0,1,2,3,9,10] else [0,1,2,3,9,10,12] | _=>[],false⟩
 | 53=>⟨[],fun r o=>match r with | 7=>bif o then [11] else [0,1,4,11,12] | 3=>bif o then [0,1,4,11,12] else [0,1,4,11,12] | 5=>bif o then [0,1,4,11,12] else [0,1,4,11,12] | _=>[],false⟩
 | 54=>⟨[],fun r o=>match r with | 3=>bif o then [0,1,4,12,13] else [0,1,4,12,13] | 5=>bif o then [0,1,4,12,13] else [0,1,4,12,13] | 17=>bif o then [0,1,13] else [0,1,4,12,13] | 13=>bif o then [0,1,4,12,13] else [0,1,4,12,13] | 15=>bif o then [0,1,4,12,13] else [0,1,4,12,13] | _=>[],false⟩
 | 55=>⟨[],fun _ _=>[],false⟩
 | 56=>⟨[],fun _ _=>[],false⟩
 | 57=>⟨[],fun _ _=>[],false⟩
 | 58=>⟨[],fun r o=>match r with | 1=>bif o then [] else [0,2,3,4,10] | _=>[],false⟩
 | 59=>⟨[],fun _ _=>[],false⟩
 | 60=>⟨[],fun _ _=>[],false⟩
 | 61=>⟨[],fun _ _=>[],false⟩
 | 62=>⟨[],fun _ _=>[],false⟩
 | 63=>⟨[],fun _ _=>[],false⟩
 | 64=>⟨[6],fun r o=>match r with | 2=>bif o then [0] else [0,8,9,10] | _=>[],false⟩
 | 65=>⟨[],fun _ _=>[],false⟩
 | 66=>⟨[2,3],fun _ _=>[],false⟩
 | 67=>⟨[],fun _ _=>[],false⟩
 | _=>⟨[],fun _ _=>[],false⟩
noncomputable abbrev P05:Program:=Try.prog
theorem hm05:P05.follows .mixedOrders = true:=by kernel_rfl
theorem hn05:namesOk P05 = true:=by kernel_rfl
theorem hl05:laidOutB P05 = true:=by kernel_rfl
open Go.Proofs
structure Idd where
 (y n:Int)
structure Pss where
 (y n:Int) (f:Bool) (d:Int)
structure Lpp where
 (b:Int) (w:Bool) (th:Nat->Idd) (nt:Nat) (ps:Nat->Pss) (np:Nat)
def Idd.c (a:Idd):List T:=[.int .u8 a.y,.int .i64 a.n]
def Pss.c (p:Pss):List T:=[.int .u8 p.y,.int .i64 p.n,.bool p.f,.int .u8 p.d]
def Pss.id (p:Pss):Idd:=⟨p.y,p.n⟩
def idV (g:Nat->Idd) (n:Nat) (c:Option Nat):T:=.view 2 n (fun j=>(g j).c) c
def psV (g:Nat->Pss) (n:Nat) (c:Option Nat):T:=.view 4 n (fun j=>(g j).c) c
def Lpp.c (l:Lpp):List T:=[.int .u8 l.b,.bool l.w,idV l.th l.nt none,psV l.ps l.np none]
structure Tbl where
 h:Nat
 ln:Nat->Nat
 L:Nat->Nat->Lpp
def lpV (g:Nat->Lpp) (n:Nat) (c:Option Nat):T:=.view 4 n (fun j=>(g j).c) c
def Tbl.v (t:Tbl):T:=.view 1 t.h (fun y=>[lpV (t.L y) (t.ln y) none]) none
structure Idd.Ok (a:Idd):Prop where
 y:0<=a.y/\a.y<256
 n:-9223372036854775808<=a.n/\a.n<=9223372036854775807
structure Pss.Ok (p:Pss):Prop where
 i:p.id.Ok
 d:0<=p.d/\p.d<256
structure Lpp.Ok (l:Lpp):Prop where
 b:0<=l.b/\l.b<256
 th:∀ j,(l.th j).Ok
 ps:∀ j,(l.ps j).Ok
 nt:l.nt<=100000
 np:l.np<=100000
structure Tbl.Ok (t:Tbl):Prop where
 h:t.h<=1000
 ln:∀ y,t.ln y<=10000
 L:∀ y i,(t.L y i).Ok
def Tbl.has (t:Tbl) (a:Idd):Bool:=decide (1<=a.y)&&decide (a.y<=t.h)&&decide (0<=a.n)&&decide (a.n<(t.ln (a.y - 1).toNat:Int))
def Tbl.sum (t:Tbl):Nat->Nat
 | 0=>0
 | y+1=>t.sum y+t.ln y
def v11 (t:Tbl) (x:Int) (i:Nat):List T:=[.int .i64 x,t.v,.int .i64 t.h,.int .i64 i]
def cnc (p q:Pss):Bool:=(decide (p.d = 0) || decide (p.d = 1))&&(decide (q.d = 0) || decide (q.d = 1))&&!decide (p.d = q.d)&&(decide (p.y = q.y)&&decide (p.n = q.n)&&(p.f==q.f))
noncomputable def K66 (p:List T->T->Prop) (a b:Int):Orc:=noneO.add 67 (callF p fun l=>match l with | [.int _ x]=>some (.bool (decide (x = 0) || decide (x = 1))) | _=>none)
theorem hasT (t:Tbl) (ht:t.Ok) (a:Idd) (ha:a.Ok):ToldOk P05 G05 25 [t.v,.agg a.c] (.bool (t.has a)):=by
 refine stepV_told hm05 hn05 none_ok (K:=noneO) (A:=A05) (m:=0) ?_
 rw [(show stepV P05 G05 A05 noneO 0 25 [t.v,.agg a.c] =
(
 bif decide (1<=a.y) then
 bif decide (IntKind.i64.wrap a.y<=Int.ofNat t.h) then
 bif decide (0<=a.n) then
 bif decide (0<=IntKind.u8.wrap (a.y - 1))&&decide (IntKind.u8.wrap (a.y - 1)<Int.ofNat t.h) then
 bif decide (a.n<Int.ofNat (t.ln (IntKind.u8.wrap (a.y - (1:Int))).toNat)) then
 some (.bool true)
 else
 some (.bool false)
 else none else
 some (.bool false)
 else
 some (.bool false)
 else
 some (.bool false)) from by kernel_rfl)]
 unfold Tbl.has
 have:=ha.y
 have:=ht.h
 clear ht ha
 by_cases h1:1<=a.y
 ·have e1:IntKind.i64.wrap a.y = a.y:=wr64 (by omega) (by omega)
  have e2:IntKind.u8.wrap (a.y - 1) = a.y - 1:=wr8 (by omega) (by omega)
  rw [e1,e2,dT h1]
  by_cases h2:a.y<=t.h
  ·rw [dT h2]
   by_cases h3:0<=a.n
   ·rw [dT h3]
    generalize t.ln (a.y - 1).toNat = k
    by_cases h4:a.n<(k:Int)
    ·rw [dT h4]
     (repeat (first | refine BS ?_ | refine BF ?_))
     rfl
    ·rw [dF h4]
     (repeat (first | refine BS ?_ | refine BF ?_))
     rfl
   ·rw [dF h3]
    (repeat (first | refine BS ?_ | refine BF ?_))
    rfl
  ·rw [dF h2]
   (repeat (first | refine BS ?_ | refine BF ?_))
   rfl
 ·rw [dF h1]
  (repeat (first | refine BS ?_ | refine BF ?_))
  rfl
theorem i11 (t:Tbl) (x:Int) (i:Nat):iterR P05 G05 A05 noneO 0 11 [] 3 (v11 t x i) [] =
(
 bif decide (Int.ofNat i<Int.ofNat t.h) then
 bif decide (0<=Int.ofNat i)&&decide (Int.ofNat i<Int.ofNat t.h) then
 some ((.normal,[.int .i64 (IntKind.i64.wrap (x+Int.ofNat (t.ln i))),t.v,.int .i64 (.ofNat t.h),.int .i64 (IntKind.i64.wrap (Int.ofNat i+1))],[]))
 else none else
 some ((.exit 0,[.int .i64 x],[]))):=by kernel_rfl
theorem copyIdT (g:Nat->Idd) (n:Nat) (c:Option Nat) (hn:n<=1000000):ToldOk P05 G05 26 [idV g n c] (.fresh true 2 n (fun j=>(g j).c) n (some n)):=by
 refine ToldOk.resTo (r:=.fresh true 2 (n - 0) (fun j=>bif Nat.ble 0 (0+j)&&Nat.blt (0+j) (0+n.min n) then (g (0+j - 0)).c else [T.int .u8 0,T.int .i64 0]) n (some n)) ?_ (.fresh (Nat.le_refl _) (by omega) (fun m hm=>by obtain rfl:=Option.some.inj hm; omega) fun j hj=>by rw [Nat.zero_add,bleT (Nat.zero_le _),show Nat.min n n = n from Nat.min_self n,Nat.zero_add,bltT hj]; rfl)
 refine stepV_told hm05 hn05 none_ok (K:=noneO) (A:=A05) (m:=0) ?_
 rw [(show stepV P05 G05 A05 noneO 0 26 [idV g n c] =
(
 bif decide (0<=Int.ofNat n)&&decide (Int.ofNat n<=Int.ofNat n)&&decide (Int.ofNat n * 16<=140737488355328)&&decide (Int.ofNat n<=9223372036854775807) then
 bif ((0:Nat)+n).ble n then
 some (bif ((0:Nat)+n).ble n then .fresh true (2:Nat) (n - 0) (fun j =>
 bif Nat.ble 0 (0+j)&&((0:Nat)+j).blt (0+n.min n) then (g ((0:Nat)+j - (0:Nat))).c
 else [.int .u8 0,.int .i64 0]) n (some n)
 else .undef)
 else none else
 none) from by kernel_rfl)]
 refine BS ?_
 refine BS ?_
 rw [Nat.zero_add,bleT (Nat.le_refl _)]
 rfl
theorem copyPsT (g:Nat->Pss) (n:Nat) (c:Option Nat) (hn:n<=1000000):ToldOk P05 G05 44 [psV g n c] (.fresh true 4 n (fun j=>(g j).c) n (some n)):=by
 refine ToldOk.resTo (r:=.fresh true 4 (n - 0) (fun j=>bif Nat.ble 0 (0+j)&&Nat.blt (0+j) (0+n.min n) then (g (0+j - 0)).c else [T.int .u8 0,T.int .i64 0,T.bool false,T.int .u8 0]) n (some n)) ?_ (.fresh (Nat.le_refl _) (by omega) (fun m hm=>by obtain rfl:=Option.some.inj hm; omega) fun j hj=>by rw [Nat.zero_add,bleT (Nat.zero_le _),show Nat.min n n = n from Nat.min_self n,Nat.zero_add,bltT hj]; rfl)
 refine stepV_told hm05 hn05 none_ok (K:=noneO) (A:=A05) (m:=0) ?_
 rw [(show stepV P05 G05 A05 noneO 0 44 [psV g n c] =
(
 bif decide (0<=Int.ofNat n)&&decide (Int.ofNat n<=Int.ofNat n)&&decide (Int.ofNat n * 24<=140737488355328)&&decide (Int.ofNat n<=9223372036854775807) then
 bif ((0:Nat)+n).ble n then
 some (bif ((0:Nat)+n).ble n then .fresh true (4:Nat) (n - 0) (fun j =>
 bif Nat.ble 0 (0+j)&&((0:Nat)+j).blt (0+n.min n) then (g ((0:Nat)+j - (0:Nat))).c
 else [.int .u8 0,.int .i64 0,.bool false,.int .u8 0]) n (some n)
 else .undef)
 else none else
 none) from by kernel_rfl)]
 refine BS ?_
 refine BS ?_
 rw [Nat.zero_add,bleT (Nat.le_refl _)]
 rfl
theorem sidedT (d:Int):ToldOk P05 G05 67 [.int .u8 d] (.bool (decide (d = 0) || decide (d = 1))):=by
 refine stepV_told hm05 hn05 none_ok (K:=noneO) (A:=A05) (m:=0) ?_
 rw [(show stepV P05 G05 A05 noneO 0 67 [.int .u8 d] =
(
 bif decide (d = 0) then
 some (.bool true)
 else
 bif decide (d = 1) then
 some (.bool true)
 else
 some (.bool false)) from by kernel_rfl)]
 cases decide (d = 0) <;> cases decide (d = 1) <;> rfl
theorem cancelT (a b:Pss):ToldOk P05 G05 66 [.agg a.c,.agg b.c] (.bool (cnc a b)):=by
 obtain ⟨p,hp⟩:=is_val P05 G05 67
 refine stepV_told hm05 hn05 (told_add none_ok (callF_told hp)) (K:=K66 p a.d b.d) (A:=A05) (m:=0) ?_
 rw [(show stepV P05 G05 A05 (K66 p a.d b.d) 0 66 [.agg a.c,.agg b.c] =
(
 bif decF (p [.int .u8 a.d] (.bool (decide (a.d = 0) || decide (a.d = 1)))) then
 bif decide (a.d = 0) || decide (a.d = 1) then
 bif decF (p [.int .u8 b.d] (.bool (decide (b.d = 0) || decide (b.d = 1)))) then
 bif decide (b.d = 0) || decide (b.d = 1) then
 bif decide (a.d = b.d) then
 some (.bool false)
 else
 bif decide (a.y = b.y) then
 bif decide (a.n = b.n) then
 bif
 bif a.f then b.f
 else !b.f then
 bif decide (a.d = a.d) then
 some (.bool true)
 else
 some (.bool false)
 else
 some (.bool false)
 else
 some (.bool false)
 else
 some (.bool false)
 else
 some (.bool false)
 else none else
 some (.bool false)
 else
 none) from by kernel_rfl)]
 refine bift (callF_yes hp (sidedT a.d)) ?_
 unfold cnc
 cases decide (a.d = 0) || decide (a.d = 1)
 ·rfl
 rw [cond_true]
 refine bift (callF_yes hp (sidedT b.d)) ?_
 cases decide (b.d = 0) || decide (b.d = 1)
 ·rfl
 rw [dT (show a.d = a.d from rfl)]
 cases decide (a.d = b.d) <;> cases decide (a.y = b.y) <;> cases decide (a.n = b.n) <;> cases a.f <;> cases b.f <;> rfl
theorem sum_le (t:Tbl) (ht:t.Ok):∀ y,t.sum y<=10000 * y
 | 0=>Nat.le_refl _
 | y+1=>by
  have h1:=sum_le t ht y
  have h2:=ht.ln y
  show t.sum y+t.ln y<=_
  omega
theorem countT (t:Tbl) (ht:t.Ok):ToldOk P05 G05 11 [t.v] (.int .i64 (t.sum t.h)):=by
 have hl:LoopOk P05 G05 (A05 11) 11 3 (litS (v11 t 0 0) [] (.exit 0) [.int .i64 (t.sum t.h)] []):=by
  refine loop_steps hm05 (by kernel_rfl) (fun i=>v11 t (t.sum i) i) (fun _=>[]) (n:=t.h) (fun i hi=>?_) ?_
  ·have e:t.sum (i+1) = t.sum i+t.ln i:=rfl
   have h1:=sum_le t ht i
   have h2:=ht.ln i
   have h3:=ht.h
   rw [e]
   clear ht e
   generalize t.sum i = x at *
   refine Step.mk0 (A:=A05) (m:=0) none_ok rfl rfl loops0 (h1:=[]) ?_ .nil
   rw [i11,up1 (by omega),wr64 (x:=(x:Int)+Int.ofNat (t.ln i)) (by rw [ofNatE]; omega) (by rw [ofNatE]; omega)]
   (repeat (first | refine BS ?_ | refine BF ?_))
   rfl
  ·clear ht
   generalize t.sum t.h = x at *
   refine Last.mk0 (A:=A05) (m:=0) none_ok rfl rfl loops0 (h1:=[]) (by simp) ?_ .nil
   rw [i11]
   (repeat (first | refine BS ?_ | refine BF ?_))
   rfl
 generalize t.sum t.h = x at *
 refine stepL_told hm05 hn05 none_ok (A:=A05) (m:=0) (by kernel_rfl) (loops1 hl) ?_
 rw [(show stepL P05 G05 A05 noneO 0 11 [(3,litS (v11 t 0 0) [] (.exit 0) [.int .i64 x] [])] [t.v] =
(
 bif weakF (v11 t (0:Int) (nat_lit 0)) [] (v11 t (0:Int) (nat_lit 0)) [] then
 some (.int .i64 (.ofNat x))
 else
 none) from by kernel_rfl)]
 (repeat (first | refine BS ?_ | refine BF ?_))
 rfl
open Go.Proofs
def nlT (l:Lpp):T:=.agg [.int .u8 l.b,.bool l.w,.fresh true 2 l.nt (fun j=>(l.th j).c) l.nt (some l.nt),.fresh true 4 l.np (fun j=>(l.ps j).c) l.np (some l.np)]
def zlT:T:=.agg [.int .u8 0,.bool false,.nils,.nils]
noncomputable def K33 (p q:List T->T->Prop) (l:Lpp):Orc:=(noneO.add 26 (callF p fun _=>some (.fresh true 2 l.nt (fun j=>(l.th j).c) l.nt (some l.nt)))).add 44 (callF q fun _=>some (.fresh true 4 l.np (fun j=>(l.ps j).c) l.np (some l.np)))
noncomputable def K16 (p q:List T->T->Prop) (b:Bool) (r:T):Orc:=(noneO.add 25 (callF p fun _=>some (.bool b))).add 33 (callF q fun _=>some r)
def needI (l:Lpp) (i:Nat):Idd:=if i<l.nt then l.th i else (l.ps (i - l.nt)).id
def pshM (l:Nat->Pss):Nat->Nat × (Nat->Pss)
 | 0=>(0,fun _=>⟨0,0,false,0⟩)
 | k+1=>if (decide (0<(pshM l k).1)&&cnc ((pshM l k).2 ((pshM l k).1 - 1)) (l k)) = true then ((pshM l k).1 - 1,(pshM l k).2) else ((pshM l k).1+1,fun e=>if e = (pshM l k).1 then l k else (pshM l k).2 e)
def b64 (g:Nat->Pss) (n:Nat):Blk:=⟨0,4,n,fun e=>(g e).c,true,false,none⟩
def v64 (l:Nat->Pss) (n:Nat) (c:Option Nat) (m k:Nat):List T:=[.own 0 0 0 m (some n),psV l n c,.int .i64 n,.int .i64 k]
noncomputable def K64 (p:List T->T->Prop) (b:Bool):Orc:=noneO.add 66 (callF p fun _=>some (.bool b))
noncomputable def K57 (p:List T->Heap->T->Heap->Prop) (q:List T->T->Prop) (g:Nat->Pss) (m n:Nat):Orc:=(noneO.addRef 64 (refF p fun _ _=>some (.own 0 0 0 m (some n),[b64 g n]))).add 63 (callF q fun _=>some (.fresh true 4 m (fun j=>(g j).c) m (some m)))
theorem copyLoopT (l:Lpp) (hl:l.Ok):ToldOk P05 G05 33 [.agg l.c] (nlT l):=by
 obtain ⟨p,hp⟩:=is_val P05 G05 26
 obtain ⟨q,hq⟩:=is_val P05 G05 44
 have t1:=copyIdT l.th l.nt none (by have:=hl.nt; omega)
 have t2:=copyPsT l.ps l.np none (by have:=hl.np; omega)
 refine stepV_told hm05 hn05 (told_add (told_add none_ok (callF_told hp)) (callF_told hq)) (K:=K33 p q l) (A:=A05) (m:=0) ?_
 rw [(show stepV P05 G05 A05 (K33 p q l) 0 33 [.agg l.c] =
(
 bif decF (p [idV l.th l.nt
 none] (.fresh true (2:Nat) l.nt (fun j=>(l.th j).c) l.nt (some l.nt))) then
 bif decF (q [psV l.ps l.np
 none] (.fresh true (4:Nat) l.np (fun j=>(l.ps j).c) l.np (some l.np))) then
 some (.agg [.int .u8 l.b,.bool l.w,
 bif ((0:Nat)+l.nt).ble l.nt then .fresh true (2:Nat) (l.nt - 0) (fun j=>(l.th ((0:Nat)+j)).c) l.nt (some l.nt)
 else .undef,
 bif ((0:Nat)+l.np).ble l.np then .fresh true (4:Nat) (l.np - 0) (fun j=>(l.ps ((0:Nat)+j)).c) l.np (some l.np)
 else .undef])
 else none else
 none) from by kernel_rfl)]
 clear hl
 (repeat (first | refine BS ?_ | refine BF ?_))
 simp only [Nat.zero_add,Nat.sub_zero]
 rw [bleT (Nat.le_refl _),bleT (Nat.le_refl _)]
 rfl
theorem findT (t:Tbl) (ht:t.Ok) (a:Idd) (ha:a.Ok):ToldOk P05 G05 16 [t.v,.agg a.c] (bif t.has a then .tup [nlT (t.L (a.y - 1).toNat a.n.toNat),.int .i64 0] else .tup [zlT,.int .i64 7]):=by
 obtain ⟨p,hp⟩:=is_val P05 G05 25
 obtain ⟨q,hq⟩:=is_val P05 G05 33
 have t1:=hasT t ht a ha
 have t2:=copyLoopT _ (ht.L (a.y - 1).toNat a.n.toNat)
 have hy:=ha.y
 have hh:=ht.h
 cases hb:t.has a
 ·rw [hb] at t1
  refine stepV_told hm05 hn05 (told_add (told_add none_ok (callF_told hp)) (callF_told hq)) (K:=K16 p q false .nils) (A:=A05) (m:=0) ?_
  rw [(show stepV P05 G05 A05 (K16 p q false .nils) 0 16 [t.v,.agg a.c] =
(
 bif decF (p [t.v,.agg a.c] (.bool false)) then
 some (.tup [.agg [.int .u8 0,.bool false,.nils,.nils],.int .i64 7])
 else
 none) from by kernel_rfl)]
  clear ht ha hb t2
  (repeat (first | refine BS ?_ | refine BF ?_))
  rfl
 ·rw [hb] at t1
  simp only [Tbl.has,Bool.and_eq_true,decide_eq_true_eq] at hb
  generalize hx:t.L (a.y - 1).toNat a.n.toNat = l at *
  refine stepV_told hm05 hn05 (told_add (told_add none_ok (callF_told hp)) (callF_told hq)) (K:=K16 p q true (nlT l)) (A:=A05) (m:=0) ?_
  rw [(show stepV P05 G05 A05 (K16 p q true (nlT l)) 0 16 [t.v,.agg a.c] =
(
 bif decF (p [t.v,.agg a.c] (.bool true)) then
 bif decide (0<=IntKind.u8.wrap (a.y - 1))&&decide (IntKind.u8.wrap (a.y - 1)<Int.ofNat t.h) then
 bif decide (0<=a.n)&&decide (a.n<Int.ofNat (t.ln (IntKind.u8.wrap (a.y - (1:Int))).toNat)) then
 bif decF (q [.agg (t.L (IntKind.u8.wrap (a.y - (1:Int))).toNat a.n.toNat).c] (nlT l)) then
 some (.tup [.agg [.int .u8 l.b,.bool l.w,
 bif ((0:Nat)+l.nt).ble l.nt then .fresh true (2:Nat) (l.nt - 0) (fun j=>(l.th ((0:Nat)+j)).c) l.nt (some l.nt)
 else .undef,
 bif ((0:Nat)+l.np).ble l.np then .fresh true (4:Nat) (l.np - 0) (fun j=>(l.ps ((0:Nat)+j)).c) l.np (some l.np)
 else .undef],.int .i64 0])
 else none else none else none else
 none) from by kernel_rfl)]
  have e1:IntKind.u8.wrap (a.y - 1) = a.y - 1:=wr8 (by omega) (by omega)
  rw [e1,hx]
  clear ht ha hx
  refine BS ?_
  refine BS ?_
  refine bift (by rw [dT (by omega),dT (by rw [ofNatE]; omega)]; rfl) ?_
  refine BS ?_
  simp only [Nat.zero_add,Nat.sub_zero]
  rw [bleT (Nat.le_refl _),bleT (Nat.le_refl _)]
  rfl
theorem needT (l:Lpp) (hl:l.Ok) (i:Nat) (hi:i<l.nt+l.np):ToldOk P05 G05 46 [.agg l.c,.int .i64 i] (.agg (needI l i).c):=by
 refine stepV_told hm05 hn05 none_ok (K:=noneO) (A:=A05) (m:=0) ?_
 rw [(show stepV P05 G05 A05 noneO 0 46 [.agg l.c,.int .i64 i] =
(
 bif decide (Int.ofNat i<Int.ofNat l.nt) then
 bif decide (0<=Int.ofNat i)&&decide (Int.ofNat i<Int.ofNat l.nt) then
 some (.agg (l.th i).c)
 else none else
 bif decide (0<=IntKind.i64.wrap (Int.ofNat i - Int.ofNat l.nt))&&decide (IntKind.i64.wrap (Int.ofNat i - Int.ofNat l.nt)<Int.ofNat l.np) then
 some (.agg [.int .u8 (l.ps (IntKind.i64.wrap (Int.ofNat i - Int.ofNat l.nt)).toNat).y,.int .i64 (l.ps (IntKind.i64.wrap (Int.ofNat i - Int.ofNat l.nt)).toNat).n])
 else
 none) from by kernel_rfl)]
 have h1:=hl.nt
 have h2:=hl.np
 clear hl
 unfold needI
 by_cases q:i<l.nt
 ·rw [if_pos q]
  (repeat (first | refine BS ?_ | refine BF ?_))
  rfl
 ·have e:IntKind.i64.wrap (Int.ofNat i - Int.ofNat l.nt) = Int.ofNat (i - l.nt):=by
   rw [wr64 (by show (-9223372036854775808:Int)<=(i:Int) - (l.nt:Int); omega) (by show (i:Int) - (l.nt:Int)<=_; omega)]
   show (i:Int) - (l.nt:Int) = ((i - l.nt:Nat):Int)
   omega
  rw [if_neg q,e]
  (repeat (first | refine BS ?_ | refine BF ?_))
  rfl
theorem i64 (l g:Nat->Pss) (n:Nat) (c:Option Nat) (m k:Nat) (b:Bool) (p:List T->T->Prop):iterR P05 G05 A05 (K64 p b) 0 64 [] 2 (v64 l n c m k) [b64 g n] =
(
 bif decide (Int.ofNat k<Int.ofNat n) then
 bif decide (0<=Int.ofNat k)&&decide (Int.ofNat k<Int.ofNat n) then
 bif decide (0<Int.ofNat m) then
 bif decide (0<=IntKind.i64.wrap (Int.ofNat m - 1))&&decide (IntKind.i64.wrap (Int.ofNat m - 1)<Int.ofNat m) then
 bif ((0:Nat)+(IntKind.i64.wrap (Int.ofNat m - (1:Int))).toNat).blt n then
 bif decF (p [.agg (g ((0:Nat)+(IntKind.i64.wrap (Int.ofNat m - (1:Int))).toNat)).c,.agg (l k).c] (.bool b)) then
 bif b then
 bif decide (0<=IntKind.i64.wrap (Int.ofNat m - 1))&&decide (IntKind.i64.wrap (Int.ofNat m - 1)<=Int.ofNat n)&&decide (Int.ofNat n<=Int.ofNat n) then
 some ((.normal,[.own 0 0 0 ((IntKind.i64.wrap (Int.ofNat m - (1:Int))).toNat - 0) (some (n - 0)),psV l n c,.int .i64 (.ofNat n),.int .i64 (IntKind.i64.wrap (Int.ofNat k+1))],[b64 g n]))
 else none else
 bif ((0:Nat)+m).ble n then
 bif ((m+(1:Nat)) * (25:Nat)).ble 70368744177664 then
 bif (m+(1:Nat)).ble n then
 bif ((0:Nat)+m+(1:Nat)).ble n then
 some ((.normal,[.own 0 0 0 (m+1) (some n),psV l n c,.int .i64 (.ofNat n),.int .i64 (IntKind.i64.wrap (Int.ofNat k+1))],[.mk 0 4 n (fun j =>
 bif ((0:Nat)+m).ble j&&j.blt (0+m+1) then [(l k).c].getD ((0:Nat)+(j - (0+m))) []
 else (g j).c) true false
 none,.mk 0 4 1 (fun j=>[(l k).c].getD j []) true true
 none]))
 else none else
 some ((.normal,[.own [b64 g n,Blk.mk 0 4 1 (fun j=>[(l k).c].getD j []) true true
 none].length (0:Nat) (0:Nat) (m+1)
 none,psV l n c,.int .i64 (.ofNat n),.int .i64 (IntKind.i64.wrap (Int.ofNat k+1))],[b64 g n,.mk 0 4 1 (fun j=>[(l k).c].getD j []) true true
 none,.mk 0 4 (m+1) (fun j =>
 bif j.blt m then (g ((0:Nat)+j)).c
 else [(l k).c].getD ((0:Nat)+(j - m)) []) true false
 none]))
 else none else none else none else none else none else
 bif ((0:Nat)+m).ble n then
 bif ((m+(1:Nat)) * (25:Nat)).ble 70368744177664 then
 bif (m+(1:Nat)).ble n then
 bif ((0:Nat)+m+(1:Nat)).ble n then
 some ((.normal,[.own 0 0 0 (m+1) (some n),psV l n c,.int .i64 (.ofNat n),.int .i64 (IntKind.i64.wrap (Int.ofNat k+1))],[.mk 0 4 n (fun j =>
 bif ((0:Nat)+m).ble j&&j.blt (0+m+1) then [(l k).c].getD ((0:Nat)+(j - (0+m))) []
 else (g j).c) true false
 none,.mk 0 4 1 (fun j=>[(l k).c].getD j []) true true
 none]))
 else none else
 some ((.normal,[.own [b64 g n,Blk.mk 0 4 1 (fun j=>[(l k).c].getD j []) true true
 none].length (0:Nat) (0:Nat) (m+1)
 none,psV l n c,.int .i64 (.ofNat n),.int .i64 (IntKind.i64.wrap (Int.ofNat k+1))],[b64 g n,.mk 0 4 1 (fun j=>[(l k).c].getD j []) true true
 none,.mk 0 4 (m+1) (fun j =>
 bif j.blt m then (g ((0:Nat)+j)).c
 else [(l k).c].getD ((0:Nat)+(j - m)) []) true false
 none]))
 else none else none else none else
 some ((.exit 0,[.own 0 0 0 m (some n)],[b64 g n]))):=by kernel_rfl
theorem k64 (l g:Nat->Pss) (n:Nat) (c:Option Nat) (m:Nat):stepR P05 G05 A05 noneO 0 64 [(2,litS (v64 l n c 0 0) [b64 (fun _=>⟨0,0,false,0⟩) n] (.exit 0) [.own 0 0 0 m (some n)] [b64 g n])] [.own 0 0 0 0 (some n),psV l n c] [b64 (fun _=>⟨0,0,false,0⟩) n] =
(
 bif weakF (v64 l n c (0:Nat) (nat_lit 0)) [.mk 0 4 n (fun e=>[.int .u8 0,.int .i64 0,.bool false,.int .u8 0]) true false
 none] (v64 l n c (0:Nat) (nat_lit 0)) [.mk 0 4 n (fun e=>[.int .u8 0,.int .i64 0,.bool false,.int .u8 0]) true false
 none] then
 some ((.own 0 0 0 m (some n),[b64 g n]))
 else
 none):=by kernel_rfl
theorem copyPs2T (g:Nat->Pss) (n:Nat) (c:Option Nat) (hn:n<=1000000):ToldOk P05 G05 63 [psV g n c] (.fresh true 4 n (fun j=>(g j).c) n (some n)):=by
 refine ToldOk.resTo (r:=.fresh true 4 (n - 0) (fun j=>bif Nat.ble 0 (0+j)&&Nat.blt (0+j) (0+n.min n) then (g (0+j - 0)).c else [T.int .u8 0,T.int .i64 0,T.bool false,T.int .u8 0]) n (some n)) ?_ (.fresh (Nat.le_refl _) (by omega) (fun m hm=>by obtain rfl:=Option.some.inj hm; omega) fun j hj=>by rw [Nat.zero_add,bleT (Nat.zero_le _),show Nat.min n n = n from Nat.min_self n,Nat.zero_add,bltT hj]; rfl)
 refine stepV_told hm05 hn05 none_ok (K:=noneO) (A:=A05) (m:=0) ?_
 rw [(show stepV P05 G05 A05 noneO 0 63 [psV g n c] =
(
 bif decide (0<=Int.ofNat n)&&decide (Int.ofNat n<=Int.ofNat n)&&decide (Int.ofNat n * 24<=140737488355328)&&decide (Int.ofNat n<=9223372036854775807) then
 bif ((0:Nat)+n).ble n then
 some (bif ((0:Nat)+n).ble n then .fresh true (4:Nat) (n - 0) (fun j =>
 bif Nat.ble 0 (0+j)&&((0:Nat)+j).blt (0+n.min n) then (g ((0:Nat)+j - (0:Nat))).c
 else [.int .u8 0,.int .i64 0,.bool false,.int .u8 0]) n (some n)
 else .undef)
 else none else
 none) from by kernel_rfl)]
 refine BS ?_
 refine BS ?_
 rw [Nat.zero_add,bleT (Nat.le_refl _)]
 rfl
theorem k57 (l g:Nat->Pss) (n:Nat) (c:Option Nat) (m:Nat) (p:List T->Heap->T->Heap->Prop) (q:List T->T->Prop):stepV P05 G05 A05 (K57 p q g m n) 0 57 [psV l n c] =
(
 bif decide (0<=Int.ofNat n)&&decide (Int.ofNat n * 24<=140737488355328)&&decide (Int.ofNat n<=9223372036854775807) then
 bif decF (p [.own 0 0 0 0 (some n),psV l n c] [.mk 0 4 n (fun x=>[.int .u8 0,.int .i64 0,.bool false,.int .u8 0]) true false
 none] (.own 0 0 0 m (some n)) [b64 g n]) then
 bif decF (q [bif ((0:Nat)+m).ble n then psV (fun j=>g (0+j)) m (some n)
 else .undef] (.fresh true (4:Nat) m (fun j=>(g j).c) m (some m))) then
 some (bif ((0:Nat)+m).ble m then .fresh true (4:Nat) (m - 0) (fun j=>(g ((0:Nat)+j)).c) m (some m)
 else .undef)
 else none else none else
 none):=by kernel_rfl
theorem pshM_le (l:Nat->Pss):∀ k,(pshM l k).1<=k
 | 0=>Nat.le_refl _
 | k+1=>by
  have ih:=pshM_le l k
  unfold pshM
  split
  ·show (pshM l k).1 - 1<=k+1; omega
  ·show (pshM l k).1+1<=k+1; omega
theorem pushT (l:Nat->Pss) (n:Nat) (c:Option Nat) (hn:n<=1000000):ToldRef P05 G05 64 [.own 0 0 0 0 (some n),psV l n c] [b64 (fun _=>⟨0,0,false,0⟩) n] (.own 0 0 0 (pshM l n).1 (some n)) [b64 (pshM l n).2 n]:=by
 obtain ⟨p,hp⟩:=is_val P05 G05 66
 have hK:∀ b,OrcOk P05 G05 (K64 p b):=fun b=>told_add none_ok (callF_told hp)
 have hl:LoopOk P05 G05 (A05 64) 64 2 (litS (v64 l n c 0 0) [b64 (fun _=>⟨0,0,false,0⟩) n] (.exit 0) [.own 0 0 0 (pshM l n).1 (some n)] [b64 (pshM l n).2 n]):=by
  refine loop_steps hm05 (by kernel_rfl) (fun k=>v64 l n c (pshM l k).1 k) (fun k=>[b64 (pshM l k).2 n]) (n:=n) (fun k hk=>?_) ?_
  ·have hm:=pshM_le l k
   have e:pshM l (k+1) = if (decide (0<(pshM l k).1)&&cnc ((pshM l k).2 ((pshM l k).1 - 1)) (l k)) = true then ((pshM l k).1 - 1,(pshM l k).2) else ((pshM l k).1+1,fun e=>if e = (pshM l k).1 then l k else (pshM l k).2 e):=rfl
   rw [e]
   generalize (pshM l k).2 = g at *
   generalize (pshM l k).1 = m at *
   clear e
   have same:∀ j,j<n->(fun e=>(if e = m then l k else g e).c) j = (bif Nat.ble (0+m) j&&Nat.blt j (0+m+1) then ([(l k).c]:List (List T)).getD (0+(j - (0+m))) [] else (g j).c):=fun j hj=>by
    simp only [Nat.zero_add]
    by_cases q:j = m
    ·subst q
     rw [if_pos rfl,bleT (Nat.le_refl _),bltT (by omega),Nat.sub_self]
     rfl
    ·rw [if_neg q]
     by_cases q2:m<=j
     ·rw [bleT q2,bltF (by omega)]; rfl
     ·rw [bleF (by omega)]; rfl
   by_cases h0:0<m
   ·have t:=cancelT (g (m - 1)) (l k)
    have e1:IntKind.i64.wrap (Int.ofNat m - 1) = Int.ofNat (m - 1):=by
     rw [wr64 (by show (-9223372036854775808:Int)<=(m:Int) - 1; omega) (by show (m:Int) - 1<=_; omega)]
     show (m:Int) - 1 = ((m - 1:Nat):Int)
     omega
    rw [dT h0,Bool.true_and]
    cases hb:cnc (g (m - 1)) (l k)
    ·rw [hb] at t
     rw [if_neg (by simp)]
     refine Step.mk (A:=A05) (m:=0) (hK false) rfl rfl loops0 1 (Nat.le_refl _) (h1:=[⟨0,4,n,fun j=>bif Nat.ble (0+m) j&&Nat.blt j (0+m+1) then ([(l k).c]:List (List T)).getD (0+(j - (0+m))) [] else (g j).c,true,false,none⟩,⟨0,4,1,fun j=>[(l k).c].getD j [],true,true,none⟩]) (vs':=v64 l n c (m+1) (k+1)) ?_ (by rfl) (.cons ⟨rfl,rfl,rfl,id,same⟩ .nil)
     rw [i64,up1 (by omega),e1,show (Int.ofNat (m - 1)).toNat = m - 1 from rfl,Nat.zero_add]
     clear same
     (repeat (first | refine BS ?_ | refine BF ?_))
     rfl
    ·rw [hb] at t
     rw [if_pos rfl]
     refine Step.mk0 (A:=A05) (m:=0) (hK true) rfl rfl loops0 (h1:=[b64 g n]) (vs':=v64 l n c (m - 1) (k+1)) ?_ (.refl _)
     rw [i64,up1 (by omega),e1,show (Int.ofNat (m - 1)).toNat = m - 1 from rfl,Nat.zero_add,Nat.sub_zero,Nat.sub_zero]
     clear same
     (repeat (first | refine BS ?_ | refine BF ?_))
     rfl
   ·rw [dF h0,Bool.false_and,if_neg (by simp)]
    refine Step.mk (A:=A05) (m:=0) (hK false) rfl rfl loops0 1 (Nat.le_refl _) (h1:=[⟨0,4,n,fun j=>bif Nat.ble (0+m) j&&Nat.blt j (0+m+1) then ([(l k).c]:List (List T)).getD (0+(j - (0+m))) [] else (g j).c,true,false,none⟩,⟨0,4,1,fun j=>[(l k).c].getD j [],true,true,none⟩]) (vs':=v64 l n c (m+1) (k+1)) ?_ (by rfl) (.cons ⟨rfl,rfl,rfl,id,same⟩ .nil)
    rw [i64,up1 (by omega)]
    clear same
    (repeat (first | refine BS ?_ | refine BF ?_))
    rfl
  ·generalize (pshM l n).2 = g at *
   generalize (pshM l n).1 = m at *
   refine Last.mk0 (A:=A05) (m:=0) (hK false) rfl rfl loops0 (h1:=[b64 g n]) (by simp) ?_ (.refl _)
   rw [i64]
   (repeat (first | refine BS ?_ | refine BF ?_))
   rfl
 generalize (pshM l n).2 = g at *
 generalize (pshM l n).1 = m at *
 refine stepR_told hm05 hn05 none_ok (A:=A05) (m:=0) (by kernel_rfl) (loops1 hl) ?_
 rw [k64]
 exact bift (weakF_of ⟨rfl,.refl _⟩) rfl
theorem reduceT (l:Nat->Pss) (n:Nat) (c:Option Nat) (hn:n<=1000000):ToldOk P05 G05 57 [psV l n c] (.fresh true 4 (pshM l n).1 (fun j=>((pshM l n).2 j).c) (pshM l n).1 (some (pshM l n).1)):=by
 obtain ⟨p,hp⟩:=is_ref P05 G05 64
 obtain ⟨q,hq⟩:=is_val P05 G05 63
 have hm:=pshM_le l n
 have t1:=pushT l n c hn
 have t2:=copyPs2T (pshM l n).2 (pshM l n).1 (some n) (by omega)
 generalize (pshM l n).2 = g at *
 generalize (pshM l n).1 = m at *
 refine stepV_told hm05 hn05 (told_add (told_addRef none_ok (refF_told hp)) (callF_told hq)) (K:=K57 p q g m n) (A:=A05) (m:=0) ?_
 rw [k57]
 refine bift (by rw [dT (by rw [ofNatE]; omega),dT (by rw [ofNatE]; omega),dT (by rw [ofNatE]; omega)]; rfl) ?_
 refine bift (refF_yes hp t1) ?_
 simp only [Nat.zero_add,Nat.sub_zero]
 rw [bleT hm,bleT (Nat.le_refl _)]
 refine bift (callF_yes hq t2) ?_
 rfl
open Go.Proofs
def rgI (t:Tbl) (l:Lpp) (i:Nat):Bool:=t.has (l.th i)
def rgP (t:Tbl) (l:Lpp) (i:Nat):Bool:=t.has (l.ps i).id&&(decide ((l.ps i).d = 0) || decide ((l.ps i).d = 1))
def rgt (t:Tbl) (l:Lpp):Bool:=bif decide (l.b = 0) || decide (l.b = 1) then (bif decide (4<l.nt) || decide (4096<l.np) then false else bif allB (rgI t l) l.nt then (bif allB (rgP t l) l.np then decide ((pshM l.ps l.np).1 = l.np) else false) else false) else false
def v45a (t:Tbl) (l:Lpp) (i:Nat):List T:=[t.v,.reg l.c,idV l.th l.nt none,.int .i64 l.nt,.int .i64 i]
def v45b (t:Tbl) (l:Lpp) (i:Nat):List T:=[t.v,.reg l.c,psV l.ps l.np none,.int .i64 l.np,.int .i64 i]
noncomputable def K45 (p:List T->T->Prop) (b:Bool):Orc:=noneO.add 25 (callF p fun _=>some (.bool b))
noncomputable def K45r (p:List T->T->Prop) (r:T):Orc:=noneO.add 57 (callF p fun _=>some r)
noncomputable def l45 (x y:List T->Heap->Ex->List T->Heap->Prop) (t:Tbl) (l:Lpp) (b1 b2:Bool):List (Nat × (List T->Heap->LT)) :=
 [(6,loopF x (.ite b1 (.ret (.exit 0) [t.v,.reg l.c,.undef] []) (.ret .ret [t.v,.reg l.c,.bool false] []))),
  (12,loopF y (.ite b2 (.ret (.exit 2) [.reg l.c,.undef] []) (.ret .ret [.reg l.c,.bool false] [])))]
def ckL (t:Tbl) (y i:Nat):Bool:=rgt t (t.L y i)&&(!(i==0) || (t.L y i).w)
def ckY (t:Tbl) (y:Nat):Bool:=allB (ckL t y) (t.ln y)
def v36i (t:Tbl) (y i:Nat):List T:=[t.v,t.v,.int .i64 t.h,.int .i64 y,lpV (t.L y) (t.ln y) none,.int .i64 (t.ln y),.int .i64 i]
def v36o (t:Tbl) (y:Nat):List T:=[t.v,t.v,.int .i64 t.h,.int .i64 y]
noncomputable def K36 (p:List T->T->Prop) (b:Bool):Orc:=noneO.add 45 (callF p fun _=>some (.bool b))
noncomputable def l36i (x:List T->Heap->Ex->List T->Heap->Prop) (t:Tbl) (y:Nat) (b:Bool):List (Nat × (List T->Heap->LT)) :=
 [(5,loopF x (.ite b (.ret (.exit 2) [t.v,.undef,t.v,.int .i64 t.h,.int .i64 y] []) (.ret .ret [t.v,.int .i64 1,t.v,.int .i64 t.h,.int .i64 y] [])))]
noncomputable def l36 (x:List T->Heap->Ex->List T->Heap->Prop) (b:Bool):List (Nat × (List T->Heap->LT)) :=
 [(2,loopF x (.ite b (.ret (.exit 0) [.undef] []) (.ret .ret [.int .i64 1] [])))]
section
variable (t:Tbl) (l:Lpp) (i y:Nat) (b b1 b2:Bool) (p:List T->T->Prop) (x z:List T->Heap->Ex->List T->Heap->Prop) (g:Nat->Pss) (m:Nat)
theorem i45a:iterR P05 G05 A05 (K45 p b) 0 45 [] 6 (v45a t l i) [] =
(
 bif decide (Int.ofNat i<Int.ofNat l.nt) then
 bif decide (0<=Int.ofNat i)&&decide (Int.ofNat i<Int.ofNat l.nt) then
 bif decF (p [t.v,.agg (l.th i).c] (.bool b)) then
 bif b then
 some ((.normal,[t.v,.reg l.c,idV l.th l.nt
 none,.int .i64 (.ofNat l.nt),.int .i64 (IntKind.i64.wrap (Int.ofNat i+1))],[]))
 else
 some ((.ret,[t.v,.reg l.c,.bool false],[]))
 else none else none else
 some ((.exit 0,[t.v,.reg l.c,.undef],[]))):=by kernel_rfl
theorem i45b:iterR P05 G05 A05 (K45 p b) 0 45 [] 12 (v45b t l i) [] =
(
 bif decide (Int.ofNat i<Int.ofNat l.np) then
 bif decide (0<=Int.ofNat i)&&decide (Int.ofNat i<Int.ofNat l.np) then
 bif decF (p [t.v,.agg [.int .u8 (l.ps i).y,.int .i64 (l.ps i).n]] (.bool b)) then
 bif b then
 bif !decide ((l.ps i).d = 0) then
 bif !decide ((l.ps i).d = 1) then
 some ((.ret,[.reg l.c,.bool false],[]))
 else
 some ((.normal,[t.v,.reg l.c,psV l.ps l.np
 none,.int .i64 (.ofNat l.np),.int .i64 (IntKind.i64.wrap (Int.ofNat i+1))],[]))
 else
 some ((.normal,[t.v,.reg l.c,psV l.ps l.np
 none,.int .i64 (.ofNat l.np),.int .i64 (IntKind.i64.wrap (Int.ofNat i+1))],[]))
 else
 some ((.ret,[.reg l.c,.bool false],[]))
 else none else none else
 some ((.exit 2,[.reg l.c,.undef],[]))):=by kernel_rfl
theorem k45:stepL P05 G05 A05 (K45r p (.fresh true 4 m (fun j=>(g j).c) m (some m))) 0 45 (l45 x z t l b1 b2) [t.v,.agg l.c] =
(
 bif !decide (l.b = 0) then
 bif !decide (l.b = 1) then
 some (.bool false)
 else
 bif decide (4<Int.ofNat l.nt) then
 some (.bool false)
 else
 bif decide (4096<Int.ofNat l.np) then
 some (.bool false)
 else
 bif b1 then
 bif decF (x (v45a t l (nat_lit 0)) [] (.exit 0) [t.v,.reg l.c,.undef] []) then
 bif b2 then
 bif decF (z (v45b t l (nat_lit 0)) [] (.exit 2) [.reg l.c,.undef] []) then
 bif decF (p [psV l.ps l.np
 none] (.fresh true (4:Nat) m (fun j=>(g j).c) m (some m))) then
 bif decide (Int.ofNat m = Int.ofNat l.np) then
 some (.bool true)
 else
 some (.bool false)
 else none else none else
 bif decF (z (v45b t l (nat_lit 0)) [] .ret [.reg l.c,.bool false] []) then
 some (.bool false)
 else none else none else
 bif decF (x (v45a t l (nat_lit 0)) [] .ret [t.v,.reg l.c,.bool false] []) then
 some (.bool false)
 else none else
 bif decide (4<Int.ofNat l.nt) then
 some (.bool false)
 else
 bif decide (4096<Int.ofNat l.np) then
 some (.bool false)
 else
 bif b1 then
 bif decF (x (v45a t l (nat_lit 0)) [] (.exit 0) [t.v,.reg l.c,.undef] []) then
 bif b2 then
 bif decF (z (v45b t l (nat_lit 0)) [] (.exit 2) [.reg l.c,.undef] []) then
 bif decF (p [psV l.ps l.np
 none] (.fresh true (4:Nat) m (fun j=>(g j).c) m (some m))) then
 bif decide (Int.ofNat m = Int.ofNat l.np) then
 some (.bool true)
 else
 some (.bool false)
 else none else none else
 bif decF (z (v45b t l (nat_lit 0)) [] .ret [.reg l.c,.bool false] []) then
 some (.bool false)
 else none else none else
 bif decF (x (v45a t l (nat_lit 0)) [] .ret [t.v,.reg l.c,.bool false] []) then
 some (.bool false)
 else
 none):=by kernel_rfl
theorem i36i:iterR P05 G05 A05 (K36 p b) 0 36 [] 5 (v36i t y i) [] =
(
 bif decide (Int.ofNat i<Int.ofNat (t.ln y)) then
 bif decide (0<=Int.ofNat i)&&decide (Int.ofNat i<Int.ofNat (t.ln y)) then
 bif decF (p [t.v,.agg (t.L y i).c] (.bool b)) then
 bif b then
 bif decide (Int.ofNat i = 0) then
 bif (t.L y i).w then
 some ((.normal,[t.v,t.v,.int .i64 (.ofNat t.h),.int .i64 (.ofNat y),lpV (t.L y) (t.ln y)
 none,.int .i64 (.ofNat (t.ln y)),.int .i64 (IntKind.i64.wrap (Int.ofNat i+1))],[]))
 else
 some ((.ret,t.v :: v11 t (1:Int) y,[]))
 else
 some ((.normal,[t.v,t.v,.int .i64 (.ofNat t.h),.int .i64 (.ofNat y),lpV (t.L y) (t.ln y)
 none,.int .i64 (.ofNat (t.ln y)),.int .i64 (IntKind.i64.wrap (Int.ofNat i+1))],[]))
 else
 some ((.ret,t.v :: v11 t (1:Int) y,[]))
 else none else none else
 some ((.exit 2,[t.v,.undef,t.v,.int .i64 (.ofNat t.h),.int .i64 (.ofNat y)],[]))):=by kernel_rfl
theorem i36o:iterR P05 G05 A05 noneO 0 36 (l36i x t y b) 2 (v36o t y) [] =
(
 bif decide (Int.ofNat y<Int.ofNat t.h) then
 bif decide (0<=Int.ofNat y)&&decide (Int.ofNat y<Int.ofNat t.h) then
 bif b then
 bif decF (x (v36i t y (nat_lit 0)) [] (.exit 2) [t.v,.undef,t.v,.int .i64 (.ofNat t.h),.int .i64 (.ofNat y)] []) then
 some ((.normal,[t.v,t.v,.int .i64 (.ofNat t.h),.int .i64 (IntKind.i64.wrap (Int.ofNat y+1))],[]))
 else none else
 bif decF (x (v36i t y (nat_lit 0)) [] .ret (t.v :: v11 t (1:Int) y) []) then
 some ((.ret,[.int .i64 1],[]))
 else none else none else
 some ((.exit 0,[.undef],[]))):=by kernel_rfl
theorem k36:stepL P05 G05 A05 noneO 0 36 (l36 x b) [t.v] =
(
 bif b then
 bif decF (x (v36o t (nat_lit 0)) [] (.exit 0) [.undef] []) then
 some (.int .i64 0)
 else none else
 bif decF (x (v36o t (nat_lit 0)) [] .ret [.int .i64 1] []) then
 some (.int .i64 1)
 else
 none):=by kernel_rfl
end
theorem scan45a (t:Tbl) (ht:t.Ok) (l:Lpp) (hl:l.Ok):(allB (rgI t l) l.nt = true->LoopOk P05 G05 (A05 45) 45 6 (litS (v45a t l 0) [] (.exit 0) [t.v,.reg l.c,.undef] []))/\(allB (rgI t l) l.nt = false->LoopOk P05 G05 (A05 45) 45 6 (litS (v45a t l 0) [] .ret [t.v,.reg l.c,.bool false] [])):=by
 obtain ⟨p,hp⟩:=is_val P05 G05 25
 have hK:∀ b,OrcOk P05 G05 (K45 p b):=fun b=>told_add none_ok (callF_told hp)
 have hn:=hl.nt
 refine loop_scan hm05 (by kernel_rfl) (fun i=>v45a t l i) (fun _=>[]) (rgI t l) (n:=l.nt) (fun i hi _ hg=>?_) (fun i hi _ hg=>?_) (fun _=>?_)
 ·have t1:=hasT t ht (l.th i) (hl.th i)
  rw [show t.has (l.th i) = true from hg] at t1
  clear ht hl
  refine Step.mk0 (A:=A05) (m:=0) (hK true) rfl rfl loops0 (h1:=[]) ?_ .nil
  rw [i45a,up1 (by omega)]
  (repeat (first | refine BS ?_ | refine BF ?_))
  rfl
 ·have t1:=hasT t ht (l.th i) (hl.th i)
  rw [show t.has (l.th i) = false from hg] at t1
  clear ht hl
  refine Last.mk0 (A:=A05) (m:=0) (hK false) rfl rfl loops0 (h1:=[]) (by simp) ?_ .nil
  rw [i45a]
  (repeat (first | refine BS ?_ | refine BF ?_))
  rfl
 ·clear ht hl
  refine Last.mk0 (A:=A05) (m:=0) (hK false) rfl rfl loops0 (h1:=[]) (by simp) ?_ .nil
  rw [i45a]
  refine BF ?_
  rfl
theorem scan45b (t:Tbl) (ht:t.Ok) (l:Lpp) (hl:l.Ok):(allB (rgP t l) l.np = true->LoopOk P05 G05 (A05 45) 45 12 (litS (v45b t l 0) [] (.exit 2) [.reg l.c,.undef] []))/\(allB (rgP t l) l.np = false->LoopOk P05 G05 (A05 45) 45 12 (litS (v45b t l 0) [] .ret [.reg l.c,.bool false] [])):=by
 obtain ⟨p,hp⟩:=is_val P05 G05 25
 have hK:∀ b,OrcOk P05 G05 (K45 p b):=fun b=>told_add none_ok (callF_told hp)
 have hn:=hl.np
 refine loop_scan hm05 (by kernel_rfl) (fun i=>v45b t l i) (fun _=>[]) (rgP t l) (n:=l.np) (fun i hi _ hg=>?_) (fun i hi _ hg=>?_) (fun _=>?_)
 ·have t1:=hasT t ht (l.ps i).id (hl.ps i).i
  simp only [rgP,Bool.and_eq_true,Bool.or_eq_true,decide_eq_true_eq] at hg
  rw [hg.1] at t1
  have hd:=hg.2
  clear ht hl hg
  refine Step.mk0 (A:=A05) (m:=0) (hK true) rfl rfl loops0 (h1:=[]) ?_ .nil
  rw [i45b,up1 (by omega)]
  by_cases q:(l.ps i).d = 0
  ·(repeat (first | refine BS ?_ | refine BF ?_))
   rfl
  ·have q2:(l.ps i).d = 1:=by omega
   (repeat (first | refine BS ?_ | refine BF ?_))
   rfl
 ·have t1:=hasT t ht (l.ps i).id (hl.ps i).i
  unfold rgP at hg
  clear ht hl
  cases hb:t.has (l.ps i).id
  ·rw [hb] at t1
   refine Last.mk0 (A:=A05) (m:=0) (hK false) rfl rfl loops0 (h1:=[]) (by simp) ?_ .nil
   rw [i45b]
   clear hb
   (repeat (first | refine BS ?_ | refine BF ?_))
   rfl
  ·rw [hb] at t1 hg
   simp only [Bool.true_and,Bool.or_eq_false_iff,decide_eq_false_iff_not] at hg
   obtain ⟨q1,q2⟩:=hg
   refine Last.mk0 (A:=A05) (m:=0) (hK true) rfl rfl loops0 (h1:=[]) (by simp) ?_ .nil
   rw [i45b]
   clear hb
   (repeat (first | refine BS ?_ | refine BF ?_))
   rfl
 ·clear ht hl
  refine Last.mk0 (A:=A05) (m:=0) (hK false) rfl rfl loops0 (h1:=[]) (by simp) ?_ .nil
  rw [i45b]
  refine BF ?_
  rfl
theorem rightT (t:Tbl) (ht:t.Ok) (l:Lpp) (hl:l.Ok):ToldOk P05 G05 45 [t.v,.agg l.c] (.bool (rgt t l)):=by
 obtain ⟨x,hx⟩:=is_loop P05 G05 (A05 45) 45 6
 obtain ⟨z,hz⟩:=is_loop P05 G05 (A05 45) 45 12
 obtain ⟨p,hp⟩:=is_val P05 G05 57
 have t1:=reduceT l.ps l.np none (by have:=hl.np; omega)
 have ha:=scan45a t ht l hl
 have hb:=scan45b t ht l hl
 unfold rgt
 generalize (pshM l.ps l.np).2 = g at *
 generalize (pshM l.ps l.np).1 = m at *
 generalize allB (rgI t l) l.nt = b1 at *
 generalize allB (rgP t l) l.np = b2 at *
 refine stepL_told hm05 hn05 (K:=K45r p (.fresh true 4 m (fun j=>(g j).c) m (some m))) (told_add none_ok (callF_told hp)) (A:=A05) (m:=0) (l:=l45 x z t l b1 b2) (by kernel_rfl) (loopsC (loopF_ok hx _) (loops1 (loopF_ok hz _))) ?_
 rw [k45]
 have key:∀ r:Option T,r = some (.bool (bif decide (4<l.nt) || decide (4096<l.np) then false else bif b1 then (bif b2 then decide (m = l.np) else false) else false))->r = some (.bool (bif decide (l.b = 0) || decide (l.b = 1) then (bif decide (4<l.nt) || decide (4096<l.np) then false else bif b1 then (bif b2 then decide (m = l.np) else false) else false) else false)) ∨ ¬ (l.b = 0 ∨ l.b = 1):=fun r h=>by
  by_cases q:l.b = 0 ∨ l.b = 1
  ·left
   rw [h]
   rcases q with q | q
   ·rw [dT q]; rfl
   ·rw [dT q,Bool.or_true]; rfl
  ·exact .inr q
 have tail:∀ r:Option T,(bif decide ((4:Int)<Int.ofNat l.nt) then some (T.bool false) else bif decide ((4096:Int)<Int.ofNat l.np) then some (T.bool false) else
  bif b1 then bif decF (x (v45a t l 0) [] (Ex.exit 0) [t.v,T.reg l.c,T.undef] []) then
   bif b2 then bif decF (z (v45b t l 0) [] (Ex.exit 2) [T.reg l.c,T.undef] []) then
    bif decF (p [psV l.ps l.np none] (T.fresh true 4 m (fun j=>(g j).c) m (some m))) then
     bif decide (Int.ofNat m = Int.ofNat l.np) then some (T.bool true) else some (T.bool false) else none else none
   else bif decF (z (v45b t l 0) [] Ex.ret [T.reg l.c,T.bool false] []) then some (T.bool false) else none else none
  else bif decF (x (v45a t l 0) [] Ex.ret [t.v,T.reg l.c,T.bool false] []) then some (T.bool false) else none) = r->r = some (.bool (bif decide (4<l.nt) || decide (4096<l.np) then false else bif b1 then (bif b2 then decide (m = l.np) else false) else false)):=fun r h=>by
  rw [← h]
  clear h key ht hl
  by_cases q1:4<l.nt
  ·rw [dT q1]
   exact bift (by rw [ofNatE]; exact dT (by omega)) rfl
  rw [dF q1]
  refine biff (by rw [ofNatE,dF (by omega)]; simp) ?_
  by_cases q2:4096<l.np
  ·rw [dT q2]
   exact bift (by rw [ofNatE]; exact dT (by omega)) rfl
  rw [dF q2]
  refine biff (by rw [ofNatE,dF (by omega)]; simp) ?_
  cases b1
  ·exact biff (by simp) (bift (loopF_yes hx (ha.2 rfl)) rfl)
  refine bift rfl (bift (loopF_yes hx (ha.1 rfl)) ?_)
  cases b2
  ·exact biff (by simp) (bift (loopF_yes hz (hb.2 rfl)) rfl)
  refine bift rfl (bift (loopF_yes hz (hb.1 rfl)) ?_)
  refine bift (callF_yes hp t1) ?_
  by_cases q3:m = l.np
  ·rw [dT q3]
   exact bift (by rw [q3]; simp) rfl
  ·rw [dF q3]
   exact biff (by rw [ofNatE,ofNatE,dF (by omega)]; simp) rfl
 by_cases q0:l.b = 0
 ·refine biff (by rw [dT q0]; simp) ?_
  rcases key _ (tail _ rfl) with h | h
  ·exact h
  ·exact absurd (.inl q0) h
 refine bift (by rw [dF q0]; rfl) ?_
 by_cases q1:l.b = 1
 ·refine biff (by rw [dT q1]; simp) ?_
  rcases key _ (tail _ rfl) with h | h
  ·exact h
  ·exact absurd (.inr q1) h
 rw [dF q0,dF q1]
 exact bift (by rfl) rfl
theorem scan36i (t:Tbl) (ht:t.Ok) (y:Nat):(allB (ckL t y) (t.ln y) = true->LoopOk P05 G05 (A05 36) 36 5 (litS (v36i t y 0) [] (.exit 2) [t.v,.undef,t.v,.int .i64 t.h,.int .i64 y] []))/\(allB (ckL t y) (t.ln y) = false->LoopOk P05 G05 (A05 36) 36 5 (litS (v36i t y 0) [] .ret [t.v,.int .i64 1,t.v,.int .i64 t.h,.int .i64 y] [])):=by
 obtain ⟨p,hp⟩:=is_val P05 G05 45
 have hK:∀ b,OrcOk P05 G05 (K36 p b):=fun b=>told_add none_ok (callF_told hp)
 have hn:=ht.ln y
 refine loop_scan hm05 (by kernel_rfl) (fun i=>v36i t y i) (fun _=>[]) (ckL t y) (n:=t.ln y) (fun i hi _ hg=>?_) (fun i hi _ hg=>?_) (fun _=>?_)
 ·have t1:=rightT t ht (t.L y i) (ht.L y i)
  simp only [ckL,Bool.and_eq_true,Bool.or_eq_true,Bool.not_eq_true',beq_eq_false_iff_ne] at hg
  rw [hg.1] at t1
  have h2:=hg.2
  clear ht hg
  refine Step.mk0 (A:=A05) (m:=0) (hK true) rfl rfl loops0 (h1:=[]) ?_ .nil
  rw [i36i,up1 (by omega)]
  by_cases q:i = 0
  ·have hw:(t.L y i).w = true:=by rcases h2 with h | h; exact absurd q h; exact h
   rw [hw]
   (repeat (first | refine BS ?_ | refine BF ?_))
   rfl
  ·(repeat (first | refine BS ?_ | refine BF ?_))
   rfl
 ·have t1:=rightT t ht (t.L y i) (ht.L y i)
  unfold ckL at hg
  clear ht
  cases hb:rgt t (t.L y i)
  ·rw [hb] at t1
   refine Last.mk0 (A:=A05) (m:=0) (hK false) rfl rfl loops0 (h1:=[]) (by simp) ?_ .nil
   rw [i36i]
   clear hb
   (repeat (first | refine BS ?_ | refine BF ?_))
   rfl
  ·rw [hb] at t1 hg
   have h2:i = 0/\(t.L y i).w = false:=by simpa using hg
   refine Last.mk0 (A:=A05) (m:=0) (hK true) rfl rfl loops0 (h1:=[]) (by simp) ?_ .nil
   rw [i36i,h2.2]
   have h2:=h2.1
   clear hb
   (repeat (first | refine BS ?_ | refine BF ?_))
   rfl
 ·clear ht
  refine Last.mk0 (A:=A05) (m:=0) (hK false) rfl rfl loops0 (h1:=[]) (by simp) ?_ .nil
  rw [i36i]
  refine BF ?_
  rfl
theorem checkLoopsT (t:Tbl) (ht:t.Ok):ToldOk P05 G05 36 [t.v] (.int .i64 (bif allB (ckY t) t.h then 0 else 1)):=by
 obtain ⟨x,hx⟩:=is_loop P05 G05 (A05 36) 36 2
 obtain ⟨z,hz⟩:=is_loop P05 G05 (A05 36) 36 5
 have hh:=ht.h
 have hl:(allB (ckY t) t.h = true->LoopOk P05 G05 (A05 36) 36 2 (litS (v36o t 0) [] (.exit 0) [.undef] []))/\(allB (ckY t) t.h = false->LoopOk P05 G05 (A05 36) 36 2 (litS (v36o t 0) [] .ret [.int .i64 1] [])):=by
  refine loop_scan hm05 (by kernel_rfl) (fun y=>v36o t y) (fun _=>[]) (ckY t) (n:=t.h) (fun y hy _ hg=>?_) (fun y hy _ hg=>?_) (fun _=>?_)
  ·have hi:=(scan36i t ht y).1 hg
   clear ht
   refine Step.mk0 (A:=A05) (m:=0) none_ok rfl rfl (l:=l36i z t y true) (loops1 (loopF_ok hz _)) (h1:=[]) ?_ .nil
   rw [i36o,up1 (by omega)]
   (repeat (first | refine BS ?_ | refine BF ?_))
   rfl
  ·have hi:=(scan36i t ht y).2 hg
   clear ht
   refine Last.mk0 (A:=A05) (m:=0) none_ok rfl rfl (l:=l36i z t y false) (loops1 (loopF_ok hz _)) (h1:=[]) (by simp) ?_ .nil
   rw [i36o]
   (repeat (first | refine BS ?_ | refine BF ?_))
   rfl
  ·clear ht
   refine Last.mk0 (A:=A05) (m:=0) none_ok rfl rfl (l:=l36i z t t.h false) (loops1 (loopF_ok hz _)) (h1:=[]) (by simp) ?_ .nil
   rw [i36o]
   refine BF ?_
   rfl
 generalize allB (ckY t) t.h = b at *
 refine stepL_told hm05 hn05 none_ok (A:=A05) (m:=0) (l:=l36 x b) (by kernel_rfl) (loops1 (loopF_ok hx _)) ?_
 rw [k36]
 cases b
 ·exact biff (by simp) (bift (loopF_yes hx (hl.2 rfl)) rfl)
 ·exact bift rfl (bift (loopF_yes hx (hl.1 rfl)) rfl)
open Go.Proofs
def md37 (hs:List Int->Bool) (vl:List Int->Int) (bn:List Int->Nat) (ck:Nat):MapD:=⟨.row [some .u8,some .i64],.i64,hs,vl,bn,ck,none⟩
def mh37 (hs:List Int->Bool) (vl:List Int->Int) (bn:List Int->Nat) (ck:Nat):Heap:=[mapBlk 0 (md37 hs vl bn ck)]
def v37i (t:Tbl) (y i k:Nat):List T:=[.mp 0 0,t.v,.int .i64 t.h,.int .i64 y,lpV (t.L y) (t.ln y) none,.int .i64 (t.ln y),.int .i64 i,idV (t.L y i).th (t.L y i).nt none,.int .i64 (t.L y i).nt,.int .i64 k]
def x37i (v:T) (t:Tbl) (y i:Nat):List T:=[v,.mp 0 0,t.v,.int .i64 t.h,.int .i64 y,lpV (t.L y) (t.ln y) none,.int .i64 (t.ln y),.int .i64 i]
def v37m (t:Tbl) (y i:Nat):List T:=[.mp 0 0,t.v,.int .i64 t.h,.int .i64 y,lpV (t.L y) (t.ln y) none,.int .i64 (t.ln y),.int .i64 i]
def x37m (v:T) (t:Tbl) (y:Nat):List T:=[v,.mp 0 0,t.v,.int .i64 t.h,.int .i64 y]
def v37o (t:Tbl) (y:Nat):List T:=[.mp 0 0,t.v,.int .i64 t.h,.int .i64 y]
noncomputable def l37m (x:List T->Heap->Ex->List T->Heap->Prop) (t:Tbl) (y i:Nat) (b:Bool) (h1 h2:Heap):List (Nat × (List T->Heap->LT)) :=
 [(9,loopF x (.ite b (.ret (.exit 4) (x37i .undef t y i) h1) (.ret .ret (x37i (.int .i64 8) t y i) h2)))]
noncomputable def l37o (x:List T->Heap->Ex->List T->Heap->Prop) (t:Tbl) (y:Nat) (b:Bool) (h1 h2:Heap):List (Nat × (List T->Heap->LT)) :=
 [(6,loopF x (.ite b (.ret (.exit 2) (x37m .undef t y) h1) (.ret .ret (x37m (.int .i64 8) t y) h2)))]
noncomputable def l37 (x:List T->Heap->Ex->List T->Heap->Prop) (b:Bool) (h1 h2:Heap):List (Nat × (List T->Heap->LT)) :=
 [(3,loopF x (.ite b (.ret (.exit 0) [.undef] h1) (.ret .ret [.int .i64 8] h2)))]
def kyI (a:Idd):List Int:=[a.y,a.n]
def tkH (K:List Int) (hs:List Int->Bool):List Int->Bool:=fun l=>keq l K || (keq l K || hs l)
def tkV (K:List Int) (vl:List Int->Int):List Int->Int:=fun l=>bif keq l K then IntKind.i64.wrap (vl K+1) else bif keq l K then vl K else vl l
def tkB (K:List Int) (hs:List Int->Bool) (bn:List Int->Nat) (ck:Nat):List Int->Nat:=fun l=>bif keq l K then (bif keq K K || hs K then (bif keq K K then (bif hs K then bn K else ck) else bn K) else (bif hs K then ck else ck+1)) else bif keq l K then (bif hs K then bn K else ck) else bn l
def tkC (K:List Int) (hs:List Int->Bool) (ck:Nat):Nat:=bif keq K K || hs K then (bif hs K then ck else ck+1) else (bif hs K then ck else ck+1)+1
def hF:List (List Int)->List Int->Bool
 | []=>fun _=>false
 | K :: L=>tkH K (hF L)
def vF:List (List Int)->List Int->Int
 | []=>fun _=>0
 | K :: L=>tkV K (vF L)
def cF:List (List Int)->Nat
 | []=>0
 | K :: L=>tkC K (hF L) (cF L)
def bF:List (List Int)->List Int->Nat
 | []=>fun _=>0
 | K :: L=>tkB K (hF L) (bF L) (cF L)
def mhL (L:List (List Int)):Heap:=mh37 (hF L) (vF L) (bF L) (cF L)
def kA (f:Nat->Idd):Nat->List (List Int)->List (List Int)
 | 0,L=>L
 | k+1,L=>kyI (f k) :: kA f k L
def kB (l:Nat->Lpp):Nat->List (List Int)→ List (List Int)
 | 0,L=>L
 | i+1,L=>kA (l i).th (l i).nt (kB l i L)
def kC (t:Tbl):Nat->List (List Int)
 | 0=>[]
 | y+1=>kB (t.L y) (t.ln y) (kC t y)
def tgK (t:Tbl) (y i k:Nat):Bool:=!decide (kyI ((t.L y i).th k) ∈ kA (t.L y i).th k (kB (t.L y) i (kC t y)))
def tgI (t:Tbl) (y i:Nat):Bool:=allB (tgK t y i) (t.L y i).nt
def tgY (t:Tbl) (y:Nat):Bool:=allB (tgI t y) (t.ln y)
section
variable (t:Tbl) (y i k:Nat) (hs hs1 hs2:List Int->Bool) (vl vl1 vl2:List Int->Int) (bn bn1 bn2:List Int->Nat) (ck ck1 ck2:Nat) (x:List T->Heap->Ex->List T->Heap->Prop) (b:Bool)
theorem i37i (t:Tbl) (y i k:Nat) (hs:List Int->Bool) (vl:List Int->Int) (bn:List Int->Nat) (ck:Nat):iterR P05 G05 A05 noneO 0 37 [] 9 (v37i t y i k) (mh37 hs vl bn ck) =
(
 bif decide (Int.ofNat k<Int.ofNat (t.L y i).nt) then
 bif decide (0<=Int.ofNat k)&&decide (Int.ofNat k<Int.ofNat (t.L y i).nt) then
 bif decide (IntKind.i64 = IntKind.i64)&&true&&decide (Int.ofNat (bif hs [((t.L y i).th k).y,((t.L y i).th k).n] then bn [((t.L y i).th k).y,((t.L y i).th k).n]
 else ck) = Int.ofNat (bif hs [((t.L y i).th k).y,((t.L y i).th k).n] then bn [((t.L y i).th k).y,((t.L y i).th k).n]
 else ck)) then
 bif decide ((1:Int) <
 bif decide (((t.L y i).th k).y = ((t.L y i).th k).y)&&(decide (((t.L y i).th k).n = ((t.L y i).th k).n)&&true) then IntKind.i64.wrap (vl [((t.L y i).th k).y,((t.L y i).th k).n]+(1:Int))
 else
 bif decide (((t.L y i).th k).y = ((t.L y i).th k).y)&&(decide (((t.L y i).th k).n = ((t.L y i).th k).n)&&true) then vl [((t.L y i).th k).y,((t.L y i).th k).n]
 else vl [((t.L y i).th k).y,((t.L y i).th k).n]) then
 some ((.ret,.int .i64 8 :: v37m t y i,mh37 (fun l=>keq l [((t.L y i).th k).y,((t.L y i).th k).n] || (keq l [((t.L y i).th k).y,((t.L y i).th k).n] || hs l)) (fun l =>
 bif keq l [((t.L y i).th k).y,((t.L y i).th k).n] then IntKind.i64.wrap (vl [((t.L y i).th k).y,((t.L y i).th k).n]+(1:Int))
 else
 bif keq l [((t.L y i).th k).y,((t.L y i).th k).n] then vl [((t.L y i).th k).y,((t.L y i).th k).n]
 else vl l) (fun l =>
 bif keq l [((t.L y i).th k).y,((t.L y i).th k).n] then
 bif decide (((t.L y i).th k).y = ((t.L y i).th k).y)&&(decide (((t.L y i).th k).n = ((t.L y i).th k).n)&&true) || hs [((t.L y i).th k).y,((t.L y i).th k).n] then
 bif decide (((t.L y i).th k).y = ((t.L y i).th k).y)&&(decide (((t.L y i).th k).n = ((t.L y i).th k).n)&&true) then
 bif hs [((t.L y i).th k).y,((t.L y i).th k).n] then bn [((t.L y i).th k).y,((t.L y i).th k).n]
 else ck
 else bn [((t.L y i).th k).y,((t.L y i).th k).n]
 else
 bif hs [((t.L y i).th k).y,((t.L y i).th k).n] then ck
 else ck+1
 else
 bif keq l [((t.L y i).th k).y,((t.L y i).th k).n] then
 bif hs [((t.L y i).th k).y,((t.L y i).th k).n] then bn [((t.L y i).th k).y,((t.L y i).th k).n]
 else ck
 else bn l) (bif decide (((t.L y i).th k).y = ((t.L y i).th k).y)&&(decide (((t.L y i).th k).n = ((t.L y i).th k).n)&&true) || hs [((t.L y i).th k).y,((t.L y i).th k).n] then
 bif hs [((t.L y i).th k).y,((t.L y i).th k).n] then ck
 else ck+1
 else (bif hs [((t.L y i).th k).y,((t.L y i).th k).n] then ck
 else ck+1)+(1:Nat))))
 else
 some ((.normal,[T.mp (0:Nat) (0:Nat),t.v,.int .i64 (.ofNat t.h),.int .i64 (.ofNat y),lpV (t.L y) (t.ln y)
 none,.int .i64 (.ofNat (t.ln y)),.int .i64 (.ofNat i),idV (t.L y i).th (t.L y i).nt
 none,.int .i64 (.ofNat (t.L y i).nt),.int .i64 (IntKind.i64.wrap (Int.ofNat k+1))],mh37 (fun l=>keq l [((t.L y i).th k).y,((t.L y i).th k).n] || (keq l [((t.L y i).th k).y,((t.L y i).th k).n] || hs l)) (fun l =>
 bif keq l [((t.L y i).th k).y,((t.L y i).th k).n] then IntKind.i64.wrap (vl [((t.L y i).th k).y,((t.L y i).th k).n]+(1:Int))
 else
 bif keq l [((t.L y i).th k).y,((t.L y i).th k).n] then vl [((t.L y i).th k).y,((t.L y i).th k).n]
 else vl l) (fun l =>
 bif keq l [((t.L y i).th k).y,((t.L y i).th k).n] then
 bif decide (((t.L y i).th k).y = ((t.L y i).th k).y)&&(decide (((t.L y i).th k).n = ((t.L y i).th k).n)&&true) || hs [((t.L y i).th k).y,((t.L y i).th k).n] then
 bif decide (((t.L y i).th k).y = ((t.L y i).th k).y)&&(decide (((t.L y i).th k).n = ((t.L y i).th k).n)&&true) then
 bif hs [((t.L y i).th k).y,((t.L y i).th k).n] then bn [((t.L y i).th k).y,((t.L y i).th k).n]
 else ck
 else bn [((t.L y i).th k).y,((t.L y i).th k).n]
 else
 bif hs [((t.L y i).th k).y,((t.L y i).th k).n] then ck
 else ck+1
 else
 bif keq l [((t.L y i).th k).y,((t.L y i).th k).n] then
 bif hs [((t.L y i).th k).y,((t.L y i).th k).n] then bn [((t.L y i).th k).y,((t.L y i).th k).n]
 else ck
 else bn l) (bif decide (((t.L y i).th k).y = ((t.L y i).th k).y)&&(decide (((t.L y i).th k).n = ((t.L y i).th k).n)&&true) || hs [((t.L y i).th k).y,((t.L y i).th k).n] then
 bif hs [((t.L y i).th k).y,((t.L y i).th k).n] then ck
 else ck+1
 else (bif hs [((t.L y i).th k).y,((t.L y i).th k).n] then ck
 else ck+1)+(1:Nat))))
 else none else none else
 some ((.exit 4,.undef :: v37m t y i,mh37 hs vl bn ck))):=by kernel_rfl
theorem i37m (t:Tbl) (y i:Nat) (hs hs1 hs2:List Int->Bool) (vl vl1 vl2:List Int->Int) (bn bn1 bn2:List Int->Nat) (ck ck1 ck2:Nat) (x:List T->Heap->Ex->List T->Heap->Prop) (b:Bool):iterR P05 G05 A05 noneO 0 37 (l37m x t y i b (mh37 hs1 vl1 bn1 ck1) (mh37 hs2 vl2 bn2 ck2)) 6 (v37m t y i) (mh37 hs vl bn ck) =
(
 bif decide (Int.ofNat i<Int.ofNat (t.ln y)) then
 bif decide (0<=Int.ofNat i)&&decide (Int.ofNat i<Int.ofNat (t.ln y)) then
 bif b then
 bif decF (x (v37i t y i (nat_lit 0)) (mh37 hs vl bn ck) (.exit 4) (.undef :: v37m t y i) (mh37 hs1 vl1 bn1 ck1)) then
 some ((.normal,[T.mp (0:Nat) (0:Nat),t.v,.int .i64 (.ofNat t.h),.int .i64 (.ofNat y),lpV (t.L y) (t.ln y)
 none,.int .i64 (.ofNat (t.ln y)),.int .i64 (IntKind.i64.wrap (Int.ofNat i+1))],mh37 hs1 vl1 bn1 ck1))
 else none else
 bif decF (x (v37i t y i (nat_lit 0)) (mh37 hs vl bn ck) .ret (.int .i64 8 :: v37m t y i) (mh37 hs2 vl2 bn2 ck2)) then
 some ((.ret,.int .i64 8 :: v37o t y,mh37 hs2 vl2 bn2 ck2))
 else none else none else
 some ((.exit 2,.undef :: v37o t y,mh37 hs vl bn ck))):=by kernel_rfl
theorem i37o (t:Tbl) (y:Nat) (hs hs1 hs2:List Int->Bool) (vl vl1 vl2:List Int->Int) (bn bn1 bn2:List Int->Nat) (ck ck1 ck2:Nat) (x:List T->Heap->Ex->List T->Heap->Prop) (b:Bool):iterR P05 G05 A05 noneO 0 37 (l37o x t y b (mh37 hs1 vl1 bn1 ck1) (mh37 hs2 vl2 bn2 ck2)) 3 (v37o t y) (mh37 hs vl bn ck) =
(
 bif decide (Int.ofNat y<Int.ofNat t.h) then
 bif decide (0<=Int.ofNat y)&&decide (Int.ofNat y<Int.ofNat t.h) then
 bif b then
 bif decF (x (v37m t y (nat_lit 0)) (mh37 hs vl bn ck) (.exit 2) (.undef :: v37o t y) (mh37 hs1 vl1 bn1 ck1)) then
 some ((.normal,[T.mp (0:Nat) (0:Nat),t.v,.int .i64 (.ofNat t.h),.int .i64 (IntKind.i64.wrap (Int.ofNat y+1))],mh37 hs1 vl1 bn1 ck1))
 else none else
 bif decF (x (v37m t y (nat_lit 0)) (mh37 hs vl bn ck) .ret (.int .i64 8 :: v37o t y) (mh37 hs2 vl2 bn2 ck2)) then
 some ((.ret,[.int .i64 8],mh37 hs2 vl2 bn2 ck2))
 else none else none else
 some ((.exit 0,[.undef],mh37 hs vl bn ck))):=by kernel_rfl
theorem k37 (t:Tbl) (hs1 hs2:List Int->Bool) (vl1 vl2:List Int->Int) (bn1 bn2:List Int->Nat) (ck1 ck2:Nat) (x:List T->Heap->Ex->List T->Heap->Prop) (b:Bool):stepL P05 G05 A05 noneO 0 37 (l37 x b (mh37 hs1 vl1 bn1 ck1) (mh37 hs2 vl2 bn2 ck2)) [t.v] =
(
 bif b then
 bif decF (x (v37o t (nat_lit 0)) (mh37 (fun x=>false) (fun x=>(0:Int)) (fun x=>(0:Nat)) (0:Nat)) (.exit 0) [.undef] (mh37 hs1 vl1 bn1 ck1)) then
 some (.int .i64 0)
 else none else
 bif decF (x (v37o t (nat_lit 0)) (mh37 (fun x=>false) (fun x=>(0:Int)) (fun x=>(0:Nat)) (0:Nat)) .ret [.int .i64 8] (mh37 hs2 vl2 bn2 ck2)) then
 some (.int .i64 8)
 else
 none):=by kernel_rfl
end
theorem vF_of:∀ {L:List (List Int)},L.Nodup->∀ K,vF L K = if K ∈ L then 1 else 0
 | [],_,K=>by simp [vF]
 | a :: L,h,K=>by
  rw [List.nodup_cons] at h
  have ih:=vF_of h.2
  show tkV a (vF L) K = _
  unfold tkV
  by_cases q:K = a
  ·subst q
   rw [keq_self,ih K,if_neg h.1,if_pos List.mem_cons_self]
   rfl
  ·rw [keq_ne q,cond_false,cond_false,ih K]
   simp only [List.mem_cons,q,false_or]
theorem kA_nd (f:Nat->Idd) (L:List (List Int)) (hL:L.Nodup):∀ k,(∀ j,j<k->kyI (f j) ∉ kA f j L)->(kA f k L).Nodup
 | 0,_=>hL
 | k+1,h=>List.nodup_cons.2 ⟨h k (by omega),kA_nd f L hL k fun j hj=>h j (by omega)⟩
theorem tgI_nd (t:Tbl) (y i:Nat) (hL:(kB (t.L y) i (kC t y)).Nodup) (h:tgI t y i = true):(kB (t.L y) (i+1) (kC t y)).Nodup:=by
 refine kA_nd _ _ hL _ fun j hj=>?_
 have:=(allB_iff _ _).1 h j hj
 unfold tgK at this
 simpa using this
theorem tgY_nd (t:Tbl) (y:Nat) (hL:(kC t y).Nodup):∀ n,(∀ i,i<n->tgI t y i = true)->(kB (t.L y) n (kC t y)).Nodup
 | 0,_=>hL
 | n+1,h=>tgI_nd t y n (tgY_nd t y hL n fun i hi=>h i (by omega)) (h n (by omega))
theorem tg_nd (t:Tbl):∀ n,(∀ y,y<n->tgY t y = true)->(kC t n).Nodup
 | 0,_=>List.nodup_nil
 | n+1,h=>tgY_nd t n (tg_nd t n fun y hy=>h y (by omega)) _ ((allB_iff _ _).1 (h n (by omega)))
def PostH (vs:List T):Ex->List T->Heap->Prop:=fun e v h=>e = .ret/\v = vs/\∃ hs vl bn ck,h = mh37 hs vl bn ck
theorem scan37i (t:Tbl) (ht:t.Ok) (y i:Nat) (hL:(kB (t.L y) i (kC t y)).Nodup) :
 (tgI t y i = true->LoopOk P05 G05 (A05 37) 37 9 (litS (v37i t y i 0) (mhL (kB (t.L y) i (kC t y))) (.exit 4) (x37i .undef t y i) (mhL (kB (t.L y) (i+1) (kC t y))))) ∧
 (tgI t y i = false->∃ e v h,PostH (x37i (.int .i64 8) t y i) e v h/\LoopOk P05 G05 (A05 37) 37 9 (litS (v37i t y i 0) (mhL (kB (t.L y) i (kC t y))) e v h)):=by
 have hn:=(ht.L y i).nt
 clear ht
 generalize hB:kB (t.L y) i (kC t y) = L at *
 have hnd:∀ k,(∀ j,j<k->tgK t y i j = true)->(kA (t.L y i).th k L).Nodup:=fun k h=>kA_nd _ _ hL k fun j hj=>by
  have:=h j hj
  unfold tgK at this
  rw [hB] at this
  simpa using this
 refine loop_scanE hm05 (by kernel_rfl) (fun k=>v37i t y i k) (fun k=>mhL (kA (t.L y i).th k L)) (tgK t y i) (n:=(t.L y i).nt) _ (fun k hk hj hg=>?_) (fun k hk hj hg=>?_) (fun _=>?_)
 ·have hv:=vF_of (hnd k hj) (kyI ((t.L y i).th k))
  unfold tgK at hg
  rw [hB] at hg
  rw [if_neg (by simpa using hg)] at hv
  clear hg hj hnd hL
  refine Step.mk0 (A:=A05) (m:=0) none_ok rfl rfl loops0 (h1:=mhL (kA (t.L y i).th (k+1) L)) ?_ (.refl _)
  unfold mhL
  try dsimp only
  rw [i37i,up1 (by omega)]
  refine BT (BT (bift (by simp) (biff ?_ rfl)))
  show ¬ decide (1<tkV (kyI ((t.L y i).th k)) (vF (kA (t.L y i).th k L)) (kyI ((t.L y i).th k))) = true
  unfold tkV
  rw [keq_self,cond_true,hv]
  decide
 ·have hv:=vF_of (hnd k hj) (kyI ((t.L y i).th k))
  unfold tgK at hg
  rw [hB] at hg
  rw [if_pos (by simpa using hg)] at hv
  clear hg hj hnd hL
  refine ⟨_,_,mhL (kA (t.L y i).th (k+1) L),⟨rfl,rfl,_,_,_,_,rfl⟩,?_⟩
  refine Last.mk0 (A:=A05) (m:=0) none_ok rfl rfl loops0 (h1:=mhL (kA (t.L y i).th (k+1) L)) (by simp) ?_ (.refl _)
  unfold mhL
  try dsimp only
  rw [i37i]
  refine BT (BT (bift (by simp) (bift ?_ rfl)))
  show decide (1<tkV (kyI ((t.L y i).th k)) (vF (kA (t.L y i).th k L)) (kyI ((t.L y i).th k))) = true
  unfold tkV
  rw [keq_self,cond_true,hv]
  decide
 ·refine Last.mk0 (A:=A05) (m:=0) none_ok rfl rfl loops0 (h1:=mhL (kA (t.L y i).th (t.L y i).nt L)) (by simp) ?_ (by rw [← hB]; exact .refl _)
  unfold mhL
  try dsimp only
  rw [i37i]
  exact BF rfl
theorem scan37m (t:Tbl) (ht:t.Ok) (y:Nat) (hL:(kC t y).Nodup) :
 (tgY t y = true->LoopOk P05 G05 (A05 37) 37 6 (litS (v37m t y 0) (mhL (kC t y)) (.exit 2) (x37m .undef t y) (mhL (kC t (y+1))))) ∧
 (tgY t y = false->∃ e v h,PostH (x37m (.int .i64 8) t y) e v h/\LoopOk P05 G05 (A05 37) 37 6 (litS (v37m t y 0) (mhL (kC t y)) e v h)):=by
 obtain ⟨x,hx⟩:=is_loop P05 G05 (A05 37) 37 9
 have hn:=ht.ln y
 refine loop_scanE hm05 (by kernel_rfl) (fun i=>v37m t y i) (fun i=>mhL (kB (t.L y) i (kC t y))) (tgI t y) (n:=t.ln y) _ (fun i hi hj hg=>?_) (fun i hi hj hg=>?_) (fun _=>?_)
 ·have t1:=(scan37i t ht y i (tgY_nd t y hL i hj)).1 hg
  clear hg hj hL ht
  refine Step.mk0 (A:=A05) (m:=0) (l:=l37m x t y i true (mhL (kB (t.L y) (i+1) (kC t y))) (mh37 (fun _=>false) (fun _=>0) (fun _=>0) 0)) none_ok rfl rfl (loops1 (loopF_ok hx _)) (h1:=mhL (kB (t.L y) (i+1) (kC t y))) ?_ (.refl _)
  unfold mhL at *
  try dsimp only
  rw [i37m,up1 (by omega)]
  exact BT (BT (bift rfl (BS rfl)))
 ·obtain ⟨e,v,h,⟨rfl,rfl,hs,vl,bn,ck,rfl⟩,t1⟩:=(scan37i t ht y i (tgY_nd t y hL i hj)).2 hg
  clear hg hj hL ht
  refine ⟨_,_,_,⟨rfl,rfl,hs,vl,bn,ck,rfl⟩,?_⟩
  refine Last.mk0 (A:=A05) (m:=0) (l:=l37m x t y i false (mh37 (fun _=>false) (fun _=>0) (fun _=>0) 0) (mh37 hs vl bn ck)) none_ok rfl rfl (loops1 (loopF_ok hx _)) (h1:=mh37 hs vl bn ck) (by simp) ?_ (.refl _)
  unfold mhL at *
  try dsimp only
  rw [i37m]
  exact BT (BT (biff (by simp) (BS rfl)))
 ·refine Last.mk0 (A:=A05) (m:=0) (l:=l37m x t y (t.ln y) true (mh37 (fun _=>false) (fun _=>0) (fun _=>0) 0) (mh37 (fun _=>false) (fun _=>0) (fun _=>0) 0)) none_ok rfl rfl (loops1 (loopF_ok hx _)) (h1:=mhL (kC t (y+1))) (by simp) ?_ (.refl _)
  unfold mhL
  try dsimp only
  rw [i37m]
  exact BF rfl
theorem scan37o (t:Tbl) (ht:t.Ok) :
 (allB (tgY t) t.h = true->LoopOk P05 G05 (A05 37) 37 3 (litS (v37o t 0) (mhL []) (.exit 0) [.undef] (mhL (kC t t.h)))) ∧
 (allB (tgY t) t.h = false->∃ e v h,PostH [.int .i64 8] e v h/\LoopOk P05 G05 (A05 37) 37 3 (litS (v37o t 0) (mhL []) e v h)):=by
 obtain ⟨x,hx⟩:=is_loop P05 G05 (A05 37) 37 6
 have hn:=ht.h
 refine loop_scanE hm05 (by kernel_rfl) (fun y=>v37o t y) (fun y=>mhL (kC t y)) (tgY t) (n:=t.h) _ (fun y hy hj hg=>?_) (fun y hy hj hg=>?_) (fun _=>?_)
 ·have t1:=(scan37m t ht y (tg_nd t y hj)).1 hg
  clear hg hj ht
  refine Step.mk0 (A:=A05) (m:=0) (l:=l37o x t y true (mhL (kC t (y+1))) (mh37 (fun _=>false) (fun _=>0) (fun _=>0) 0)) none_ok rfl rfl (loops1 (loopF_ok hx _)) (h1:=mhL (kC t (y+1))) ?_ (.refl _)
  unfold mhL at *
  try dsimp only
  rw [i37o,up1 (by omega)]
  exact BT (BT (bift rfl (BS rfl)))
 ·obtain ⟨e,v,h,⟨rfl,rfl,hs,vl,bn,ck,rfl⟩,t1⟩:=(scan37m t ht y (tg_nd t y hj)).2 hg
  clear hg hj ht
  refine ⟨_,_,_,⟨rfl,rfl,hs,vl,bn,ck,rfl⟩,?_⟩
  refine Last.mk0 (A:=A05) (m:=0) (l:=l37o x t y false (mh37 (fun _=>false) (fun _=>0) (fun _=>0) 0) (mh37 hs vl bn ck)) none_ok rfl rfl (loops1 (loopF_ok hx _)) (h1:=mh37 hs vl bn ck) (by simp) ?_ (.refl _)
  unfold mhL at *
  try dsimp only
  rw [i37o]
  exact BT (BT (biff (by simp) (BS rfl)))
 ·refine Last.mk0 (A:=A05) (m:=0) (l:=l37o x t t.h true (mh37 (fun _=>false) (fun _=>0) (fun _=>0) 0) (mh37 (fun _=>false) (fun _=>0) (fun _=>0) 0)) none_ok rfl rfl (loops1 (loopF_ok hx _)) (h1:=mhL (kC t t.h)) (by simp) ?_ (.refl _)
  unfold mhL
  try dsimp only
  rw [i37o]
  exact BF rfl
theorem checkThroughT (t:Tbl) (ht:t.Ok):ToldOk P05 G05 37 [t.v] (.int .i64 (bif allB (tgY t) t.h then 0 else 8)):=by
 obtain ⟨x,hx⟩:=is_loop P05 G05 (A05 37) 37 3
 have h:=scan37o t ht
 generalize allB (tgY t) t.h = b at h ⊢
 cases b
 ·obtain ⟨e,v,hh,⟨rfl,rfl,hs,vl,bn,ck,rfl⟩,t1⟩:=h.2 rfl
  clear h ht
  refine stepL_told hm05 hn05 (K:=noneO) none_ok (A:=A05) (m:=0) (l:=l37 x false (mh37 (fun _=>false) (fun _=>0) (fun _=>0) 0) (mh37 hs vl bn ck)) (by kernel_rfl) (loops1 (loopF_ok hx _)) ?_
  rw [k37]
  unfold mhL at t1
  exact biff (by simp) (BS rfl)
 ·have t1:=h.1 rfl
  clear h ht
  refine stepL_told hm05 hn05 (K:=noneO) none_ok (A:=A05) (m:=0) (l:=l37 x true (mhL (kC t t.h)) (mh37 (fun _=>false) (fun _=>0) (fun _=>0) 0)) (by kernel_rfl) (loops1 (loopF_ok hx _)) ?_
  unfold mhL at *
  rw [k37]
  exact bift rfl (BS rfl)
open Go.Proofs
def bkR (g:Nat->Idd) (n:Nat):Blk:=⟨0,2,n,fun e=>(g e).c,true,false,none⟩
def bkN (m:Nat->Int) (h:Nat):Blk:=⟨0,1,h,fun e=>[.int .i64 (m e)],true,false,none⟩
def h38 (g:Nat->Idd) (n:Nat) (m s:Nat->Int) (h:Nat):Heap:=[bkR g n,bkN m h,bkN s h]
def v38i (t:Tbl) (n R bf y:Nat) (l:Lpp):List T:=[t.v,.int .i64 n,.own 0 0 0 R (some n),.own 1 0 0 t.h (some t.h),.own 2 0 0 t.h (some t.h),.int .i64 bf,.int .i64 y,.reg l.c,t.v,.int .i64 t.h,.int .i64 y]
def x38i (t:Tbl) (n R bf y:Nat):List T:=[t.v,.int .i64 n,.own 0 0 0 R (some n),.own 1 0 0 t.h (some t.h),.own 2 0 0 t.h (some t.h),.int .i64 bf,.int .i64 y,t.v,.int .i64 t.h,.int .i64 y]
def v38m (t:Tbl) (n R bf y:Nat):List T:=[t.v,.int .i64 n,.own 0 0 0 R (some n),.own 1 0 0 t.h (some t.h),.own 2 0 0 t.h (some t.h),.int .i64 bf,t.v,.int .i64 t.h,.int .i64 y]
def v38o (t:Tbl) (n R:Nat):List T:=[t.v,.int .i64 n,.own 0 0 0 R (some n),.own 1 0 0 t.h (some t.h),.own 2 0 0 t.h (some t.h)]
noncomputable def K38 (p:List T->T->Prop) (n:Nat):Orc:=noneO.add 11 (callF p fun _=>some (.int .i64 n))
noncomputable def K38i (p:List T->T->Prop) (a:Idd):Orc:=noneO.add 46 (callF p fun _=>some (.agg a.c))
noncomputable def l38m (x:List T->Heap->Ex->List T->Heap->Prop) (t:Tbl) (n R bf y:Nat) (b:Bool) (h1 h2:Heap):List (Nat × (List T->Heap->LT)) :=
 [(12,loopF x (.ite b (.ret (.exit 4) (x38i t n R bf y) h1) (.ret (.exit 3) (x38i t n R bf y) h2)))]
def x38m (t:Tbl) (n R bf:Nat):List T:=[t.v,.int .i64 n,.own 0 0 0 R (some n),.own 1 0 0 t.h (some t.h),.own 2 0 0 t.h (some t.h),.int .i64 bf]
def thr (m:Nat->Int) (a:Idd):Bool:=decide (a.n<m (a.y - 1).toNat)
def upd (s:Nat->Int) (y:Nat) (v:Int):Nat->Int:=fun e=>bif e==y then v else s e
theorem upd_self (s:Nat->Int) (y:Nat):upd s y (s y) = s:=by
 funext e
 show (bif e==y then s y else s e) = s e
 by_cases h:e = y
 ·rw [h]; cases (y==y) <;> rfl
 ·rw [beq_eq_false_iff_ne.2 h]; rfl
theorem upd_at (s:Nat->Int) (y:Nat) (v:Int):upd s y v y = v:=by simp [upd]
theorem upd_upd (s:Nat->Int) (y:Nat) (v w:Int):upd (upd s y v) y w = upd s y w:=by
 funext e
 unfold upd
 cases (e==y) <;> rfl
theorem i38i (t:Tbl) (n R bf y:Nat) (l:Lpp) (g:Nat->Idd) (m s:Nat->Int) (p:List T->T->Prop) (a:Idd):iterR P05 G05 A05 (K38i p a) 0 38 [] 12 (v38i t n R bf y l) (h38 g n m s t.h) =
(
 bif decide (0<=Int.ofNat y)&&decide (Int.ofNat y<Int.ofNat t.h) then
 bif ((0:Nat)+y).blt t.h then
 bif decide (s (0+y)<IntKind.i64.wrap (Int.ofNat l.nt+Int.ofNat l.np)) then
 bif decide (0<=Int.ofNat y)&&decide (Int.ofNat y<Int.ofNat t.h) then
 bif ((0:Nat)+y).blt t.h then
 bif decF (p [.agg l.c,.int .i64 (s (0+y))] (.agg a.c)) then
 bif decide (0<=IntKind.u8.wrap (a.y - 1))&&decide (IntKind.u8.wrap (a.y - 1)<Int.ofNat t.h) then
 bif ((0:Nat)+(IntKind.u8.wrap (a.y - (1:Int))).toNat).blt t.h then
 bif decide (m ((0:Nat)+(IntKind.u8.wrap (a.y - (1:Int))).toNat)<=a.n) then
 some ((.exit 3,x38i t n R bf y,h38 g n m s t.h))
 else
 bif decide (0<=Int.ofNat y)&&decide (Int.ofNat y<Int.ofNat t.h) then
 bif ((0:Nat)+y).blt t.h then
 bif decide (0<=Int.ofNat y)&&decide (Int.ofNat y<Int.ofNat t.h) then
 bif ((0:Nat)+y).blt t.h&&[T.int .i64 (IntKind.i64.wrap (s ((0:Nat)+y)+(1:Int)))].length==(1:Nat)&&true&&true then
 some ((.normal,v38i t n R bf y l,h38 g n m (fun e =>
 bif e==0+y then IntKind.i64.wrap (s (0+y)+(1:Int))
 else s e) t.h))
 else none else none else none else none else none else none else none else none else none else
 some ((.exit 4,x38i t n R bf y,h38 g n m s t.h))
 else none else
 none):=by kernel_rfl
theorem i38m (t:Tbl) (n R bf y:Nat) (g:Nat->Idd) (m s s1 s2:Nat->Int) (x:List T->Heap->Ex->List T->Heap->Prop) (b:Bool):iterR P05 G05 A05 noneO 0 38 (l38m x t n R bf y b (h38 g n m s1 t.h) (h38 g n m s2 t.h)) 8 (v38m t n R bf y) (h38 g n m s t.h) =
(
 bif decide (Int.ofNat y<Int.ofNat t.h) then
 bif decide (0<=Int.ofNat y)&&decide (Int.ofNat y<Int.ofNat t.h) then
 bif decide (0<=Int.ofNat y)&&decide (Int.ofNat y<Int.ofNat t.h) then
 bif ((0:Nat)+y).blt t.h then
 bif decide (m (0+y) = Int.ofNat (t.ln y)) then
 some ((.normal,[t.v,.int .i64 (.ofNat n),.own 0 0 0 R (some n),.own 1 0 0 t.h (some t.h),.own 2 0 0 t.h (some t.h),.int .i64 (.ofNat bf),t.v,.int .i64 (.ofNat t.h),.int .i64 (IntKind.i64.wrap (Int.ofNat y+1))],h38 g n m s t.h))
 else
 bif decide (0<=Int.ofNat y)&&decide (Int.ofNat y<Int.ofNat t.h) then
 bif ((0:Nat)+y).blt t.h then
 bif decide (0<=m (0+y))&&decide (m (0+y)<Int.ofNat (t.ln y)) then
 bif b then
 bif decF (x (v38i t n R bf y (t.L y (m ((0:Nat)+y)).toNat)) (h38 g n m s t.h) (.exit 4) (x38i t n R bf y) (h38 g n m s1 t.h)) then
 bif decide (0<=Int.ofNat y)&&decide (Int.ofNat y<Int.ofNat t.h) then
 bif ((0:Nat)+y).blt t.h then
 bif ((0:Nat)+R).ble n then
 bif ((R+(1:Nat)) * (17:Nat)).ble 70368744177664 then
 bif (R+(1:Nat)).ble n then
 bif ((0:Nat)+R+(1:Nat)).ble n then
 bif decide (0<=Int.ofNat y)&&decide (Int.ofNat y<Int.ofNat t.h) then
 bif ((0:Nat)+y).blt t.h then
 bif decide (0<=Int.ofNat y)&&decide (Int.ofNat y<Int.ofNat t.h) then
 bif ((0:Nat)+y).blt t.h&&[T.int .i64 (IntKind.i64.wrap (m ((0:Nat)+y)+(1:Int)))].length==(1:Nat)&&true&&true then
 bif decide (0<=Int.ofNat y)&&decide (Int.ofNat y<Int.ofNat t.h) then
 bif ((0:Nat)+y).blt t.h&&true&&true&&true then
 some ((.exit 2,x38m t n (R+1) bf,[.mk 0 2 n (fun j =>
 bif ((0:Nat)+R).ble j&&j.blt ((0:Nat)+R+1) then [[T.int .u8 (IntKind.u8.wrap (IntKind.i64.wrap (Int.ofNat y+(1:Int)))),T.int .i64 (m ((0:Nat)+y))]].getD ((0:Nat)+(j - ((0:Nat)+R))) []
 else (g j).c) true false
 none,bkN (fun e =>
 bif e==0+y then IntKind.i64.wrap (m (0+y)+(1:Int))
 else m e) t.h,bkN (fun e =>
 bif e==0+y then (0:Int)
 else s1 e) t.h,.mk 0 2 1 (fun j=>[[T.int .u8 (IntKind.u8.wrap (IntKind.i64.wrap (Int.ofNat y+(1:Int)))),T.int .i64 (m ((0:Nat)+y))]].getD j []) true true
 none]))
 else none else none else none else none else none else none else none else
 bif decide (0<=Int.ofNat y)&&decide (Int.ofNat y<Int.ofNat t.h) then
 bif ((0:Nat)+y).blt t.h then
 bif decide (0<=Int.ofNat y)&&decide (Int.ofNat y<Int.ofNat t.h) then
 bif ((0:Nat)+y).blt t.h&&[T.int .i64 (IntKind.i64.wrap (m ((0:Nat)+y)+(1:Int)))].length==(1:Nat)&&true&&true then
 bif decide (0<=Int.ofNat y)&&decide (Int.ofNat y<Int.ofNat t.h) then
 bif ((0:Nat)+y).blt t.h&&true&&true&&true then
 some ((.exit 2,[t.v,.int .i64 (.ofNat n),.own [bkR g n,bkN m t.h,bkN s1 t.h,Blk.mk 0 2 1 (fun j=>[[T.int .u8 (IntKind.u8.wrap (IntKind.i64.wrap (Int.ofNat y+(1:Int)))),T.int .i64 (m ((0:Nat)+y))]].getD j []) true true
 none].length (0:Nat) (0:Nat) (R+1)
 none,.own 1 0 0 t.h (some t.h),.own 2 0 0 t.h (some t.h),.int .i64 (.ofNat bf)],[bkR g n,bkN (fun e =>
 bif e==0+y then IntKind.i64.wrap (m (0+y)+(1:Int))
 else m e) t.h,bkN (fun e =>
 bif e==0+y then (0:Int)
 else s1 e) t.h,.mk 0 2 1 (fun j=>[[T.int .u8 (IntKind.u8.wrap (IntKind.i64.wrap (Int.ofNat y+(1:Int)))),T.int .i64 (m ((0:Nat)+y))]].getD j []) true true
 none,.mk 0 2 (R+1) (fun j =>
 bif j.blt R then (g ((0:Nat)+j)).c
 else [[T.int .u8 (IntKind.u8.wrap (IntKind.i64.wrap (Int.ofNat y+(1:Int)))),T.int .i64 (m ((0:Nat)+y))]].getD ((0:Nat)+(j - R)) []) true false
 none]))
 else none else none else none else none else none else none else none else none else none else none else none else
 bif decF (x (v38i t n R bf y (t.L y (m ((0:Nat)+y)).toNat)) (h38 g n m s t.h) (.exit 3) (x38i t n R bf y) (h38 g n m s2 t.h)) then
 some ((.normal,[t.v,.int .i64 (.ofNat n),.own 0 0 0 R (some n),.own 1 0 0 t.h (some t.h),.own 2 0 0 t.h (some t.h),.int .i64 (.ofNat bf),t.v,.int .i64 (.ofNat t.h),.int .i64 (IntKind.i64.wrap (Int.ofNat y+1))],h38 g n m s2 t.h))
 else none else none else none else none else none else none else none else
 some ((.exit 2,x38m t n R bf,h38 g n m s t.h))):=by kernel_rfl
theorem rnd38 (t:Tbl) (ht:t.Ok) (n R bf y:Nat) (l:Lpp) (hl:l.Ok) (g:Nat->Idd) (m s:Nat->Int) (hy:y<t.h) (k:Nat) (hs:s y = (k:Int)) (hk:k<l.nt+l.np) (hh:t.has (needI l k) = true) (hok:(needI l k).Ok) {ex:Bool} (hg:thr m (needI l k) = ex) :
 (bif ex then Step P05 G05 (A05 38) 38 12 3 (v38i t n R bf y l) (h38 g n m s t.h) (v38i t n R bf y l) (h38 g n m (upd s y ((k:Int)+1)) t.h)
  else Last P05 G05 (A05 38) 38 12 3 (v38i t n R bf y l) (h38 g n m s t.h) (.exit 3) (x38i t n R bf y) (h38 g n m s t.h)) = True:=by
 obtain ⟨p,hp⟩:=is_val P05 G05 46
 have t1:=needT l hl k hk
 have hth:=ht.h
 have hn1:=hl.nt
 have hn2:=hl.np
 have hyy:=hok.y
 clear ht hl hok
 unfold Tbl.has at hh
 unfold thr at hg
 simp only [Bool.and_eq_true,decide_eq_true_eq] at hh
 obtain ⟨⟨⟨q1,q2⟩,q3⟩,q4⟩:=hh
 generalize needI l k = a at *
 have hw:IntKind.u8.wrap (a.y - 1) = a.y - 1:=wr8 (by omega) (by omega)
 cases ex
 ·refine eq_true ?_
  refine Last.mk0 (A:=A05) (m:=0) (K:=K38i p a) (told_add none_ok (callF_told hp)) rfl rfl loops0 (h1:=h38 g n m s t.h) (by simp) ?_ (.refl _)
  rw [i38i]
  have hg:=of_decide_eq_false hg
  simp only [Nat.zero_add,hs,hw]
  (repeat (first | refine BS ?_ | refine BF ?_))
  rfl
 ·refine eq_true ?_
  refine Step.mk0 (A:=A05) (m:=0) (K:=K38i p a) (told_add none_ok (callF_told hp)) rfl rfl loops0 (h1:=h38 g n m (upd s y ((k:Int)+1)) t.h) ?_ (.refl _)
  rw [i38i]
  have hg:=of_decide_eq_true hg
  have hu:IntKind.i64.wrap ((k:Int)+1) = (k:Int)+1:=wr64 (by omega) (by omega)
  simp only [Nat.zero_add,hs,hw,hu]
  (repeat (first | refine BS ?_ | refine BF ?_))
  rfl
def Post12 (t:Tbl) (n R bf y:Nat) (l:Lpp) (g:Nat->Idd) (m s:Nat->Int) (c:Nat):Ex->List T->Heap->Prop:=fun e v h=>e = .exit 3/\v = x38i t n R bf y ∧
 ∃ j:Nat,c<=j/\j<l.nt+l.np/\thr m (needI l j) = false/\(∀ i,c<=i->i<j->thr m (needI l i) = true)/\h = h38 g n m (upd s y j) t.h
theorem scan12 (t:Tbl) (ht:t.Ok) (n R bf y:Nat) (l:Lpp) (hl:l.Ok) (g:Nat->Idd) (m s:Nat->Int) (hy:y<t.h) (c:Nat) (hc:c<=l.nt+l.np) (hh:∀ i,i<l.nt+l.np->t.has (needI l i) = true) (hok:∀ i,(needI l i).Ok) :
 (allB (fun k=>thr m (needI l (c+k))) (l.nt+l.np - c) = true->LoopOk P05 G05 (A05 38) 38 12 (litS (v38i t n R bf y l) (h38 g n m (upd s y ((c+0:Nat):Int)) t.h) (.exit 4) (x38i t n R bf y) (h38 g n m (upd s y ((l.nt+l.np:Nat):Int)) t.h))) ∧
 (allB (fun k=>thr m (needI l (c+k))) (l.nt+l.np - c) = false->∃ e v h,Post12 t n R bf y l g m s c e v h/\LoopOk P05 G05 (A05 38) 38 12 (litS (v38i t n R bf y l) (h38 g n m (upd s y ((c+0:Nat):Int)) t.h) e v h)):=by
 refine loop_scanE hm05 (by kernel_rfl) (fun k=>v38i t n R bf y l) (fun k=>h38 g n m (upd s y ((c+k:Nat):Int)) t.h) _ (n:=l.nt+l.np - c) _ (fun k hk hj hg=>?_) (fun k hk hj hg=>?_) (fun _=>?_)
 ·have r:=of_eq_true (rnd38 t ht n R bf y l hl g m (upd s y ((c+k:Nat):Int)) hy (c+k) (upd_at _ _ _) (by omega) (hh _ (by omega)) (hok _) hg)
  rw [upd_upd] at r
  exact r
 ·have r:=of_eq_true (rnd38 t ht n R bf y l hl g m (upd s y ((c+k:Nat):Int)) hy (c+k) (upd_at _ _ _) (by omega) (hh _ (by omega)) (hok _) hg)
  refine ⟨_,_,_,⟨rfl,rfl,c+k,by omega,by omega,hg,fun i h1 h2=>?_,rfl⟩,r⟩
  have:=hj (i - c) (by omega)
  rw [show c+(i - c) = i by omega] at this
  exact this
 ·rw [show c+(l.nt+l.np - c) = l.nt+l.np by omega]
  have hs:upd s y ((l.nt+l.np:Nat):Int) y = ((l.nt+l.np:Nat):Int):=upd_at _ _ _
  generalize upd s y ((l.nt+l.np:Nat):Int) = s at *
  have hth:=ht.h
  have hn1:=hl.nt
  have hn2:=hl.np
  clear ht hl hh hok
  obtain ⟨p,hp⟩:=is_val P05 G05 46
  refine Last.mk0 (A:=A05) (m:=0) (K:=K38i p ⟨0,0⟩) (told_add none_ok (callF_told hp)) rfl rfl loops0 (h1:=h38 g n m s t.h) (by simp) ?_ (.refl _)
  rw [i38i]
  simp only [Nat.zero_add,hs]
  (repeat (first | refine BS ?_ | refine BF ?_))
  rfl
open Go.Proofs
def appI (g:Nat->Idd) (R:Nat) (a:Idd):Nat->Idd:=fun e=>bif e==R then a else g e
theorem app_same (g:Nat->Idd) (R:Nat) (a:Idd) (j:Nat):(appI g R a j).c = (bif Nat.ble R j&&Nat.blt j (R+1) then ([a.c]:List (List T)).getD (j - R) [] else (g j).c):=by
 unfold appI
 by_cases h:j = R
 ·subst h
  rw [bleT (Nat.le_refl _),bltT (by omega),Nat.sub_self,show (j==j) = true by simp]
  rfl
 ·rw [show (j==R) = false by simpa using h]
  by_cases q:R<=j
  ·rw [bleT q,bltF (by omega)]; rfl
  ·rw [bleF (by omega)]; rfl
theorem r8end (t:Tbl) (n R bf:Nat) (g:Nat->Idd) (m s:Nat->Int):Last P05 G05 (A05 38) 38 8 3 (v38m t n R bf t.h) (h38 g n m s t.h) (.exit 2) (x38m t n R bf) (h38 g n m s t.h):=by
 obtain ⟨x,hx⟩:=is_loop P05 G05 (A05 38) 38 12
 refine Last.mk0 (A:=A05) (m:=0) (l:=l38m x t n R bf t.h true (h38 g n m s t.h) (h38 g n m s t.h)) none_ok rfl rfl (loops1 (loopF_ok hx _)) (h1:=h38 g n m s t.h) (by simp) ?_ (.refl _)
 rw [i38m]
 exact BF rfl
theorem r8skip (t:Tbl) (ht:t.Ok) (n R bf y:Nat) (g:Nat->Idd) (m s:Nat->Int) (hy:y<t.h) (hm:m y = (t.ln y:Int)):Step P05 G05 (A05 38) 38 8 3 (v38m t n R bf y) (h38 g n m s t.h) (v38m t n R bf (y+1)) (h38 g n m s t.h):=by
 obtain ⟨x,hx⟩:=is_loop P05 G05 (A05 38) 38 12
 have hth:=ht.h
 clear ht
 refine Step.mk0 (A:=A05) (m:=0) (l:=l38m x t n R bf y true (h38 g n m s t.h) (h38 g n m s t.h)) none_ok rfl rfl (loops1 (loopF_ok hx _)) (h1:=h38 g n m s t.h) ?_ (.refl _)
 rw [i38m,up1 (by omega)]
 simp only [Nat.zero_add,hm]
 (repeat (first | refine BS ?_ | refine BF ?_))
 rfl
theorem r8miss (t:Tbl) (ht:t.Ok) (n R bf y:Nat) (g:Nat->Idd) (m s s2:Nat->Int) (hy:y<t.h) (k:Nat) (hm:m y = (k:Int)) (hk:k<t.ln y)
 (hl:LoopOk P05 G05 (A05 38) 38 12 (litS (v38i t n R bf y (t.L y k)) (h38 g n m s t.h) (.exit 3) (x38i t n R bf y) (h38 g n m s2 t.h))):Step P05 G05 (A05 38) 38 8 3 (v38m t n R bf y) (h38 g n m s t.h) (v38m t n R bf (y+1)) (h38 g n m s2 t.h):=by
 obtain ⟨x,hx⟩:=is_loop P05 G05 (A05 38) 38 12
 have hth:=ht.h
 have hln:=ht.ln y
 clear ht
 refine Step.mk0 (A:=A05) (m:=0) (l:=l38m x t n R bf y false (h38 g n m s t.h) (h38 g n m s2 t.h)) none_ok rfl rfl (loops1 (loopF_ok hx _)) (h1:=h38 g n m s2 t.h) ?_ (.refl _)
 rw [i38m,up1 (by omega)]
 simp only [Nat.zero_add,hm,Int.toNat_natCast]
 (repeat (first | refine BS ?_ | refine BF ?_))
 rfl
theorem r8take (t:Tbl) (ht:t.Ok) (n R bf y:Nat) (g:Nat->Idd) (m s s1:Nat->Int) (hy:y<t.h) (h255:t.h<=255) (k:Nat) (hm:m y = (k:Int)) (hk:k<t.ln y) (hR:R<n) (hn:n<=10000000)
 (hl:LoopOk P05 G05 (A05 38) 38 12 (litS (v38i t n R bf y (t.L y k)) (h38 g n m s t.h) (.exit 4) (x38i t n R bf y) (h38 g n m s1 t.h))):Last P05 G05 (A05 38) 38 8 3 (v38m t n R bf y) (h38 g n m s t.h) (.exit 2) (x38m t n (R+1) bf) (h38 (appI g R ⟨(y:Int)+1,k⟩) n (upd m y ((k:Int)+1)) (upd s1 y 0) t.h):=by
 obtain ⟨x,hx⟩:=is_loop P05 G05 (A05 38) 38 12
 have hth:=ht.h
 have hln:=ht.ln y
 clear ht
 have h8:IntKind.u8.wrap (Int.ofNat (y+1)) = ((y:Int)+1):=by rw [wr8 (by show (0:Int)<=((y+1:Nat):Int); omega) (by show ((y+1:Nat):Int)<=255; omega)]; show ((y+1:Nat):Int) = _; omega
 have h64:IntKind.i64.wrap ((k:Int)+1) = (k:Int)+1:=wr64 (by omega) (by omega)
 refine Last.mk (A:=A05) (m:=0) (l:=l38m x t n R bf y true (h38 g n m s1 t.h) (h38 g n m s t.h)) none_ok rfl rfl (loops1 (loopF_ok hx _)) (vs':=x38m t n (R+1) bf) (by simp) 3 (Nat.le_refl _) (h1:=[⟨0,2,n,fun j=>bif Nat.ble R j&&Nat.blt j (R+1) then ([[.int .u8 ((y:Int)+1),.int .i64 k]]:List (List T)).getD (j - R) [] else (g j).c,true,false,none⟩,bkN (upd m y ((k:Int)+1)) t.h,bkN (upd s1 y 0) t.h,⟨0,2,1,fun j=>[[.int .u8 ((y:Int)+1),.int .i64 k]].getD j [],true,true,none⟩]) ?_ (by rfl) (.cons ⟨rfl,rfl,rfl,id,fun j _=>app_same g R ⟨(y:Int)+1,k⟩ j⟩ (.refl _))
 rw [i38m,up1 (by omega)]
 simp only [Nat.zero_add,hm,Int.toNat_natCast,h8,h64]
 (repeat (first | refine BS ?_ | refine BF ?_))
 rfl
open Go.Proofs
def cM (M:Nat->Nat):Nat->Int:=fun e=>(M e:Int)
def nN (t:Tbl) (M:Nat->Nat) (y:Nat):Nat:=(t.L y (M y)).nt+(t.L y (M y)).np
def rdy (t:Tbl) (M:Nat->Nat) (y:Nat):Bool:=decide (M y<t.ln y)&&allB (fun i=>thr (cM M) (needI (t.L y (M y)) i)) (nN t M y)
def inc (M:Nat->Nat) (y:Nat):Nat->Nat:=fun e=>bif e==y then M e+1 else M e
theorem inc_at (M:Nat->Nat) (y:Nat):inc M y y = M y+1:=by unfold inc; simp
theorem inc_ne (M:Nat->Nat) {y e:Nat} (h:e ≠ y):inc M y e = M e:=by unfold inc; rw [show (e==y) = false by simpa using h]; rfl
theorem cM_inc (M:Nat->Nat) (y:Nat):upd (cM M) y ((M y:Int)+1) = cM (inc M y):=by
 funext e
 by_cases h:e = y
 ·rw [h,upd_at]; unfold cM; rw [inc_at]; omega
 ·unfold cM; rw [inc_ne M h]; unfold upd; rw [show (e==y) = false by simpa using h]; rfl
theorem thr_inc {M:Nat->Nat} {y:Nat} {a:Idd} (h:thr (cM M) a = true):thr (cM (inc M y)) a = true:=by
 unfold thr cM at *
 rw [decide_eq_true_eq] at *
 by_cases q:(a.y - 1).toNat = y
 ·rw [q] at h ⊢; rw [inc_at]; omega
 ·rw [inc_ne M q]; exact h
def SOk (t:Tbl) (M:Nat->Nat) (s:Nat->Int):Prop:=∀ y,y<t.h->∃ c:Nat,s y = (c:Int)/\c<=nN t M y/\∀ i,i<c->thr (cM M) (needI (t.L y (M y)) i) = true
def TR (t:Tbl):Prop:=∀ y i,y<t.h->i<t.ln y->∀ k,k<(t.L y i).nt+(t.L y i).np->t.has (needI (t.L y i) k) = true
def MOk (t:Tbl) (M:Nat->Nat):Prop:=∀ y,y<t.h->M y<=t.ln y
theorem needOk {l:Lpp} (hl:l.Ok) (i:Nat):(needI l i).Ok:=by
 unfold needI
 by_cases h:i<l.nt
 ·rw [if_pos h]; exact hl.th i
 ·rw [if_neg h]; exact (hl.ps _).i
theorem SOk.upd {t:Tbl} {M:Nat->Nat} {s:Nat->Int} (h:SOk t M s) {y c:Nat} (hc:c<=nN t M y) (hg:∀ i,i<c->thr (cM M) (needI (t.L y (M y)) i) = true):SOk t M (Go.Ab.upd s y c):=by
 intro z hz
 by_cases q:z = y
 ·subst q; exact ⟨c,upd_at _ _ _,hc,hg⟩
 ·obtain ⟨d,q1,q2,q3⟩:=h z hz
  refine ⟨d,?_,q2,q3⟩
  rw [← q1]; unfold Go.Ab.upd; rw [show (z==y) = false by simpa using q]; rfl
theorem SOk.take {t:Tbl} {M:Nat->Nat} {s:Nat->Int} (h:SOk t M s) (y:Nat):SOk t (inc M y) (Go.Ab.upd s y 0):=by
 intro z hz
 by_cases q:z = y
 ·subst q; exact ⟨0,upd_at _ _ _,Nat.zero_le _,fun i hi=>by omega⟩
 ·obtain ⟨d,q1,q2,q3⟩:=h z hz
  refine ⟨d,?_,?_,?_⟩
  ·rw [← q1]; unfold Go.Ab.upd; rw [show (z==y) = false by simpa using q]; rfl
  ·unfold nN at *; rw [inc_ne M q]; exact q2
  ·rw [inc_ne M q]; exact fun i hi=>thr_inc (q3 i hi)
def Post8 (t:Tbl) (n R bf:Nat) (g:Nat->Idd) (M:Nat->Nat):Ex->List T->Heap->Prop:=fun e v h=>e = .exit 2 ∧
 ((∃ s,(∀ y,y<t.h->rdy t M y = false)/\v = x38m t n R bf/\h = h38 g n (cM M) s t.h/\SOk t M s) ∨
  (∃ y s,y<t.h/\rdy t M y = true/\(∀ z,z<y->rdy t M z = false)/\v = x38m t n (R+1) bf/\h = h38 (appI g R ⟨(y:Int)+1,M y⟩) n (cM (inc M y)) s t.h/\SOk t (inc M y) s))
theorem loopY (t:Tbl) (ht:t.Ok) (tr:TR t) (h255:t.h<=255) (n R bf:Nat) (hR:R<n) (hn:n<=10000000) (g:Nat->Idd) (M:Nat->Nat) (hM:MOk t M) (s:Nat->Int) (hs:SOk t M s) :
 ∃ e v h,Post8 t n R bf g M e v h/\LoopOk P05 G05 (A05 38) 38 8 (litS (v38m t n R bf 0) (h38 g n (cM M) s t.h) e v h):=by
 refine loop_exists (P:=P05) (Gl:=G05) (f:=38) (r:=8) (an:=A05 38) (k:=3) hm05 (by kernel_rfl)
  (fun r vs h=>∃ y s,r = t.h - y/\y<=t.h/\vs = v38m t n R bf y/\h = h38 g n (cM M) s t.h/\SOk t M s/\∀ z,z<y->rdy t M z = false) _ ?_ (n:=t.h) rfl ⟨0,s,rfl,Nat.zero_le _,rfl,rfl,hs,fun z hz=>by omega⟩
 rintro r vs h ⟨y,s,rfl,hy,rfl,rfl,hs,hz⟩
 by_cases he:y = t.h
 ·right
  subst he
  exact ⟨_,_,_,r8end t n R bf g (cM M) s,rfl,.inl ⟨s,hz,rfl,rfl,hs⟩⟩
 ·have hy:y<t.h:=by omega
  by_cases hl:M y = t.ln y
  ·left
   refine ⟨t.h - (y+1),_,_,by omega,r8skip t ht n R bf y g (cM M) s hy (by unfold cM; rw [hl]),y+1,s,rfl,by omega,rfl,rfl,hs,fun z hz1=>?_⟩
   by_cases q:z = y
   ·subst q; unfold rdy; rw [show decide (M z<t.ln z) = false by rw [decide_eq_false_iff_not]; omega]; rfl
   ·exact hz z (by omega)
  ·have hlt:M y<t.ln y:=by have:=hM y hy; omega
   obtain ⟨c,q1,q2,q3⟩:=hs y hy
   have sc:=scan12 t ht n R bf y (t.L y (M y)) (ht.L _ _) g (cM M) s hy c q2 (tr y (M y) hy hlt) fun i=>needOk (ht.L _ _) i
   have es:upd s y ((c+0:Nat):Int) = s:=by rw [Nat.add_zero,← q1,upd_self]
   rw [es] at sc
   cases hb:allB (fun k=>thr (cM M) (needI (t.L y (M y)) (c+k))) ((t.L y (M y)).nt+(t.L y (M y)).np - c)
   ·left
    obtain ⟨e,v,h,⟨rfl,rfl,j,p1,p2,p3,p4,rfl⟩,t1⟩:=sc.2 hb
    refine ⟨t.h - (y+1),_,_,by omega,r8miss t ht n R bf y g (cM M) s (upd s y j) hy (M y) rfl hlt t1,y+1,_,rfl,by omega,rfl,rfl,hs.upd (by unfold nN; omega) fun i hi=>?_,fun z hz1=>?_⟩
    ·by_cases q:i<c
     ·exact q3 i q
     ·exact p4 i (by omega) hi
    ·by_cases q:z = y
     ·subst q
      unfold rdy
      rw [(allB_false _ _).2 ⟨j,by unfold nN; omega,p3⟩,Bool.and_false]
     ·exact hz z (by omega)
   ·right
    have t1:=sc.1 hb
    have hall:=(allB_iff _ _).1 hb
    refine ⟨_,_,_,r8take t ht n R bf y g (cM M) s _ hy h255 (M y) rfl hlt hR hn t1,rfl,.inr ⟨y,_,hy,?_,hz,rfl,by rw [← cM_inc],(hs.upd (y:=y) (c:=(t.L y (M y)).nt+(t.L y (M y)).np) (Nat.le_refl _) fun i hi=>?_).take y⟩⟩
    ·unfold rdy
     rw [show decide (M y<t.ln y) = true by rw [decide_eq_true_eq]; exact hlt,Bool.true_and]
     refine (allB_iff _ _).2 fun i hi=>?_
     by_cases q:i<c
     ·exact q3 i q
     ·have:=hall (i - c) (by unfold nN at hi; omega)
      rw [show c+(i - c) = i by omega] at this
      exact this
    ·by_cases q:i<c
     ·exact q3 i q
     ·have:=hall (i - c) (by omega)
      rw [show c+(i - c) = i by omega] at this
      exact this
open Go.Proofs
noncomputable def l38o (x:List T->Heap->Ex->List T->Heap->Prop) (t:Tbl) (n R R1:Nat) (h1:Heap):List (Nat × (List T->Heap->LT)) :=
 [(8,loopF x (.ret (.exit 2) (x38m t n R1 R) h1))]
noncomputable def l38 (x:List T->Heap->Ex->List T->Heap->Prop) (n R:Nat) (h1:Heap):List (Nat × (List T->Heap->LT)) :=
 [(5,loopF x (.ret (.exit 0) [.own 0 0 0 R (some n)] h1))]
def pick (t:Tbl) (M:Nat->Nat):Option Nat:=(List.range t.h).find? (rdy t M)
def oM (t:Tbl):Nat->Nat->Nat
 | 0=>fun _=>0
 | k+1=>match pick t (oM t k) with | some y=>inc (oM t k) y | none=>oM t k
def oG (t:Tbl):Nat->Nat->Idd
 | 0=>fun _=>⟨0,0⟩
 | k+1=>match pick t (oM t k) with | some y=>appI (oG t k) k ⟨(y:Int)+1,oM t k y⟩ | none=>oG t k
def oOk (t:Tbl) (k:Nat):Bool:=(pick t (oM t k)).isSome
theorem pick_some {t:Tbl} {M:Nat->Nat} {y:Nat} (hy:y<t.h) (hr:rdy t M y = true) (hz:∀ z,z<y->rdy t M z = false):pick t M = some y:=by
 unfold pick
 rw [List.find?_eq_some_iff_getElem]
 refine ⟨hr,y,by simpa using hy,by simp,fun j hj=>?_⟩
 rw [List.getElem_range,hz j hj]
 rfl
theorem pick_none {t:Tbl} {M:Nat->Nat} (hz:∀ z,z<t.h->rdy t M z = false):pick t M = none:=by
 unfold pick
 rw [List.find?_eq_none]
 intro x hx
 rw [hz x (by simpa using hx)]
 simp
theorem pick_lt {t:Tbl} {M:Nat->Nat} {y:Nat} (h:pick t M = some y):y<t.h/\rdy t M y = true:=by
 unfold pick at h
 exact ⟨by simpa using List.mem_of_find?_eq_some h,List.find?_some h⟩
theorem oM_ok (t:Tbl):∀ k,MOk t (oM t k)
 | 0=>fun y _=>Nat.zero_le _
 | k+1=>by
  have ih:=oM_ok t k
  unfold oM
  cases h:pick t (oM t k) with
  | none=>exact ih
  | some y =>
   intro z hz
   show inc (oM t k) y z<=_
   by_cases q:z = y
   ·subst q
    rw [inc_at]
    have:=(pick_lt h).2
    unfold rdy at this
    simp only [Bool.and_eq_true,decide_eq_true_eq] at this
    omega
   ·rw [inc_ne _ q]; exact ih z hz
def Post5 (t:Tbl) (n:Nat):Ex->List T->Heap->Prop:=fun e v h=>e = .exit 0/\∃ R s,R<=n/\(∀ j,j<R->oOk t j = true)/\(R = n ∨ oOk t R = false)/\v = [.own 0 0 0 R (some n)]/\h = h38 (oG t R) n (cM (oM t R)) s t.h
theorem i38o (t:Tbl) (n R R1:Nat) (g g1:Nat->Idd) (m m1 s s1:Nat->Int) (x:List T->Heap->Ex->List T->Heap->Prop):iterR P05 G05 A05 noneO 0 38 (l38o x t n R R1 (h38 g1 n m1 s1 t.h)) 5 (v38o t n R) (h38 g n m s t.h) =
(
 bif decide (Int.ofNat R<Int.ofNat n) then
 bif decF (x (v38m t n R R (nat_lit 0)) (h38 g n m s t.h) (.exit 2) (x38m t n R1 R) (h38 g1 n m1 s1 t.h)) then
 bif decide (Int.ofNat R1 = Int.ofNat R) then
 some ((.exit 0,[.own 0 0 0 R1 (some n)],h38 g1 n m1 s1 t.h))
 else
 some ((.normal,v38o t n R1,h38 g1 n m1 s1 t.h))
 else none else
 some ((.exit 0,[.own 0 0 0 R (some n)],h38 g n m s t.h))):=by kernel_rfl
theorem k38 (t:Tbl) (n R:Nat) (g:Nat->Idd) (m s:Nat->Int) (p:List T->T->Prop) (x:List T->Heap->Ex->List T->Heap->Prop):stepL P05 G05 A05 (K38 p n) 0 38 (l38 x n R (h38 g n m s t.h)) [t.v] =
(
 bif decF (p [t.v] (.int .i64 (.ofNat n))) then
 bif decide (0<=Int.ofNat n)&&decide (Int.ofNat n * 16<=140737488355328)&&decide (Int.ofNat n<=9223372036854775807) then
 bif decide (0<=Int.ofNat t.h)&&decide (Int.ofNat t.h<=Int.ofNat t.h)&&decide (Int.ofNat t.h * 8<=140737488355328)&&decide (Int.ofNat t.h<=9223372036854775807) then
 bif decide (0<=Int.ofNat t.h)&&decide (Int.ofNat t.h<=Int.ofNat t.h)&&decide (Int.ofNat t.h * 8<=140737488355328)&&decide (Int.ofNat t.h<=9223372036854775807) then
 bif decF (x (v38o t n (0:Nat)) [.mk 0 2 n (fun x=>[.int .u8 0,.int .i64 0]) true false
 none,bkN (fun e=>(0:Int)) t.h,bkN (fun e=>(0:Int)) t.h] (.exit 0) [.own 0 0 0 R (some n)] (h38 g n m s t.h)) then
 some (bif ((0:Nat)+R).ble n then .fresh true (2:Nat) (n - 0) (fun j=>(g ((0:Nat)+j)).c) R (some n)
 else .undef)
 else none else none else none else none else
 none):=by kernel_rfl
theorem loopO (t:Tbl) (ht:t.Ok) (tr:TR t) (h255:t.h<=255) (n:Nat) (hn:n<=10000000) :
 ∃ e v h,Post5 t n e v h/\LoopOk P05 G05 (A05 38) 38 5 (litS (v38o t n 0) (h38 (oG t 0) n (cM (oM t 0)) (fun _=>0) t.h) e v h):=by
 obtain ⟨x,hx⟩:=is_loop P05 G05 (A05 38) 38 8
 refine loop_exists (P:=P05) (Gl:=G05) (f:=38) (r:=5) (an:=A05 38) (k:=3) hm05 (by kernel_rfl)
  (fun r vs h=>∃ k s,r = n - k/\k<=n/\vs = v38o t n k/\h = h38 (oG t k) n (cM (oM t k)) s t.h/\SOk t (oM t k) s/\∀ j,j<k->oOk t j = true) _ ?_ (n:=n) rfl ⟨0,_,rfl,Nat.zero_le _,rfl,rfl,fun y _=>⟨0,rfl,Nat.zero_le _,fun i hi=>by omega⟩,fun z hz=>by omega⟩
 rintro r vs h ⟨k,s,rfl,hk,rfl,rfl,hs,hj⟩
 by_cases he:k = n
 ·right
  subst he
  refine ⟨.exit 0,[.own 0 0 0 k (some k)],h38 (oG t k) k (cM (oM t k)) s t.h,?_,rfl,k,s,hk,hj,.inl rfl,rfl,rfl⟩
  refine Last.mk0 (A:=A05) (m:=0) (l:=l38o x t k k k (h38 (oG t k) k (cM (oM t k)) s t.h)) none_ok rfl rfl (loops1 (loopF_ok hx _)) (h1:=h38 (oG t k) k (cM (oM t k)) s t.h) (by simp) ?_ (.refl _)
  rw [i38o]
  exact BF rfl
 ·have hk:k<n:=by omega
  obtain ⟨e,v,h,⟨rfl,hp⟩,t1⟩:=loopY t ht tr h255 n k k hk hn (oG t k) (oM t k) (oM_ok t k) s hs
  clear ht tr
  rcases hp with ⟨s1,p1,rfl,rfl,p2⟩ | ⟨y,s1,p1,p2,p3,rfl,rfl,p4⟩
  ·right
   refine ⟨.exit 0,[.own 0 0 0 k (some n)],h38 (oG t k) n (cM (oM t k)) s1 t.h,?_,rfl,k,s1,by omega,hj,.inr (by unfold oOk; rw [pick_none p1]; rfl),rfl,rfl⟩
   clear p1 p2 hs hj
   refine Last.mk0 (A:=A05) (m:=0) (l:=l38o x t n k k (h38 (oG t k) n (cM (oM t k)) s1 t.h)) none_ok rfl rfl (loops1 (loopF_ok hx _)) (h1:=h38 (oG t k) n (cM (oM t k)) s1 t.h) (by simp) ?_ (.refl _)
   rw [i38o]
   exact BT (BS (BT rfl))
  ·left
   have hp:=pick_some p1 p2 p3
   have eM:oM t (k+1) = inc (oM t k) y:=by show (match pick t (oM t k) with | some y=>inc (oM t k) y | none=>oM t k) = _; rw [hp]
   have eG:oG t (k+1) = appI (oG t k) k ⟨(y:Int)+1,oM t k y⟩:=by show (match pick t (oM t k) with | some y=>appI (oG t k) k ⟨(y:Int)+1,oM t k y⟩ | none=>oG t k) = _; rw [hp]
   refine ⟨n - (k+1),v38o t n (k+1),h38 (oG t (k+1)) n (cM (oM t (k+1))) s1 t.h,by omega,?_,k+1,s1,rfl,by omega,rfl,rfl,by rw [eM]; exact p4,fun j hj1=>?_⟩
   ·rw [← eM,← eG] at t1
    clear p1 p2 p3 p4 hs hj hp eM eG
    refine Step.mk0 (A:=A05) (m:=0) (l:=l38o x t n k (k+1) (h38 (oG t (k+1)) n (cM (oM t (k+1))) s1 t.h)) none_ok rfl rfl (loops1 (loopF_ok hx _)) (h1:=h38 (oG t (k+1)) n (cM (oM t (k+1))) s1 t.h) ?_ (.refl _)
    rw [i38o]
    exact BT (BS (BF rfl))
   ·by_cases q:j = k
    ·subst q; unfold oOk; rw [hp]; rfl
    ·exact hj j (by omega)
theorem firstT (t:Tbl) (ht:t.Ok) (tr:TR t) (h255:t.h<=255) :
 ∃ R,R<=t.sum t.h/\(∀ j,j<R->oOk t j = true)/\(R = t.sum t.h ∨ oOk t R = false)/\ToldOk P05 G05 38 [t.v] (.fresh true 2 (t.sum t.h) (fun j=>(oG t R j).c) R (some (t.sum t.h))):=by
 obtain ⟨x,hx⟩:=is_loop P05 G05 (A05 38) 38 5
 obtain ⟨p,hp⟩:=is_val P05 G05 11
 have hn:=sum_le t ht t.h
 have hth:=ht.h
 have t2:=countT t ht
 obtain ⟨e,v,h,⟨rfl,R,s,q1,q2,q3,rfl,rfl⟩,t1⟩:=loopO t ht tr h255 (t.sum t.h) (by omega)
 refine ⟨R,q1,q2,q3,?_⟩
 clear tr ht q2 q3
 generalize t.sum t.h = n at *
 refine ToldOk.resTo (r:=.fresh true 2 (n - 0) (fun j=>(oG t R (0+j)).c) R (some n)) ?_ (.fresh (by omega) (by omega) (fun m hm=>by obtain rfl:=Option.some.inj hm; omega) fun j hj=>by rw [Nat.zero_add])
 refine stepL_told hm05 hn05 (K:=K38 p n) (told_add none_ok (callF_told hp)) (A:=A05) (m:=0) (l:=l38 x n R (h38 (oG t R) n (cM (oM t R)) s t.h)) (by kernel_rfl) (loops1 (loopF_ok hx _)) ?_
 rw [k38,show Nat.ble (0+R) n = true from bleT (by omega)]
 refine BS (BT (BT (BT (BS ?_))))
 rfl
open Go.Proofs
noncomputable def K22 (p q r u w:List T->T->Prop) (n:Nat) (e1 e2:Int) (R:Nat) (g:Nat->Idd):Orc :=
 ((((noneO.add 11 (callF p fun _=>some (.int .i64 n))).add 36 (callF q fun _=>some (.int .i64 e1))).add 37 (callF r fun _=>some (.int .i64 e2))).add 38 (callF u fun _=>some (.fresh true 2 n (fun j=>(g j).c) R (some n)))).add 26 (callF w fun _=>some (.fresh true 2 R (fun j=>(g j).c) R (some R)))
noncomputable def K10 (p:List T->T->Prop) (v:T):Orc:=noneO.add 22 (callF p fun _=>some v)
theorem k22 (p q r u w:List T->T->Prop) (n:Nat) (e1 e2:Int) (R:Nat) (g:Nat->Idd) (t:Tbl):stepV P05 G05 A05 (K22 p q r u w n e1 e2 R g) 0 22 [t.v] =
(
 bif !decide (Int.ofNat t.h = 6) then
 some (.tup [.nils,.int .i64 5])
 else
 bif decF (p [t.v] (.int .i64 (.ofNat n))) then
 bif decide (2048<Int.ofNat n) then
 some (.tup [.nils,.int .i64 3])
 else
 bif decF (q [t.v] (.int .i64 e1)) then
 bif !decide (e1 = 0) then
 some (.tup [.nils,.int .i64 e1])
 else
 bif decF (r [t.v] (.int .i64 e2)) then
 bif !decide (e2 = 0) then
 some (.tup [.nils,.int .i64 e2])
 else
 bif decF (u [t.v] (.fresh true (2:Nat) n (fun j=>(g j).c) R (some n))) then
 bif decF (p [t.v] (.int .i64 (.ofNat n))) then
 bif decide (Int.ofNat R<Int.ofNat n) then
 some (.tup [.nils,.int .i64 6])
 else
 bif decF (w [bif ((0:Nat)+R).ble n then idV (fun j=>g (0+j)) R (some n)
 else .undef] (.fresh true (2:Nat) R (fun j=>(g j).c) R (some R))) then
 some (.tup [bif ((0:Nat)+R).ble R then .fresh true (2:Nat) (R - 0) (fun j=>(g ((0:Nat)+j)).c) R (some R)
 else .undef,.int .i64 0])
 else none else none else none else none else none else
 none):=by kernel_rfl
theorem k10a (p:List T->T->Prop) (e:Int) (t:Tbl):stepV P05 G05 A05 (K10 p (.tup [.nils,.int .i64 e])) 0 10 [t.v] =
(
 bif decF (p [t.v] (.tup [.nils,.int .i64 e])) then
 some (.int .i64 e)
 else
 none):=by kernel_rfl
theorem k10b (p:List T->T->Prop) (R:Nat) (g:Nat->Idd) (t:Tbl):stepV P05 G05 A05 (K10 p (.tup [.fresh true 2 R (fun j=>(g j).c) R (some R),.int .i64 0])) 0 10 [t.v] =
(
 bif decF (p [t.v] (.tup [.fresh true (2:Nat) R (fun j=>(g j).c) R (some R),.int .i64 0])) then
 some (.int .i64 0)
 else
 none):=by kernel_rfl
def ordC (t:Tbl):Nat->Nat
 | 0=>0
 | k+1=>bif ordC t k==k&&oOk t k then k+1 else ordC t k
def ordN (t:Tbl):Nat:=ordC t (t.sum t.h)
theorem ordC_le (t:Tbl):∀ k,ordC t k<=k
 | 0=>Nat.le_refl _
 | k+1=>by
  have ih:=ordC_le t k
  unfold ordC
  cases (ordC t k==k&&oOk t k)
  ·show ordC t k<=_; omega
  ·exact Nat.le_refl _
theorem ordC_of (t:Tbl) (n R:Nat) (h1:R<=n) (h2:∀ j,j<R->oOk t j = true) (h3:R = n ∨ oOk t R = false):∀ k,k<=n->ordC t k = min k R
 | 0,_=>by simp [ordC]
 | k+1,hk=>by
  have ih:=ordC_of t n R h1 h2 h3 k (by omega)
  unfold ordC
  rw [ih]
  by_cases q:k<R
  ·rw [show min k R = k by omega,h2 k q,show (k==k) = true by simp]
   show k+1 = _
   omega
  ·by_cases q2:k = R
   ·subst q2
    rcases h3 with h3 | h3
    ·omega
    ·rw [h3,Bool.and_false]
     show min k k = _
     omega
   ·rw [show min k R = R by omega,show (R==k) = false by rw [beq_eq_false_iff_ne]; omega]
    show R = _
    omega
def chkE (t:Tbl):Int:=if t.h ≠ 6 then 5 else if 2048<t.sum t.h then 3 else bif allB (ckY t) t.h then (bif allB (tgY t) t.h then (if ordN t<t.sum t.h then 6 else 0) else 8) else 1
def ordV (t:Tbl):T:=if chkE t = 0 then .fresh true 2 (ordN t) (fun j=>(oG t (ordN t) j).c) (ordN t) (some (ordN t)) else .nils
theorem tr_of {t:Tbl} (h:allB (ckY t) t.h = true):TR t:=by
 intro y i hy hi k hk
 have h1:=(allB_iff _ _).1 ((allB_iff _ _).1 h y hy) i hi
 unfold ckL rgt at h1
 cases hb:(decide ((t.L y i).b = 0) || decide ((t.L y i).b = 1))
 ·rw [hb] at h1; cases h1
 rw [hb,cond_true] at h1
 cases hb:(decide (4<(t.L y i).nt) || decide (4096<(t.L y i).np))
 ·rw [hb,cond_false] at h1
  cases h2:allB (rgI t (t.L y i)) (t.L y i).nt
  ·rw [h2] at h1; cases h1
  ·rw [h2,cond_true] at h1
   cases h3:allB (rgP t (t.L y i)) (t.L y i).np
   ·rw [h3] at h1; cases h1
   ·unfold needI
    by_cases q:k<(t.L y i).nt
    ·rw [if_pos q]; exact (allB_iff _ _).1 h2 k q
    ·rw [if_neg q]
     have:=(allB_iff _ _).1 h3 (k - (t.L y i).nt) (by omega)
     unfold rgP at this
     simp only [Bool.and_eq_true] at this
     exact this.1
 ·rw [hb] at h1; cases h1
theorem firstN (t:Tbl) (ht:t.Ok) (tr:TR t) (h255:t.h<=255):ToldOk P05 G05 38 [t.v] (.fresh true 2 (t.sum t.h) (fun j=>(oG t (ordN t) j).c) (ordN t) (some (t.sum t.h))):=by
 obtain ⟨R,h1,h2,h3,h4⟩:=firstT t ht tr h255
 have e:ordN t = R:=by
  unfold ordN
  rw [ordC_of t _ R h1 h2 h3 _ (Nat.le_refl _)]
  omega
 rw [e]
 exact h4
theorem checkT (t:Tbl) (ht:t.Ok):ToldOk P05 G05 22 [t.v] (.tup [ordV t,.int .i64 (chkE t)]):=by
 obtain ⟨p,hp⟩:=is_val P05 G05 11
 obtain ⟨q,hq⟩:=is_val P05 G05 36
 obtain ⟨r,hr⟩:=is_val P05 G05 37
 obtain ⟨u,hu⟩:=is_val P05 G05 38
 obtain ⟨w,hw⟩:=is_val P05 G05 26
 have hK:∀ n e1 e2 R g,OrcOk P05 G05 (K22 p q r u w n e1 e2 R g):=fun n e1 e2 R g=>told_add (told_add (told_add (told_add (told_add none_ok (callF_told hp)) (callF_told hq)) (callF_told hr)) (callF_told hu)) (callF_told hw)
 have t1:=countT t ht
 have t2:=checkLoopsT t ht
 have t3:=checkThroughT t ht
 have hle:ordN t<=t.sum t.h:=ordC_le t _
 by_cases h6:t.h = 6
 ·by_cases h2048:2048<t.sum t.h
  ·have e:chkE t = 3:=by unfold chkE; rw [if_neg (by simpa using h6),if_pos h2048]
   unfold ordV
   rw [e,if_neg (by decide)]
   refine stepV_told hm05 hn05 (hK (t.sum t.h) 0 0 0 fun _=>⟨0,0⟩) (A:=A05) (m:=0) ?_
   rw [k22]
   exact BF (BS (BS rfl))
  ·cases ha:allB (ckY t) t.h
   ·have e:chkE t = 1:=by unfold chkE; rw [if_neg (by simpa using h6),if_neg h2048,ha]; rfl
    unfold ordV
    rw [e,if_neg (by decide)]
    rw [ha] at t2
    clear t3
    refine stepV_told hm05 hn05 (hK (t.sum t.h) 1 0 0 fun _=>⟨0,0⟩) (A:=A05) (m:=0) ?_
    rw [k22]
    exact BF (BS (BF (BS (bift (by decide) rfl))))
   ·rw [ha] at t2
    cases hb:allB (tgY t) t.h
    ·have e:chkE t = 8:=by unfold chkE; rw [if_neg (by simpa using h6),if_neg h2048,ha,hb]; rfl
     unfold ordV
     rw [e,if_neg (by decide)]
     rw [hb] at t3
     refine stepV_told hm05 hn05 (hK (t.sum t.h) 0 8 0 fun _=>⟨0,0⟩) (A:=A05) (m:=0) ?_
     rw [k22]
     exact BF (BS (BF (BS (biff (by decide) (BS (bift (by decide) rfl))))))
    ·rw [hb] at t3
     have t4:=firstN t ht (tr_of ha) (by omega)
     have t5:=copyIdT (fun j=>oG t (ordN t) j) (ordN t) (some (t.sum t.h)) (by omega)
     by_cases hl:ordN t<t.sum t.h
     ·have e:chkE t = 6:=by unfold chkE; rw [if_neg (by simpa using h6),if_neg h2048,ha,hb,cond_true,cond_true,if_pos hl]
      unfold ordV
      rw [e,if_neg (by decide)]
      refine stepV_told hm05 hn05 (hK (t.sum t.h) 0 0 (ordN t) (oG t (ordN t))) (A:=A05) (m:=0) ?_
      rw [k22]
      clear ha hb
      exact BF (BS (BF (BS (biff (by decide) (BS (biff (by decide) (BS (BS (BS rfl)))))))))
     ·have e:chkE t = 0:=by unfold chkE; rw [if_neg (by simpa using h6),if_neg h2048,ha,hb,cond_true,cond_true,if_neg hl]
      unfold ordV
      rw [e,if_pos rfl]
      refine stepV_told hm05 hn05 (hK (t.sum t.h) 0 0 (ordN t) (oG t (ordN t))) (A:=A05) (m:=0) ?_
      rw [k22,show Nat.ble (0+ordN t) (t.sum t.h) = true from bleT (by omega),show Nat.ble (0+ordN t) (ordN t) = true from bleT (by omega)]
      clear ha hb
      simp only [Nat.zero_add,cond_true,Nat.sub_zero]
      exact BF (BS (BF (BS (biff (by decide) (BS (biff (by decide) (BS (BS (BF (BS rfl))))))))))
 ·have e:chkE t = 5:=by unfold chkE; rw [if_pos (by simpa using h6)]
  unfold ordV
  rw [e,if_neg (by decide)]
  refine stepV_told hm05 hn05 (hK (t.sum t.h) 0 0 0 fun _=>⟨0,0⟩) (A:=A05) (m:=0) ?_
  rw [k22]
  exact bift (by simp; omega) rfl
theorem CheckT (t:Tbl) (ht:t.Ok):ToldOk P05 G05 10 [t.v] (.int .i64 (chkE t)):=by
 obtain ⟨p,hp⟩:=is_val P05 G05 22
 have t1:=checkT t ht
 unfold ordV at t1
 by_cases e:chkE t = 0
 ·rw [if_pos e,e] at t1
  rw [e]
  refine stepV_told hm05 hn05 (K:=K10 p (.tup [.fresh true 2 (ordN t) (fun j=>(oG t (ordN t) j).c) (ordN t) (some (ordN t)),.int .i64 0])) (told_add none_ok (callF_told hp)) (A:=A05) (m:=0) ?_
  rw [k10b]
  exact BS rfl
 ·rw [if_neg e] at t1
  refine stepV_told hm05 hn05 (K:=K10 p (.tup [.nils,.int .i64 (chkE t)])) (told_add none_ok (callF_told hp)) (A:=A05) (m:=0) ?_
  rw [k10a]
  exact BS rfl
open Go.Proofs
open Go.Proofs
def dec (v:Int):Idd:=⟨v / 18446744073709551616,v % 18446744073709551616 - 9223372036854775808⟩
def enc (a:Idd):Int:=a.y * 18446744073709551616+(a.n+9223372036854775808)
def Mem (y:Nat->Int) (a b:Nat) (v:Int):Prop:=∃ j,a<=j/\j<b/\y j = v
structure Pr (y z:Nat->Int) (a b:Nat):Prop where
 mem:∀ v,Mem z a b v ↔ Mem y a b v
 out:∀ j,j<a ∨ b<=j->z j = y j
theorem Pr.refl (y:Nat->Int) (a b:Nat):Pr y y a b:=⟨fun _=>Iff.rfl,fun _ _=>rfl⟩
theorem Pr.trans {x y z:Nat->Int} {a b:Nat} (h1:Pr x y a b) (h2:Pr y z a b):Pr x z a b :=
 ⟨fun v=>(h2.mem v).trans (h1.mem v),fun j hj=>(h2.out j hj).trans (h1.out j hj)⟩
theorem Pr.swap (y:Nat->Int) {a b i j:Nat} (hi:a<=i/\i<b) (hj:a<=j/\j<b):Pr y (fun e=>if e = i then y j else if e = j then y i else y e) a b:=by
 refine ⟨fun v=>⟨fun ⟨e,h1,h2,h3⟩=>?_,fun ⟨e,h1,h2,h3⟩=>?_⟩,fun e he=>?_⟩
 ·dsimp only at h3
  by_cases q:e = i
  ·rw [if_pos q] at h3; exact ⟨j,hj.1,hj.2,h3⟩
  ·rw [if_neg q] at h3
   by_cases q2:e = j
   ·rw [if_pos q2] at h3; exact ⟨i,hi.1,hi.2,h3⟩
   ·rw [if_neg q2] at h3; exact ⟨e,h1,h2,h3⟩
 ·by_cases q:e = i
  ·refine ⟨j,hj.1,hj.2,?_⟩
   try dsimp only
   by_cases q2:j = i
   ·rw [if_pos q2,q2,← q]; exact h3
   ·rw [if_neg q2,if_pos rfl,← q]; exact h3
  ·by_cases q2:e = j
   ·refine ⟨i,hi.1,hi.2,?_⟩
    try dsimp only
    rw [if_pos rfl,← q2]; exact h3
   ·refine ⟨e,h1,h2,?_⟩
    try dsimp only
    rw [if_neg q,if_neg q2]; exact h3
 ·try dsimp only
  rw [if_neg (by omega),if_neg (by omega)]
def Asc (y:Nat->Int) (a b:Nat):Prop:=∀ p q,a<=p->p<q->q<b->y p<=y q
structure Ins (x y:Nat->Int) (a b i j:Nat):Prop where
 pr:Pr x y a b
 lo:a<=j
 hi:j<=i
 lt:i<b
 rest:∀ p q,a<=p->p<q->q<=i->p ≠ j->q ≠ j->y p<=y q
 up:∀ q,j<q->q<=i->y j<=y q
theorem Ins.step {x y:Nat->Int} {a b i j:Nat} (h:Ins x y a b i (j+1)) (ha:a<=j) (hlt:y (j+1)<y j):Ins x (fun e=>if e = j then y (j+1) else if e = j+1 then y j else y e) a b i j:=by
 have hi:=h.hi
 have hl:=h.lt
 refine ⟨h.pr.trans (Pr.swap y (i:=j) (j:=j+1) ⟨ha,by omega⟩ ⟨by omega,by omega⟩),ha,by omega,hl,fun p q h3 h4 h5 h6 h7=>?_,fun q h3 h4=>?_⟩
 ·try dsimp only
  rw [if_neg h6,if_neg h7]
  by_cases q1:p = j+1
  ·rw [if_pos q1,if_neg (by omega)]
   exact h.rest j q ha (by omega) h5 (by omega) (by omega)
  ·rw [if_neg q1]
   by_cases q2:q = j+1
   ·rw [if_pos q2]; exact h.rest p j h3 (by omega) (by omega) (by omega) (by omega)
   ·rw [if_neg q2]; exact h.rest p q h3 h4 h5 (by omega) (by omega)
 ·try dsimp only
  rw [if_pos rfl,if_neg (by omega)]
  by_cases q2:q = j+1
  ·rw [if_pos q2]; omega
  ·rw [if_neg q2]; exact h.up q (by omega) h4
theorem Ins.last {x y:Nat->Int} {a b i j:Nat} (h:Ins x y a b i j) (hl:j = a ∨ ∃ k,j = k+1/\y k<=y j):Asc y a (i+1):=by
 intro p q h1 h2 h3
 have hlo:=h.lo
 by_cases q1:p = j
 ·subst q1; exact h.up q h2 (by omega)
 ·by_cases q2:q = j
  ·rcases hl with hl | ⟨k,hk,hl⟩
   ·omega
   ·rw [q2]
    by_cases q3:p = k
    ·rw [q3]; exact hl
    ·exact Int.le_trans (h.rest p k h1 (by omega) (by have:=h.hi; omega) q1 (by omega)) hl
  ·exact h.rest p q h1 h2 (by omega) q1 q2
def SAsc (z:Nat->Int) (k:Nat):Prop:=∀ p q,p<q->q<k->z p<z q
structure Cmp (y z:Nat->Int) (n k m:Nat):Prop where
 k1:1<=k
 km:k<=m
 mn:m<=n
 asc:SAsc z k
 mem:∀ v,Mem z 0 k v ↔ Mem y 0 m v
 last:z (k - 1) = y (m - 1)
 keep:∀ j,m<=j->z j = y j
 at1:z (m - 1) = y (m - 1)
theorem mem_succ {y:Nat->Int} {m:Nat} {v:Int}:Mem y 0 (m+1) v ↔ Mem y 0 m v ∨ y m = v:=by
 constructor
 ·rintro ⟨j,h1,h2,h3⟩
  by_cases q:j = m
  ·subst q; exact .inr h3
  ·exact .inl ⟨j,h1,by omega,h3⟩
 ·rintro (⟨j,h1,h2,h3⟩ | h)
  ·exact ⟨j,h1,by omega,h3⟩
  ·exact ⟨m,Nat.zero_le _,by omega,h⟩
theorem mem_congr {y z:Nat->Int} {a b:Nat} {v:Int} (h:∀ j,a<=j->j<b->z j = y j):Mem z a b v ↔ Mem y a b v:=by
 constructor
 ·rintro ⟨j,h1,h2,h3⟩; exact ⟨j,h1,h2,by rw [← h j h1 h2]; exact h3⟩
 ·rintro ⟨j,h1,h2,h3⟩; exact ⟨j,h1,h2,by rw [h j h1 h2]; exact h3⟩
theorem Cmp.same {y z:Nat->Int} {n k m:Nat} (h:Cmp y z n k m) (hm:m<n) (he:y m = y (m - 1)):Cmp y z n k (m+1):=by
 have h1:=h.k1
 have h2:=h.km
 refine ⟨h1,by omega,hm,h.asc,fun v=>?_,?_,fun j hj=>h.keep j (by omega),?_⟩
 ·rw [h.mem,mem_succ]
  constructor
  ·exact .inl
  ·rintro (q | q)
   ·exact q
   ·exact ⟨m - 1,Nat.zero_le _,by omega,by rw [← he]; exact q⟩
 ·rw [h.last,Nat.add_sub_cancel,he]
 ·rw [Nat.add_sub_cancel]; exact h.keep m (Nat.le_refl _)
theorem Cmp.new {y z:Nat->Int} {n k m:Nat} (h:Cmp y z n k m) (hs:Asc y 0 n) (hm:m<n) (he:y m ≠ y (m - 1)):Cmp y (fun e=>if e = k then z m else z e) n (k+1) (m+1):=by
 have h1:=h.k1
 have h2:=h.km
 have hz:z m = y m:=h.keep m (Nat.le_refl _)
 have hlt:z (k - 1)<z m:=by
  rw [h.last,hz]
  have:=hs (m - 1) m (Nat.zero_le _) (by omega) hm
  omega
 refine ⟨by omega,by omega,hm,fun p q h3 h4=>?_,fun v=>?_,?_,fun j hj=>?_,?_⟩
 ·try dsimp only
  rw [if_neg (by omega:¬ p = k)]
  by_cases q1:q = k
  ·rw [if_pos q1]
   by_cases q2:p = k - 1
   ·rw [q2]; exact hlt
   ·exact Int.lt_trans (h.asc p (k - 1) (by omega) (by omega)) hlt
  ·rw [if_neg q1]; exact h.asc p q h3 (by omega)
 ·rw [mem_succ,mem_succ,← h.mem,mem_congr (y:=z) (z:=fun e=>if e = k then z m else z e) (fun j _ hj=>if_neg (by omega))]
  try dsimp only
  rw [if_pos rfl,hz]
 ·try dsimp only
  rw [if_pos (by omega),Nat.add_sub_cancel,hz]
 ·try dsimp only
  rw [if_neg (by omega)]; exact h.keep j (by omega)
 ·try dsimp only
  rw [Nat.add_sub_cancel]
  by_cases q:m = k
  ·rw [if_pos q,hz]
  ·rw [if_neg q,hz]
theorem Cmp.pre {y:Nat->Int} {n k:Nat} (h:Cmp y y n k k) (hs:Asc y 0 n) (hk:k<n) (he:y k ≠ y (k - 1)):Cmp y y n (k+1) (k+1):=by
 have h2:=h.new hs hk he
 have e:(fun e=>if e = k then y k else y e) = y:=by
  funext e
  by_cases q:e = k
  ·rw [if_pos q,q]
  ·rw [if_neg q]
 rw [e] at h2
 exact h2
open Go.Proofs
def xd (x:Nat->Int):Nat->Idd:=fun e=>dec (x e)
open Go.Proofs
open Go.Proofs
structure CompOk (y z:Nat->Int) (n k:Nat):Prop where
 k1:1<=k
 kn:k<=n
 asc:SAsc z k
 mem:∀ v,Mem z 0 k v ↔ Mem y 0 n v
theorem Cmp.ok {y z:Nat->Int} {n k:Nat} (h:Cmp y z n k n):CompOk y z n k:=⟨h.k1,h.km,h.asc,h.mem⟩
end Go.Ab

