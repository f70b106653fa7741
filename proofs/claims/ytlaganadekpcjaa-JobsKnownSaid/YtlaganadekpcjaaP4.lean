/- A part of the proof: nothing is assumed. -/
import Derived.Test.YtlaganadekpcjaaP3
import Derived.Test.YtlaganadekpcjaaProg
import Derived.KernelRfl
set_option linter.all false
namespace Go.Ab
open Go.Proofs
def G41:Nat->Option (List T):=gOf []
def A41:FuncId->Ann:=fun f=>match f with
 | 2=>⟨[],fun _ _=>[],false⟩
 | 3=>⟨[],fun r o=>match r with | 7=>bif o then [1,4,5,6] else [1,5,6,8,9] | 16=>bif o then [5,6,10] else [1,5,6,10,11] | 22=>bif o then [5,6,10,15] else [5,6,10,14,15,16] | _=>[],false⟩
 | 4=>⟨[20],fun r o=>match r with | 13=>bif o then [2,3,6,9] else [3,6,9,13] | 19=>bif o then [2] else [3,6,9,14,15] | 23=>bif o then [3,6,9,14,15,17,18] else [3,6,9,14,15,16,17,18,19] | _=>[],false⟩
 | 5=>⟨[],fun r o=>match r with | 8=>bif o then [3,6,7] else [3,4,6,7,8] | 13=>bif o then [3,4,6,7,8,9,10] else [3,4,6,7,8,9,10,11] | 19=>bif o then [3,4,6,7,8,12] else [3,4,6,7,8,10,12] | 25=>bif o then [3,6,13] else [3,6,7,13,14] | _=>[],false⟩
 | 6=>⟨[19],fun r o=>match r with | 5=>bif o then [2,7,8,9,10] else [2,7,8,9,10,11] | 19=>bif o then [2,6,8,9,10,17] else [2,7,8,9,10,12,14,16,17,18] | 24=>bif o then [2,7,8,9,10,12,14,16,17,18,19,20,21] else [2,7,8,9,10,12,14,16,17,18,19,20,21,22] | _=>[],false⟩
 | 7=>⟨[5,11],fun _ _=>[],false⟩
 | 8=>⟨[],fun r o=>match r with | 3=>bif o then [0] else [1,2] | 7=>bif o then [1,2,3] else [1,2,3,4] | _=>[],false⟩
 | 9=>⟨[],fun r o=>match r with | 3=>bif o then [3] else [0,3,4] | _=>[],false⟩
 | 10=>⟨[],fun _ _=>[],false⟩
 | 11=>⟨[],fun r o=>match r with | 7=>bif o then [4,5] else [0,4,6,7,19,20,21] | _=>[],false⟩
 | 12=>⟨[],fun _ _=>[],false⟩
 | 13=>⟨[],fun r o=>match r with | 6=>bif o then [2,3] else [0,2,3,5,17,18,19] | 13=>bif o then [0,2,3,5,8,17,18,19] else [0,2,3,5,8,17,18,19,41,42,43] | _=>[],false⟩
 | 14=>⟨[],fun r o=>match r with | 3=>bif o then [3] else [0,3,4] | 7=>bif o then [0,4,5] else [0,3,4,5,6] | 10=>bif o then [0,3,4,5,6] else [0,3,4,5,6,7] | _=>[],false⟩
 | 15=>⟨[],fun r o=>match r with | 4=>bif o then [4] else [0,1,5] | _=>[],false⟩
 | 16=>⟨[],fun _ _=>[],false⟩
 | 17=>⟨[5],fun _ _=>[],false⟩
 | 18=>⟨[1,2,3],fun _ _=>[],false⟩
 | 19=>⟨[6],fun r o=>match r with | 6=>bif o then [4] else [4,18,19,20] | 9=>bif o then [4,18,19,20] else [4,18,19,20,33,34] | _=>[],false⟩
 | 20=>⟨[],fun r o=>match r with | 3=>bif o then [1,3] else [1,3,9,10] | _=>[],false⟩
 | 21=>⟨[],fun _ _=>[],false⟩
 | 22=>⟨[],fun _ _=>[],false⟩
 | 23=>⟨[],fun _ _=>[],false⟩
 | 24=>⟨[],fun _ _=>[],false⟩
 | 25=>⟨[7,8],fun r o=>match r with | 5=>bif o then [4] else [1,15,16,17] | _=>[],false⟩
 | 26=>⟨[8],fun r o=>match r with | 4=>bif o then [4,5] else [0,4,5,15,16,17] | _=>[],false⟩
 | 27=>⟨[3,5,6,7],fun _ _=>[],false⟩
 | 28=>⟨[],fun _ _=>[],false⟩
 | 29=>⟨[],fun _ _=>[],false⟩
 | 30=>⟨[],fun r o=>match r with | 3=>bif o then [2,3] else [3,6,7,8] | _=>[],false⟩
 | 31=>⟨[],fun _ _=>[],false⟩
 | 32=>⟨[],fun r o=>match r with | 2=>bif o then [] else [0,1,2,3,8,9] | _=>[],false⟩
 | 33=>⟨[],fun _ _=>[],false⟩
 | 34=>⟨[],fun _ _=>[],false⟩
 | 35=>⟨[],fun r o=>match r with | 2=>bif o then [] else [0,1,2,3,4,10,11] | _=>[],false⟩
 | 36=>⟨[],fun _ _=>[],false⟩
 | 37=>⟨[],fun r o=>match r with | 1=>bif o then [] else [0,1,2,6] | 4=>bif o then [0,1,2,6] else [0,1,2,6,7] | _=>[],false⟩
 | 38=>⟨[],fun r o=>match r with | 4=>bif o then [0,6,7,8] else [0,6,7,8,9] | 8=>bif o then [] else [0,6,7,10] | _=>[],false⟩
 | 39=>⟨[],fun r o=>match r with | 5=>bif o then [] else [0,1,6,7,8,9] | _=>[],false⟩
 | 40=>⟨[],fun _ _=>[],false⟩
 | 41=>⟨[],fun r o=>match r with | 2=>bif o then [] else [0,6,7] | _=>[],false⟩
 | 42=>⟨[],fun r o=>match r with | 3=>bif o then [6] else [0,1,2,7,8] | 5=>bif o then [0,1,2,7,8] else [0,1,2,7,8] | 14=>bif o then [0,1,2,7,8] else [0,1,2,7,8,9] | 20=>bif o then [0,1,2,7,8] else [0,1,2,7,8,10] | _=>[],false⟩
 | 43=>⟨[],fun _ _=>[],false⟩
 | 44=>⟨[],fun r o=>match r with | 3=>bif o then [9] else [0,1,9,10] | 5=>bif o then [0,1,9,10] else [0,1,9,10] | _=>[],false⟩
 | 45=>⟨[],fun r o=>match r with | 3=>bif o then [0,1,10,11] else [0,1,10,11] | 5=>bif o then [0,1,10,11] else [0,1,10,11] | 13=>bif o then [0,1,11] else [0,1,10,11] | 15=>bif o then [0,1,10,11] else [0,1,10,11] | _=>[],false⟩
 | 46=>⟨[],fun _ _=>[],false⟩
 | 47=>⟨[],fun _ _=>[],false⟩
 | 48=>⟨[],fun r o=>match r with | 1=>bif o then [] else [0,2,5,6] | _=>[],false⟩
 | 49=>⟨[],fun r o=>match r with | 1=>bif o then [] else [0,1,2,3,8] | 4=>bif o then [0,1,2,3,8] else [0,1,2,3,8,9] | _=>[],false⟩
 | 50=>⟨[],fun r o=>match r with | 4=>bif o then [0,3,8,9,10] else [0,3,8,9,10,11] | 8=>bif o then [] else [0,3,8,9,12] | _=>[],false⟩
 | 51=>⟨[],fun r o=>match r with | 5=>bif o then [] else [0,1,8,9,10,11] | _=>[],false⟩
 | 52=>⟨[],fun _ _=>[],false⟩
 | 53=>⟨[],fun r o=>match r with | 2=>bif o then [] else [0,8,9] | _=>[],false⟩
 | 54=>⟨[],fun r o=>match r with | 3=>bif o then [8] else [0,1,2,3,9,10] | 5=>bif o then [0,1,2,3,9,10] else [0,1,2,3,9,10] | 14=>bif o then [0,1,2,3,9,10] else [0,1,2,3,9,10,11] | 20=>bif o then [0,1,2,3,9,10] else [0,1,2,3,9,10,12] | _=>[],false⟩
 | 55=>⟨[],fun r o=>match r with | 3=>bif o then [11] else [0,1,4,11,12] | 5=>bif o then [0,1,4,11,12] else [0,1,4,11,12] | _=>[],false⟩
 | 56=>⟨[],fun r o=>match r with | 3=>bif o then [0,1,4,12,13] else [0,1,4,12,13] | 5=>bif o then [0,1,4,12,13] else [0,1,4,12,13] | 13=>bif o then [0,1,13] else [0,1,4,12,13] | 15=>bif o then [0,1,4,12,13] else [0,1,4,12,13] | _=>[],false⟩
 | 57=>⟨[],fun r o=>match r with | 1=>bif o then [] else [0,2,3,8] | _=>[],false⟩
 | 58=>⟨[],fun _ _=>[],false⟩
 | 59=>⟨[],fun _ _=>[],false⟩
 | 60=>⟨[],fun _ _=>[],false⟩
 | 61=>⟨[],fun _ _=>[],false⟩
 | 62=>⟨[],fun r o=>match r with | 1=>bif o then [] else [0,2,3,4,10] | _=>[],false⟩
 | 63=>⟨[],fun _ _=>[],false⟩
 | 64=>⟨[],fun _ _=>[],false⟩
 | 65=>⟨[],fun _ _=>[],false⟩
 | 66=>⟨[],fun _ _=>[],false⟩
 | _=>⟨[],fun _ _=>[],false⟩
noncomputable abbrev P41:Program:=Try.prog
theorem hm41:P41.follows .mixedOrders = true:=by kernel_rfl
theorem hn41:namesOk P41 = true:=by kernel_rfl
theorem hl41:laidOutB P41 = true:=by kernel_rfl
open Go.Proofs
def nanS:List T->Tree
 | [.int .i64 _]=>.ret (.bool false)
 | _=>.none
def cmpF (x y:Int):Int:=if x<y then -1 else if y<x then 1 else 0
def cmpS41:List T->Tree
 | [.int .i64 x,.int .i64 y]=>.ret (.int .i64 (cmpF x y))
 | _=>.none
noncomputable def K41n:Orc:=noneO.add 36 nanS
noncomputable def K41a:Orc:=K41n.add 31 cmpS41
theorem nanT {args:List T} {r:T} (h:(nanS args).run some = some r):ToldOk P41 G41 36 args r:=by
 unfold nanS at h
 split at h
 ·obtain rfl:=Option.some.inj h
  rename_i x
  refine stepV_told hm41 hn41 none_ok (K:=noneO) (A:=A41) (m:=0) ?_
  rw [(show stepV P41 G41 A41 noneO 0 36 [.int .i64 x] =
(
 bif !decide (x = x) then
 some (.bool true)
 else
 some (.bool false)) from by kernel_rfl)]
  rw [dT rfl]; rfl
 ·cases h
theorem okK41n:OrcOk P41 G41 K41n:=told_add none_ok fun _ _=>nanT
theorem cmpT41 {args:List T} {r:T} (h:(cmpS41 args).run some = some r):ToldOk P41 G41 31 args r:=by
 unfold cmpS41 at h
 split at h
 ·obtain rfl:=Option.some.inj h
  rename_i x y
  refine stepV_told hm41 hn41 okK41n (A:=A41) (m:=0) ?_
  rw [(show stepV P41 G41 A41 K41n 0 31 [.int .i64 x,.int .i64 y] =
(
 bif decide (x<y) then
 some (.int .i64 (-1:Int))
 else
 bif decide (y<x) then
 some (.int .i64 1)
 else
 some (.int .i64 0)) from by kernel_rfl)]
  unfold cmpF
  refine bifd (fun q=>by rw [if_pos q]) fun q=>?_
  rw [if_neg q]
  exact bifd (fun q=>by rw [if_pos q]) fun q=>by rw [if_neg q]
 ·cases h
theorem okK41a:OrcOk P41 G41 K41a:=told_add okK41n fun _ _=>cmpT41
def orF (x y:Int):Int:=if x = 0 then y else x
theorem args_yes41 {a:List T} {l:List (List T)} (h:a ∈ l):sameArgsF a l = true:=sameArgsF_iff.2 h
theorem orT41 (x y:Int):ToldOk P41 G41 30 [.view 1 2 (fun j=>[[T.int .i64 x],[.int .i64 y]].getD (0+j) []) (some 2)] (.int .i64 (orF x y)):=by
 refine stepV_told hm41 hn41 none_ok (K:=noneO) (A:=A41) (m:=3) ?_
 rw [(show stepV P41 G41 A41 noneO 3 30 [.view 1 2 (fun j=>[[T.int .i64 x],[.int .i64 y]].getD (0+j) []) (some 2)] =
(
 bif !decide (x = 0) then
 some (.int .i64 x)
 else
 bif !decide (y = 0) then
 some (.int .i64 y)
 else
 some (.int .i64 0)) from by kernel_rfl)]
 unfold orF
 by_cases h:x = 0
 ·rw [dT h,if_pos h]
  by_cases h2:y = 0
  ·rw [dT h2,h2]; rfl
  ·rw [dF h2]; rfl
 ·rw [dF h,if_neg h]; rfl
open Go.Proofs
noncomputable def K41o (l:List (List T)) (r:T):Orc:=K41a.add 30 (callS l r)
def jobV (tm du af on:Nat->Int) (n:Nat) (c:Option Nat):T:=.view 4 n (fun j=>[.int .i64 (tm j),.int .i64 (du j),.int .i64 (af j),.int .u32 (on j)]) c
theorem dueT (tm du af on:Nat->Int) (n i j:Nat) (c:Option Nat) (hi:i<n) (hj:j<n):ToldOk P41 G41 29 [.int .i64 i,.int .i64 j,.vp [jobV tm du af on n c]] (.int .i64 (orF (cmpF (du i) (du j)) (cmpF i j))):=by
 have ot:=orT41 (cmpF (du i) (du j)) (cmpF (Int.ofNat i) (Int.ofNat j))
 have k1:∀ a ∈ [[T.view 1 2 (fun k=>[[T.int .i64 (cmpF (du i) (du j))],[.int .i64 (cmpF (Int.ofNat i) (Int.ofNat j))]].getD (0+k) []) (some 2)]],ToldOk P41 G41 30 a (.int .i64 (orF (cmpF (du i) (du j)) (cmpF (Int.ofNat i) (Int.ofNat j)))):=fun a h=>by obtain rfl:=List.mem_singleton.1 h; exact ot
 have m1:=List.mem_singleton.2 (rfl:[T.view 1 2 (fun k=>[[T.int .i64 (cmpF (du i) (du j))],[.int .i64 (cmpF (Int.ofNat i) (Int.ofNat j))]].getD (0+k) []) (some 2)] = _)
 change ToldOk P41 G41 29 _ (.int .i64 (orF (cmpF (du i) (du j)) (cmpF (Int.ofNat i) (Int.ofNat j))))
 generalize orF (cmpF (du i) (du j)) (cmpF (Int.ofNat i) (Int.ofNat j)) = v at *
 generalize [[T.view 1 2 (fun k=>[[T.int .i64 (cmpF (du i) (du j))],[.int .i64 (cmpF (Int.ofNat i) (Int.ofNat j))]].getD (0+k) []) (some 2)]] = l at k1 m1
 unfold jobV
 refine stepV_told hm41 hn41 (K:=K41o l (.int .i64 v)) (told_add okK41a (callS_told k1)) (A:=A41) (m:=0) ?_
 rw [(show stepV P41 G41 A41 (K41o l (.int .i64 v)) 0 29 [.int .i64 i,.int .i64 j,.vp [.view 4 n (fun j=>[.int .i64 (tm j),.int .i64 (du j),.int .i64 (af j),.int .u32 (on j)]) c]] =
(
 bif decide (0<=Int.ofNat i)&&decide (Int.ofNat i<Int.ofNat n) then
 bif decide (0<=Int.ofNat j)&&decide (Int.ofNat j<Int.ofNat n) then
 bif sameArgsF [.view 1 2 (fun j_1=>[[T.int .i64 (cmpF (du i) (du j))],[T.int .i64 (cmpF (Int.ofNat i) (Int.ofNat j))]].getD (0+j_1) []) (some 2)] l then
 some (.int .i64 v)
 else none else none else
 none) from by kernel_rfl)]
 have e1:(Int.ofNat i:Int) = (i:Int):=rfl
 have e2:(Int.ofNat j:Int) = (j:Int):=rfl
 have e3:(Int.ofNat n:Int) = (n:Int):=rfl
 rw [dT (show (0:Int)<=Int.ofNat i by omega),dT (show Int.ofNat i<Int.ofNat n by omega),dT (show (0:Int)<=Int.ofNat j by omega),dT (show Int.ofNat j<Int.ofNat n by omega)]
 simp only [Bool.and_self,cond_true]
 exact bift (args_yes41 m1) rfl
end Go.Ab

