/- A part of the proof: nothing is assumed. -/
import Derived.Test.YtlaganadekpcjaaP12
import Derived.Test.YtlaganadekpcjaaP13
import Derived.Test.YtlaganadekpcjaaP10
set_option linter.all false
namespace Go.Ab
open Go.Proofs
def v8q (k n:Nat) (l:T) (i:Nat):List T:=[.int .i64 (k:Nat),.int .i64 (n:Nat),l,.int .i64 (i:Nat)]
theorem b8z (k n:Nat):codeL P41 G41 A41 noneO 0 8 [] (nav [0,0,2,1,2,0,1,2,0,0,2,1,2,2]) [1,2,3,4] (v8q k n .nils 0) [] [1,2,3,4] =
(
 some ((.normal,[.int .i64 ((IntKind.i64.wrap (IntKind.i64.wrap (IntKind.i64.wrap (Int.ofNat k * (31:Int))+(0:Int))+(11:Int))).tmod 100003),.int .i64 (.ofNat n),.own 1 0 0 1
 none,.int .i64 1],[tb9 [.int .u8 (IntKind.u8.wrap ((Int.ofNat k).tmod 9)),.int .u8 (IntKind.u8.wrap ((IntKind.i64.wrap ((Int.ofNat k).tdiv (9:Int))).tmod 24)),.int .u8 (IntKind.u8.wrap ((IntKind.i64.wrap ((Int.ofNat k).tdiv (5:Int))).tmod 7)),.int .u8 (IntKind.u8.wrap (Int.ofNat k))],jb (0:Nat) (1:Nat) fun j=>[[T.int .u8 (IntKind.u8.wrap ((Int.ofNat k).tmod (9:Int))),T.int .u8 (IntKind.u8.wrap ((IntKind.i64.wrap ((Int.ofNat k).tdiv (9:Int))).tmod (24:Int))),T.int .u8 (IntKind.u8.wrap ((IntKind.i64.wrap ((Int.ofNat k).tdiv (5:Int))).tmod (7:Int))),T.int .u8 (IntKind.u8.wrap (Int.ofNat k))]].getD (0+j) []]))):=by kernel_rfl
theorem b8i (k n i m v:Nat) (get:Nat->List T):codeL P41 G41 A41 noneO 0 8 [] (nav [0,0,2,1,2,0,1,2,0,0,2,1,2,2]) [1,2,3,4] (v8q k n (.own 0 v 0 m none) i) [jb v m get] [1,2,3,4] =
(
 bif decide (Int.ofNat i<5) then
 bif v==v then
 bif ((0:Nat)+m).ble m then
 bif ((m+(1:Nat)) * (5:Nat)).ble 70368744177664 then
 bif ((0:Nat)+m+(1:Nat)).ble m then
 some ((.normal,[.int .i64 ((IntKind.i64.wrap (IntKind.i64.wrap (IntKind.i64.wrap (Int.ofNat k * (31:Int))+IntKind.i64.wrap ((7:Int) * Int.ofNat i))+(11:Int))).tmod 100003),.int .i64 (.ofNat n),.own 0 v 0 (m+1)
 none,.int .i64 (IntKind.i64.wrap (Int.ofNat i+1))],[jb v m fun j =>
 bif ((0:Nat)+m).ble j&&j.blt (0+m+1) then [[T.int .u8 (IntKind.u8.wrap ((Int.ofNat k).tmod (9:Int))),T.int .u8 (IntKind.u8.wrap ((IntKind.i64.wrap ((Int.ofNat k).tdiv (9:Int))).tmod (24:Int))),T.int .u8 (IntKind.u8.wrap ((IntKind.i64.wrap ((Int.ofNat k).tdiv (5:Int))).tmod (7:Int))),T.int .u8 (IntKind.u8.wrap (Int.ofNat k))]].getD ((0:Nat)+(j - (0+m))) []
 else get j,tb9 [.int .u8 (IntKind.u8.wrap ((Int.ofNat k).tmod 9)),.int .u8 (IntKind.u8.wrap ((IntKind.i64.wrap ((Int.ofNat k).tdiv (9:Int))).tmod 24)),.int .u8 (IntKind.u8.wrap ((IntKind.i64.wrap ((Int.ofNat k).tdiv (5:Int))).tmod 7)),.int .u8 (IntKind.u8.wrap (Int.ofNat k))]]))
 else
 some ((.normal,[.int .i64 ((IntKind.i64.wrap (IntKind.i64.wrap (IntKind.i64.wrap (Int.ofNat k * (31:Int))+IntKind.i64.wrap ((7:Int) * Int.ofNat i))+(11:Int))).tmod 100003),.int .i64 (.ofNat n),.own 0 (v+1) (0:Nat) (m+1)
 none,.int .i64 (IntKind.i64.wrap (Int.ofNat i+1))],[jb (v+1) (m+1) fun j =>
 bif j.blt m then get (0+j)
 else [[T.int .u8 (IntKind.u8.wrap ((Int.ofNat k).tmod (9:Int))),T.int .u8 (IntKind.u8.wrap ((IntKind.i64.wrap ((Int.ofNat k).tdiv (9:Int))).tmod (24:Int))),T.int .u8 (IntKind.u8.wrap ((IntKind.i64.wrap ((Int.ofNat k).tdiv (5:Int))).tmod (7:Int))),T.int .u8 (IntKind.u8.wrap (Int.ofNat k))]].getD ((0:Nat)+(j - m)) [],tb9 [.int .u8 (IntKind.u8.wrap ((Int.ofNat k).tmod 9)),.int .u8 (IntKind.u8.wrap ((IntKind.i64.wrap ((Int.ofNat k).tdiv (9:Int))).tmod 24)),.int .u8 (IntKind.u8.wrap ((IntKind.i64.wrap ((Int.ofNat k).tdiv (5:Int))).tmod 7)),.int .u8 (IntKind.u8.wrap (Int.ofNat k))]]))
 else none else none else none else
 some ((.exit 2,[.int .i64 (.ofNat k),.int .i64 (.ofNat n),.own 0 v 0 m
 none,.int .i64 (.ofNat i)],[jb v m get]))):=by kernel_rfl
def kk (k:Nat):Nat->Nat
 | 0=>k
 | i+1=>(kk k i * 31+7 * i+11) % 100003
theorem kk_lt (k:Nat) (hk:k<100003):∀ i,kk k i<100003
 | 0=>hk
 | i+1=>Nat.mod_lt _ (by decide)
def u8 (k:Nat):List T:=uJ (k % 9) (k / 9 % 24) (k / 5 % 7) (k % 256)
def g8 (k j:Nat):List T:=u8 (kk k j)
theorem n81 (k:Nat):IntKind.u8.wrap ((Int.ofNat k).tmod (9:Int)) = ((k % 9:Nat):Int):=by
 rw [show (Int.ofNat k).tmod (9:Int) = ((k % 9:Nat):Int) from (Int.ofNat_tmod k 9).symm,wr8 (by omega) (by omega)]
theorem n82 (k:Nat) (hk:k<100003):IntKind.u8.wrap ((IntKind.i64.wrap ((Int.ofNat k).tdiv (9:Int))).tmod (24:Int)) = ((k / 9 % 24:Nat):Int):=by
 rw [show (Int.ofNat k).tdiv (9:Int) = ((k / 9:Nat):Int) from rfl,wr64 (by omega) (by omega),show ((k / 9:Nat):Int).tmod (24:Int) = ((k / 9 % 24:Nat):Int) from rfl,wr8 (by omega) (by omega)]
theorem n83 (k:Nat) (hk:k<100003):IntKind.u8.wrap ((IntKind.i64.wrap ((Int.ofNat k).tdiv (5:Int))).tmod (7:Int)) = ((k / 5 % 7:Nat):Int):=by
 rw [show (Int.ofNat k).tdiv (5:Int) = ((k / 5:Nat):Int) from rfl,wr64 (by omega) (by omega),show ((k / 5:Nat):Int).tmod (7:Int) = ((k / 5 % 7:Nat):Int) from rfl,wr8 (by omega) (by omega)]
theorem n84 (k:Nat):IntKind.u8.wrap (Int.ofNat k) = ((k % 256:Nat):Int):=rfl
theorem n85 (k i:Nat) (hk:k<100003) (hi:i<5):(IntKind.i64.wrap (IntKind.i64.wrap (IntKind.i64.wrap (Int.ofNat k * (31:Int))+IntKind.i64.wrap ((7:Int) * Int.ofNat i))+(11:Int))).tmod (100003:Int) = (((k * 31+7 * i+11) % 100003:Nat):Int):=by
 have e1:IntKind.i64.wrap (Int.ofNat k * (31:Int)) = ((k * 31:Nat):Int):=by rw [wr64 (by rw [ofNatE]; omega) (by rw [ofNatE]; omega)]; rfl
 have e2:IntKind.i64.wrap ((7:Int) * Int.ofNat i) = ((7 * i:Nat):Int):=by rw [wr64 (by rw [ofNatE]; omega) (by rw [ofNatE]; omega)]; rfl
 rw [e1,e2,wr64 (x:=((k * 31:Nat):Int)+((7 * i:Nat):Int)) (by omega) (by omega),wr64 (by omega) (by omega)]
 rfl
theorem n86 (k:Nat) (hk:k<100003):(IntKind.i64.wrap (IntKind.i64.wrap (IntKind.i64.wrap (Int.ofNat k * (31:Int))+(0:Int))+(11:Int))).tmod (100003:Int) = (((k * 31+7 * 0+11) % 100003:Nat):Int):=n85 k 0 hk (by decide)
def l8:Nat->T
 | 0=>.nils
 | i+1=>.own 0 i 0 (i+1) none
def hh8q (k:Nat):Nat->Heap
 | 0=>[]
 | i+1=>[jb i (i+1) (g8 k)]
def vv8 (k n i:Nat):List T:=v8q (kk k i) n (l8 i) i
theorem list8 (k n:Nat) (hk:k<100003):Pz P41 G41 A41 8 [] [0,2,1,2,0,1,2,0,0,2,1,2,2] [1,2,3,4] (v8q k n .nils 0) [] (.exit 2) [1,2,3,4] (v8q (kk k 5) n (.own 0 4 0 5 none) 5) [jb 4 5 (g8 k)]:=by
 refine Pz.count (by kernel_rfl) (vv8 k n) (hh8q k) (n:=5) (by simp) (fun i hi=>?_) ?_
 ·have hki:=kk_lt k hk i
  cases i with
  | zero =>
   have c:=b8z k n
   rw [n81,n82 _ hk,n83 _ hk,n84,n86 _ hk] at c
   exact Pz.post (Pz.run hm41 none_ok (m:=0) (by kernel_rfl) loops0 c) fun nt=>.canonS [1] rfl rfl rfl (.cons ⟨rfl,rfl,rfl,id,fun j hj=>by
    obtain rfl:j = 0:=by have:j<1:=hj; omega
    rfl⟩ .nil)
  | succ i =>
   have c:=b8i (kk k (i+1)) n (i+1) (i+1) i (g8 k)
   rw [n81,n82 _ hki,n83 _ hki,n84,n85 _ _ hki hi,wr64 (by rw [ofNatE]; omega) (by rw [ofNatE]; omega)] at c
   have c2:=c.trans (BT (BT (BT (BT (BF rfl)))))
   exact Pz.post (Pz.run hm41 none_ok (m:=0) (by kernel_rfl) loops0 c2) fun nt=>.canonS [0] rfl rfl rfl (.cons ⟨rfl,rfl,rfl,id,fun j hj=>by
    have hj:j<i+1+1:=hj
    show g8 k j = (bif j.blt (i+1) then g8 k (0+j) else [u8 (kk k (i+1))].getD (0+(j - (i+1))) [])
    by_cases q:j<i+1
    ·rw [bltT q,Nat.zero_add]; rfl
    ·obtain rfl:j = i+1:=by omega
     rw [bltF (Nat.le_refl _),Nat.sub_self]; rfl⟩ .nil)
 ·have c:=b8i (kk k 5) n 5 5 4 (g8 k)
  exact Pz.run hm41 none_ok (m:=0) (by kernel_rfl) loops0 (c.trans (BF rfl))
open Go.Proofs
def yes8 (_:List T):Option T:=some (.bool true)
noncomputable def K8q (p3 p4 p5 p6 p7:List T->T->Prop):Orc:=((((noneO.add 3 (callF p3 yes8)).add 4 (callF p4 yes8)).add 5 (callF p5 yes8)).add 6 (callF p6 yes8)).add 7 (callF p7 yes8)
def gJ (t d a o:Nat->Nat) (j:Nat):List T:=uJ (t j) (d j) (a j) (o j)
noncomputable def r11:List Oper:=opsAt P41 8 [1,2,2,0,1,2,0,0,2,1,2,2]
theorem c8p (p3 p4 p5 p6 p7:List T->T->Prop) (k n:Nat) (get:Nat->List T):runOps P41 (K8q p3 p4 p5 p6 p7) G41 (A41 8).prom (ntOf P41 8) r11 (r11.take 4) (mkSt [1,2,3] [.int .i64 (k:Nat),.int .i64 (n:Nat),.own 0 4 0 5 none] [jb 4 5 get]) (fun s _=>some (getL s [1,2,3,40],s.h)) =
(
 bif decF (p4 [.view 4 5 (fun j=>get (0+j))
 none] (.bool true)) then
 some (([.int .i64 (.ofNat k),.int .i64 (.ofNat n),.own 0 4 0 5
 none,.bool false],[jb (4:Nat) (5:Nat) get]))
 else
 none):=by kernel_rfl
theorem c8a (p3 p4 p5 p6 p7:List T->T->Prop) (k n:Nat) (t d a o:Nat->Nat):runOps P41 (K8q p3 p4 p5 p6 p7) G41 (A41 8).prom (ntOf P41 8) r11 (r11.drop 7) (mkSt [1,2,3,40,43] [.int .i64 (k:Nat),.int .i64 (n:Nat),.own 0 5 0 5 none,.bool false,.own 0 5 0 10 none] [jb 5 10 (gJ t d a o)]) (fun s _=>some (getL s [1,2,76],s.h)) =
(
 bif decF (p5 [.view 4 10 (fun j=>gJ t d a o (0+j))
 none] (.bool true)) then
 bif decide ((Int.ofNat n).tmod 2 = 0) then
 bif decF (p6 [.view 4 5 (fun j=>gJ t d a o (0+j))
 none,.int .u8 (IntKind.u8.wrap (Int.ofNat n)),.bool true] (.bool true)) then
 bif decF (p7 [.view 4 5 (fun j=>gJ t d a o (0+j))
 none,.int .u8 (IntKind.u8.wrap (Int.ofNat n)),.agg (gJ t d a o (2:Nat))] (.bool true)) then
 bif decF (p3 [.view 4 5 (fun j=>gJ t d a o (0+j))
 none,.view 1 4 (fun j=>[[T.int .u8 (IntKind.u8.wrap (Int.ofNat k))],[T.int .u8 (1:Int)],[T.int .u8 (IntKind.u8.wrap (Int.ofNat n))],[T.int .u8 (3:Int)]].getD (0+j) []) (some 4)] (.bool true)) then
 some (([.int .i64 (.ofNat k),.int .i64 (.ofNat n),.bool false],[jb (5:Nat) (10:Nat) fun j=>gJ t d a o j,.mk 0 1 4 (fun j=>[[T.int .u8 (IntKind.u8.wrap (Int.ofNat k))],[T.int .u8 (1:Int)],[T.int .u8 (IntKind.u8.wrap (Int.ofNat n))],[T.int .u8 (3:Int)]].getD j []) true true]))
 else none else none else none else
 bif decF (p6 [.view 4 5 (fun j=>gJ t d a o (0+j))
 none,.int .u8 (IntKind.u8.wrap (Int.ofNat n)),.bool false] (.bool true)) then
 bif decF (p7 [.view 4 5 (fun j=>gJ t d a o (0+j))
 none,.int .u8 (IntKind.u8.wrap (Int.ofNat n)),.agg (gJ t d a o (2:Nat))] (.bool true)) then
 bif decF (p3 [.view 4 5 (fun j=>gJ t d a o (0+j))
 none,.view 1 4 (fun j=>[[T.int .u8 (IntKind.u8.wrap (Int.ofNat k))],[T.int .u8 (1:Int)],[T.int .u8 (IntKind.u8.wrap (Int.ofNat n))],[T.int .u8 (3:Int)]].getD (0+j) []) (some 4)] (.bool true)) then
 some (([.int .i64 (.ofNat k),.int .i64 (.ofNat n),.bool false],[jb (5:Nat) (10:Nat) fun j=>gJ t d a o j,.mk 0 1 4 (fun j=>[[T.int .u8 (IntKind.u8.wrap (Int.ofNat k))],[T.int .u8 (1:Int)],[T.int .u8 (IntKind.u8.wrap (Int.ofNat n))],[T.int .u8 (3:Int)]].getD j []) true true]))
 else none else none else none else
 none):=by kernel_rfl
theorem c8b (p3 p4 p5 p6 p7:List T->T->Prop) (k n:Nat) (t d a o:Nat->Nat) (get2:Nat->List T):runOps P41 (K8q p3 p4 p5 p6 p7) G41 (A41 8).prom (ntOf P41 8) r11 (r11.drop 7) (mkSt [1,2,3,40,43] [.int .i64 (k:Nat),.int .i64 (n:Nat),.own 0 4 0 5 none,.bool false,.own 1 0 0 10 none] [jb 4 5 (gJ t d a o),jb 0 10 get2]) (fun s _=>some (getL s [1,2,76],s.h)) =
(
 bif decF (p5 [.view 4 10 (fun j=>get2 (0+j))
 none] (.bool true)) then
 bif decide ((Int.ofNat n).tmod 2 = 0) then
 bif decF (p6 [.view 4 5 (fun j=>gJ t d a o (0+j))
 none,.int .u8 (IntKind.u8.wrap (Int.ofNat n)),.bool true] (.bool true)) then
 bif decF (p7 [.view 4 5 (fun j=>gJ t d a o (0+j))
 none,.int .u8 (IntKind.u8.wrap (Int.ofNat n)),.agg (gJ t d a o (2:Nat))] (.bool true)) then
 bif decF (p3 [.view 4 5 (fun j=>gJ t d a o (0+j))
 none,.view 1 4 (fun j=>[[T.int .u8 (IntKind.u8.wrap (Int.ofNat k))],[T.int .u8 (1:Int)],[T.int .u8 (IntKind.u8.wrap (Int.ofNat n))],[T.int .u8 (3:Int)]].getD (0+j) []) (some 4)] (.bool true)) then
 some (([.int .i64 (.ofNat k),.int .i64 (.ofNat n),.bool false],[jb (4:Nat) (5:Nat) fun j=>gJ t d a o j,jb (0:Nat) (10:Nat) get2,.mk 0 1 4 (fun j=>[[T.int .u8 (IntKind.u8.wrap (Int.ofNat k))],[T.int .u8 (1:Int)],[T.int .u8 (IntKind.u8.wrap (Int.ofNat n))],[T.int .u8 (3:Int)]].getD j []) true true]))
 else none else none else none else
 bif decF (p6 [.view 4 5 (fun j=>gJ t d a o (0+j))
 none,.int .u8 (IntKind.u8.wrap (Int.ofNat n)),.bool false] (.bool true)) then
 bif decF (p7 [.view 4 5 (fun j=>gJ t d a o (0+j))
 none,.int .u8 (IntKind.u8.wrap (Int.ofNat n)),.agg (gJ t d a o (2:Nat))] (.bool true)) then
 bif decF (p3 [.view 4 5 (fun j=>gJ t d a o (0+j))
 none,.view 1 4 (fun j=>[[T.int .u8 (IntKind.u8.wrap (Int.ofNat k))],[T.int .u8 (1:Int)],[T.int .u8 (IntKind.u8.wrap (Int.ofNat n))],[T.int .u8 (3:Int)]].getD (0+j) []) (some 4)] (.bool true)) then
 some (([.int .i64 (.ofNat k),.int .i64 (.ofNat n),.bool false],[jb (4:Nat) (5:Nat) fun j=>gJ t d a o j,jb (0:Nat) (10:Nat) get2,.mk 0 1 4 (fun j=>[[T.int .u8 (IntKind.u8.wrap (Int.ofNat k))],[T.int .u8 (1:Int)],[T.int .u8 (IntKind.u8.wrap (Int.ofNat n))],[T.int .u8 (3:Int)]].getD j []) true true]))
 else none else none else none else
 none):=by kernel_rfl
open Go.Proofs
inductive P9 (R:JR) (c:Option Nat) (i:Nat):List T->Heap->Prop
 | z (hi:i = 0):P9 R c i (v9 R c .nils (i:Nat)) []
 | a (hi:0<i) (v nd:Nat) (get:Nat->List T) (hn:i<=nd) (hg:∀ j,j<i->get j = gc R j):P9 R c i (v9 R c (.own 0 v 0 i none) (i:Nat)) [jb v nd get]
inductive E9 (R:JR) (m:Nat):List T->Heap->Prop
 | z (hi:m = 0):E9 R m [.nils] []
 | a (v nd:Nat) (get:Nat->List T) (hn:m<=nd) (hg:∀ j,j<m->get j = gc R j):E9 R m [.own 0 v 0 m none] [jb v nd get]
theorem x9z (R:JR) (c:Option Nat) (i:Nat) (hi:R.n<=i ∨ 40<=i):Last P41 G41 (A41 9) 9 3 0 (v9 R c .nils i) [] (.exit 0) [.nils] []:=by
 refine Last.mk0 (A:=A41) (m:=0) none_ok rfl rfl loops0 (by simp) (Eq.trans (show iterR P41 G41 A41 noneO 0 9 [] 3 (v9 R c .nils i) [] =
(
 bif decide (Int.ofNat i<Int.ofNat R.n) then
 bif decide (Int.ofNat i<40) then
 bif decide (0<=Int.ofNat i)&&decide (Int.ofNat i<Int.ofNat R.n) then none else none else
 some ((.exit 0,[.nils],[]))
 else
 some ((.exit 0,[.nils],[]))) from by kernel_rfl) ?_) (.refl _)
 refine bifd (fun q=>?_) fun q=>rfl
 rw [ofNatE,ofNatE] at q
 refine biff (by simp only [ofNatE,decide_eq_true_eq]; omega) rfl
theorem x9a (R:JR) (c:Option Nat) (i v nd:Nat) (get:Nat->List T) (hi:R.n<=i ∨ 40<=i):Last P41 G41 (A41 9) 9 3 0 (v9 R c (.own 0 v 0 i none) i) [jb v nd get] (.exit 0) [.own 0 v 0 i none] [jb v nd get]:=by
 refine Last.mk0 (A:=A41) (m:=0) none_ok rfl rfl loops0 (by simp) (Eq.trans (show iterR P41 G41 A41 noneO 0 9 [] 3 (v9 R c (.own 0 v 0 i none) i) [jb v nd get] =
(
 bif decide (Int.ofNat i<Int.ofNat R.n) then
 bif decide (Int.ofNat i<40) then
 bif decide (0<=Int.ofNat i)&&decide (Int.ofNat i<Int.ofNat R.n) then none else none else
 some ((.exit 0,[.own 0 v 0 i
 none],[.mk v 4 nd get true false]))
 else
 some ((.exit 0,[.own 0 v 0 i
 none],[.mk v 4 nd get true false]))) from by kernel_rfl) ?_) (.refl _)
 refine bifd (fun q=>?_) fun q=>rfl
 rw [ofNatE,ofNatE] at q
 refine biff (by simp only [ofNatE,decide_eq_true_eq]; omega) rfl
theorem l9 (R:JR) (c:Option Nat) (hR:R.Ok):∃ vs1 h1,E9 R (Nat.min R.n 40) vs1 h1/\LoopOk P41 G41 (A41 9) 9 3 (litS (v9 R c .nils 0) [] (.exit 0) vs1 h1):=by
 have hmin:Nat.min R.n 40<=R.n/\Nat.min R.n 40<=40/\(Nat.min R.n 40 = R.n ∨ Nat.min R.n 40 = 40):=by
  have:Nat.min R.n 40 = min R.n 40:=rfl
  omega
 generalize Nat.min R.n 40 = m at *
 obtain ⟨e,vs1,h1,⟨rfl,hE⟩,hl⟩:=loop_exists (P:=P41) (Gl:=G41) (an:=A41 9) hm41 (f:=9) (r:=3) (k:=0) (by kernel_rfl) (fun n vs h=>∃ i,i<=m/\n = m - i/\P9 R c i vs h) (fun e vs h=>e = .exit 0/\E9 R m vs h)
  (fun n vs h ⟨i,hi,hn,hp⟩=>by
   rcases Nat.lt_or_ge i m with q | q
   ·left
    cases hp with
    | z hz =>
     subst hz
     exact ⟨m - 1,_,_,by omega,s9z R c hR (by omega),1,by omega,rfl,.a (by omega) _ _ _ (Nat.le_refl _) fun j hj=>by
      obtain rfl:j = 0:=by omega
      rfl⟩
    | a h0 v nd get hnd hg =>
     obtain ⟨v',nd',get',q1,q2,q3⟩:=s9a R c hR i v nd get (by omega) (by omega) hnd
     refine ⟨m - (i+1),_,_,by omega,q3,i+1,by omega,rfl,.a (by omega) _ _ _ q1 fun j hj=>?_⟩
     rw [q2 j hj]
     unfold ap9
     by_cases qj:j = i
     ·rw [if_pos qj,qj]
     ·rw [if_neg qj,hg j (by omega)]
   ·right
    obtain rfl:i = m:=by omega
    cases hp with
    | z hz=>exact ⟨_,_,_,x9z R c i (by omega),rfl,.z hz⟩
    | a _ v nd get hnd hg=>exact ⟨_,_,_,x9a R c i v nd get (by omega),rfl,.a v nd get hnd hg⟩)
  (n:=m) (vs:=v9 R c .nils 0) (h:=[]) rfl ⟨0,by omega,by omega,.z rfl⟩
 exact ⟨vs1,h1,hE,hl⟩
theorem listT (R:JR) (c:Option Nat) (hR:R.Ok):ToldOk P41 G41 9 [R.v c] (.new (jv (R.L (Nat.min R.n 40)) none)):=by
 obtain ⟨vs1,h1,hE,hl⟩:=l9 R c hR
 generalize Nat.min R.n 40 = m at *
 cases hE with
 | z hz =>
  subst hz
  have:=stepL_told (args:=[R.v c]) (r:=.nils) hm41 hn41 none_ok (K:=noneO) (A:=A41) (m:=0) (by kernel_rfl) (loops1 hl) (Eq.trans (show stepL P41 G41 A41 noneO 0 9 [(3,litS (v9 R c .nils 0) [] (.exit 0) [.nils] [])] [R.v c] =
(
 bif weakF [.view 4 R.n (fun j=>[.int .u8 (.ofNat (R.t j)),.int .u8 (.ofNat (R.d j)),.int .u8 (.ofNat (R.a j)),.int .u8 (.ofNat (R.o j))]) c,.nils,.int .i64 0] [] [.view 4 R.n (fun j=>[.int .u8 (.ofNat (R.t j)),.int .u8 (.ofNat (R.d j)),.int .u8 (.ofNat (R.a j)),.int .u8 (.ofNat (R.o j))]) c,.nils,.int .i64 0] [] then
 some (.nils)
 else
 none) from by kernel_rfl) (bift (weakF_of ⟨rfl,.refl _⟩) rfl))
  exact this.resTo (.niln _ _ _ (.inl rfl))
 | a v nd get hn hg =>
  have:=(stepL_told (args:=[R.v c]) (r:=.fresh true 4 nd (fun j=>get (0+j)) m none) hm41 hn41 none_ok (K:=noneO) (A:=A41) (m:=0) (by kernel_rfl) (loops1 hl) (Eq.trans (show stepL P41 G41 A41 noneO 0 9 [(3,litS (v9 R c .nils 0) [] (.exit 0) [.own 0 v 0 m none] [jb v nd get])] [R.v c] =
(
 bif weakF [.view 4 R.n (fun j=>[.int .u8 (.ofNat (R.t j)),.int .u8 (.ofNat (R.d j)),.int .u8 (.ofNat (R.a j)),.int .u8 (.ofNat (R.o j))]) c,.nils,.int .i64 0] [] [.view 4 R.n (fun j=>[.int .u8 (.ofNat (R.t j)),.int .u8 (.ofNat (R.d j)),.int .u8 (.ofNat (R.a j)),.int .u8 (.ofNat (R.o j))]) c,.nils,.int .i64 0] [] then
 some (bif v==v&&((0:Nat)+m).ble nd then .fresh true (4:Nat) (nd - 0) (fun j=>get (0+j)) m none else .undef)
 else
 none) from by kernel_rfl) (by
   refine bift (weakF_of ⟨rfl,.refl _⟩) ?_
   (repeat (first | (refine bift (by first | assumption | omega | (simp (disch:=omega) only [wr64,wr8,wr16,wr32,ofNatE,toNatE,toNatE1,Bool.and_eq_true,Bool.or_eq_true,Bool.not_eq_true',decide_eq_true_eq,decide_eq_false_iff_not,nble,nblt,nbeq,Nat.zero_add,Nat.add_zero,Int.zero_add,Int.add_zero,List.length_cons,List.length_nil,true_and,and_true,Nat.reduceAdd,and_self]; done) | (simp (disch:=omega) only [wr64,wr8,wr16,wr32,ofNatE,toNatE,toNatE1,Bool.and_eq_true,Bool.or_eq_true,Bool.not_eq_true',decide_eq_true_eq,decide_eq_false_iff_not,nble,nblt,nbeq,Nat.zero_add,Nat.add_zero,Int.zero_add,Int.add_zero,List.length_cons,List.length_nil,true_and,and_true,Nat.reduceAdd,and_self]; omega)) ?_) | (refine biff (by first | assumption | (simp (disch:=omega) only [wr64,wr8,wr16,wr32,ofNatE,toNatE,toNatE1,Bool.and_eq_true,Bool.or_eq_true,Bool.not_eq_true',decide_eq_true_eq,decide_eq_false_iff_not,nble,nblt,nbeq,Nat.zero_add,Nat.add_zero,Int.zero_add,Int.add_zero,List.length_cons,List.length_nil,true_and,and_true,Nat.reduceAdd,and_self]; done) | (simp (disch:=omega) only [wr64,wr8,wr16,wr32,ofNatE,toNatE,toNatE1,Bool.and_eq_true,Bool.or_eq_true,Bool.not_eq_true',decide_eq_true_eq,decide_eq_false_iff_not,nble,nblt,nbeq,Nat.zero_add,Nat.add_zero,Int.zero_add,Int.add_zero,List.length_cons,List.length_nil,true_and,and_true,Nat.reduceAdd,and_self]; omega)) ?_)))
   first | rfl | (simp (disch:=omega) only [wr64,wr8,wr16,wr32,ofNatE,Nat.zero_add,bleT,bltT,dT,dF,Bool.true_and,Bool.and_true,Bool.and_self,cond_true,cond_false,Nat.sub_zero,beq_self_eq_true]; done) | (simp (disch:=omega) only [wr64,wr8,wr16,wr32,ofNatE,Nat.zero_add,bleT,bltT,dT,dF,Bool.true_and,Bool.and_true,Bool.and_self,cond_true,cond_false,Nat.sub_zero,beq_self_eq_true]; rfl)))).frz
  refine this.resTo (.new (.view (.inl rfl) fun j hj=>?_))
  rw [Nat.zero_add,hg j hj]
  exact .refl _
theorem ordEx:ordL exL.du 4 = [1,0,3,2]:=by
 have e:List.range 4 = [0,1,2,3]:=rfl
 unfold ordL
 rw [e]
 simp [List.mergeSort,List.MergeSort.Internal.splitInTwo,List.merge,dueLt,exL]
theorem wstEx1:wst exL (fun j=>[1,0,3,2].getD j 0) 4 = 2:=by decide +kernel
theorem wstEx2:wst exL (fun j=>j) 4 = 4:=by decide +kernel
theorem pstEx:pst exL (fun j=>[1,0,3,2].getD j 0) 4 = ([1,3,2],6,[0]):=by decide +kernel
theorem srtEx:srtN [0] = [0]:=by decide +kernel
theorem abEx:abL 0 2 = [0,1]:=by decide +kernel
theorem sltEx:(List.range 4).map (slt exL (fun j=>[1,0,3,2].getD j 0) 2) = [(0,0,2),(1,0,4),(0,2,3),(0,3,6)]:=by decide +kernel
theorem prmEx:(gvR (plst exL (fun j=>[1,0,3,2].getD j 0) 2 4) 2 0 0 2).2.2 = 6:=by decide +kernel
open Go.Proofs
def o4:T:=.view 1 4 (fun j=>[.int .i64 ([1,0,3,2].getD j 0)]) (some 4)
def d3:T:=.view 1 3 (fun j=>[.int .i64 ([1,3,2].getD j 0)]) (some 3)
def e1':T:=.view 1 1 (fun j=>[.int .i64 ([0].getD j 0)]) (some 1)
def s4:T:=.view 4 4 (fun j=>[[T.int .i64 1,.int .i64 0,.int .i64 0,.int .i64 2],[T.int .i64 0,.int .i64 1,.int .i64 0,.int .i64 4],[T.int .i64 3,.int .i64 0,.int .i64 2,.int .i64 3],[T.int .i64 2,.int .i64 0,.int .i64 3,.int .i64 6]].getD j []) (some 4)
def cellN:List T->Nat
 | [.int _ z]=>z.toNat
 | _=>0
def lateVF (L:JL):List T->Int
 | [_,.view _ m g _]=>wst L (fun j=>cellN (g j)) m
 | _=>0
def gE:Nat->List T:=fun j=>[.int .i64 (exL.tm j),.int .i64 (exL.du j),.int .i64 (exL.af j),.int .u32 (exL.on j)]
noncomputable def callI (p:List T->Prop) (vF:List T->Int) (args:List T):Tree:=.ite (propF p args) (.ret (.tup [.int .i64 (vF args),.int .i64 0])) .none
noncomputable def K12 (xF:T) (vF:List T->Int) (p21 p10 p11 p13 p16 p17 p15:List T->Prop):Orc :=
 ((((((noneO.add 21 (callP p21 (.new xF))).add 10 (callP p10 (.tup [o4,.int .i64 0]))).add 11 (callI p11 vF)).add 13 (callP p13 (.tup [.new d3,.new e1',.int .i64 0]))).add 16 (callP p16 (.tup [s4,.int .i64 0]))).add 17 (callP p17 (.tup [.int .i64 6,.int .i64 0]))).add 15 (callP p15 (.bool true))
theorem callI_told {P:Program} {Gl:Nat->Option (List T)} {f:FuncId} {p:List T->Prop} {vF:List T->Int} (h:∀ a,p a->ToldOk P Gl f a (.tup [.int .i64 (vF a),.int .i64 0])):∀ args r,(callI p vF args).run some = some r->ToldOk P Gl f args r:=by
 intro args r hr
 unfold callI at hr
 simp only [Tree.run] at hr
 obtain ⟨hc,hr⟩:=bif_none hr
 obtain rfl:=Option.some.inj hr
 exact h _ (propF_iff.1 hc)
theorem told_predI (P:Program) (Gl:Nat->Option (List T)) (f:FuncId) (vF:List T->Int):∃ p:List T->Prop,p = fun z=>ToldOk P Gl f z (.tup [.int .i64 (vF z),.int .i64 0]):=⟨_,rfl⟩
theorem predI_yes {P:Program} {Gl:Nat->Option (List T)} {f:FuncId} {vF:List T->Int} {p:List T->Prop} (h:p = fun z=>ToldOk P Gl f z (.tup [.int .i64 (vF z),.int .i64 0])) {a:List T} {v:Int} (t:ToldOk P Gl f a (.tup [.int .i64 v,.int .i64 0])) (hv:vF a = v):propF p a = true:=propF_iff.2 (by subst hv; rw [h]; exact t)
theorem predI_told {P:Program} {Gl:Nat->Option (List T)} {f:FuncId} {vF:List T->Int} {p:List T->Prop} (h:p = fun z=>ToldOk P Gl f z (.tup [.int .i64 (vF z),.int .i64 0])):∀ a,p a->ToldOk P Gl f a (.tup [.int .i64 (vF a),.int .i64 0]):=fun a ha=>by rw [h] at ha; exact ha
theorem c4 {p:Nat->Prop} (h0:p 0) (h1:p 1) (h2:p 2) (h3:p 3):∀ j,j<4->p j:=fun j hj=>by
 obtain rfl | rfl | rfl | rfl:j = 0 ∨ j = 1 ∨ j = 2 ∨ j = 3:=by omega
 all_goals assumption
theorem c3 {p:Nat->Prop} (h0:p 0) (h1:p 1) (h2:p 2):∀ j,j<3->p j:=fun j hj=>by
 obtain rfl | rfl | rfl:j = 0 ∨ j = 1 ∨ j = 2:=by omega
 all_goals assumption
theorem c1 {p:Nat->Prop} (h0:p 0):∀ j,j<1->p j:=fun j hj=>by
 obtain rfl:j = 0:=by omega
 assumption
theorem oNEx:oN exL = fun j=>[1,0,3,2].getD j 0:=by
 unfold oN
 rw [show exL.n = 4 from rfl,ordEx]
theorem ex10:ToldOk P41 G41 10 [.view 4 4 gE (some 4)] (.tup [o4,.int .i64 0]):=by
 have h:ToldOk P41 G41 10 [.view 4 4 gE (some 4)] (.tup [iv 4 (ordI exL) (some 4),.int .i64 0]):=orderT exL (some 4) exOk
 have e:ordI exL = fun j=>(([1,0,3,2].getD j 0:Nat):Int):=by
  unfold ordI
  rw [show exL.n = 4 from rfl,ordEx]
 rw [e] at h
 exact h.tupTo (.cons (.view (.view (.inl rfl) (c4 (.refl _) (.refl _) (.refl _) (.refl _)))) (.cons (.refl _) .nil))
theorem ex11 (m:Nat) (o:Nat->Nat) (c2:Option Nat) (hm:m<=4) (ho:∀ j,j<m->o j<4) (hd:∀ i j,i<j->j<m->o i ≠ o j) (g:Nat->List T) (hg:∀ j,j<m->g j = [.int .i64 (o j:Nat)]):ToldOk P41 G41 11 [.view 4 4 gE (some 4),.view 1 m g c2] (.tup [.int .i64 (wst exL o m),.int .i64 0]):=by
 have h:ToldOk P41 G41 11 [.view 4 4 gE (some 4),ov m o c2] (.tup [.int .i64 (wst exL o m),.int .i64 0]):=lateT exL (some 4) m o c2 exOk (by omega) ho hd
 exact h.sim (.cons (.refl _) (.cons (.view (.inl rfl) fun j hj=>by rw [hg j hj]; exact .refl _) .nil))
theorem ex13:ToldOk P41 G41 13 [.view 4 4 gE (some 4)] (.tup [.new d3,.new e1',.int .i64 0]):=by
 have h:=punT exL (some 4) exOk (fun j=>[1,0,3,2].getD j 0) (fun j _=>by rw [show exL.n = 4 from rfl,ordEx])
 rw [show exL.n = 4 from rfl,pstEx,srtEx] at h
 have h:ToldOk P41 G41 13 [.view 4 4 gE (some 4)] (.tup [.new (lv [1,3,2]),.new (lv [0]),.int .i64 0]):=h
 refine h.tupTo (.cons (.new (.view (.inl rfl) fun j hj=>?_)) (.cons (.new (.view (.inl rfl) fun j hj=>?_)) (.cons (.refl _) .nil)))
 ·have hj:j<3:=hj
  obtain rfl | rfl | rfl:j = 0 ∨ j = 1 ∨ j = 2:=by omega
  all_goals exact .refl _
 ·have hj:j<1:=hj
  obtain rfl:j = 0:=by omega
  exact .refl _
theorem exAb:∀ i,i<exL.n->0<(abL (exL.on i) 2).length:=fun i _=>by
 show 0<(abL 0 2).length
 rw [abEx]; decide
theorem ex16:ToldOk P41 G41 16 [.view 4 4 gE (some 4),.int .i64 2] (.tup [s4,.int .i64 0]):=by
 have h:=PlanT exL (some 4) 2 exOk (by omega) exAb
 unfold svT scells at h
 rw [oNEx] at h
 have hs:=sltEx
 have e:∀ j,j<4->slt exL (fun j=>[1,0,3,2].getD j 0) 2 j = [((0:Int),(0:Int),(2:Int)),(1,0,4),(0,2,3),(0,3,6)].getD j (0,0,0):=fun j hj=>by
  rw [← hs,List.getD_eq_getElem?_getD,List.getElem?_map,List.getElem?_range hj]
  rfl
 refine h.tupTo (.cons (.view (.view (.inl rfl) (c4 ?_ ?_ ?_ ?_))) (.cons (.refl _) .nil))
 ·rw [e 0 (by omega)]; exact .refl _
 ·rw [e 1 (by omega)]; exact .refl _
 ·rw [e 2 (by omega)]; exact .refl _
 ·rw [e 3 (by omega)]; exact .refl _
theorem ex17:ToldOk P41 G41 17 [.view 4 4 gE (some 4),.int .i64 2,.agg [.int .i64 2,.int .i64 9,.int .i64 0,.int .u32 0]] (.tup [.int .i64 6,.int .i64 0]):=by
 have h:=PromT exL (some 4) 2 2 9 0 0 exOk (by decide) (by omega) exAb (by rw [abEx]; decide) (by omega) (by omega) (by omega) (by omega)
 have e:prm exL 2 2 0 0 = 6:=by
  unfold prm
  rw [oNEx]
  exact prmEx
 rw [e] at h
 exact h
theorem ex15 (n:Nat) (x:Nat->List T) (y:Nat->List T) (z:Nat->Int) (c:Option Nat) (hn:n<=4) (hx:∀ j,j<n->x j = [.int .i64 (z j)]) (hy:∀ j,j<n->y j = [.int .i64 (z j)]):ToldOk P41 G41 15 [.view 1 n x (some n),.view 1 n y c] (.bool true) :=
 (sameT n z z c (by omega) (fun _ _=>rfl)).sim (.cons (.view (.inl rfl) fun j hj=>by rw [hx j hj]; exact .refl _) (.cons (.view (.inl rfl) fun j hj=>by rw [hy j hj]; exact .refl _) .nil))
theorem livesT:ToldOk P41 G41 12 [] (.bool true):=by
 have h21:ToldOk P41 G41 21 [] (.new (.view 4 4 gE (some 4))):=exT
 have h10:=ex10
 have h11:=ex11
 have h13:=ex13
 have h16:=ex16
 have h17:=ex17
 generalize gE = g at *
 obtain ⟨p21,e21⟩:=told_pred P41 G41 21 (.new (.view 4 4 g (some 4)))
 obtain ⟨p10,e10⟩:=told_pred P41 G41 10 (.tup [o4,.int .i64 0])
 obtain ⟨p11,e11⟩:=told_predI P41 G41 11 (lateVF exL)
 obtain ⟨p13,e13⟩:=told_pred P41 G41 13 (.tup [.new d3,.new e1',.int .i64 0])
 obtain ⟨p16,e16⟩:=told_pred P41 G41 16 (.tup [s4,.int .i64 0])
 obtain ⟨p17,e17⟩:=told_pred P41 G41 17 (.tup [.int .i64 6,.int .i64 0])
 obtain ⟨p15,e15⟩:=told_pred P41 G41 15 (.bool true)
 refine stepL_told hm41 hn41 (K:=K12 (.view 4 4 g (some 4)) (lateVF exL) p21 p10 p11 p13 p16 p17 p15) (told_add (told_add (told_add (told_add (told_add (told_add (told_add none_ok (callP_told (told_predT e21))) (callP_told (told_predT e10))) (callI_told (predI_told e11))) (callP_told (told_predT e13))) (callP_told (told_predT e16))) (callP_told (told_predT e17))) (callP_told (told_predT e15))) (A:=A41) (m:=0) (by kernel_rfl) loops0 ?_
 have v1:lateVF exL [.view 4 4 g (some 4),o4] = 2:=wstEx1
 have v2:lateVF exL [.view 4 4 g (some 4),.view 1 4 (fun j=>[[T.int .i64 (0:Int)],[T.int .i64 (1:Int)],[T.int .i64 (2:Int)],[T.int .i64 (3:Int)]].getD (0+j) []) (some 4)] = 4:=by
  show wst exL _ 4 = 4
  decide +kernel
 unfold o4 at v1
 have t1:=h11 4 (fun j=>[1,0,3,2].getD j 0) (some 4) (by omega) (c4 (by decide) (by decide) (by decide) (by decide)) (fun i j hi hj=>(by decide:∀ j,j<4->∀ i,i<j->[1,0,3,2].getD i 0 ≠ [1,0,3,2].getD j 0) j hj i hi) (fun j=>[.int .i64 ([1,0,3,2].getD j 0)]) (c4 rfl rfl rfl rfl)
 have t2:=h11 4 (fun j=>j) (some 4) (by omega) (fun j hj=>hj) (fun i j hi _ e=>by omega) (fun j=>[[T.int .i64 (0:Int)],[T.int .i64 (1:Int)],[T.int .i64 (2:Int)],[T.int .i64 (3:Int)]].getD (0+j) []) (c4 rfl rfl rfl rfl)
 rw [wstEx1] at t1
 rw [wstEx2] at t2
 have y1:=predI_yes e11 t1 v1
 have y2:=predI_yes e11 t2 v2
 generalize lateVF exL = vF at *
 refine Eq.trans (show stepL P41 G41 A41 (K12 (.view 4 4 g (some 4)) vF p21 p10 p11 p13 p16 p17 p15) 0 12 [] [] =
(
 bif propF p21 [] then
 bif propF p10 [.view 4 4 g (some 4)] then
 bif propF p11 [.view 4 4 g (some 4),.view 1 4 (fun j=>[.int .i64 ([(1:Int),(0:Int),(3:Int),(2:Int)].getD j (0:Int))]) (some 4)] then
 bif propF p11 [.view 4 4 g (some 4),.view 1 4 (fun j=>[[T.int .i64 (0:Int)],[T.int .i64 (1:Int)],[T.int .i64 (2:Int)],[T.int .i64 (3:Int)]].getD (0+j) []) (some 4)] then
 bif propF p13 [.view 4 4 g (some 4)] then
 bif propF p16 [.view 4 4 g (some 4),.int .i64 2] then
 bif propF p17 [.view 4 4 g (some 4),.int .i64 2,.agg [.int .i64 2,.int .i64 9,.int .i64 0,.int .u32 0]] then
 bif propF p15 [.view 1 4 (fun j=>[.int .i64 ([(1:Int),(0:Int),(3:Int),(2:Int)].getD j (0:Int))]) (some 4),.view 1 4 (fun j=>[[T.int .i64 (1:Int)],[T.int .i64 (0:Int)],[T.int .i64 (3:Int)],[T.int .i64 (2:Int)]].getD (0+j) []) (some 4)] then
 bif decide (vF [.view 4 4 g (some 4),.view 1 4 (fun j=>[.int .i64 ([(1:Int),(0:Int),(3:Int),(2:Int)].getD j (0:Int))]) (some 4)] = (2:Int)) then
 bif decide (vF [.view 4 4 g (some 4),.view 1 4 (fun j=>[[T.int .i64 (0:Int)],[T.int .i64 (1:Int)],[T.int .i64 (2:Int)],[T.int .i64 (3:Int)]].getD (0+j) []) (some 4)] = (4:Int)) then
 bif propF p15 [.view 1 3 (fun j=>[.int .i64 ([(1:Int),(3:Int),(2:Int)].getD j (0:Int))]) (some 3),.view 1 3 (fun j=>[[T.int .i64 (1:Int)],[T.int .i64 (3:Int)],[T.int .i64 (2:Int)]].getD (0+j) []) (some 3)] then
 bif propF p15 [.view 1 1 (fun j=>[.int .i64 ([(0:Int)].getD j (0:Int))]) (some 1),.view 1 1 (fun j=>[[T.int .i64 (0:Int)]].getD (0+j) []) (some 1)] then
 some (.bool true)
 else none else none else
 some (.bool false)
 else
 some (.bool false)
 else none else none else none else none else none else none else none else
 none) from by kernel_rfl) ?_
 refine bift (pred_yes e21 h21) ?_
 refine bift (pred_yes e10 h10) ?_
 refine bift y1 ?_
 refine bift y2 ?_
 refine bift (pred_yes e13 h13) ?_
 refine bift (pred_yes e16 h16) ?_
 refine bift (pred_yes e17 h17) ?_
 refine bift (pred_yes e15 (ex15 4 _ _ (fun j=>[1,0,3,2].getD j 0) _ (by omega) (c4 rfl rfl rfl rfl) (c4 rfl rfl rfl rfl))) ?_
 refine bift (dT v1) ?_
 refine bift (dT v2) ?_
 refine bift (pred_yes e15 (ex15 3 _ _ (fun j=>[1,3,2].getD j 0) _ (by omega) (c3 rfl rfl rfl) (c3 rfl rfl rfl))) ?_
 refine bift (pred_yes e15 (ex15 1 _ _ (fun j=>[0].getD j 0) _ (by omega) (c1 rfl) (c1 rfl))) ?_
 rfl
def tot (tm:Nat->Int):List Nat->Int
 | []=>0
 | x :: l=>tm x+tot tm l
theorem tot_app (tm:Nat->Int) (l m:List Nat):tot tm (l ++ m) = tot tm l+tot tm m:=by
 induction l with
 | nil=>simp [tot]
 | cons x l ih=>simp only [List.cons_append,tot,ih]; omega
theorem tot_one (tm:Nat->Int) (x:Nat):tot tm [x] = tm x:=by simp [tot]
theorem tot_perm {tm:Nat->Int} {l m:List Nat} (h:l.Perm m):tot tm l = tot tm m:=by
 induction h with
 | nil=>rfl
 | cons x _ ih=>simp only [tot,ih]
 | swap x y l=>simp only [tot]; omega
 | trans _ _ h1 h2=>omega
theorem tot_erase {tm:Nat->Int} {l:List Nat} {x:Nat} (h:x ∈ l):tot tm (l.erase x) = tot tm l - tm x:=by
 have:=tot_perm (tm:=tm) (List.perm_cons_erase h)
 simp only [tot] at this
 omega
theorem last_of {tm:Nat->Int} {A:Nat->Bool}:∀ {l:List Nat},(∀ x ∈ l,0<=tm x)->(∃ x ∈ l,A x = true)->∃ i,∃ hi:i<l.length,A l[i] = true/\tot tm (l.filter A)<=tot tm (l.take (i+1)):=by
 intro l
 induction l with
 | nil=>intro _ ⟨x,hx,_⟩; cases hx
 | cons x l ih =>
  intro hp hA
  have hx:=hp x (by simp)
  by_cases q:∃ y ∈ l,A y = true
  ·obtain ⟨i,hi,h1,h2⟩:=ih (fun y hy=>hp y (by simp [hy])) q
   refine ⟨i+1,by simpa using hi,by simpa using h1,?_⟩
   rw [List.take_succ_cons,List.filter_cons]
   split
   ·simp only [tot]; omega
   ·simp only [tot]; omega
  ·obtain ⟨y,hy,ha⟩:=hA
   rcases List.mem_cons.1 hy with rfl | hy
   ·refine ⟨0,by simp,ha,?_⟩
    rw [List.filter_cons,if_pos ha]
    have:l.filter A = []:=by
     rw [List.filter_eq_nil_iff]
     intro z hz hza
     exact q ⟨z,hz,hza⟩
    rw [this]
    simp [tot]
   ·exact absurd ⟨y,hy,ha⟩ q
def Feas (tm du:Nat->Int) (l:List Nat):Prop:=∀ i,∀ hi:i<l.length,tot tm (l.take (i+1))<=du l[i]
theorem Feas.nil (tm du:Nat->Int):Feas tm du []:=fun i hi=>by simp at hi
theorem feas_snoc {tm du:Nat->Int} {l:List Nat} {x:Nat}:Feas tm du (l ++ [x]) ↔ Feas tm du l/\tot tm l+tm x<=du x:=by
 constructor
 ·intro h
  refine ⟨fun i hi=>?_,?_⟩
  ·have:=h i (by simp; omega)
   rw [List.take_append_of_le_length (by omega),List.getElem_append_left hi] at this
   exact this
  ·have:=h l.length (by simp)
   rw [List.getElem_append_right (Nat.le_refl _)] at this
   simp only [Nat.sub_self,List.getElem_singleton] at this
   rw [List.take_of_length_le (by simp),tot_app,tot_one] at this
   exact this
 ·intro ⟨h1,h2⟩ i hi
  simp only [List.length_append,List.length_singleton] at hi
  rcases Nat.lt_or_ge i l.length with q | q
  ·rw [List.take_append_of_le_length (by omega),List.getElem_append_left q]
   exact h1 i q
  ·obtain rfl:i = l.length:=by omega
   rw [List.getElem_append_right (Nat.le_refl _),List.take_of_length_le (by simp),tot_app,tot_one]
   simpa using h2
theorem mem_take_lt {l:List Nat} {i:Nat} {x:Nat} (h:x ∈ l.take (i+1)):∃ k,k<=i/\∃ hk:k<l.length,l[k] = x:=by
 obtain ⟨k,hk,e⟩:=List.mem_iff_getElem.1 h
 rw [List.length_take] at hk
 refine ⟨k,by omega,by omega,?_⟩
 rw [← e,List.getElem_take]
theorem late_of {tm du:Nat->Int} {l s:List Nat} (hp:∀ x ∈ l,0<=tm x) (hn:l.Nodup) (hs:s.Nodup) (hsub:∀ x ∈ s,x ∈ l) (hso:s.Pairwise fun x y=>du x<=du y) {i:Nat} (hi:i<s.length) :
 ∃ k,∃ hk:k<l.length,l[k] ∈ s/\tot tm (s.take (i+1))<=tot tm (l.take (k+1))/\du l[k]<=du s[i]:=by
 have hin:∀ x,x ∈ s.take (i+1)->x ∈ s:=fun x hx=>List.mem_of_mem_take hx
 obtain ⟨k,hk,h1,h2⟩:=last_of (tm:=tm) (A:=fun x=>decide (x ∈ s.take (i+1))) hp ⟨s[i],hsub _ (List.getElem_mem _),by
  rw [decide_eq_true_eq]
  exact List.mem_iff_getElem.2 ⟨i,by rw [List.length_take]; omega,by rw [List.getElem_take]⟩⟩
 rw [decide_eq_true_eq] at h1
 refine ⟨k,hk,hin _ h1,?_,?_⟩
 ·have hpm:(l.filter fun x=>decide (x ∈ s.take (i+1))).Perm (s.take (i+1)):=by
   refine (List.perm_ext_iff_of_nodup (hn.sublist List.filter_sublist) (hs.sublist (List.take_sublist _ _))).2 fun x=>?_
   rw [List.mem_filter,decide_eq_true_eq]
   exact ⟨fun h=>h.2,fun h=>⟨hsub x (hin x h),h⟩⟩
  rw [tot_perm hpm] at h2
  exact h2
 ·obtain ⟨j,hj,hjl,e⟩:=mem_take_lt h1
  rw [← e]
  rcases Nat.lt_or_ge j i with q | q
  ·exact List.pairwise_iff_getElem.1 hso j i hjl hi q
  ·obtain rfl:j = i:=by omega
   exact Int.le_refl _
structure MH (tm du:Nat->Int) (done p:List Nat):Prop where
 sub:done.Sublist p
 feas:Feas tm du done
 opt:∀ s,s.Sublist p->Feas tm du s->∃ E:List Nat,E.Nodup/\(∀ x ∈ E,x ∈ done)/\E.length = s.length/\tot tm E<=tot tm s
theorem MH.nil (tm du:Nat->Int):MH tm du [] []:=⟨.slnil,.nil _ _,fun s hs _=>by
 obtain rfl:=List.sublist_nil.1 hs
 exact ⟨[],by simp,by simp,rfl,Int.le_refl _⟩⟩
theorem sublist_snoc {s p:List Nat} {j:Nat} (h:s.Sublist (p ++ [j])):s.Sublist p ∨ ∃ t,s = t ++ [j]/\t.Sublist p:=by
 obtain ⟨l1,l2,rfl,h1,h2⟩:=List.sublist_append_iff.1 h
 match l2,h2 with
 | [],_=>exact .inl (by simpa using h1)
 | [x],h2 =>
  have:x = j:=by
   have:=h2.subset (List.mem_singleton_self x)
   simpa using this
  subst this
  exact .inr ⟨l1,rfl,h1⟩
 | x :: y :: r,h2=>have:=h2.length_le; simp at this
theorem MH.step_in {tm du:Nat->Int} {done p:List Nat} {j:Nat} (h:MH tm du done p) (hn:(p ++ [j]).Nodup) (ht:tot tm done+tm j<=du j):MH tm du (done ++ [j]) (p ++ [j]):=by
 have hj:j ∉ done:=fun hm=>by
  have:=h.sub.subset hm
  rw [List.nodup_append] at hn
  exact hn.2.2 j this j (by simp) rfl
 refine ⟨h.sub.append (List.Sublist.refl _),feas_snoc.2 ⟨h.feas,ht⟩,fun s hs hf=>?_⟩
 rcases sublist_snoc hs with q | ⟨t,rfl,q⟩
 ·obtain ⟨E,e1,e2,e3,e4⟩:=h.opt s q hf
  exact ⟨E,e1,fun x hx=>by simp [e2 x hx],e3,e4⟩
 ·obtain ⟨f1,f2⟩:=feas_snoc.1 hf
  obtain ⟨E,e1,e2,e3,e4⟩:=h.opt t q f1
  refine ⟨E ++ [j],?_,?_,by simp [e3],by rw [tot_app,tot_app]; omega⟩
  ·rw [List.nodup_append]
   refine ⟨e1,by simp,fun a ha b hb=>?_⟩
   obtain rfl:=List.mem_singleton.1 hb
   exact fun e=>hj (e2 _ (e ▸ ha))
  ·intro x hx
   rw [List.mem_append] at hx ⊢
   exact hx.imp (e2 x) id
theorem getD_eq {l:List Nat} {i:Nat} (h:i<l.length):l.getD i 0 = l[i]:=by
 rw [List.getD_eq_getElem?_getD,List.getElem?_eq_getElem h]; rfl
theorem mem_eraseIdx_of {l:List Nat} {g x:Nat} (hg:g<l.length) (hx:x ∈ l) (hne:x ≠ l[g]):x ∈ l.eraseIdx g:=by
 obtain ⟨k,hk,e⟩:=List.mem_iff_getElem.1 hx
 rw [List.mem_eraseIdx_iff_getElem]
 refine ⟨k,hk,?_,e⟩
 intro ek
 subst ek
 exact hne e.symm
theorem eraseIdx_perm {l:List Nat} {g:Nat} (hg:g<l.length):l.Perm (l[g] :: l.eraseIdx g):=by
 induction l generalizing g with
 | nil=>simp at hg
 | cons x l ih =>
  cases g with
  | zero=>exact .refl _
  | succ g =>
   have:=ih (g:=g) (by simpa using hg)
   exact (this.cons x).trans (.swap _ _ _)
theorem tot_eraseIdx {tm:Nat->Int} {l:List Nat} {g:Nat} (hg:g<l.length):tot tm (l.eraseIdx g) = tot tm l - tm l[g]:=by
 have:=tot_perm (tm:=tm) (eraseIdx_perm hg)
 simp only [tot] at this
 omega
theorem feas_eraseIdx {tm du:Nat->Int} {l:List Nat} {j g:Nat} (hp:∀ x ∈ l ++ [j],0<=tm x) (hf:Feas tm du l) (hdu:∀ x ∈ l,du x<=du j) (hg:g<(l ++ [j]).length) (hmax:∀ x ∈ l ++ [j],tm x<=tm ((l ++ [j])[g])):Feas tm du ((l ++ [j]).eraseIdx g):=by
 intro i hi
 rw [List.length_eraseIdx,if_pos hg] at hi
 have hll:(l ++ [j]).length = l.length+1:=by simp
 have hil:i<l.length:=by omega
 rcases Nat.lt_or_ge i g with q | q
 ·have e1:((l ++ [j]).eraseIdx g).take (i+1) = l.take (i+1):=by
   rw [List.eraseIdx_eq_take_drop_succ,List.take_append_of_le_length (by rw [List.length_take]; omega),List.take_take,show min (i+1) g = i+1 by omega,List.take_append_of_le_length (by omega)]
  rw [e1,List.getElem_eraseIdx_of_lt (by rw [List.length_eraseIdx,if_pos hg]; omega) q,List.getElem_append_left hil]
  exact hf i hil
 ·have e1:tot tm (((l ++ [j]).eraseIdx g).take (i+1)) = tot tm ((l ++ [j]).take (i+2)) - tm ((l ++ [j])[g]):=by
   have:((l ++ [j]).eraseIdx g).take (i+1) = ((l ++ [j]).take (i+2)).eraseIdx g:=by
    rw [List.eraseIdx_eq_take_drop_succ,List.eraseIdx_eq_take_drop_succ,List.take_append,List.take_take,List.take_take,List.length_take,show min (i+1) g = g by omega,show min g (i+2) = g by omega,List.take_drop,List.length_append,List.length_singleton,show g+1+(i+1 - min g (l.length+1)) = i+2 by rw [hll] at hg; omega]
   rw [this,tot_eraseIdx (by rw [List.length_take]; omega),List.getElem_take]
  rw [e1,List.getElem_eraseIdx_of_ge (by rw [List.length_eraseIdx,if_pos hg]; omega) q]
  have hg0:0<=tm ((l ++ [j])[g]):=hp _ (List.getElem_mem _)
  generalize tm ((l ++ [j])[g]) = tg at *
  rcases Nat.lt_or_ge (i+1) l.length with q1 | q1
  ·rw [List.take_append_of_le_length (by omega),List.getElem_append_left q1]
   have:tot tm (l.take (i+2))<=du l[i+1]:=hf (i+1) q1
   omega
  ·obtain e:i+1 = l.length:=by omega
   have h1:=hmax j (by simp)
   have h2:=hf i hil
   have h3:=hdu l[i] (List.getElem_mem _)
   rw [show l.take (i+1) = l from by rw [e]; exact List.take_length] at h2
   rw [List.take_of_length_le (by omega),tot_app,tot_one,List.getElem_append_right (by omega)]
   simp only [List.getElem_singleton]
   omega
theorem exists_not_mem {E m:List Nat} (hE:E.Nodup) (hm:m.Nodup) (hs:∀ x ∈ E,x ∈ m) (hne:¬ E.Perm m):∃ x ∈ m,x ∉ E:=by
 by_cases q:∃ x ∈ m,x ∉ E
 ·exact q
 ·exfalso
  refine hne ((List.perm_ext_iff_of_nodup hE hm).2 fun x=>⟨hs x,fun hx=>?_⟩)
  by_cases hxe:x ∈ E
  ·exact hxe
  ·exact absurd ⟨x,hx,hxe⟩ q
theorem MH.step_out {tm du:Nat->Int} {done p:List Nat} {j g:Nat} (h:MH tm du done p) (hn:(p ++ [j]).Nodup) (hp:∀ x ∈ p ++ [j],0<=tm x) (hdu:∀ x ∈ p,du x<=du j) (ht:¬ tot tm done+tm j<=du j)
 (hg:g<(done ++ [j]).length) (hmax:∀ x ∈ done ++ [j],tm x<=tm ((done ++ [j])[g])):MH tm du ((done ++ [j]).eraseIdx g) (p ++ [j]):=by
 have hsubJ:(done ++ [j]).Sublist (p ++ [j]):=h.sub.append (List.Sublist.refl _)
 have hnd:(done ++ [j]).Nodup:=hn.sublist hsubJ
 have hj:j ∉ done:=fun hm=>by
  rw [List.nodup_append] at hnd
  exact hnd.2.2 j hm j (by simp) rfl
 have key:∀ E:List Nat,E.Nodup->(∀ x ∈ E,x ∈ done ++ [j])->¬ E.Perm (done ++ [j])->∃ F:List Nat,F.Nodup/\(∀ x ∈ F,x ∈ (done ++ [j]).eraseIdx g)/\F.length = E.length/\tot tm F<=tot tm E:=by
  intro E hE hs hne
  by_cases q:(done ++ [j])[g] ∈ E
  ·obtain ⟨x,hx,hxE⟩:=exists_not_mem hE hnd hs hne
   refine ⟨x :: E.erase (done ++ [j])[g],?_,?_,?_,?_⟩
   ·rw [List.nodup_cons]
    exact ⟨fun hm=>hxE (List.mem_of_mem_erase hm),hE.erase _⟩
   ·intro y hy
    rcases List.mem_cons.1 hy with rfl | hy
    ·exact mem_eraseIdx_of hg hx fun e=>hxE (e ▸ q)
    ·obtain ⟨y1,y2⟩:=hE.mem_erase_iff.1 hy
     exact mem_eraseIdx_of hg (hs y y2) y1
   ·rw [List.length_cons,List.length_erase_of_mem q]
    have:=List.length_pos_of_mem q
    omega
   ·simp only [tot]
    rw [tot_erase q]
    have:=hmax x hx
    omega
  ·exact ⟨E,hE,fun x hx=>mem_eraseIdx_of hg (hs x hx) fun e=>q (e ▸ hx),rfl,Int.le_refl _⟩
 refine ⟨(List.eraseIdx_sublist _ _).trans hsubJ,feas_eraseIdx (fun x hx=>hp x (hsubJ.subset hx)) h.feas (fun x hx=>hdu x (h.sub.subset hx)) hg hmax,fun s hs hf=>?_⟩
 rcases sublist_snoc hs with q | ⟨t,rfl,q⟩
 ·obtain ⟨E,e1,e2,e3,e4⟩:=h.opt s q hf
  obtain ⟨F,f1,f2,f3,f4⟩:=key E e1 (fun x hx=>by simp [e2 x hx]) fun hpm=>hj (e2 j (hpm.mem_iff.2 (by simp)))
  exact ⟨F,f1,f2,by omega,by omega⟩
 ·obtain ⟨c1,c2⟩:=feas_snoc.1 hf
  obtain ⟨E,e1,e2,e3,e4⟩:=h.opt t q c1
  have e5:(E ++ [j]).Nodup:=by
   rw [List.nodup_append]
   refine ⟨e1,by simp,fun a ha b hb=>?_⟩
   obtain rfl:=List.mem_singleton.1 hb
   exact fun e=>hj (e2 _ (e ▸ ha))
  obtain ⟨F,f1,f2,f3,f4⟩:=key (E ++ [j]) e5 (fun x hx=>by
   rw [List.mem_append] at hx ⊢
   exact hx.imp (e2 x) id) fun hpm=>by
    have:=tot_perm (tm:=tm) hpm
    rw [tot_app,tot_app,tot_one] at this
    omega
  refine ⟨F,f1,f2,by rw [f3]; simp [e3],?_⟩
  rw [tot_app,tot_one] at f4 ⊢
  omega
theorem MH.best {tm du:Nat->Int} {done p s:List Nat} (h:MH tm du done p) (hs:s.Sublist p) (hf:Feas tm du s):s.length<=done.length:=by
 obtain ⟨E,e1,e2,e3,_⟩:=h.opt s hs hf
 rw [← e3]
 exact e1.length_le_of_subset e2
theorem feas_ontime {tm du:Nat->Int} {l p:List Nat} (hp:∀ x ∈ l,0<=tm x) (hl:l.Perm p) (hn:p.Nodup) (hso:p.Pairwise fun x y=>du x<=du y) (A:Nat->Bool) (hA:∀ k,∀ hk:k<l.length,A l[k] = true->tot tm (l.take (k+1))<=du l[k]):Feas tm du (p.filter A):=by
 intro i hi
 obtain ⟨k,hk,h1,h2,h3⟩:=late_of (tm:=tm) (du:=du) hp (hl.nodup_iff.2 hn) (hn.sublist List.filter_sublist) (s:=p.filter A) (fun x hx=>hl.mem_iff.2 (List.mem_filter.1 hx).1) (hso.sublist List.filter_sublist) hi
 have:=hA k hk (List.mem_filter.1 h1).2
 omega
open Go.Proofs
def v7 (mv:T) (L:JL) (o:Nat->Nat) (i:Int):List T:=[mv,jv L none,ov L.n o (some L.n),.ptr 0 0 0 0,.int .i64 i]
def e7 (mv:T) (L:JL) (o:Nat->Nat):List T:=[mv,.undef,jv L none,ov L.n o (some L.n)]
def mvT (nm:Nat) (mm:Nat->Nat) (cm:Option Nat):T:=.view 1 nm (fun j=>[.int .u8 (mm j)]) cm
def v16 (mv x5 x6:T) (n:Nat) (i:Int):List T:=[mv,x5,x6,.own 2 0 0 n none,.int .i64 i]
def e16 (x5 x6:T) (n:Nat):List T:=[x5,x6,.own 2 0 0 n none]
def v22 (L:JL) (x6:T) (a b i:Int):List T:=[jv L none,x6,.own 2 0 0 L.n none,.int .i64 a,.int .i64 b,.int .i64 i]
def e22 (L:JL) (x6:T) (b:Int):List T:=[jv L none,x6,.own 2 0 0 L.n none,.int .i64 b]
def eb (v:Nat):Blk:=⟨v,1,0,fun _=>[],true,true⟩
structure Ordr (n:Nat) (d:Nat->Nat):Prop where
 lt:∀ j,j<n->d j<n
 ne:∀ i j,i<j->j<n->d i ≠ d j
def tra (a b j:Nat):Nat:=if j = b then a else if j = a then b else j
def swp (d:Nat->Nat) (a b:Nat):Nat->Nat:=fun j=>d (tra a b j)
theorem Ordr.swp {n a b:Nat} {d:Nat->Nat} (h:Ordr n d) (ha:a<n) (hb:b<n):Ordr n (swp d a b):=by
 have tl:∀ j,j<n->tra a b j<n:=fun j hj=>by unfold tra; split; exact ha; split; exact hb; exact hj
 refine ⟨fun j hj=>h.lt _ (tl j hj),fun i j hij hj e=>?_⟩
 have ti:tra a b i ≠ tra a b j:=by unfold tra; split <;> split <;> (try split) <;> (try split) <;> omega
 have e:d (tra a b i) = d (tra a b j):=e
 rcases Nat.lt_trichotomy (tra a b i) (tra a b j) with q | q | q
 ·exact h.ne _ _ q (tl j hj) e
 ·exact ti q
 ·exact h.ne _ _ q (tl i (by omega)) e.symm
noncomputable def K3 (p9 p10 p11 p12:List T->Prop) (xF:T) (x6:T) (vF:List T->Int):Orc :=
 (((noneO.add 9 (callP p9 (.new xF))).add 10 (callP p10 (.tup [x6,.int .i64 0]))).add 11 (callI p11 vF)).add 12 (callP p12 (.bool true))
open Go.Proofs
def oL (o:Nat->Nat) (n:Nat):List Nat:=(List.range n).map o
theorem oL_len (o:Nat->Nat) (n:Nat):(oL o n).length = n:=by simp [oL]
theorem oL_get (o:Nat->Nat) (n:Nat) {i:Nat} (hi:i<(oL o n).length):(oL o n)[i] = o i:=by simp [oL]
theorem oL_take (o:Nat->Nat) {n i:Nat} (hi:i<=n):(oL o n).take i = oL o i:=by
 unfold oL
 rw [← List.map_take,List.take_range,Nat.min_eq_left hi]
theorem tms_tot (L:JL) (o:Nat->Nat):∀ i,tms L o i = tot L.tm (oL o i):=by
 intro i
 induction i with
 | zero=>rfl
 | succ i ih=>simp only [tms,ih,oL,List.range_succ,List.map_append,tot_app,List.map_cons,List.map_nil,tot_one]
theorem Ordr.nodup {n:Nat} {d:Nat->Nat} (h:Ordr n d):(oL d n).Nodup:=by
 rw [List.nodup_iff_pairwise_ne,List.pairwise_iff_getElem]
 intro i j hi hj hij
 rw [oL_get,oL_get]
 exact h.ne i j hij (by simpa [oL] using hj)
theorem nodup_perm_range {l:List Nat} {n:Nat} (hl:l.Nodup) (hn:l.length = n) (hb:∀ x ∈ l,x<n):l.Perm (List.range n):=by
 refine (List.perm_ext_iff_of_nodup hl List.nodup_range).2 fun x=>⟨fun h=>List.mem_range.2 (hb x h),fun h=>?_⟩
 by_cases q:x ∈ l
 ·exact q
 ·exfalso
  have h1:(x :: l).Nodup:=List.nodup_cons.2 ⟨q,hl⟩
  have h2:=h1.length_le_of_subset (l₂:=List.range n) fun y hy=>by
   rcases List.mem_cons.1 hy with rfl | hy
   ·exact h
   ·exact List.mem_range.2 (hb y hy)
  simp at h2
  omega
theorem Ordr.perm {n:Nat} {d:Nat->Nat} (h:Ordr n d):(oL d n).Perm (List.range n) :=
 nodup_perm_range h.nodup (oL_len d n) fun x hx=>by
  obtain ⟨j,hj,rfl⟩:=List.mem_map.1 hx
  exact h.lt j (List.mem_range.1 hj)
theorem oL_oN (L:JL):oL (oN L) L.n = ordL L.du L.n:=by
 have hl:=ordL_len L.du L.n
 refine List.ext_getElem (by rw [oL_len,hl]) fun i h1 h2=>?_
 rw [oL_get]
 unfold oN
 rw [getD_eq h2]
theorem oN_ordr (L:JL):Ordr L.n (oN L):=by
 refine ⟨fun j hj=>oN_lt hj,fun i j hij hj e=>?_⟩
 have hl:=ordL_len L.du L.n
 have hp:=List.nodup_iff_pairwise_ne.1 (ordL_nodup L.du L.n)
 have:=List.pairwise_iff_getElem.1 hp i j (by omega) (by omega) hij
 unfold oN at e
 rw [getD_eq (by omega),getD_eq (by omega)] at e
 exact this e
theorem ordL_due (du:Nat->Int) (n:Nat):(ordL du n).Pairwise fun x y=>du x<=du y :=
 List.Pairwise.imp (fun {a b} h=>by unfold dueLt at h; omega) (ordL_sorted du n)
theorem oN_next (L:JL) (i:Nat) (hi:i+1<L.n):L.du (oN L i)<L.du (oN L (i+1)) ∨ (L.du (oN L i) = L.du (oN L (i+1))/\oN L i<oN L (i+1)):=by
 have hl:=ordL_len L.du L.n
 have h1:=(oN_ordr L).ne i (i+1) (by omega) hi
 have h2:=List.pairwise_iff_getElem.1 (ordL_sorted L.du L.n) i (i+1) (by omega) (by omega) (by omega)
 rw [← getD_eq,← getD_eq] at h2
 unfold oN at *
 unfold dueLt at h2
 omega
theorem wst_ge (L:JL) (o:Nat->Nat):∀ m i,i<m->tms L o (i+1) - L.du (o i)<=wst L o m:=by
 intro m
 induction m with
 | zero=>intro i hi; omega
 | succ m ih =>
  intro i hi
  simp only [wst]
  rcases Nat.lt_or_ge i m with q | q
  ·have:=ih i q
   split <;> omega
  ·obtain rfl:i = m:=by omega
   split <;> omega
theorem wst_mem (L:JL) (o:Nat->Nat):∀ m,0<m->∃ i,i<m/\wst L o m = tms L o (i+1) - L.du (o i):=by
 intro m
 induction m with
 | zero=>intro h; omega
 | succ m ih =>
  intro _
  simp only [wst]
  split
  ·exact ⟨m,by omega,rfl⟩
  ·rename_i h
   obtain ⟨i,hi,e⟩:=ih (by omega)
   exact ⟨i,by omega,e⟩
theorem wst_least (L:JL) (hL:L.Ok) (d:Nat->Nat) (hd:Ordr L.n d):wst L (oN L) L.n<=wst L d L.n:=by
 rcases Nat.eq_zero_or_pos L.n with h0 | h0
 ·rw [h0]; exact Int.le_refl _
 ·obtain ⟨i,hi,e⟩:=wst_mem L (oN L) L.n h0
  rw [e]
  have hp:∀ x ∈ oL d L.n,0<=L.tm x:=fun x hx=>by
   have:=hL.tm x (List.mem_range.1 (hd.perm.mem_iff.1 hx)); omega
  have hpm:=ordL_perm L.du L.n
  have hi':i<(ordL L.du L.n).length:=by rw [ordL_len]; exact hi
  obtain ⟨k,hk,h1,h2,h3⟩:=late_of (tm:=L.tm) (du:=L.du) hp hd.nodup (ordL_nodup L.du L.n) (fun x hx=>hd.perm.mem_iff.2 (hpm.mem_iff.1 hx)) (ordL_due L.du L.n) hi'
  rw [oL_get] at h3
  rw [oL_len] at hk
  have hw:=wst_ge L d L.n k hk
  rw [oL_take d (by omega),← tms_tot] at h2
  rw [← oL_oN,oL_take _ (by omega),← tms_tot] at h2
  have e2:(ordL L.du L.n)[i] = oN L i:=by unfold oN; rw [getD_eq hi']
  rw [e2] at h3
  omega
open Go.Proofs
theorem lgst_max (f:Nat->Int):∀ n,(∀ j,j<n->f j<=f (lgst f n))/\∀ j,lgst f n<j->j<n->f j<f (lgst f n):=by
 intro n
 induction n with
 | zero=>exact ⟨fun j hj=>by omega,fun j _ hj=>by omega⟩
 | succ n ih =>
  obtain ⟨h1,h2⟩:=ih
  simp only [lgst]
  by_cases q:f (lgst f n)<=f n
  ·rw [if_pos q]
   refine ⟨fun j hj=>?_,fun j hj hj2=>by omega⟩
   rcases Nat.lt_or_ge j n with q1 | q1
   ·have:=h1 j q1; omega
   ·obtain rfl:j = n:=by omega
    exact Int.le_refl _
  ·rw [if_neg q]
   refine ⟨fun j hj=>?_,fun j hj hj2=>?_⟩
   ·rcases Nat.lt_or_ge j n with q1 | q1
    ·exact h1 j q1
    ·obtain rfl:j = n:=by omega
     omega
   ·rcases Nat.lt_or_ge j n with q1 | q1
    ·exact h2 j hj q1
    ·obtain rfl:j = n:=by omega
     omega
theorem take_succ_ord (L:JL) {i:Nat} (hi:i<L.n):(ordL L.du L.n).take (i+1) = (ordL L.du L.n).take i ++ [oN L i]:=by
 have hl:=ordL_len L.du L.n
 rw [List.take_add_one,List.getElem?_eq_getElem (by omega)]
 unfold oN
 rw [getD_eq (by omega)]
 rfl
structure Mok (L:JL) (s:List Nat × Int × List Nat) (p:List Nat):Prop where
 mh:MH L.tm L.du s.1 p
 t:s.2.1 = tot L.tm s.1
 pm:(s.1 ++ s.2.2).Perm p
theorem pst_mok (L:JL) (hL:L.Ok):∀ i,i<=L.n->Mok L (pst L (oN L) i) ((ordL L.du L.n).take i):=by
 intro i
 induction i with
 | zero=>intro _; exact ⟨.nil _ _,rfl,.refl _⟩
 | succ i ih =>
  intro hi
  obtain ⟨h1,h2,h3⟩:=ih (by omega)
  have hl:=ordL_len L.du L.n
  have ho:=oN_lt (L:=L) (j:=i) (by omega)
  have htk:=take_succ_ord L (i:=i) (by omega)
  have hnd:((ordL L.du L.n).take i ++ [oN L i]).Nodup:=by rw [← htk]; exact (ordL_nodup _ _).sublist (List.take_sublist _ _)
  have hdu:∀ x ∈ (ordL L.du L.n).take i,L.du x<=L.du (oN L i):=fun x hx=>by
   have hs:=(ordL_due L.du L.n).sublist (List.take_sublist (i+1) _)
   rw [htk,List.pairwise_append] at hs
   exact hs.2.2 x hx _ (by simp)
  have hp:∀ x ∈ (ordL L.du L.n).take i ++ [oN L i],0<=L.tm x:=fun x hx=>by
   rw [← htk] at hx
   have:=hL.tm x (ordL_mem.1 (List.mem_of_mem_take hx))
   omega
  rw [htk]
  show Mok L (pstep L (pst L (oN L) i) (oN L i)) _
  generalize pst L (oN L) i = s at *
  generalize (ordL L.du L.n).take i = p at *
  generalize oN L i = x at *
  unfold pstep
  by_cases q:s.2.1+L.tm x<=L.du x
  ·rw [if_pos q]
   refine ⟨h1.step_in hnd (by rw [← h2]; exact q),?_,?_⟩
   ·show _ = tot L.tm (s.1 ++ [x])
    rw [tot_app,tot_one,← h2]
   ·show ((s.1 ++ [x]) ++ s.2.2).Perm (p ++ [x])
    refine List.Perm.trans ?_ (h3.append_right [x])
    rw [List.append_assoc,List.append_assoc]
    exact List.Perm.append_left _ List.perm_append_comm
  ·rw [if_neg q]
   have hlen:(s.1 ++ [x]).length = s.1.length+1:=by simp
   have hg:=lgst_lt (fun j=>L.tm ((s.1 ++ [x]).getD j 0)) (s.1.length+1) (by omega)
   have hmx:=(lgst_max (fun j=>L.tm ((s.1 ++ [x]).getD j 0)) (s.1.length+1)).1
   generalize lgst (fun j=>L.tm ((s.1 ++ [x]).getD j 0)) (s.1.length+1) = g at *
   have hge:(s.1 ++ [x]).getD g 0 = (s.1 ++ [x])[g]'(by omega):=getD_eq (by omega)
   refine ⟨h1.step_out hnd hp hdu (by rw [← h2]; exact q) (by omega) (fun y hy=>?_),?_,?_⟩
   ·obtain ⟨k,hk,rfl⟩:=List.mem_iff_getElem.1 hy
    have:=hmx k (by omega)
    rw [getD_eq hk,hge] at this
    exact this
   ·show s.2.1+L.tm x - L.tm ((s.1 ++ [x]).getD g 0) = tot L.tm ((s.1 ++ [x]).eraseIdx g)
    rw [tot_eraseIdx (by omega),tot_app,tot_one,← h2,hge]
   ·show ((s.1 ++ [x]).eraseIdx g ++ (s.2.2 ++ [(s.1 ++ [x]).getD g 0])).Perm (p ++ [x])
    have e1:=eraseIdx_perm (l:=s.1 ++ [x]) (g:=g) (by omega)
    rw [hge]
    have h4:((s.1 ++ [x]) ++ s.2.2).Perm (p ++ [x]):=by
     refine List.Perm.trans ?_ (h3.append_right [x])
     rw [List.append_assoc,List.append_assoc]
     exact List.Perm.append_left _ List.perm_append_comm
    refine List.Perm.trans ?_ h4
    refine List.Perm.trans ?_ (e1.append_right s.2.2).symm
    rw [← List.append_assoc,List.cons_append]
    exact List.perm_append_singleton _ _
theorem take_ord_all (L:JL):(ordL L.du L.n).take L.n = ordL L.du L.n:=List.take_of_length_le (by rw [ordL_len]; exact Nat.le_refl _)
def mny (L:JL) (d:Nat->Nat):Nat->Nat
 | 0=>0
 | i+1=>if L.du (d i)<tms L d (i+1) then mny L d i+1 else mny L d i
theorem mny_le (L:JL) (d:Nat->Nat):∀ i,mny L d i<=i:=by
 intro i
 induction i with
 | zero=>exact Nat.le_refl _
 | succ i ih=>simp only [mny]; split <;> omega
theorem mny_count (L:JL) (d:Nat->Nat):∀ m,((List.range m).filter fun k=>decide (tms L d (k+1)<=L.du (d k))).length+mny L d m = m:=by
 intro m
 induction m with
 | zero=>rfl
 | succ m ih =>
  rw [List.range_succ,List.filter_append,List.length_append]
  simp only [mny]
  by_cases q:L.du (d m)<tms L d (m+1)
  ·rw [if_pos q,List.filter_cons_of_neg (by simp only [decide_eq_true_eq]; omega)]
   simp only [List.filter_nil,List.length_nil]
   omega
  ·rw [if_neg q,List.filter_cons_of_pos (by simp only [decide_eq_true_eq]; omega)]
   simp only [List.filter_nil,List.length_cons,List.length_nil]
   omega
theorem mny_least (L:JL) (hL:L.Ok) (d:Nat->Nat) (hd:Ordr L.n d):(pst L (oN L) L.n).2.2.length<=mny L d L.n:=by
 have hk:=pst_mok L hL L.n (Nat.le_refl _)
 rw [take_ord_all] at hk
 obtain ⟨h1,_,h3⟩:=hk
 have hl:=ordL_len L.du L.n
 have hpm:=ordL_perm L.du L.n
 have hlen:=h3.length_eq
 rw [List.length_append,hl] at hlen
 have inj:∀ i j,i<L.n->j<L.n->d i = d j->i = j:=fun i j hi hj e=>by
  rcases Nat.lt_trichotomy i j with q | q | q
  ·exact absurd e (hd.ne i j q hj)
  ·exact q
  ·exact absurd e.symm (hd.ne j i q hi)
 let A:Nat->Bool:=fun x=>(List.range L.n).any fun k=>decide (d k = x)&&decide (tms L d (k+1)<=L.du (d k))
 have hA:∀ k,k<L.n->(A (d k) = true ↔ tms L d (k+1)<=L.du (d k)):=fun k hk=>by
  constructor
  ·intro h
   obtain ⟨j,hj,q⟩:=List.any_eq_true.1 h
   simp only [Bool.and_eq_true,decide_eq_true_eq] at q
   have:=inj j k (List.mem_range.1 hj) hk q.1
   subst this
   exact q.2
  ·intro h
   exact List.any_eq_true.2 ⟨k,List.mem_range.2 hk,by rw [Bool.and_eq_true,decide_eq_true_eq,decide_eq_true_eq]; exact ⟨rfl,h⟩⟩
 have hp:∀ x ∈ oL d L.n,0<=L.tm x:=fun x hx=>by
  have:=hL.tm x (List.mem_range.1 (hd.perm.mem_iff.1 hx)); omega
 have hf:=feas_ontime (tm:=L.tm) (du:=L.du) (l:=oL d L.n) (p:=ordL L.du L.n) hp (hd.perm.trans hpm.symm) (ordL_nodup _ _) (ordL_due _ _) A fun k hk ha=>by
  rw [oL_len] at hk
  rw [oL_get] at ha ⊢
  rw [oL_take d (by omega),← tms_tot]
  exact (hA k hk).1 ha
 have hb:=h1.best List.filter_sublist hf
 have hc:=((hd.perm.trans hpm.symm).filter A).length_eq
 rw [← hc] at hb
 have e:((oL d L.n).filter A).length = ((List.range L.n).filter fun k=>decide (tms L d (k+1)<=L.du (d k))).length:=by
  unfold oL
  rw [List.filter_map,List.length_map]
  congr 1
  refine List.filter_congr fun k hk=>?_
  have:=hA k (List.mem_range.1 hk)
  show A (d k) = _
  by_cases q:tms L d (k+1)<=L.du (d k)
  ·rw [this.2 q,decide_eq_true q]
  ·rw [decide_eq_false q,Bool.eq_false_iff]
   exact fun h=>q (this.1 h)
 have hm:=mny_count L d L.n
 omega
theorem tms_done (L:JL) (l:List Nat):∀ i,i<=l.length->tms L (fun j=>l.getD j 0) i = tot L.tm (l.take i):=by
 intro i
 induction i with
 | zero=>intro _; simp [tms,tot]
 | succ i ih =>
  intro hi
  simp only [tms]
  rw [ih (by omega),List.take_add_one,List.getElem?_eq_getElem (by omega),tot_app,getD_eq (by omega)]
  show _ = _+tot L.tm [l[i]]
  rw [tot_one]
theorem done_intime (L:JL) (hL:L.Ok) (h0:0<(pst L (oN L) L.n).1.length):wst L (fun j=>(pst L (oN L) L.n).1.getD j 0) (pst L (oN L) L.n).1.length<=0:=by
 have hk:=pst_mok L hL L.n (Nat.le_refl _)
 obtain ⟨i,hi,e⟩:=wst_mem L (fun j=>(pst L (oN L) L.n).1.getD j 0) _ h0
 rw [e,tms_done _ _ _ (by omega)]
 have:=hk.mh.feas i hi
 rw [getD_eq hi]
 omega
theorem pst_nodup (L:JL) (hL:L.Ok):((pst L (oN L) L.n).1 ++ (pst L (oN L) L.n).2.2).Nodup:=by
 have hk:=pst_mok L hL L.n (Nat.le_refl _)
 rw [take_ord_all] at hk
 exact hk.pm.nodup_iff.2 (ordL_nodup _ _)
theorem srtN_perm (l:List Nat):(srtN l).Perm l:=List.mergeSort_perm _ _
theorem srtN_sorted (l:List Nat):(srtN l).Pairwise fun a b=>a<=b:=by
 have:=List.pairwise_mergeSort (le:=fun x y:Nat=>decide (x<=y)) (fun a b c h1 h2=>by simp only [decide_eq_true_eq] at *; omega) (fun a b=>by simp only [Bool.or_eq_true,decide_eq_true_eq]; omega) l
 exact this.imp fun h=>by simpa using h
theorem srtN_lt {l:List Nat} (h:l.Nodup):(srtN l).Pairwise fun a b=>a<b:=by
 have h1:=srtN_sorted l
 have h2:=List.nodup_iff_pairwise_ne.1 ((srtN_perm l).nodup_iff.2 h)
 exact (h1.and h2).imp fun {a b} hab=>by omega
theorem srtN_next {l:List Nat} (h:l.Nodup) {i:Nat} (hi:i+1<(srtN l).length):(srtN l).getD i 0<(srtN l).getD (i+1) 0:=by
 rw [getD_eq (by omega),getD_eq hi]
 exact List.pairwise_iff_getElem.1 (srtN_lt h) i (i+1) (by omega) hi (by omega)
theorem srtN_filter {l:List Nat} {n:Nat} (h:l.Nodup) (hb:∀ x ∈ l,x<n):(List.range n).filter (fun x=>decide (x ∈ l)) = srtN l:=by
 refine List.Perm.eq_of_pairwise (le:=fun a b=>a<=b) (fun a b _ _ q1 q2=>Nat.le_antisymm q1 q2) ?_ (srtN_sorted l) ?_
 ·exact (List.pairwise_lt_range.imp fun {a b} h=>Nat.le_of_lt h).sublist List.filter_sublist
 ·refine List.Perm.trans ?_ (srtN_perm l).symm
  refine (List.perm_ext_iff_of_nodup (List.nodup_range.sublist List.filter_sublist) h).2 fun x=>?_
  rw [List.mem_filter,decide_eq_true_eq,List.mem_range]
  exact ⟨fun q=>q.2,fun q=>⟨hb x q,q⟩⟩
open Go.Proofs
theorem JR.lok (R:JR) (hR:R.Ok) (m:Nat) (hm:m<=40):(R.L m).Ok:=by
 refine ⟨by show m<=256; omega,fun j _=>?_,fun j _=>?_,fun j _=>?_,fun j _=>?_⟩
 ·have:=hR.t j
  show _<=((1+R.t j:Nat):Int)/\((1+R.t j:Nat):Int)<=_
  omega
 ·have:=hR.d j
  show _<=((R.d j:Nat):Int)/\((R.d j:Nat):Int)<=_
  omega
 ·have:=hR.a j
  show _<=((R.a j:Nat):Int)/\((R.a j:Nat):Int)<=_
  omega
 ·have:=onV_le (R.o j)
  show _<=((onV (R.o j):Nat):Int)/\((onV (R.o j):Nat):Int)<=_
  omega
theorem min40 (n:Nat):Nat.min n 40<=40:=Nat.min_le_right _ _
theorem maxB_ge (a b:Int):a<=maxB a b/\b<=maxB a b/\(maxB a b = a ∨ maxB a b = b):=by
 unfold maxB
 by_cases q:a<b
 ·rw [dT q]; simp; omega
 ·rw [dF q]; simp; omega
open Go.Proofs
def v8 (L:JL) (o:Nat->Nat) (x6:T) (i:Int):List T:=[jv L none,ov L.n o (some L.n),x6,.ptr 0 0 0 0,.int .i64 i]
def e8 (L:JL) (x6:T):List T:=[jv L none,x6,.ptr 0 0 0 0]
def v13' (L:JL) (o:Nat->Nat) (x6:T) (i a b k:Int):List T:=[jv L none,ov L.n o (some L.n),x6,.ptr 0 0 0 0,.int .i64 i,.int .i64 a,.int .i64 b,.int .i64 k]
def e13' (L:JL) (o:Nat->Nat) (x6:T) (i a b:Int):List T:=[jv L none,ov L.n o (some L.n),x6,.ptr 0 0 0 0,.int .i64 i,.int .i64 a,.int .i64 b]
def v19p (L:JL) (o:Nat->Nat) (x6:T) (i b k:Int):List T:=[jv L none,ov L.n o (some L.n),x6,.ptr 0 0 0 0,.int .i64 i,.int .i64 b,.int .i64 k]
def e19p (L:JL) (o:Nat->Nat) (x6:T) (i k:Int):List T:=[jv L none,ov L.n o (some L.n),x6,.ptr 0 0 0 0,.int .i64 i,.int .i64 k]
open Go.Proofs
def mxd (L:JL) (d:Nat->Nat):Nat->Int
 | 0=>0
 | k+1=>maxB (mxd L d k) (L.tm (d k))
theorem mxd_lgst (L:JL) (d:Nat->Nat):∀ m,(∀ j,j<m->0<=L.tm (d j))->0<m->mxd L d m = L.tm (d (lgst (fun j=>L.tm (d j)) m)):=by
 intro m
 induction m with
 | zero=>intro _ h; omega
 | succ m ih =>
  intro h _
  have hm:=h m (by omega)
  have h3:=maxB_ge (mxd L d m) (L.tm (d m))
  rcases Nat.eq_zero_or_pos m with q | q
  ·subst q
   have e:mxd L d 0 = 0:=rfl
   have e2:lgst (fun j=>L.tm (d j)) (0+1) = 0:=by simp [lgst]
   rw [e2]
   simp only [mxd,e] at *
   omega
  ·have e:=ih (fun j hj=>h j (by omega)) q
   simp only [mxd,lgst]
   rw [e] at h3 ⊢
   by_cases q2:L.tm (d (lgst (fun j=>L.tm (d j)) m))<=L.tm (d m)
   ·rw [if_pos q2]; omega
   ·rw [if_neg q2]; omega
theorem tmsd_bd (L:JL) (hL:L.Ok) (d:Nat->Nat):∀ m,(∀ j,j<m->d j<L.n)->0<=tms L d m/\tms L d m<=100000 * m:=by
 intro m
 induction m with
 | zero=>intro _; simp [tms]
 | succ m ih =>
  intro h
  have h1:=ih fun j hj=>h j (by omega)
  have h2:=hL.tm _ (h m (by omega))
  simp only [tms]
  omega
theorem l13p (L:JL) (hL:L.Ok) (o:Nat->Nat) (i:Int) (A:Blk) (v len nd:Nat) (d:Nat->Nat) (hr:Heap) (hnd:len<=nd) (hn4:len<=400) (hd:∀ j,j<len->d j<L.n) :
 LoopOk P41 G41 (A41 5) 5 13 (litS (v13' L o (.own 1 v 0 len none) i 0 0 0) (A :: nb v nd d :: hr) (.exit 2) (e13' L o (.own 1 v 0 len none) i (tms L d len) (mxd L d len)) (A :: nb v nd d :: hr)):=by
 have hn:=hL.n
 refine loop_steps hm41 (by kernel_rfl) (fun k=>v13' L o (.own 1 v 0 len none) i (tms L d k) (mxd L d k) k) (fun _=>A :: nb v nd d :: hr) (n:=len) (fun k hk=>?_) ?_
 ·have h1:=tmsd_bd L hL d k fun j hj=>hd j (by omega)
  have h2:=hL.tm _ (hd k hk)
  have h3:=hd k hk
  have e1:tms L d (k+1) = tms L d k+L.tm (d k):=rfl
  have e2:mxd L d (k+1) = maxB (mxd L d k) (L.tm (d k)):=rfl
  rw [e1,e2]
  generalize tms L d k = t at *
  generalize mxd L d k = x at *
  refine Step.mk0 (A:=A41) (m:=0) none_ok rfl rfl loops0 (h1:=A :: nb v nd d :: hr) (Eq.trans (show iterR P41 G41 A41 noneO 0 5 [] 13 (v13' L o (.own 1 v 0 len none) i t x k) (A :: nb v nd d :: hr) =
(
 bif v==v then
 bif decide (Int.ofNat k<Int.ofNat len) then
 bif v==v then
 bif decide (0<=Int.ofNat k)&&decide (Int.ofNat k<Int.ofNat len) then
 bif v==v then
 bif ((0:Nat)+k).blt nd then
 bif decide (0<=Int.ofNat (d (0+k)))&&decide (Int.ofNat (d (0+k))<Int.ofNat L.n) then
 bif v==v then
 bif decide (0<=Int.ofNat k)&&decide (Int.ofNat k<Int.ofNat len) then
 bif v==v then
 bif ((0:Nat)+k).blt nd then
 bif decide (0<=Int.ofNat (d (0+k)))&&decide (Int.ofNat (d (0+k))<Int.ofNat L.n) then
 some ((.normal,[jv L
 none,ov L.n o (some L.n),.own 1 v 0 len
 none,.ptr 0 0 0 0,.int .i64 i,.int .i64 (IntKind.i64.wrap (t+L.tm (d (0+k)))),.int .i64 (bif decide (x<L.tm (d (0+k))) then L.tm (d (0+k))
 else x),.int .i64 (IntKind.i64.wrap (Int.ofNat k+1))],A :: nb v nd d :: hr))
 else none else none else none else none else none else none else none else none else none else none else
 some ((.exit 2,[jv L
 none,ov L.n o (some L.n),.own 1 v 0 len
 none,.ptr 0 0 0 0,.int .i64 i,.int .i64 t,.int .i64 x],A :: nb v nd d :: hr))
 else
 none) from by kernel_rfl) ?_) (.refl _)
  simp only [Nat.zero_add]
  (repeat (first | (refine bift (by first | assumption | omega | (simp (disch:=omega) only [wr64,wr8,wr16,wr32,ofNatE,toNatE,toNatE1,Bool.and_eq_true,Bool.or_eq_true,Bool.not_eq_true',decide_eq_true_eq,decide_eq_false_iff_not,nble,nblt,nbeq,Nat.zero_add,Nat.add_zero,Int.zero_add,Int.add_zero,List.length_cons,List.length_nil,true_and,and_true,Nat.reduceAdd,and_self]; done) | (simp (disch:=omega) only [wr64,wr8,wr16,wr32,ofNatE,toNatE,toNatE1,Bool.and_eq_true,Bool.or_eq_true,Bool.not_eq_true',decide_eq_true_eq,decide_eq_false_iff_not,nble,nblt,nbeq,Nat.zero_add,Nat.add_zero,Int.zero_add,Int.add_zero,List.length_cons,List.length_nil,true_and,and_true,Nat.reduceAdd,and_self]; omega)) ?_) | (refine biff (by first | assumption | (simp (disch:=omega) only [wr64,wr8,wr16,wr32,ofNatE,toNatE,toNatE1,Bool.and_eq_true,Bool.or_eq_true,Bool.not_eq_true',decide_eq_true_eq,decide_eq_false_iff_not,nble,nblt,nbeq,Nat.zero_add,Nat.add_zero,Int.zero_add,Int.add_zero,List.length_cons,List.length_nil,true_and,and_true,Nat.reduceAdd,and_self]; done) | (simp (disch:=omega) only [wr64,wr8,wr16,wr32,ofNatE,toNatE,toNatE1,Bool.and_eq_true,Bool.or_eq_true,Bool.not_eq_true',decide_eq_true_eq,decide_eq_false_iff_not,nble,nblt,nbeq,Nat.zero_add,Nat.add_zero,Int.zero_add,Int.add_zero,List.length_cons,List.length_nil,true_and,and_true,Nat.reduceAdd,and_self]; omega)) ?_)))
  unfold maxB
  first | rfl | (simp (disch:=omega) only [wr64,wr8,wr16,wr32,ofNatE,Nat.zero_add,bleT,bltT,dT,dF,Bool.true_and,Bool.and_true,Bool.and_self,cond_true,cond_false,Nat.sub_zero,beq_self_eq_true]; done) | (simp (disch:=omega) only [wr64,wr8,wr16,wr32,ofNatE,Nat.zero_add,bleT,bltT,dT,dF,Bool.true_and,Bool.and_true,Bool.and_self,cond_true,cond_false,Nat.sub_zero,beq_self_eq_true]; rfl)
 ·generalize tms L d len = t at *
  generalize mxd L d len = x at *
  refine Last.mk0 (A:=A41) (m:=0) none_ok rfl rfl loops0 (by simp) (h1:=A :: nb v nd d :: hr) (Eq.trans (show iterR P41 G41 A41 noneO 0 5 [] 13 (v13' L o (.own 1 v 0 len none) i t x len) (A :: nb v nd d :: hr) =
(
 bif v==v then
 bif decide (Int.ofNat len<Int.ofNat len) then
 bif v==v then
 bif decide (0<=Int.ofNat len)&&decide (Int.ofNat len<Int.ofNat len) then
 bif v==v then
 bif ((0:Nat)+len).blt nd then
 bif decide (0<=Int.ofNat (d (0+len)))&&decide (Int.ofNat (d (0+len))<Int.ofNat L.n) then
 bif v==v then
 bif decide (0<=Int.ofNat len)&&decide (Int.ofNat len<Int.ofNat len) then
 bif v==v then
 bif ((0:Nat)+len).blt nd then
 bif decide (0<=Int.ofNat (d (0+len)))&&decide (Int.ofNat (d (0+len))<Int.ofNat L.n) then
 some ((.normal,[jv L
 none,ov L.n o (some L.n),.own 1 v 0 len
 none,.ptr 0 0 0 0,.int .i64 i,.int .i64 (IntKind.i64.wrap (t+L.tm (d (0+len)))),.int .i64 (bif decide (x<L.tm (d (0+len))) then L.tm (d (0+len))
 else x),.int .i64 (IntKind.i64.wrap (Int.ofNat len+1))],A :: nb v nd d :: hr))
 else none else none else none else none else none else none else none else none else none else none else
 some ((.exit 2,[jv L
 none,ov L.n o (some L.n),.own 1 v 0 len
 none,.ptr 0 0 0 0,.int .i64 i,.int .i64 t,.int .i64 x],A :: nb v nd d :: hr))
 else
 none) from by kernel_rfl) ?_) (.refl _)
  (repeat (first | (refine bift (by first | assumption | omega | (simp (disch:=omega) only [wr64,wr8,wr16,wr32,ofNatE,toNatE,toNatE1,Bool.and_eq_true,Bool.or_eq_true,Bool.not_eq_true',decide_eq_true_eq,decide_eq_false_iff_not,nble,nblt,nbeq,Nat.zero_add,Nat.add_zero,Int.zero_add,Int.add_zero,List.length_cons,List.length_nil,true_and,and_true,Nat.reduceAdd,and_self]; done) | (simp (disch:=omega) only [wr64,wr8,wr16,wr32,ofNatE,toNatE,toNatE1,Bool.and_eq_true,Bool.or_eq_true,Bool.not_eq_true',decide_eq_true_eq,decide_eq_false_iff_not,nble,nblt,nbeq,Nat.zero_add,Nat.add_zero,Int.zero_add,Int.add_zero,List.length_cons,List.length_nil,true_and,and_true,Nat.reduceAdd,and_self]; omega)) ?_) | (refine biff (by first | assumption | (simp (disch:=omega) only [wr64,wr8,wr16,wr32,ofNatE,toNatE,toNatE1,Bool.and_eq_true,Bool.or_eq_true,Bool.not_eq_true',decide_eq_true_eq,decide_eq_false_iff_not,nble,nblt,nbeq,Nat.zero_add,Nat.add_zero,Int.zero_add,Int.add_zero,List.length_cons,List.length_nil,true_and,and_true,Nat.reduceAdd,and_self]; done) | (simp (disch:=omega) only [wr64,wr8,wr16,wr32,ofNatE,toNatE,toNatE1,Bool.and_eq_true,Bool.or_eq_true,Bool.not_eq_true',decide_eq_true_eq,decide_eq_false_iff_not,nble,nblt,nbeq,Nat.zero_add,Nat.add_zero,Int.zero_add,Int.add_zero,List.length_cons,List.length_nil,true_and,and_true,Nat.reduceAdd,and_self]; omega)) ?_)))
  first | rfl | (simp (disch:=omega) only [wr64,wr8,wr16,wr32,ofNatE,Nat.zero_add,bleT,bltT,dT,dF,Bool.true_and,Bool.and_true,Bool.and_self,cond_true,cond_false,Nat.sub_zero,beq_self_eq_true]; done) | (simp (disch:=omega) only [wr64,wr8,wr16,wr32,ofNatE,Nat.zero_add,bleT,bltT,dT,dF,Bool.true_and,Bool.and_true,Bool.and_self,cond_true,cond_false,Nat.sub_zero,beq_self_eq_true]; rfl)
theorem l19p (L:JL) (o:Nat->Nat) (i:Int) (A:Blk) (v len nd g:Nat) (d:Nat->Nat) (hr:Heap) (hlen:0<len) (hnd:len<=nd) (hn4:len<=400) (hd:∀ j,j<len->d j<L.n) (x:Int) (hg:g<len) (hx:L.tm (d g) = x) (hgt:∀ j,g<j->j<len->L.tm (d j)<x) :
 LoopOk P41 G41 (A41 5) 5 19 (litS (v19p L o (.own 1 v 0 len none) i x (len - 1:Nat)) (A :: nb v nd d :: hr) (.exit 4) (e19p L o (.own 1 v 0 len none) i (g:Nat)) (A :: nb v nd d :: hr)):=by
 have:=loop_steps (P:=P41) (Gl:=G41) (an:=A41 5) hm41 (f:=5) (r:=19) (by kernel_rfl) (fun k=>v19p L o (.own 1 v 0 len none) i x (len - 1 - k:Nat)) (fun _=>A :: nb v nd d :: hr) (n:=len - 1 - g) (e1:=.exit 4) (vs1:=e19p L o (.own 1 v 0 len none) i (g:Nat)) (h1:=A :: nb v nd d :: hr) (fun k hk=>?_) ?_
 ·exact this
 ·have e:len - 1 - (k+1) = len - 1 - k - 1:=by omega
  rw [e]
  have hgk:g<len - 1 - k:=by omega
  have hkl:len - 1 - k<len:=by omega
  generalize len - 1 - k = k at *
  have h1:=hgt k hgk hkl
  have h2:=hd k hkl
  refine Step.mk0 (A:=A41) (m:=0) none_ok rfl rfl loops0 (h1:=A :: nb v nd d :: hr) (Eq.trans (show iterR P41 G41 A41 noneO 0 5 [] 19 (v19p L o (.own 1 v 0 len none) i x (k:Nat)) (A :: nb v nd d :: hr) =
(
 bif v==v then
 bif decide (0<=Int.ofNat k)&&decide (Int.ofNat k<Int.ofNat len) then
 bif v==v then
 bif ((0:Nat)+k).blt nd then
 bif decide (0<=Int.ofNat (d (0+k)))&&decide (Int.ofNat (d (0+k))<Int.ofNat L.n) then
 bif !decide (L.tm (d (0+k)) = x) then
 some ((.normal,[jv L
 none,ov L.n o (some L.n),.own 1 v 0 len
 none,.ptr 0 0 0 0,.int .i64 i,.int .i64 x,.int .i64 (IntKind.i64.wrap (Int.ofNat k - 1))],A :: nb v nd d :: hr))
 else
 some ((.exit 4,[jv L
 none,ov L.n o (some L.n),.own 1 v 0 len
 none,.ptr 0 0 0 0,.int .i64 i,.int .i64 (.ofNat k)],A :: nb v nd d :: hr))
 else none else none else none else none else
 none) from by kernel_rfl) ?_) (.refl _)
  simp only [Nat.zero_add]
  rw [show IntKind.i64.wrap (Int.ofNat k - (1:Int)) = ((k - 1:Nat):Int) by rw [wr64 (by rw [ofNatE]; omega) (by rw [ofNatE]; omega),ofNatE]; omega]
  (repeat (first | (refine bift (by first | assumption | omega | (simp (disch:=omega) only [wr64,wr8,wr16,wr32,ofNatE,toNatE,toNatE1,Bool.and_eq_true,Bool.or_eq_true,Bool.not_eq_true',decide_eq_true_eq,decide_eq_false_iff_not,nble,nblt,nbeq,Nat.zero_add,Nat.add_zero,Int.zero_add,Int.add_zero,List.length_cons,List.length_nil,true_and,and_true,Nat.reduceAdd,and_self]; done) | (simp (disch:=omega) only [wr64,wr8,wr16,wr32,ofNatE,toNatE,toNatE1,Bool.and_eq_true,Bool.or_eq_true,Bool.not_eq_true',decide_eq_true_eq,decide_eq_false_iff_not,nble,nblt,nbeq,Nat.zero_add,Nat.add_zero,Int.zero_add,Int.add_zero,List.length_cons,List.length_nil,true_and,and_true,Nat.reduceAdd,and_self]; omega)) ?_) | (refine biff (by first | assumption | (simp (disch:=omega) only [wr64,wr8,wr16,wr32,ofNatE,toNatE,toNatE1,Bool.and_eq_true,Bool.or_eq_true,Bool.not_eq_true',decide_eq_true_eq,decide_eq_false_iff_not,nble,nblt,nbeq,Nat.zero_add,Nat.add_zero,Int.zero_add,Int.add_zero,List.length_cons,List.length_nil,true_and,and_true,Nat.reduceAdd,and_self]; done) | (simp (disch:=omega) only [wr64,wr8,wr16,wr32,ofNatE,toNatE,toNatE1,Bool.and_eq_true,Bool.or_eq_true,Bool.not_eq_true',decide_eq_true_eq,decide_eq_false_iff_not,nble,nblt,nbeq,Nat.zero_add,Nat.add_zero,Int.zero_add,Int.add_zero,List.length_cons,List.length_nil,true_and,and_true,Nat.reduceAdd,and_self]; omega)) ?_)))
  first | rfl | (simp (disch:=omega) only [wr64,wr8,wr16,wr32,ofNatE,Nat.zero_add,bleT,bltT,dT,dF,Bool.true_and,Bool.and_true,Bool.and_self,cond_true,cond_false,Nat.sub_zero,beq_self_eq_true]; done) | (simp (disch:=omega) only [wr64,wr8,wr16,wr32,ofNatE,Nat.zero_add,bleT,bltT,dT,dF,Bool.true_and,Bool.and_true,Bool.and_self,cond_true,cond_false,Nat.sub_zero,beq_self_eq_true]; rfl)
 ·rw [show len - 1 - (len - 1 - g) = g by omega]
  have h2:=hd g hg
  refine Last.mk0 (A:=A41) (m:=0) none_ok rfl rfl loops0 (by simp) (h1:=A :: nb v nd d :: hr) (Eq.trans (show iterR P41 G41 A41 noneO 0 5 [] 19 (v19p L o (.own 1 v 0 len none) i x (g:Nat)) (A :: nb v nd d :: hr) =
(
 bif v==v then
 bif decide (0<=Int.ofNat g)&&decide (Int.ofNat g<Int.ofNat len) then
 bif v==v then
 bif ((0:Nat)+g).blt nd then
 bif decide (0<=Int.ofNat (d (0+g)))&&decide (Int.ofNat (d (0+g))<Int.ofNat L.n) then
 bif !decide (L.tm (d (0+g)) = x) then
 some ((.normal,[jv L
 none,ov L.n o (some L.n),.own 1 v 0 len
 none,.ptr 0 0 0 0,.int .i64 i,.int .i64 x,.int .i64 (IntKind.i64.wrap (Int.ofNat g - 1))],A :: nb v nd d :: hr))
 else
 some ((.exit 4,[jv L
 none,ov L.n o (some L.n),.own 1 v 0 len
 none,.ptr 0 0 0 0,.int .i64 i,.int .i64 (.ofNat g)],A :: nb v nd d :: hr))
 else none else none else none else none else
 none) from by kernel_rfl) ?_) (.refl _)
  simp only [Nat.zero_add,hx]
  (repeat (first | (refine bift (by first | assumption | omega | (simp (disch:=omega) only [wr64,wr8,wr16,wr32,ofNatE,toNatE,toNatE1,Bool.and_eq_true,Bool.or_eq_true,Bool.not_eq_true',decide_eq_true_eq,decide_eq_false_iff_not,nble,nblt,nbeq,Nat.zero_add,Nat.add_zero,Int.zero_add,Int.add_zero,List.length_cons,List.length_nil,true_and,and_true,Nat.reduceAdd,and_self]; done) | (simp (disch:=omega) only [wr64,wr8,wr16,wr32,ofNatE,toNatE,toNatE1,Bool.and_eq_true,Bool.or_eq_true,Bool.not_eq_true',decide_eq_true_eq,decide_eq_false_iff_not,nble,nblt,nbeq,Nat.zero_add,Nat.add_zero,Int.zero_add,Int.add_zero,List.length_cons,List.length_nil,true_and,and_true,Nat.reduceAdd,and_self]; omega)) ?_) | (refine biff (by first | assumption | (simp (disch:=omega) only [wr64,wr8,wr16,wr32,ofNatE,toNatE,toNatE1,Bool.and_eq_true,Bool.or_eq_true,Bool.not_eq_true',decide_eq_true_eq,decide_eq_false_iff_not,nble,nblt,nbeq,Nat.zero_add,Nat.add_zero,Int.zero_add,Int.add_zero,List.length_cons,List.length_nil,true_and,and_true,Nat.reduceAdd,and_self]; done) | (simp (disch:=omega) only [wr64,wr8,wr16,wr32,ofNatE,toNatE,toNatE1,Bool.and_eq_true,Bool.or_eq_true,Bool.not_eq_true',decide_eq_true_eq,decide_eq_false_iff_not,nble,nblt,nbeq,Nat.zero_add,Nat.add_zero,Int.zero_add,Int.add_zero,List.length_cons,List.length_nil,true_and,and_true,Nat.reduceAdd,and_self]; omega)) ?_)))
  first | rfl | (simp (disch:=omega) only [wr64,wr8,wr16,wr32,ofNatE,Nat.zero_add,bleT,bltT,dT,dF,Bool.true_and,Bool.and_true,Bool.and_self,cond_true,cond_false,Nat.sub_zero,beq_self_eq_true]; done) | (simp (disch:=omega) only [wr64,wr8,wr16,wr32,ofNatE,Nat.zero_add,bleT,bltT,dT,dF,Bool.true_and,Bool.and_true,Bool.and_self,cond_true,cond_false,Nat.sub_zero,beq_self_eq_true]; rfl)
open Go.Proofs
def allT (N n:Nat) (p:Nat->Nat->Nat):T:=.view 1 N (fun j=>[.view 1 n (fun q=>[.int .i64 (p j q:Nat)]) none]) none
def v13b (L:JL) (w:Int) (x9:T) (i:Int):List T:=[jv L none,.int .i64 w,x9,.int .i64 i]
def e13b (L:JL) (w:Int) (x9:T):List T:=[.undef,jv L none,.int .i64 w,x9]
def v19b (L:JL) (w:Int) (x9:T) (N:Nat) (p:Nat->Nat->Nat) (i:Int):List T:=[jv L none,.int .i64 w,x9,allT N L.n p,.int .i64 i]
def v23b (L:JL) (w:Int) (x9:T) (N:Nat) (p:Nat->Nat->Nat) (i a b m k:Int):List T:=[jv L none,.int .i64 w,x9,allT N L.n p,.int .i64 i,.int .i64 a,.int .i64 b,.int .i64 m,.int .i64 k]
def e23b (L:JL) (w:Int) (x9:T) (N:Nat) (p:Nat->Nat->Nat) (i b m:Int):List T:=[jv L none,.int .i64 w,x9,allT N L.n p,.int .i64 i,.int .i64 b,.int .i64 m]
open Go.Proofs
theorem l13b (L:JL) (w:Int) (m:Nat) (x:Nat->Nat) (hl:m<=40) (hx:∀ i,i+1<m->x i<x (i+1)):LoopOk P41 G41 (A41 4) 4 13 (litS (v13b L w (ov m x (some m)) 1) [] (.exit 0) (e13b L w (ov m x (some m))) []):=by
 have step:∀ k,k+1<m->Step P41 G41 (A41 4) 4 13 0 (v13b L w (ov m x (some m)) (k+1:Nat)) [] (v13b L w (ov m x (some m)) (k+2:Nat)) []:=fun k hk=>by
  have h:=hx k hk
  refine Step.mk0 (A:=A41) (m:=0) none_ok rfl rfl loops0 (h1:=[]) (Eq.trans (show iterR P41 G41 A41 noneO 0 4 [] 13 (v13b L w (ov m x (some m)) (k+1:Nat)) [] =
(
 bif decide (Int.ofNat (k+1)<Int.ofNat m) then
 bif decide (0<=IntKind.i64.wrap (Int.ofNat (k+1) - (1:Int)))&&decide (IntKind.i64.wrap (Int.ofNat (k+1) - (1:Int))<Int.ofNat m) then
 bif decide (0<=Int.ofNat (k+1))&&decide (Int.ofNat (k+1)<Int.ofNat m) then
 bif decide (Int.ofNat (x (k+1))<=Int.ofNat (x (IntKind.i64.wrap (Int.ofNat (k+(1:Nat)) - (1:Int))).toNat)) then
 some ((.ret,[.bool false,jv L
 none,.int .i64 w,ov m x (some m)],[]))
 else
 some ((.normal,[jv L
 none,.int .i64 w,ov m x (some m),.int .i64 (IntKind.i64.wrap (Int.ofNat (k+1)+(1:Int)))],[]))
 else none else none else
 some ((.exit 0,[.undef,jv L
 none,.int .i64 w,ov m x (some m)],[]))) from by kernel_rfl) ?_) (.refl _)
  simp only [show IntKind.i64.wrap (Int.ofNat (k+1) - (1:Int)) = (k:Int) by rw [wr64 (by rw [ofNatE]; omega) (by rw [ofNatE]; omega),ofNatE]; omega,toNatE]
  (repeat (first | (refine bift (by first | assumption | omega | (simp (disch:=omega) only [wr64,wr8,wr16,wr32,ofNatE,toNatE,toNatE1,Bool.and_eq_true,Bool.or_eq_true,Bool.not_eq_true',decide_eq_true_eq,decide_eq_false_iff_not,nble,nblt,nbeq,Nat.zero_add,Nat.add_zero,Int.zero_add,Int.add_zero,List.length_cons,List.length_nil,true_and,and_true,Nat.reduceAdd,and_self]; done) | (simp (disch:=omega) only [wr64,wr8,wr16,wr32,ofNatE,toNatE,toNatE1,Bool.and_eq_true,Bool.or_eq_true,Bool.not_eq_true',decide_eq_true_eq,decide_eq_false_iff_not,nble,nblt,nbeq,Nat.zero_add,Nat.add_zero,Int.zero_add,Int.add_zero,List.length_cons,List.length_nil,true_and,and_true,Nat.reduceAdd,and_self]; omega)) ?_) | (refine biff (by first | assumption | (simp (disch:=omega) only [wr64,wr8,wr16,wr32,ofNatE,toNatE,toNatE1,Bool.and_eq_true,Bool.or_eq_true,Bool.not_eq_true',decide_eq_true_eq,decide_eq_false_iff_not,nble,nblt,nbeq,Nat.zero_add,Nat.add_zero,Int.zero_add,Int.add_zero,List.length_cons,List.length_nil,true_and,and_true,Nat.reduceAdd,and_self]; done) | (simp (disch:=omega) only [wr64,wr8,wr16,wr32,ofNatE,toNatE,toNatE1,Bool.and_eq_true,Bool.or_eq_true,Bool.not_eq_true',decide_eq_true_eq,decide_eq_false_iff_not,nble,nblt,nbeq,Nat.zero_add,Nat.add_zero,Int.zero_add,Int.add_zero,List.length_cons,List.length_nil,true_and,and_true,Nat.reduceAdd,and_self]; omega)) ?_)))
  first | rfl | (simp (disch:=omega) only [wr64,wr8,wr16,wr32,ofNatE,Nat.zero_add,bleT,bltT,dT,dF,Bool.true_and,Bool.and_true,Bool.and_self,cond_true,cond_false,Nat.sub_zero,beq_self_eq_true]; done) | (simp (disch:=omega) only [wr64,wr8,wr16,wr32,ofNatE,Nat.zero_add,bleT,bltT,dT,dF,Bool.true_and,Bool.and_true,Bool.and_self,cond_true,cond_false,Nat.sub_zero,beq_self_eq_true]; rfl)
 have last:∀ k,m<=k+1->k<=40->Last P41 G41 (A41 4) 4 13 0 (v13b L w (ov m x (some m)) (k+1:Nat)) [] (.exit 0) (e13b L w (ov m x (some m))) []:=fun k hk hk2=>by
  refine Last.mk0 (A:=A41) (m:=0) none_ok rfl rfl loops0 (by simp) (h1:=[]) (Eq.trans (show iterR P41 G41 A41 noneO 0 4 [] 13 (v13b L w (ov m x (some m)) (k+1:Nat)) [] =
(
 bif decide (Int.ofNat (k+1)<Int.ofNat m) then
 bif decide (0<=IntKind.i64.wrap (Int.ofNat (k+1) - (1:Int)))&&decide (IntKind.i64.wrap (Int.ofNat (k+1) - (1:Int))<Int.ofNat m) then
 bif decide (0<=Int.ofNat (k+1))&&decide (Int.ofNat (k+1)<Int.ofNat m) then
 bif decide (Int.ofNat (x (k+1))<=Int.ofNat (x (IntKind.i64.wrap (Int.ofNat (k+(1:Nat)) - (1:Int))).toNat)) then
 some ((.ret,[.bool false,jv L
 none,.int .i64 w,ov m x (some m)],[]))
 else
 some ((.normal,[jv L
 none,.int .i64 w,ov m x (some m),.int .i64 (IntKind.i64.wrap (Int.ofNat (k+1)+(1:Int)))],[]))
 else none else none else
 some ((.exit 0,[.undef,jv L
 none,.int .i64 w,ov m x (some m)],[]))) from by kernel_rfl) ?_) (.refl _)
  (repeat (first | (refine bift (by first | assumption | omega | (simp (disch:=omega) only [wr64,wr8,wr16,wr32,ofNatE,toNatE,toNatE1,Bool.and_eq_true,Bool.or_eq_true,Bool.not_eq_true',decide_eq_true_eq,decide_eq_false_iff_not,nble,nblt,nbeq,Nat.zero_add,Nat.add_zero,Int.zero_add,Int.add_zero,List.length_cons,List.length_nil,true_and,and_true,Nat.reduceAdd,and_self]; done) | (simp (disch:=omega) only [wr64,wr8,wr16,wr32,ofNatE,toNatE,toNatE1,Bool.and_eq_true,Bool.or_eq_true,Bool.not_eq_true',decide_eq_true_eq,decide_eq_false_iff_not,nble,nblt,nbeq,Nat.zero_add,Nat.add_zero,Int.zero_add,Int.add_zero,List.length_cons,List.length_nil,true_and,and_true,Nat.reduceAdd,and_self]; omega)) ?_) | (refine biff (by first | assumption | (simp (disch:=omega) only [wr64,wr8,wr16,wr32,ofNatE,toNatE,toNatE1,Bool.and_eq_true,Bool.or_eq_true,Bool.not_eq_true',decide_eq_true_eq,decide_eq_false_iff_not,nble,nblt,nbeq,Nat.zero_add,Nat.add_zero,Int.zero_add,Int.add_zero,List.length_cons,List.length_nil,true_and,and_true,Nat.reduceAdd,and_self]; done) | (simp (disch:=omega) only [wr64,wr8,wr16,wr32,ofNatE,toNatE,toNatE1,Bool.and_eq_true,Bool.or_eq_true,Bool.not_eq_true',decide_eq_true_eq,decide_eq_false_iff_not,nble,nblt,nbeq,Nat.zero_add,Nat.add_zero,Int.zero_add,Int.add_zero,List.length_cons,List.length_nil,true_and,and_true,Nat.reduceAdd,and_self]; omega)) ?_)))
  rfl
 rcases Nat.eq_zero_or_pos m with h0 | h0
 ·exact loop_steps hm41 (by kernel_rfl) (fun k=>v13b L w (ov m x (some m)) (k+1:Nat)) (fun _=>[]) (n:=0) (fun k hk=>by omega) (last 0 (by omega) (by omega))
 ·have:=loop_steps (P:=P41) (Gl:=G41) (an:=A41 4) hm41 (f:=4) (r:=13) (by kernel_rfl) (fun k=>v13b L w (ov m x (some m)) (k+1:Nat)) (fun _=>[]) (n:=m - 1) (e1:=.exit 0) (vs1:=e13b L w (ov m x (some m))) (h1:=[]) (fun k hk=>step k (by omega)) (last (m - 1) (by omega) (by omega))
  exact this
theorem l23b (L:JL) (hL:L.Ok) (w:Int) (x9:T) (N i:Nat) (p:Nat->Nat->Nat) (hi:i<N) (hp:Ordr L.n (p i)):LoopOk P41 G41 (A41 4) 4 23 (litS (v23b L w x9 N p i 0 0 0 0) [] (.exit 4) (e23b L w x9 N p i (wst L (p i) L.n) (mny L (p i) L.n:Nat)) []):=by
 have hn:=hL.n
 refine loop_steps hm41 (by kernel_rfl) (fun k=>v23b L w x9 N p i (tms L (p i) k) (wst L (p i) k) (mny L (p i) k:Nat) k) (fun _=>[]) (n:=L.n) (fun k hk=>?_) ?_
 ·have h1:=tms_bd hL hp.lt k (by omega)
  have h2:=hp.lt k hk
  have h3:=hL.tm _ h2
  have h4:=hL.du _ h2
  have h5:=mny_le L (p i) k
  have e1:tms L (p i) (k+1) = tms L (p i) k+L.tm (p i k):=rfl
  have e2:wst L (p i) (k+1) = if k = 0 ∨ wst L (p i) k<tms L (p i) k+L.tm (p i k) - L.du (p i k) then tms L (p i) k+L.tm (p i k) - L.du (p i k) else wst L (p i) k:=rfl
  have e3:mny L (p i) (k+1) = if L.du (p i k)<tms L (p i) k+L.tm (p i k) then mny L (p i) k+1 else mny L (p i) k:=rfl
  rw [e1,e2,e3]
  generalize tms L (p i) k = a at *
  generalize wst L (p i) k = b at *
  generalize mny L (p i) k = m at *
  refine Step.mk0 (A:=A41) (m:=0) none_ok rfl rfl loops0 (h1:=[]) (Eq.trans (show iterR P41 G41 A41 noneO 0 4 [] 23 (v23b L w x9 N p i a b m k) [] =
(
 bif decide (0<=Int.ofNat i)&&decide (Int.ofNat i<Int.ofNat N) then
 bif decide (Int.ofNat k<Int.ofNat L.n) then
 bif decide (0<=Int.ofNat i)&&decide (Int.ofNat i<Int.ofNat N) then
 bif decide (0<=Int.ofNat k)&&decide (Int.ofNat k<Int.ofNat L.n) then
 bif decide (0<=Int.ofNat (p i k))&&decide (Int.ofNat (p i k)<Int.ofNat L.n) then
 bif decide (Int.ofNat k = 0) then
 bif decide (L.du (p i k)<IntKind.i64.wrap (a+L.tm (p i k))) then
 some ((.normal,[jv L
 none,.int .i64 w,x9,.view 1 N (fun j=>[.view 1 L.n (fun q=>[.int .i64 (.ofNat (p j q))])
 none])
 none,.int .i64 (.ofNat i),.int .i64 (IntKind.i64.wrap (a+L.tm (p i k))),.int .i64 (IntKind.i64.wrap (IntKind.i64.wrap (a+L.tm (p i k)) - L.du (p i k))),.int .i64 (IntKind.i64.wrap (Int.ofNat m+1)),.int .i64 (IntKind.i64.wrap (Int.ofNat k+1))],[]))
 else
 some ((.normal,[jv L
 none,.int .i64 w,x9,.view 1 N (fun j=>[.view 1 L.n (fun q=>[.int .i64 (.ofNat (p j q))])
 none])
 none,.int .i64 (.ofNat i),.int .i64 (IntKind.i64.wrap (a+L.tm (p i k))),.int .i64 (IntKind.i64.wrap (IntKind.i64.wrap (a+L.tm (p i k)) - L.du (p i k))),.int .i64 (.ofNat m),.int .i64 (IntKind.i64.wrap (Int.ofNat k+1))],[]))
 else
 bif decide (b<IntKind.i64.wrap (IntKind.i64.wrap (a+L.tm (p i k)) - L.du (p i k))) then
 bif decide (L.du (p i k)<IntKind.i64.wrap (a+L.tm (p i k))) then
 some ((.normal,[jv L
 none,.int .i64 w,x9,.view 1 N (fun j=>[.view 1 L.n (fun q=>[.int .i64 (.ofNat (p j q))])
 none])
 none,.int .i64 (.ofNat i),.int .i64 (IntKind.i64.wrap (a+L.tm (p i k))),.int .i64 (IntKind.i64.wrap (IntKind.i64.wrap (a+L.tm (p i k)) - L.du (p i k))),.int .i64 (IntKind.i64.wrap (Int.ofNat m+1)),.int .i64 (IntKind.i64.wrap (Int.ofNat k+1))],[]))
 else
 some ((.normal,[jv L
 none,.int .i64 w,x9,.view 1 N (fun j=>[.view 1 L.n (fun q=>[.int .i64 (.ofNat (p j q))])
 none])
 none,.int .i64 (.ofNat i),.int .i64 (IntKind.i64.wrap (a+L.tm (p i k))),.int .i64 (IntKind.i64.wrap (IntKind.i64.wrap (a+L.tm (p i k)) - L.du (p i k))),.int .i64 (.ofNat m),.int .i64 (IntKind.i64.wrap (Int.ofNat k+1))],[]))
 else
 bif decide (L.du (p i k)<IntKind.i64.wrap (a+L.tm (p i k))) then
 some ((.normal,[jv L
 none,.int .i64 w,x9,.view 1 N (fun j=>[.view 1 L.n (fun q=>[.int .i64 (.ofNat (p j q))])
 none])
 none,.int .i64 (.ofNat i),.int .i64 (IntKind.i64.wrap (a+L.tm (p i k))),.int .i64 b,.int .i64 (IntKind.i64.wrap (Int.ofNat m+1)),.int .i64 (IntKind.i64.wrap (Int.ofNat k+1))],[]))
 else
 some ((.normal,[jv L
 none,.int .i64 w,x9,.view 1 N (fun j=>[.view 1 L.n (fun q=>[.int .i64 (.ofNat (p j q))])
 none])
 none,.int .i64 (.ofNat i),.int .i64 (IntKind.i64.wrap (a+L.tm (p i k))),.int .i64 b,.int .i64 (.ofNat m),.int .i64 (IntKind.i64.wrap (Int.ofNat k+1))],[]))
 else none else none else none else
 some ((.exit 4,[jv L
 none,.int .i64 w,x9,.view 1 N (fun j=>[.view 1 L.n (fun q=>[.int .i64 (.ofNat (p j q))])
 none])
 none,.int .i64 (.ofNat i),.int .i64 b,.int .i64 (.ofNat m)],[]))
 else
 none) from by kernel_rfl) ?_) (.refl _)
  have w1:IntKind.i64.wrap (a+L.tm (p i k)) = a+L.tm (p i k):=wr64 (by omega) (by omega)
  have w2:IntKind.i64.wrap (a+L.tm (p i k) - L.du (p i k)) = a+L.tm (p i k) - L.du (p i k):=wr64 (by omega) (by omega)
  have w3:IntKind.i64.wrap (Int.ofNat m+(1:Int)) = ((m+1:Nat):Int):=by rw [wr64 (by rw [ofNatE]; omega) (by rw [ofNatE]; omega)]; rfl
  have w4:IntKind.i64.wrap (Int.ofNat k+(1:Int)) = ((k+1:Nat):Int):=by rw [wr64 (by rw [ofNatE]; omega) (by rw [ofNatE]; omega)]; rfl
  simp only [w1,w2,w3,w4]
  refine bift (by simp only [ofNatE,Bool.and_eq_true,decide_eq_true_eq]; omega) ?_
  refine bift (by simp only [ofNatE,decide_eq_true_eq]; omega) ?_
  refine bift (by simp only [ofNatE,Bool.and_eq_true,decide_eq_true_eq]; omega) ?_
  refine bift (by simp only [ofNatE,Bool.and_eq_true,decide_eq_true_eq]; omega) ?_
  refine bift (by simp only [ofNatE,Bool.and_eq_true,decide_eq_true_eq]; omega) ?_
  by_cases q:k = 0
  ·rw [if_pos (.inl q)]
   refine bift (by simp only [ofNatE,decide_eq_true_eq]; omega) ?_
   by_cases q3:L.du (p i k)<a+L.tm (p i k)
   ·rw [if_pos q3]; exact bift (dT q3) rfl
   ·rw [if_neg q3]; exact biff (by simp only [decide_eq_true_eq]; omega) rfl
  ·refine biff (by simp only [ofNatE,decide_eq_true_eq]; omega) ?_
   by_cases q2:b<a+L.tm (p i k) - L.du (p i k)
   ·rw [if_pos (.inr q2)]
    refine bift (dT q2) ?_
    by_cases q3:L.du (p i k)<a+L.tm (p i k)
    ·rw [if_pos q3]; exact bift (dT q3) rfl
    ·rw [if_neg q3]; exact biff (by simp only [decide_eq_true_eq]; omega) rfl
   ·rw [if_neg (by omega)]
    refine biff (by simp only [decide_eq_true_eq]; omega) ?_
    by_cases q3:L.du (p i k)<a+L.tm (p i k)
    ·rw [if_pos q3]; exact bift (dT q3) rfl
    ·rw [if_neg q3]; exact biff (by simp only [decide_eq_true_eq]; omega) rfl
 ·generalize tms L (p i) L.n = a at *
  generalize wst L (p i) L.n = b at *
  generalize mny L (p i) L.n = m at *
  refine Last.mk0 (A:=A41) (m:=0) none_ok rfl rfl loops0 (by simp) (h1:=[]) (Eq.trans (show iterR P41 G41 A41 noneO 0 4 [] 23 (v23b L w x9 N p i a b m L.n) [] =
(
 bif decide (0<=Int.ofNat i)&&decide (Int.ofNat i<Int.ofNat N) then
 bif decide (Int.ofNat L.n<Int.ofNat L.n) then
 bif decide (0<=Int.ofNat i)&&decide (Int.ofNat i<Int.ofNat N) then
 bif decide (0<=Int.ofNat L.n)&&decide (Int.ofNat L.n<Int.ofNat L.n) then
 bif decide (0<=Int.ofNat (p i L.n))&&decide (Int.ofNat (p i L.n)<Int.ofNat L.n) then
 bif decide (Int.ofNat L.n = 0) then
 bif decide (L.du (p i L.n)<IntKind.i64.wrap (a+L.tm (p i L.n))) then
 some ((.normal,[jv L
 none,.int .i64 w,x9,.view 1 N (fun j=>[.view 1 L.n (fun q=>[.int .i64 (.ofNat (p j q))])
 none])
 none,.int .i64 (.ofNat i),.int .i64 (IntKind.i64.wrap (a+L.tm (p i L.n))),.int .i64 (IntKind.i64.wrap (IntKind.i64.wrap (a+L.tm (p i L.n)) - L.du (p i L.n))),.int .i64 (IntKind.i64.wrap (Int.ofNat m+1)),.int .i64 (IntKind.i64.wrap (Int.ofNat L.n+1))],[]))
 else
 some ((.normal,[jv L
 none,.int .i64 w,x9,.view 1 N (fun j=>[.view 1 L.n (fun q=>[.int .i64 (.ofNat (p j q))])
 none])
 none,.int .i64 (.ofNat i),.int .i64 (IntKind.i64.wrap (a+L.tm (p i L.n))),.int .i64 (IntKind.i64.wrap (IntKind.i64.wrap (a+L.tm (p i L.n)) - L.du (p i L.n))),.int .i64 (.ofNat m),.int .i64 (IntKind.i64.wrap (Int.ofNat L.n+1))],[]))
 else
 bif decide (b<IntKind.i64.wrap (IntKind.i64.wrap (a+L.tm (p i L.n)) - L.du (p i L.n))) then
 bif decide (L.du (p i L.n)<IntKind.i64.wrap (a+L.tm (p i L.n))) then
 some ((.normal,[jv L
 none,.int .i64 w,x9,.view 1 N (fun j=>[.view 1 L.n (fun q=>[.int .i64 (.ofNat (p j q))])
 none])
 none,.int .i64 (.ofNat i),.int .i64 (IntKind.i64.wrap (a+L.tm (p i L.n))),.int .i64 (IntKind.i64.wrap (IntKind.i64.wrap (a+L.tm (p i L.n)) - L.du (p i L.n))),.int .i64 (IntKind.i64.wrap (Int.ofNat m+1)),.int .i64 (IntKind.i64.wrap (Int.ofNat L.n+1))],[]))
 else
 some ((.normal,[jv L
 none,.int .i64 w,x9,.view 1 N (fun j=>[.view 1 L.n (fun q=>[.int .i64 (.ofNat (p j q))])
 none])
 none,.int .i64 (.ofNat i),.int .i64 (IntKind.i64.wrap (a+L.tm (p i L.n))),.int .i64 (IntKind.i64.wrap (IntKind.i64.wrap (a+L.tm (p i L.n)) - L.du (p i L.n))),.int .i64 (.ofNat m),.int .i64 (IntKind.i64.wrap (Int.ofNat L.n+1))],[]))
 else
 bif decide (L.du (p i L.n)<IntKind.i64.wrap (a+L.tm (p i L.n))) then
 some ((.normal,[jv L
 none,.int .i64 w,x9,.view 1 N (fun j=>[.view 1 L.n (fun q=>[.int .i64 (.ofNat (p j q))])
 none])
 none,.int .i64 (.ofNat i),.int .i64 (IntKind.i64.wrap (a+L.tm (p i L.n))),.int .i64 b,.int .i64 (IntKind.i64.wrap (Int.ofNat m+1)),.int .i64 (IntKind.i64.wrap (Int.ofNat L.n+1))],[]))
 else
 some ((.normal,[jv L
 none,.int .i64 w,x9,.view 1 N (fun j=>[.view 1 L.n (fun q=>[.int .i64 (.ofNat (p j q))])
 none])
 none,.int .i64 (.ofNat i),.int .i64 (IntKind.i64.wrap (a+L.tm (p i L.n))),.int .i64 b,.int .i64 (.ofNat m),.int .i64 (IntKind.i64.wrap (Int.ofNat L.n+1))],[]))
 else none else none else none else
 some ((.exit 4,[jv L
 none,.int .i64 w,x9,.view 1 N (fun j=>[.view 1 L.n (fun q=>[.int .i64 (.ofNat (p j q))])
 none])
 none,.int .i64 (.ofNat i),.int .i64 b,.int .i64 (.ofNat m)],[]))
 else
 none) from by kernel_rfl) ?_) (.refl _)
  refine bift (by simp only [ofNatE,Bool.and_eq_true,decide_eq_true_eq]; omega) ?_
  exact biff (by simp) rfl
theorem l19b (L:JL) (hL:L.Ok) (w:Int) (m:Nat) (x:Nat->Nat) (N:Nat) (p:Nat->Nat->Nat) (hN:N<=1000) (hp:∀ i,i<N->Ordr L.n (p i)) (hw:∀ i,i<N->w<=wst L (p i) L.n) (hm:∀ i,i<N->m<=mny L (p i) L.n):LoopOk P41 G41 (A41 4) 4 19 (litS (v19b L w (ov m x (some m)) N p 0) [] (.exit 2) [.undef] []):=by
 refine loop_steps hm41 (by kernel_rfl) (fun i=>v19b L w (ov m x (some m)) N p i) (fun _=>[]) (n:=N) (fun i hi=>?_) ?_
 ·have hl:=l23b L hL w (ov m x (some m)) N i p hi (hp i hi)
  have h1:=hw i hi
  have h2:=hm i hi
  generalize wst L (p i) L.n = b at *
  generalize mny L (p i) L.n = q at *
  refine Step.mk0 (A:=A41) (m:=0) none_ok rfl rfl (loops1 hl) (h1:=[]) (Eq.trans (show iterR P41 G41 A41 noneO 0 4 [(23,litS (v23b L w (ov m x (some m)) N p i 0 0 0 0) [] (.exit 4) (e23b L w (ov m x (some m)) N p i b (q:Nat)) [])] 19 (v19b L w (ov m x (some m)) N p i) [] =
(
 bif decide (Int.ofNat i<Int.ofNat N) then
 bif weakF [jv L
 none,.int .i64 w,ov m x (some m),.view 1 N (fun j=>[.view 1 L.n (fun q=>[.int .i64 (.ofNat (p j q))])
 none])
 none,.int .i64 (.ofNat i),.int .i64 0,.int .i64 0,.int .i64 0,.int .i64 0] [] [jv L
 none,.int .i64 w,ov m x (some m),.view 1 N (fun j=>[.view 1 L.n (fun q=>[.int .i64 (.ofNat (p j q))])
 none])
 none,.int .i64 (.ofNat i),.int .i64 0,.int .i64 0,.int .i64 0,.int .i64 0] [] then
 bif decide (b<w) then
 some ((.ret,[.bool false],[]))
 else
 bif decide (Int.ofNat q<Int.ofNat m) then
 some ((.ret,[.bool false],[]))
 else
 some ((.normal,[jv L
 none,.int .i64 w,ov m x (some m),.view 1 N (fun j=>[.view 1 L.n (fun q=>[.int .i64 (.ofNat (p j q))])
 none])
 none,.int .i64 (IntKind.i64.wrap (Int.ofNat i+1))],[]))
 else none else
 some ((.exit 2,[.undef],[]))) from by kernel_rfl) ?_) (.refl _)
  refine bift (by simp only [ofNatE,decide_eq_true_eq]; omega) ?_
  refine bift (weakF_of ⟨rfl,.refl _⟩) ?_
  (repeat (first | (refine bift (by first | assumption | omega | (simp (disch:=omega) only [wr64,wr8,wr16,wr32,ofNatE,toNatE,toNatE1,Bool.and_eq_true,Bool.or_eq_true,Bool.not_eq_true',decide_eq_true_eq,decide_eq_false_iff_not,nble,nblt,nbeq,Nat.zero_add,Nat.add_zero,Int.zero_add,Int.add_zero,List.length_cons,List.length_nil,true_and,and_true,Nat.reduceAdd,and_self]; done) | (simp (disch:=omega) only [wr64,wr8,wr16,wr32,ofNatE,toNatE,toNatE1,Bool.and_eq_true,Bool.or_eq_true,Bool.not_eq_true',decide_eq_true_eq,decide_eq_false_iff_not,nble,nblt,nbeq,Nat.zero_add,Nat.add_zero,Int.zero_add,Int.add_zero,List.length_cons,List.length_nil,true_and,and_true,Nat.reduceAdd,and_self]; omega)) ?_) | (refine biff (by first | assumption | (simp (disch:=omega) only [wr64,wr8,wr16,wr32,ofNatE,toNatE,toNatE1,Bool.and_eq_true,Bool.or_eq_true,Bool.not_eq_true',decide_eq_true_eq,decide_eq_false_iff_not,nble,nblt,nbeq,Nat.zero_add,Nat.add_zero,Int.zero_add,Int.add_zero,List.length_cons,List.length_nil,true_and,and_true,Nat.reduceAdd,and_self]; done) | (simp (disch:=omega) only [wr64,wr8,wr16,wr32,ofNatE,toNatE,toNatE1,Bool.and_eq_true,Bool.or_eq_true,Bool.not_eq_true',decide_eq_true_eq,decide_eq_false_iff_not,nble,nblt,nbeq,Nat.zero_add,Nat.add_zero,Int.zero_add,Int.add_zero,List.length_cons,List.length_nil,true_and,and_true,Nat.reduceAdd,and_self]; omega)) ?_)))
  first | rfl | (simp (disch:=omega) only [wr64,wr8,wr16,wr32,ofNatE,Nat.zero_add,bleT,bltT,dT,dF,Bool.true_and,Bool.and_true,Bool.and_self,cond_true,cond_false,Nat.sub_zero,beq_self_eq_true]; done) | (simp (disch:=omega) only [wr64,wr8,wr16,wr32,ofNatE,Nat.zero_add,bleT,bltT,dT,dF,Bool.true_and,Bool.and_true,Bool.and_self,cond_true,cond_false,Nat.sub_zero,beq_self_eq_true]; rfl)
 ·refine Last.mk0 (A:=A41) (m:=0) none_ok rfl rfl loops0 (by simp) (h1:=[]) (Eq.trans (show iterR P41 G41 A41 noneO 0 4 [] 19 (v19b L w (ov m x (some m)) N p N) [] =
(
 bif decide (Int.ofNat N<Int.ofNat N) then none else
 some ((.exit 2,[.undef],[]))) from by kernel_rfl) ?_) (.refl _)
  exact biff (by simp) rfl
open Go.Proofs
def ob (v nd:Nat) (get:Nat->List T):Blk:=⟨v,1,nd,get,false,false⟩
def x1B:Blk:=⟨0,1,1,fun j=>[[.own 0 0 0 0 (some 0)]].getD j [],false,true⟩
def v10o (n:Nat) (N k:Nat) (p:Nat->Nat->Nat) (nx:T) (i a:Int):List T:=[.int .i64 n,allT N k p,.int .i64 k,nx,.int .i64 i,.int .i64 a]
def e10o (n:Nat) (N k:Nat) (p:Nat->Nat->Nat) (nx:T) (i:Int):List T:=[.int .i64 n,allT N k p,.int .i64 k,nx,.int .i64 i]
open Go.Proofs
def ins (d:Nat->Nat) (a k:Nat):Nat->Nat:=fun q=>if q<a then d q else if q = a then k else d (q - 1)
theorem Ordr.ins {k a:Nat} {d:Nat->Nat} (h:Ordr k d) (ha:a<=k):Ordr (k+1) (ins d a k):=by
 refine ⟨fun j hj=>?_,fun i j hij hj e=>?_⟩
 ·unfold Go.Ab.ins
  split
  ·have:=h.lt j (by omega); omega
  ·split
   ·omega
   ·have:=h.lt (j - 1) (by omega); omega
 ·unfold Go.Ab.ins at e
  by_cases q1:i<a
  ·have l1:=h.lt i (by omega)
   rw [if_pos q1] at e
   by_cases q2:j<a
   ·rw [if_pos q2] at e; exact h.ne i j hij (by omega) e
   ·rw [if_neg q2] at e
    by_cases q3:j = a
    ·rw [if_pos q3] at e; omega
    ·rw [if_neg q3] at e; exact h.ne i (j - 1) (by omega) (by omega) e
  ·rw [if_neg q1] at e
   have q2:¬ j<a:=by omega
   rw [if_neg q2] at e
   by_cases q3:i = a
   ·rw [if_pos q3,if_neg (show ¬ j = a by omega)] at e
    have:=h.lt (j - 1) (by omega); omega
   ·rw [if_neg q3,if_neg (show ¬ j = a by omega)] at e
    exact h.ne (i - 1) (j - 1) (by omega) (by omega) e
def Nok (k cnt:Nat) (get:Nat->List T):Prop:=∀ j,j<cnt->∃ d,Ordr (k+1) d/\get j = [.view 1 (k+1) (fun q=>[.int .i64 (d q:Nat)]) none]
theorem ren0_frz {σ:List Nat} {h:Heap} {ix w m m':Nat} {bg:Nat->List T} {tb:Bool} (hp:posOf σ ix = none) (hc:σ.contains ix = false) (hi:h[ix]? = some ⟨w,1,m',bg,true,tb⟩) (hm:m<=m'):ren0 σ h (.own ix w 0 m none) = .view 1 m (fun j=>bg (0+j)) none:=by
 simp only [ren0,hp,resolve,hc,cond_false,hi,beq_self_eq_true,Bool.true_and]
 rw [show Nat.ble (0+m) m' = true from bleT (by omega)]
 rfl
theorem exTr {R:Type} {c:Bool} {x y:Option R} {P:R->Prop} (hc:c = true) (h:∃ q,x = some q/\P q):∃ q,(bif c then x else y) = some q/\P q:=by rw [hc]; exact h
theorem exFa {R:Type} {c:Bool} {x y:Option R} {P:R->Prop} (hc:¬ c = true) (h:∃ q,y = some q/\P q):∃ q,(bif c then x else y) = some q/\P q:=by
 rw [Bool.not_eq_true] at hc
 rw [hc]; exact h
theorem by_tree {R:Type} {x t:Option R} {G:Prop} (ht:x = t) (h:∃ q,t = some q/\(x = some q->G)):G:=by
 obtain ⟨q,h1,h2⟩:=h
 exact h2 (ht.trans h1)
theorem o10fin {n N k i a cnt kk nx:Nat} {p:Nat->Nat->Nat} {x:T} {h0:Heap} {v1:List T} {h1:Heap} (hr:iterR P41 G41 A41 noneO 0 14 [] 10 (v10o n N k p x i a) h0 = some (.normal,v1,h1)) (get:Nat->List T) (hget:Nok k cnt get)
 {v' nd':Nat} {gt:Nat->List T} (hv:v1 = v10o n N k p (.own nx v' 0 (cnt+1) none) i (a+1:Nat)) (ho:orderOkC kk [0,1,nx] h1 = true) (hnx:posOf [0,1,nx] nx = some 2)
 (hh:renH [0,1,nx] h1 = [eb 0,renB [0,1,nx] h1 x1B,renB [0,1,nx] h1 (ob v' nd' gt)]) (hcnt:cnt+1<=nd') (hlow:∀ j,j<cnt->gt j = get j)
 {ix w m m':Nat} {bg:Nat->List T} {tb:Bool} (hnew:gt cnt = [.own ix w 0 m none]) (hp:posOf [0,1,nx] ix = none) (hc:[0,1,nx].contains ix = false) (hi:h1[ix]? = some ⟨w,1,m',bg,true,tb⟩) (hmk:m = k+1) (hm:m<=m')
 (d:Nat->Nat) (hd:Ordr (k+1) d) (hg:∀ q,q<k+1->bg q = [.int .i64 (d q:Nat)]) :
 ∃ v' nd' get',cnt+1<=nd'/\Nok k (cnt+1) get'/\Step P41 G41 (A41 14) 14 10 kk (v10o n N k p x i a) h0 (v10o n N k p (.own 2 v' 0 (cnt+1) none) i (a+1:Nat)) [eb 0,x1B,ob v' nd' get']:=by
 subst hmk
 have hcell:(gt cnt).map (ren0 [0,1,nx] h1) = [.view 1 (k+1) (fun j=>bg (0+j)) none]:=by
  rw [hnew,List.map_cons,List.map_nil,ren0_frz hp hc hi hm]
 refine ⟨v',nd',fun j=>if j = cnt then [.view 1 (k+1) (fun q=>[.int .i64 (d q:Nat)]) none] else (gt j).map (ren0 [0,1,nx] h1),hcnt,fun j hj=>?_,Step.mkC (A:=A41) (m:=0) none_ok rfl rfl loops0 [0,1,nx] hr (v2:=v10o n N k p (.own 2 v' 0 (cnt+1) none) i (a+1:Nat)) ho ?_ hh fun nt=>?_⟩
 ·by_cases q:j = cnt
  ·exact ⟨d,hd,by dsimp only; rw [if_pos q]⟩
  ·obtain ⟨d',hd',e⟩:=hget j (by omega)
   refine ⟨d',hd',?_⟩
   dsimp only
   rw [if_neg q,hlow j (by omega),e]
   rfl
 ·subst hv
  show [T.int .i64 n,ren [0,1,nx] h1 (allT N k p),.int .i64 k,ren [0,1,nx] h1 (.own nx v' 0 (cnt+1) none),.int .i64 i,.int .i64 (a+1:Nat)] = _
  rw [show ren [0,1,nx] h1 (.own nx v' 0 (cnt+1) none) = .own 2 v' 0 (cnt+1) none by show (match posOf [0,1,nx] nx with | some j=>T.own j v' 0 (cnt+1) none | none=>_) = _; rw [hnx]]
  rfl
 ·refine .simAll rfl (fun i x y h2 h3=>by rw [h2] at h3; obtain rfl:=Option.some.inj h3; exact .refl _) ?_
  refine .cons ⟨rfl,rfl,rfl⟩ (fun hf=>⟨rfl,fun _ _=>rfl⟩) (fun _ _=>.refl _) (.cons ⟨rfl,rfl,rfl⟩ (fun hf=>by cases hf) (fun j hj=>?_) (.cons ⟨rfl,rfl,rfl⟩ (fun hf=>by cases hf) (fun j hj=>?_) .nil))
  ·have hj:j<1:=hj
   obtain rfl:j = 0:=by omega
   exact .refl _
  ·show SimL ((gt j).map (ren0 [0,1,nx] h1)) (if j = cnt then _ else _)
   by_cases q:j = cnt
   ·rw [if_pos q,q,hcell]
    refine .cons (.inr ⟨rfl,.view (.inl rfl) fun q hq=>?_,rfl⟩) .nil
    rw [Nat.zero_add,hg q hq]
    exact .refl _
   ·rw [if_neg q]
    exact .refl _
open Go.Proofs
theorem gt_fit (get:Nat->List T) (cnt:Nat) (x:List T):(∀ j,j<cnt->(bif Nat.ble (0+cnt) j&&Nat.blt j (0+cnt+1) then [x].getD (0+(j - (0+cnt))) [] else get j) = get j)/\(bif Nat.ble (0+cnt) cnt&&Nat.blt cnt (0+cnt+1) then [x].getD (0+(cnt - (0+cnt))) [] else get cnt) = x:=by
 constructor
 ·intro j hj
  rw [show Nat.ble (0+cnt) j = false from bleF (by omega)]; rfl
 ·rw [show Nat.ble (0+cnt) cnt = true from bleT (by omega),bltT (show cnt<0+cnt+1 by omega),show 0+(cnt - (0+cnt)) = 0 by omega]; rfl
theorem gt_grow (get:Nat->List T) (cnt:Nat) (x:List T):(∀ j,j<cnt->(bif Nat.blt j cnt then get (0+j) else [x].getD (0+(j - cnt)) []) = get j)/\(bif Nat.blt cnt cnt then get (0+cnt) else [x].getD (0+(cnt - cnt)) []) = x:=by
 constructor
 ·intro j hj
  rw [bltT hj,Nat.zero_add]; rfl
 ·rw [bltF (Nat.le_refl _),show 0+(cnt - cnt) = 0 by omega]; rfl
theorem bgA (d:Nat->Nat) (k a q:Nat) (ha:a = 0):(bif Nat.blt q 1 then bif Nat.blt (0+q) 0 then [] else List.map plainOr ([[T.int .i64 (Int.ofNat k)]].getD (0+q - 0) []) else [T.int .i64 (Int.ofNat (d (a+(q - 1))))]) = [.int .i64 (ins d a k q:Nat)]:=by
 subst ha
 unfold ins
 by_cases q0:q = 0
 ·subst q0; rfl
 ·rw [bltF (show 1<=q by omega),if_neg (by omega),if_neg q0,show 0+(q - 1) = q - 1 by omega]; rfl
theorem bgB (d:Nat->Nat) (k a q:Nat) (hq:q<a+1):(bif Nat.blt q (0+(a - 0)) then [T.int .i64 (Int.ofNat (d (0+(0+q - 0))))] else List.map plainOr ([[T.int .i64 (Int.ofNat k)]].getD (q - (0+(a - 0))) [])) = [.int .i64 (ins d a k q:Nat)]:=by
 unfold ins
 by_cases q0:q<a
 ·rw [bltT (show q<0+(a - 0) by omega),if_pos q0,show 0+(0+q - 0) = q by omega]; rfl
 ·rw [bltF (show 0+(a - 0)<=q by omega),if_neg q0,if_pos (by omega),show q - (0+(a - 0)) = 0 by omega]; rfl
theorem bgC (d:Nat->Nat) (k a q:Nat) (hak:a<k):(bif Nat.blt q (0+(a - 0)+1) then bif Nat.blt (0+q) (0+(a - 0)) then [T.int .i64 (Int.ofNat (d (0+(0+(0+q) - 0))))] else List.map plainOr ([[T.int .i64 (Int.ofNat k)]].getD (0+q - (0+(a - 0))) []) else [T.int .i64 (Int.ofNat (d (a+(q - (0+(a - 0)+1)))))]) = [.int .i64 (ins d a k q:Nat)]:=by
 unfold ins
 by_cases q0:q<a
 ·rw [bltT (show q<0+(a - 0)+1 by omega),bltT (show 0+q<0+(a - 0) by omega),if_pos q0,show 0+(0+(0+q) - 0) = q by omega]; rfl
 ·by_cases q1:q = a
  ·rw [bltT (show q<0+(a - 0)+1 by omega),bltF (show 0+(a - 0)<=0+q by omega),if_neg q0,if_pos q1,show 0+q - (0+(a - 0)) = 0 by omega]; rfl
  ·rw [bltF (show 0+(a - 0)+1<=q by omega),if_neg q0,if_neg q1,show a+(q - (0+(a - 0)+1)) = q - 1 by omega]; rfl
def tree10 (n N k i a v cnt nd:Nat) (p:Nat->Nat->Nat) (get:Nat->List T):=(show iterR P41 G41 A41 noneO 0 14 [] 10 (v10o n N k p (.own 2 v 0 cnt none) i a) [eb 0,x1B,ob v nd get] =
(
 bif decide (0<=Int.ofNat i)&&decide (Int.ofNat i<Int.ofNat N) then
 bif decide (Int.ofNat a<=Int.ofNat k) then
 bif decide (0<=Int.ofNat i)&&decide (Int.ofNat i<Int.ofNat N) then
 bif decide (0<=Int.ofNat a)&&decide (Int.ofNat a<=Int.ofNat k) then
 bif a.ble k then
 bif a - 0==(0:Nat) then
 bif decide (0<=Int.ofNat i)&&decide (Int.ofNat i<Int.ofNat N) then
 bif decide (0<=Int.ofNat a)&&decide (Int.ofNat a<=Int.ofNat k)&&decide (Int.ofNat k<=Int.ofNat k) then
 bif k.ble k then
 bif k - a==(0:Nat) then
 bif v==v then
 bif ((0:Nat)+cnt).ble nd then
 bif ((cnt+(1:Nat)) * (25:Nat)).ble 70368744177664 then
 bif ((0:Nat)+cnt+(1:Nat)).ble nd then
 some ((.normal,[.int .i64 (.ofNat n),.view 1 N (fun j=>[.view 1 k (fun q=>[.int .i64 (.ofNat (p j q))])
 none])
 none,.int .i64 (.ofNat k),.own 2 v 0 (cnt+1)
 none,.int .i64 (.ofNat i),.int .i64 (IntKind.i64.wrap (Int.ofNat a+1))],[.mk 0 1 0 (fun x=>[]) true true,.mk 0 1 1 (fun j=>[[T.own 0 0 0 0 (some 0)]].getD j []) false true,.mk v 1 nd (fun j =>
 bif ((0:Nat)+cnt).ble j&&j.blt (0+cnt+1) then [[T.own [Blk.mk 0 1 0 (fun x=>[]) true true,Blk.mk 0 1 1 (fun j=>[[T.own 0 0 0 0 (some 0)]].getD j []) false true,Blk.mk v 1 nd get false false,Blk.mk 0 1 0 (fun j=>[]) true true].length (0:Nat) (0:Nat) (1:Nat)
 none]].getD ((0:Nat)+(j - (0+cnt))) []
 else get j) false false,.mk 0 1 0 (fun j=>[]) true true,.mk 0 1 1 (fun j =>
 bif j.blt 0 then []
 else List.map plainOr ([[T.int .i64 (Int.ofNat k)]].getD (j - 0) [])) true false,.mk 0 1 1 (fun j=>[[T.own [Blk.mk 0 1 0 (fun x=>[]) true true,Blk.mk 0 1 1 (fun j=>[[T.own 0 0 0 0 (some 0)]].getD j []) false true,Blk.mk v 1 nd get false false,Blk.mk 0 1 0 (fun j=>[]) true true].length (0:Nat) (0:Nat) (1:Nat)
 none]].getD j []) false true]))
 else
 some ((.normal,[.int .i64 (.ofNat n),.view 1 N (fun j=>[.view 1 k (fun q=>[.int .i64 (.ofNat (p j q))])
 none])
 none,.int .i64 (.ofNat k),.own 2 (v+1) (0:Nat) (cnt+1)
 none,.int .i64 (.ofNat i),.int .i64 (IntKind.i64.wrap (Int.ofNat a+1))],[.mk 0 1 0 (fun x=>[]) true true,.mk 0 1 1 (fun j=>[[T.own 0 0 0 0 (some 0)]].getD j []) false true,.mk (v+1) (1:Nat) (cnt+1) (fun j =>
 bif j.blt cnt then get (0+j)
 else [[T.own [Blk.mk 0 1 0 (fun x=>[]) true true,Blk.mk 0 1 1 (fun j=>[[T.own 0 0 0 0 (some 0)]].getD j []) false true,Blk.mk v 1 nd get false false,Blk.mk 0 1 0 (fun j=>[]) true true].length (0:Nat) (0:Nat) (1:Nat)
 none]].getD ((0:Nat)+(j - cnt)) []) false false,.mk 0 1 0 (fun j=>[]) true true,.mk 0 1 1 (fun j =>
 bif j.blt 0 then []
 else List.map plainOr ([[T.int .i64 (Int.ofNat k)]].getD (j - 0) [])) true false,.mk 0 1 1 (fun j=>[[T.own [Blk.mk 0 1 0 (fun x=>[]) true true,Blk.mk 0 1 1 (fun j=>[[T.own 0 0 0 0 (some 0)]].getD j []) false true,Blk.mk v 1 nd get false false,Blk.mk 0 1 0 (fun j=>[]) true true].length (0:Nat) (0:Nat) (1:Nat)
 none]].getD j []) false true]))
 else none else none else none else
 bif (((1:Nat)+(k - a)) * (9:Nat)).ble 70368744177664 then
 bif ((1:Nat)+(k - a)).ble 1 then
 bif v==v then
 bif ((0:Nat)+cnt).ble nd then
 bif ((cnt+(1:Nat)) * (25:Nat)).ble 70368744177664 then
 bif ((0:Nat)+cnt+(1:Nat)).ble nd then
 some ((.normal,[.int .i64 (.ofNat n),.view 1 N (fun j=>[.view 1 k (fun q=>[.int .i64 (.ofNat (p j q))])
 none])
 none,.int .i64 (.ofNat k),.own 2 v 0 (cnt+1)
 none,.int .i64 (.ofNat i),.int .i64 (IntKind.i64.wrap (Int.ofNat a+1))],[.mk 0 1 0 (fun x=>[]) true true,.mk 0 1 1 (fun j=>[[T.own 0 0 0 0 (some 0)]].getD j []) false true,.mk v 1 nd (fun j =>
 bif ((0:Nat)+cnt).ble j&&j.blt (0+cnt+1) then [[T.own [Blk.mk 0 1 0 (fun x=>[]) true true,Blk.mk 0 1 1 (fun j=>[[T.own 0 0 0 0 (some 0)]].getD j []) false true,Blk.mk v 1 nd get false false,Blk.mk 0 1 0 (fun j=>[]) true true].length (0:Nat) (0:Nat) ((1:Nat)+(k - a))
 none]].getD ((0:Nat)+(j - (0+cnt))) []
 else get j) false false,.mk 0 1 0 (fun j=>[]) true true,.mk 0 1 1 (fun j =>
 bif Nat.ble 1 j&&j.blt ((1:Nat)+(k - a)) then [.int .i64 (.ofNat (p i (a+(j - 1))))]
 else
 bif j.blt 0 then []
 else List.map plainOr ([[T.int .i64 (Int.ofNat k)]].getD (j - 0) [])) true false,.mk 0 1 1 (fun j=>[[T.own [Blk.mk 0 1 0 (fun x=>[]) true true,Blk.mk 0 1 1 (fun j=>[[T.own 0 0 0 0 (some 0)]].getD j []) false true,Blk.mk v 1 nd get false false,Blk.mk 0 1 0 (fun j=>[]) true true].length (0:Nat) (0:Nat) ((1:Nat)+(k - a))
 none]].getD j []) false true]))
 else
 some ((.normal,[.int .i64 (.ofNat n),.view 1 N (fun j=>[.view 1 k (fun q=>[.int .i64 (.ofNat (p j q))])
 none])
 none,.int .i64 (.ofNat k),.own 2 (v+1) (0:Nat) (cnt+1)
 none,.int .i64 (.ofNat i),.int .i64 (IntKind.i64.wrap (Int.ofNat a+1))],[.mk 0 1 0 (fun x=>[]) true true,.mk 0 1 1 (fun j=>[[T.own 0 0 0 0 (some 0)]].getD j []) false true,.mk (v+1) (1:Nat) (cnt+1) (fun j =>
 bif j.blt cnt then get (0+j)
 else [[T.own [Blk.mk 0 1 0 (fun x=>[]) true true,Blk.mk 0 1 1 (fun j=>[[T.own 0 0 0 0 (some 0)]].getD j []) false true,Blk.mk v 1 nd get false false,Blk.mk 0 1 0 (fun j=>[]) true true].length (0:Nat) (0:Nat) ((1:Nat)+(k - a))
 none]].getD ((0:Nat)+(j - cnt)) []) false false,.mk 0 1 0 (fun j=>[]) true true,.mk 0 1 1 (fun j =>
 bif Nat.ble 1 j&&j.blt ((1:Nat)+(k - a)) then [.int .i64 (.ofNat (p i (a+(j - 1))))]
 else
 bif j.blt 0 then []
 else List.map plainOr ([[T.int .i64 (Int.ofNat k)]].getD (j - 0) [])) true false,.mk 0 1 1 (fun j=>[[T.own [Blk.mk 0 1 0 (fun x=>[]) true true,Blk.mk 0 1 1 (fun j=>[[T.own 0 0 0 0 (some 0)]].getD j []) false true,Blk.mk v 1 nd get false false,Blk.mk 0 1 0 (fun j=>[]) true true].length (0:Nat) (0:Nat) ((1:Nat)+(k - a))
 none]].getD j []) false true]))
 else none else none else none else
 bif v==v then
 bif ((0:Nat)+cnt).ble nd then
 bif ((cnt+(1:Nat)) * (25:Nat)).ble 70368744177664 then
 bif ((0:Nat)+cnt+(1:Nat)).ble nd then
 some ((.normal,[.int .i64 (.ofNat n),.view 1 N (fun j=>[.view 1 k (fun q=>[.int .i64 (.ofNat (p j q))])
 none])
 none,.int .i64 (.ofNat k),.own 2 v 0 (cnt+1)
 none,.int .i64 (.ofNat i),.int .i64 (IntKind.i64.wrap (Int.ofNat a+1))],[.mk 0 1 0 (fun x=>[]) true true,.mk 0 1 1 (fun j=>[[T.own 0 0 0 0 (some 0)]].getD j []) false true,.mk v 1 nd (fun j =>
 bif ((0:Nat)+cnt).ble j&&j.blt (0+cnt+1) then [[T.own [Blk.mk 0 1 0 (fun x=>[]) true true,Blk.mk 0 1 1 (fun j=>[[T.own 0 0 0 0 (some 0)]].getD j []) false true,Blk.mk v 1 nd get false false,Blk.mk 0 1 0 (fun j=>[]) true true].length (1:Nat) (0:Nat) ((1:Nat)+(k - a))
 none]].getD ((0:Nat)+(j - (0+cnt))) []
 else get j) false false,.mk 0 1 0 (fun j=>[]) true true,.mk 1 1 ((1:Nat)+(k - a)) (fun j =>
 bif j.blt 1 then
 bif ((0:Nat)+j).blt 0 then []
 else List.map plainOr ([[T.int .i64 (Int.ofNat k)]].getD (0+j - 0) [])
 else [.int .i64 (.ofNat (p i (a+(j - 1))))]) true false,.mk 0 1 1 (fun j=>[[T.own [Blk.mk 0 1 0 (fun x=>[]) true true,Blk.mk 0 1 1 (fun j=>[[T.own 0 0 0 0 (some 0)]].getD j []) false true,Blk.mk v 1 nd get false false,Blk.mk 0 1 0 (fun j=>[]) true true].length (1:Nat) (0:Nat) ((1:Nat)+(k - a))
 none]].getD j []) false true]))
 else
 some ((.normal,[.int .i64 (.ofNat n),.view 1 N (fun j=>[.view 1 k (fun q=>[.int .i64 (.ofNat (p j q))])
 none])
 none,.int .i64 (.ofNat k),.own 2 (v+1) (0:Nat) (cnt+1)
 none,.int .i64 (.ofNat i),.int .i64 (IntKind.i64.wrap (Int.ofNat a+1))],[.mk 0 1 0 (fun x=>[]) true true,.mk 0 1 1 (fun j=>[[T.own 0 0 0 0 (some 0)]].getD j []) false true,.mk (v+1) (1:Nat) (cnt+1) (fun j =>
 bif j.blt cnt then get (0+j)
 else [[T.own [Blk.mk 0 1 0 (fun x=>[]) true true,Blk.mk 0 1 1 (fun j=>[[T.own 0 0 0 0 (some 0)]].getD j []) false true,Blk.mk v 1 nd get false false,Blk.mk 0 1 0 (fun j=>[]) true true].length (1:Nat) (0:Nat) ((1:Nat)+(k - a))
 none]].getD ((0:Nat)+(j - cnt)) []) false false,.mk 0 1 0 (fun j=>[]) true true,.mk 1 1 ((1:Nat)+(k - a)) (fun j =>
 bif j.blt 1 then
 bif ((0:Nat)+j).blt 0 then []
 else List.map plainOr ([[T.int .i64 (Int.ofNat k)]].getD (0+j - 0) [])
 else [.int .i64 (.ofNat (p i (a+(j - 1))))]) true false,.mk 0 1 1 (fun j=>[[T.own [Blk.mk 0 1 0 (fun x=>[]) true true,Blk.mk 0 1 1 (fun j=>[[T.own 0 0 0 0 (some 0)]].getD j []) false true,Blk.mk v 1 nd get false false,Blk.mk 0 1 0 (fun j=>[]) true true].length (1:Nat) (0:Nat) ((1:Nat)+(k - a))
 none]].getD j []) false true]))
 else none else none else none else none else none else none else none else
 bif (((0:Nat)+(a - (0:Nat))) * (9:Nat)).ble 70368744177664 then
 bif ((0:Nat)+(a - (0:Nat))).ble 0 then
 bif ((0:Nat)+(a - (0:Nat))).ble 0 then
 bif ((0:Nat)+((0:Nat)+(a - (0:Nat)))).ble 0 then
 bif (((0:Nat)+(a - (0:Nat))+(1:Nat)) * (9:Nat)).ble 70368744177664 then
 bif decide (0<=Int.ofNat i)&&decide (Int.ofNat i<Int.ofNat N) then
 bif decide (0<=Int.ofNat a)&&decide (Int.ofNat a<=Int.ofNat k)&&decide (Int.ofNat k<=Int.ofNat k) then
 bif k.ble k then
 bif ((0:Nat)+((0:Nat)+(a - (0:Nat))+(1:Nat))).ble ((0:Nat)+(a - 0)+(1:Nat)) then
 bif k - a==(0:Nat) then
 bif v==v then
 bif ((0:Nat)+cnt).ble nd then
 bif ((cnt+(1:Nat)) * (25:Nat)).ble 70368744177664 then
 bif ((0:Nat)+cnt+(1:Nat)).ble nd then
 some ((.normal,[.int .i64 (.ofNat n),.view 1 N (fun j=>[.view 1 k (fun q=>[.int .i64 (.ofNat (p j q))])
 none])
 none,.int .i64 (.ofNat k),.own 2 v 0 (cnt+1)
 none,.int .i64 (.ofNat i),.int .i64 (IntKind.i64.wrap (Int.ofNat a+1))],[.mk 0 1 0 (fun x=>[]) true true,.mk 0 1 1 (fun j=>[[T.own 0 0 0 0 (some 0)]].getD j []) false true,.mk v 1 nd (fun j =>
 bif ((0:Nat)+cnt).ble j&&j.blt (0+cnt+1) then [[T.own [Blk.mk 0 1 0 (fun x=>[]) true true,Blk.mk 0 1 1 (fun j=>[[T.own 0 0 0 0 (some 0)]].getD j []) false true,Blk.mk v 1 nd get false false,Blk.mk 0 1 0 (fun j =>
 bif Nat.ble 0 j&&j.blt ((0:Nat)+(a - (0:Nat))) then [T.int .i64 (Int.ofNat (p i ((0:Nat)+(j - (0:Nat)))))]
 else []) true true].length (0:Nat) (0:Nat) ((0:Nat)+(a - (0:Nat))+(1:Nat))
 none]].getD ((0:Nat)+(j - (0+cnt))) []
 else get j) false false,.mk 0 1 0 (fun j =>
 bif Nat.ble 0 j&&j.blt ((0:Nat)+(a - 0)) then [.int .i64 (.ofNat (p i ((0:Nat)+(j - 0))))]
 else []) true true,.mk 0 1 ((0:Nat)+(a - 0)+(1:Nat)) (fun j =>
 bif j.blt ((0:Nat)+(a - 0)) then
 bif Nat.ble 0 (0+j)&&((0:Nat)+j).blt ((0:Nat)+(a - 0)) then [.int .i64 (.ofNat (p i ((0:Nat)+(0+j - 0))))]
 else []
 else List.map plainOr ([[T.int .i64 (Int.ofNat k)]].getD (j - ((0:Nat)+(a - 0))) [])) true false,.mk 0 1 1 (fun j=>[[T.own [Blk.mk 0 1 0 (fun x=>[]) true true,Blk.mk 0 1 1 (fun j=>[[T.own 0 0 0 0 (some 0)]].getD j []) false true,Blk.mk v 1 nd get false false,Blk.mk 0 1 0 (fun j =>
 bif Nat.ble 0 j&&j.blt ((0:Nat)+(a - (0:Nat))) then [T.int .i64 (Int.ofNat (p i ((0:Nat)+(j - (0:Nat)))))]
 else []) true true].length (0:Nat) (0:Nat) ((0:Nat)+(a - (0:Nat))+(1:Nat))
 none]].getD j []) false true]))
 else
 some ((.normal,[.int .i64 (.ofNat n),.view 1 N (fun j=>[.view 1 k (fun q=>[.int .i64 (.ofNat (p j q))])
 none])
 none,.int .i64 (.ofNat k),.own 2 (v+1) (0:Nat) (cnt+1)
 none,.int .i64 (.ofNat i),.int .i64 (IntKind.i64.wrap (Int.ofNat a+1))],[.mk 0 1 0 (fun x=>[]) true true,.mk 0 1 1 (fun j=>[[T.own 0 0 0 0 (some 0)]].getD j []) false true,.mk (v+1) (1:Nat) (cnt+1) (fun j =>
 bif j.blt cnt then get (0+j)
 else [[T.own [Blk.mk 0 1 0 (fun x=>[]) true true,Blk.mk 0 1 1 (fun j=>[[T.own 0 0 0 0 (some 0)]].getD j []) false true,Blk.mk v 1 nd get false false,Blk.mk 0 1 0 (fun j =>
 bif Nat.ble 0 j&&j.blt ((0:Nat)+(a - (0:Nat))) then [T.int .i64 (Int.ofNat (p i ((0:Nat)+(j - (0:Nat)))))]
 else []) true true].length (0:Nat) (0:Nat) ((0:Nat)+(a - (0:Nat))+(1:Nat))
 none]].getD ((0:Nat)+(j - cnt)) []) false false,.mk 0 1 0 (fun j =>
 bif Nat.ble 0 j&&j.blt ((0:Nat)+(a - 0)) then [.int .i64 (.ofNat (p i ((0:Nat)+(j - 0))))]
 else []) true true,.mk 0 1 ((0:Nat)+(a - 0)+(1:Nat)) (fun j =>
 bif j.blt ((0:Nat)+(a - 0)) then
 bif Nat.ble 0 (0+j)&&((0:Nat)+j).blt ((0:Nat)+(a - 0)) then [.int .i64 (.ofNat (p i ((0:Nat)+(0+j - 0))))]
 else []
 else List.map plainOr ([[T.int .i64 (Int.ofNat k)]].getD (j - ((0:Nat)+(a - 0))) [])) true false,.mk 0 1 1 (fun j=>[[T.own [Blk.mk 0 1 0 (fun x=>[]) true true,Blk.mk 0 1 1 (fun j=>[[T.own 0 0 0 0 (some 0)]].getD j []) false true,Blk.mk v 1 nd get false false,Blk.mk 0 1 0 (fun j =>
 bif Nat.ble 0 j&&j.blt ((0:Nat)+(a - (0:Nat))) then [T.int .i64 (Int.ofNat (p i ((0:Nat)+(j - (0:Nat)))))]
 else []) true true].length (0:Nat) (0:Nat) ((0:Nat)+(a - (0:Nat))+(1:Nat))
 none]].getD j []) false true]))
 else none else none else none else
 bif (((0:Nat)+(a - (0:Nat))+(1:Nat)+(k - a)) * (9:Nat)).ble 70368744177664 then
 bif ((0:Nat)+((0:Nat)+(a - (0:Nat))+(1:Nat))+(k - a)).ble ((0:Nat)+(a - 0)+(1:Nat)) then
 bif v==v then
 bif ((0:Nat)+cnt).ble nd then
 bif ((cnt+(1:Nat)) * (25:Nat)).ble 70368744177664 then
 bif ((0:Nat)+cnt+(1:Nat)).ble nd then
 some ((.normal,[.int .i64 (.ofNat n),.view 1 N (fun j=>[.view 1 k (fun q=>[.int .i64 (.ofNat (p j q))])
 none])
 none,.int .i64 (.ofNat k),.own 2 v 0 (cnt+1)
 none,.int .i64 (.ofNat i),.int .i64 (IntKind.i64.wrap (Int.ofNat a+1))],[.mk 0 1 0 (fun x=>[]) true true,.mk 0 1 1 (fun j=>[[T.own 0 0 0 0 (some 0)]].getD j []) false true,.mk v 1 nd (fun j =>
 bif ((0:Nat)+cnt).ble j&&j.blt (0+cnt+1) then [[T.own [Blk.mk 0 1 0 (fun x=>[]) true true,Blk.mk 0 1 1 (fun j=>[[T.own 0 0 0 0 (some 0)]].getD j []) false true,Blk.mk v 1 nd get false false,Blk.mk 0 1 0 (fun j =>
 bif Nat.ble 0 j&&j.blt ((0:Nat)+(a - (0:Nat))) then [T.int .i64 (Int.ofNat (p i ((0:Nat)+(j - (0:Nat)))))]
 else []) true true].length (0:Nat) (0:Nat) ((0:Nat)+(a - (0:Nat))+(1:Nat)+(k - a))
 none]].getD ((0:Nat)+(j - (0+cnt))) []
 else get j) false false,.mk 0 1 0 (fun j =>
 bif Nat.ble 0 j&&j.blt ((0:Nat)+(a - 0)) then [.int .i64 (.ofNat (p i ((0:Nat)+(j - 0))))]
 else []) true true,.mk 0 1 ((0:Nat)+(a - 0)+(1:Nat)) (fun j =>
 bif ((0:Nat)+((0:Nat)+(a - (0:Nat))+(1:Nat))).ble j&&j.blt ((0:Nat)+((0:Nat)+(a - 0)+(1:Nat))+(k - a)) then [.int .i64 (.ofNat (p i (a+(j - ((0:Nat)+((0:Nat)+(a - 0)+(1:Nat)))))))]
 else
 bif j.blt ((0:Nat)+(a - 0)) then
 bif Nat.ble 0 (0+j)&&((0:Nat)+j).blt ((0:Nat)+(a - 0)) then [.int .i64 (.ofNat (p i ((0:Nat)+(0+j - 0))))]
 else []
 else List.map plainOr ([[T.int .i64 (Int.ofNat k)]].getD (j - ((0:Nat)+(a - 0))) [])) true false,.mk 0 1 1 (fun j=>[[T.own [Blk.mk 0 1 0 (fun x=>[]) true true,Blk.mk 0 1 1 (fun j=>[[T.own 0 0 0 0 (some 0)]].getD j []) false true,Blk.mk v 1 nd get false false,Blk.mk 0 1 0 (fun j =>
 bif Nat.ble 0 j&&j.blt ((0:Nat)+(a - (0:Nat))) then [T.int .i64 (Int.ofNat (p i ((0:Nat)+(j - (0:Nat)))))]
 else []) true true].length (0:Nat) (0:Nat) ((0:Nat)+(a - (0:Nat))+(1:Nat)+(k - a))
 none]].getD j []) false true]))
 else
 some ((.normal,[.int .i64 (.ofNat n),.view 1 N (fun j=>[.view 1 k (fun q=>[.int .i64 (.ofNat (p j q))])
 none])
 none,.int .i64 (.ofNat k),.own 2 (v+1) (0:Nat) (cnt+1)
 none,.int .i64 (.ofNat i),.int .i64 (IntKind.i64.wrap (Int.ofNat a+1))],[.mk 0 1 0 (fun x=>[]) true true,.mk 0 1 1 (fun j=>[[T.own 0 0 0 0 (some 0)]].getD j []) false true,.mk (v+1) (1:Nat) (cnt+1) (fun j =>
 bif j.blt cnt then get (0+j)
 else [[T.own [Blk.mk 0 1 0 (fun x=>[]) true true,Blk.mk 0 1 1 (fun j=>[[T.own 0 0 0 0 (some 0)]].getD j []) false true,Blk.mk v 1 nd get false false,Blk.mk 0 1 0 (fun j =>
 bif Nat.ble 0 j&&j.blt ((0:Nat)+(a - (0:Nat))) then [T.int .i64 (Int.ofNat (p i ((0:Nat)+(j - (0:Nat)))))]
 else []) true true].length (0:Nat) (0:Nat) ((0:Nat)+(a - (0:Nat))+(1:Nat)+(k - a))
 none]].getD ((0:Nat)+(j - cnt)) []) false false,.mk 0 1 0 (fun j =>
 bif Nat.ble 0 j&&j.blt ((0:Nat)+(a - 0)) then [.int .i64 (.ofNat (p i ((0:Nat)+(j - 0))))]
 else []) true true,.mk 0 1 ((0:Nat)+(a - 0)+(1:Nat)) (fun j =>
 bif ((0:Nat)+((0:Nat)+(a - (0:Nat))+(1:Nat))).ble j&&j.blt ((0:Nat)+((0:Nat)+(a - 0)+(1:Nat))+(k - a)) then [.int .i64 (.ofNat (p i (a+(j - ((0:Nat)+((0:Nat)+(a - 0)+(1:Nat)))))))]
 else
 bif j.blt ((0:Nat)+(a - 0)) then
 bif Nat.ble 0 (0+j)&&((0:Nat)+j).blt ((0:Nat)+(a - 0)) then [.int .i64 (.ofNat (p i ((0:Nat)+(0+j - 0))))]
 else []
 else List.map plainOr ([[T.int .i64 (Int.ofNat k)]].getD (j - ((0:Nat)+(a - 0))) [])) true false,.mk 0 1 1 (fun j=>[[T.own [Blk.mk 0 1 0 (fun x=>[]) true true,Blk.mk 0 1 1 (fun j=>[[T.own 0 0 0 0 (some 0)]].getD j []) false true,Blk.mk v 1 nd get false false,Blk.mk 0 1 0 (fun j =>
 bif Nat.ble 0 j&&j.blt ((0:Nat)+(a - (0:Nat))) then [T.int .i64 (Int.ofNat (p i ((0:Nat)+(j - (0:Nat)))))]
 else []) true true].length (0:Nat) (0:Nat) ((0:Nat)+(a - (0:Nat))+(1:Nat)+(k - a))
 none]].getD j []) false true]))
 else none else none else none else
 bif v==v then
 bif ((0:Nat)+cnt).ble nd then
 bif ((cnt+(1:Nat)) * (25:Nat)).ble 70368744177664 then
 bif ((0:Nat)+cnt+(1:Nat)).ble nd then
 some ((.normal,[.int .i64 (.ofNat n),.view 1 N (fun j=>[.view 1 k (fun q=>[.int .i64 (.ofNat (p j q))])
 none])
 none,.int .i64 (.ofNat k),.own 2 v 0 (cnt+1)
 none,.int .i64 (.ofNat i),.int .i64 (IntKind.i64.wrap (Int.ofNat a+1))],[.mk 0 1 0 (fun x=>[]) true true,.mk 0 1 1 (fun j=>[[T.own 0 0 0 0 (some 0)]].getD j []) false true,.mk v 1 nd (fun j =>
 bif ((0:Nat)+cnt).ble j&&j.blt (0+cnt+1) then [[T.own [Blk.mk 0 1 0 (fun x=>[]) true true,Blk.mk 0 1 1 (fun j=>[[T.own 0 0 0 0 (some 0)]].getD j []) false true,Blk.mk v 1 nd get false false,Blk.mk 0 1 0 (fun j =>
 bif Nat.ble 0 j&&j.blt ((0:Nat)+(a - (0:Nat))) then [T.int .i64 (Int.ofNat (p i ((0:Nat)+(j - (0:Nat)))))]
 else []) true true].length (1:Nat) (0:Nat) ((0:Nat)+(a - (0:Nat))+(1:Nat)+(k - a))
 none]].getD ((0:Nat)+(j - (0+cnt))) []
 else get j) false false,.mk 0 1 0 (fun j =>
 bif Nat.ble 0 j&&j.blt ((0:Nat)+(a - 0)) then [.int .i64 (.ofNat (p i ((0:Nat)+(j - 0))))]
 else []) true true,.mk 1 1 ((0:Nat)+(a - 0)+(1:Nat)+(k - a)) (fun j =>
 bif j.blt ((0:Nat)+(a - 0)+(1:Nat)) then
 bif ((0:Nat)+j).blt ((0:Nat)+(a - 0)) then
 bif Nat.ble 0 ((0:Nat)+(0+j))&&((0:Nat)+((0:Nat)+j)).blt ((0:Nat)+(a - 0)) then [.int .i64 (.ofNat (p i ((0:Nat)+((0:Nat)+(0+j) - (0:Nat)))))]
 else []
 else List.map plainOr ([[T.int .i64 (Int.ofNat k)]].getD (0+j - ((0:Nat)+(a - 0))) [])
 else [.int .i64 (.ofNat (p i (a+(j - ((0:Nat)+(a - 0)+(1:Nat))))))]) true false,.mk 0 1 1 (fun j=>[[T.own [Blk.mk 0 1 0 (fun x=>[]) true true,Blk.mk 0 1 1 (fun j=>[[T.own 0 0 0 0 (some 0)]].getD j []) false true,Blk.mk v 1 nd get false false,Blk.mk 0 1 0 (fun j =>
 bif Nat.ble 0 j&&j.blt ((0:Nat)+(a - (0:Nat))) then [T.int .i64 (Int.ofNat (p i ((0:Nat)+(j - (0:Nat)))))]
 else []) true true].length (1:Nat) (0:Nat) ((0:Nat)+(a - (0:Nat))+(1:Nat)+(k - a))
 none]].getD j []) false true]))
 else
 some ((.normal,[.int .i64 (.ofNat n),.view 1 N (fun j=>[.view 1 k (fun q=>[.int .i64 (.ofNat (p j q))])
 none])
 none,.int .i64 (.ofNat k),.own 2 (v+1) (0:Nat) (cnt+1)
 none,.int .i64 (.ofNat i),.int .i64 (IntKind.i64.wrap (Int.ofNat a+1))],[.mk 0 1 0 (fun x=>[]) true true,.mk 0 1 1 (fun j=>[[T.own 0 0 0 0 (some 0)]].getD j []) false true,.mk (v+1) (1:Nat) (cnt+1) (fun j =>
 bif j.blt cnt then get (0+j)
 else [[T.own [Blk.mk 0 1 0 (fun x=>[]) true true,Blk.mk 0 1 1 (fun j=>[[T.own 0 0 0 0 (some 0)]].getD j []) false true,Blk.mk v 1 nd get false false,Blk.mk 0 1 0 (fun j =>
 bif Nat.ble 0 j&&j.blt ((0:Nat)+(a - (0:Nat))) then [T.int .i64 (Int.ofNat (p i ((0:Nat)+(j - (0:Nat)))))]
 else []) true true].length (1:Nat) (0:Nat) ((0:Nat)+(a - (0:Nat))+(1:Nat)+(k - a))
 none]].getD ((0:Nat)+(j - cnt)) []) false false,.mk 0 1 0 (fun j =>
 bif Nat.ble 0 j&&j.blt ((0:Nat)+(a - 0)) then [.int .i64 (.ofNat (p i ((0:Nat)+(j - 0))))]
 else []) true true,.mk 1 1 ((0:Nat)+(a - 0)+(1:Nat)+(k - a)) (fun j =>
 bif j.blt ((0:Nat)+(a - 0)+(1:Nat)) then
 bif ((0:Nat)+j).blt ((0:Nat)+(a - 0)) then
 bif Nat.ble 0 ((0:Nat)+(0+j))&&((0:Nat)+((0:Nat)+j)).blt ((0:Nat)+(a - 0)) then [.int .i64 (.ofNat (p i ((0:Nat)+((0:Nat)+(0+j) - (0:Nat)))))]
 else []
 else List.map plainOr ([[T.int .i64 (Int.ofNat k)]].getD (0+j - ((0:Nat)+(a - 0))) [])
 else [.int .i64 (.ofNat (p i (a+(j - ((0:Nat)+(a - 0)+(1:Nat))))))]) true false,.mk 0 1 1 (fun j=>[[T.own [Blk.mk 0 1 0 (fun x=>[]) true true,Blk.mk 0 1 1 (fun j=>[[T.own 0 0 0 0 (some 0)]].getD j []) false true,Blk.mk v 1 nd get false false,Blk.mk 0 1 0 (fun j =>
 bif Nat.ble 0 j&&j.blt ((0:Nat)+(a - (0:Nat))) then [T.int .i64 (Int.ofNat (p i ((0:Nat)+(j - (0:Nat)))))]
 else []) true true].length (1:Nat) (0:Nat) ((0:Nat)+(a - (0:Nat))+(1:Nat)+(k - a))
 none]].getD j []) false true]))
 else none else none else none else none else none else none else none else none else none else none else none else
 bif ((0:Nat)+((0:Nat)+(a - (0:Nat)))).ble ((0:Nat)+(a - 0)) then
 bif (((0:Nat)+(a - (0:Nat))+(1:Nat)) * (9:Nat)).ble 70368744177664 then
 bif ((0:Nat)+((0:Nat)+(a - (0:Nat)))+(1:Nat)).ble ((0:Nat)+(a - 0)) then
 bif decide (0<=Int.ofNat i)&&decide (Int.ofNat i<Int.ofNat N) then
 bif decide (0<=Int.ofNat a)&&decide (Int.ofNat a<=Int.ofNat k)&&decide (Int.ofNat k<=Int.ofNat k) then
 bif k.ble k then
 bif ((0:Nat)+((0:Nat)+(a - (0:Nat))+(1:Nat))).ble ((0:Nat)+(a - 0)) then
 bif k - a==(0:Nat) then
 bif v==v then
 bif ((0:Nat)+cnt).ble nd then
 bif ((cnt+(1:Nat)) * (25:Nat)).ble 70368744177664 then
 bif ((0:Nat)+cnt+(1:Nat)).ble nd then
 some ((.normal,[.int .i64 (.ofNat n),.view 1 N (fun j=>[.view 1 k (fun q=>[.int .i64 (.ofNat (p j q))])
 none])
 none,.int .i64 (.ofNat k),.own 2 v 0 (cnt+1)
 none,.int .i64 (.ofNat i),.int .i64 (IntKind.i64.wrap (Int.ofNat a+1))],[.mk 0 1 0 (fun x=>[]) true true,.mk 0 1 1 (fun j=>[[T.own 0 0 0 0 (some 0)]].getD j []) false true,.mk v 1 nd (fun j =>
 bif ((0:Nat)+cnt).ble j&&j.blt (0+cnt+1) then [[T.own [Blk.mk 0 1 0 (fun x=>[]) true true,Blk.mk 0 1 1 (fun j=>[[T.own 0 0 0 0 (some 0)]].getD j []) false true,Blk.mk v 1 nd get false false,Blk.mk 0 1 0 (fun j=>[]) true true].length (0:Nat) (0:Nat) ((0:Nat)+(a - (0:Nat))+(1:Nat))
 none]].getD ((0:Nat)+(j - (0+cnt))) []
 else get j) false false,.mk 0 1 0 (fun j=>[]) true true,.mk 0 1 ((0:Nat)+(a - 0)) (fun j =>
 bif ((0:Nat)+((0:Nat)+(a - (0:Nat)))).ble j&&j.blt ((0:Nat)+((0:Nat)+(a - 0))+(1:Nat)) then List.map plainOr ([[T.int .i64 (Int.ofNat k)]].getD (j - ((0:Nat)+((0:Nat)+(a - 0)))) [])
 else [.int .i64 (.ofNat (p i ((0:Nat)+(j - 0))))]) true false,.mk 0 1 1 (fun j=>[[T.own [Blk.mk 0 1 0 (fun x=>[]) true true,Blk.mk 0 1 1 (fun j=>[[T.own 0 0 0 0 (some 0)]].getD j []) false true,Blk.mk v 1 nd get false false,Blk.mk 0 1 0 (fun j=>[]) true true].length (0:Nat) (0:Nat) ((0:Nat)+(a - (0:Nat))+(1:Nat))
 none]].getD j []) false true]))
 else
 some ((.normal,[.int .i64 (.ofNat n),.view 1 N (fun j=>[.view 1 k (fun q=>[.int .i64 (.ofNat (p j q))])
 none])
 none,.int .i64 (.ofNat k),.own 2 (v+1) (0:Nat) (cnt+1)
 none,.int .i64 (.ofNat i),.int .i64 (IntKind.i64.wrap (Int.ofNat a+1))],[.mk 0 1 0 (fun x=>[]) true true,.mk 0 1 1 (fun j=>[[T.own 0 0 0 0 (some 0)]].getD j []) false true,.mk (v+1) (1:Nat) (cnt+1) (fun j =>
 bif j.blt cnt then get (0+j)
 else [[T.own [Blk.mk 0 1 0 (fun x=>[]) true true,Blk.mk 0 1 1 (fun j=>[[T.own 0 0 0 0 (some 0)]].getD j []) false true,Blk.mk v 1 nd get false false,Blk.mk 0 1 0 (fun j=>[]) true true].length (0:Nat) (0:Nat) ((0:Nat)+(a - (0:Nat))+(1:Nat))
 none]].getD ((0:Nat)+(j - cnt)) []) false false,.mk 0 1 0 (fun j=>[]) true true,.mk 0 1 ((0:Nat)+(a - 0)) (fun j =>
 bif ((0:Nat)+((0:Nat)+(a - (0:Nat)))).ble j&&j.blt ((0:Nat)+((0:Nat)+(a - 0))+(1:Nat)) then List.map plainOr ([[T.int .i64 (Int.ofNat k)]].getD (j - ((0:Nat)+((0:Nat)+(a - 0)))) [])
 else [.int .i64 (.ofNat (p i ((0:Nat)+(j - 0))))]) true false,.mk 0 1 1 (fun j=>[[T.own [Blk.mk 0 1 0 (fun x=>[]) true true,Blk.mk 0 1 1 (fun j=>[[T.own 0 0 0 0 (some 0)]].getD j []) false true,Blk.mk v 1 nd get false false,Blk.mk 0 1 0 (fun j=>[]) true true].length (0:Nat) (0:Nat) ((0:Nat)+(a - (0:Nat))+(1:Nat))
 none]].getD j []) false true]))
 else none else none else none else
 bif (((0:Nat)+(a - (0:Nat))+(1:Nat)+(k - a)) * (9:Nat)).ble 70368744177664 then
 bif ((0:Nat)+((0:Nat)+(a - (0:Nat))+(1:Nat))+(k - a)).ble ((0:Nat)+(a - 0)) then
 bif v==v then
 bif ((0:Nat)+cnt).ble nd then
 bif ((cnt+(1:Nat)) * (25:Nat)).ble 70368744177664 then
 bif ((0:Nat)+cnt+(1:Nat)).ble nd then
 some ((.normal,[.int .i64 (.ofNat n),.view 1 N (fun j=>[.view 1 k (fun q=>[.int .i64 (.ofNat (p j q))])
 none])
 none,.int .i64 (.ofNat k),.own 2 v 0 (cnt+1)
 none,.int .i64 (.ofNat i),.int .i64 (IntKind.i64.wrap (Int.ofNat a+1))],[.mk 0 1 0 (fun x=>[]) true true,.mk 0 1 1 (fun j=>[[T.own 0 0 0 0 (some 0)]].getD j []) false true,.mk v 1 nd (fun j =>
 bif ((0:Nat)+cnt).ble j&&j.blt (0+cnt+1) then [[T.own [Blk.mk 0 1 0 (fun x=>[]) true true,Blk.mk 0 1 1 (fun j=>[[T.own 0 0 0 0 (some 0)]].getD j []) false true,Blk.mk v 1 nd get false false,Blk.mk 0 1 0 (fun j=>[]) true true].length (0:Nat) (0:Nat) ((0:Nat)+(a - (0:Nat))+(1:Nat)+(k - a))
 none]].getD ((0:Nat)+(j - (0+cnt))) []
 else get j) false false,.mk 0 1 0 (fun j=>[]) true true,.mk 0 1 ((0:Nat)+(a - 0)) (fun j =>
 bif ((0:Nat)+((0:Nat)+(a - (0:Nat))+(1:Nat))).ble j&&j.blt ((0:Nat)+((0:Nat)+(a - 0)+(1:Nat))+(k - a)) then [.int .i64 (.ofNat (p i (a+(j - ((0:Nat)+((0:Nat)+(a - 0)+(1:Nat)))))))]
 else
 bif ((0:Nat)+((0:Nat)+(a - (0:Nat)))).ble j&&j.blt ((0:Nat)+((0:Nat)+(a - 0))+(1:Nat)) then List.map plainOr ([[T.int .i64 (Int.ofNat k)]].getD (j - ((0:Nat)+((0:Nat)+(a - 0)))) [])
 else [.int .i64 (.ofNat (p i ((0:Nat)+(j - 0))))]) true false,.mk 0 1 1 (fun j=>[[T.own [Blk.mk 0 1 0 (fun x=>[]) true true,Blk.mk 0 1 1 (fun j=>[[T.own 0 0 0 0 (some 0)]].getD j []) false true,Blk.mk v 1 nd get false false,Blk.mk 0 1 0 (fun j=>[]) true true].length (0:Nat) (0:Nat) ((0:Nat)+(a - (0:Nat))+(1:Nat)+(k - a))
 none]].getD j []) false true]))
 else
 some ((.normal,[.int .i64 (.ofNat n),.view 1 N (fun j=>[.view 1 k (fun q=>[.int .i64 (.ofNat (p j q))])
 none])
 none,.int .i64 (.ofNat k),.own 2 (v+1) (0:Nat) (cnt+1)
 none,.int .i64 (.ofNat i),.int .i64 (IntKind.i64.wrap (Int.ofNat a+1))],[.mk 0 1 0 (fun x=>[]) true true,.mk 0 1 1 (fun j=>[[T.own 0 0 0 0 (some 0)]].getD j []) false true,.mk (v+1) (1:Nat) (cnt+1) (fun j =>
 bif j.blt cnt then get (0+j)
 else [[T.own [Blk.mk 0 1 0 (fun x=>[]) true true,Blk.mk 0 1 1 (fun j=>[[T.own 0 0 0 0 (some 0)]].getD j []) false true,Blk.mk v 1 nd get false false,Blk.mk 0 1 0 (fun j=>[]) true true].length (0:Nat) (0:Nat) ((0:Nat)+(a - (0:Nat))+(1:Nat)+(k - a))
 none]].getD ((0:Nat)+(j - cnt)) []) false false,.mk 0 1 0 (fun j=>[]) true true,.mk 0 1 ((0:Nat)+(a - 0)) (fun j =>
 bif ((0:Nat)+((0:Nat)+(a - (0:Nat))+(1:Nat))).ble j&&j.blt ((0:Nat)+((0:Nat)+(a - 0)+(1:Nat))+(k - a)) then [.int .i64 (.ofNat (p i (a+(j - ((0:Nat)+((0:Nat)+(a - 0)+(1:Nat)))))))]
 else
 bif ((0:Nat)+((0:Nat)+(a - (0:Nat)))).ble j&&j.blt ((0:Nat)+((0:Nat)+(a - 0))+(1:Nat)) then List.map plainOr ([[T.int .i64 (Int.ofNat k)]].getD (j - ((0:Nat)+((0:Nat)+(a - 0)))) [])
 else [.int .i64 (.ofNat (p i ((0:Nat)+(j - 0))))]) true false,.mk 0 1 1 (fun j=>[[T.own [Blk.mk 0 1 0 (fun x=>[]) true true,Blk.mk 0 1 1 (fun j=>[[T.own 0 0 0 0 (some 0)]].getD j []) false true,Blk.mk v 1 nd get false false,Blk.mk 0 1 0 (fun j=>[]) true true].length (0:Nat) (0:Nat) ((0:Nat)+(a - (0:Nat))+(1:Nat)+(k - a))
 none]].getD j []) false true]))
 else none else none else none else
 bif v==v then
 bif ((0:Nat)+cnt).ble nd then
 bif ((cnt+(1:Nat)) * (25:Nat)).ble 70368744177664 then
 bif ((0:Nat)+cnt+(1:Nat)).ble nd then
 some ((.normal,[.int .i64 (.ofNat n),.view 1 N (fun j=>[.view 1 k (fun q=>[.int .i64 (.ofNat (p j q))])
 none])
 none,.int .i64 (.ofNat k),.own 2 v 0 (cnt+1)
 none,.int .i64 (.ofNat i),.int .i64 (IntKind.i64.wrap (Int.ofNat a+1))],[.mk 0 1 0 (fun x=>[]) true true,.mk 0 1 1 (fun j=>[[T.own 0 0 0 0 (some 0)]].getD j []) false true,.mk v 1 nd (fun j =>
 bif ((0:Nat)+cnt).ble j&&j.blt (0+cnt+1) then [[T.own [Blk.mk 0 1 0 (fun x=>[]) true true,Blk.mk 0 1 1 (fun j=>[[T.own 0 0 0 0 (some 0)]].getD j []) false true,Blk.mk v 1 nd get false false,Blk.mk 0 1 0 (fun j=>[]) true true].length (1:Nat) (0:Nat) ((0:Nat)+(a - (0:Nat))+(1:Nat)+(k - a))
 none]].getD ((0:Nat)+(j - (0+cnt))) []
 else get j) false false,.mk 0 1 0 (fun j=>[]) true true,.mk 1 1 ((0:Nat)+(a - 0)+(1:Nat)+(k - a)) (fun j =>
 bif j.blt ((0:Nat)+(a - 0)+(1:Nat)) then
 bif ((0:Nat)+((0:Nat)+(a - (0:Nat)))).ble (0+j)&&((0:Nat)+j).blt ((0:Nat)+((0:Nat)+(a - 0))+(1:Nat)) then List.map plainOr ([[T.int .i64 (Int.ofNat k)]].getD (0+j - ((0:Nat)+((0:Nat)+(a - 0)))) [])
 else [.int .i64 (.ofNat (p i ((0:Nat)+(0+j - 0))))]
 else [.int .i64 (.ofNat (p i (a+(j - ((0:Nat)+(a - 0)+(1:Nat))))))]) true false,.mk 0 1 1 (fun j=>[[T.own [Blk.mk 0 1 0 (fun x=>[]) true true,Blk.mk 0 1 1 (fun j=>[[T.own 0 0 0 0 (some 0)]].getD j []) false true,Blk.mk v 1 nd get false false,Blk.mk 0 1 0 (fun j=>[]) true true].length (1:Nat) (0:Nat) ((0:Nat)+(a - (0:Nat))+(1:Nat)+(k - a))
 none]].getD j []) false true]))
 else
 some ((.normal,[.int .i64 (.ofNat n),.view 1 N (fun j=>[.view 1 k (fun q=>[.int .i64 (.ofNat (p j q))])
 none])
 none,.int .i64 (.ofNat k),.own 2 (v+1) (0:Nat) (cnt+1)
 none,.int .i64 (.ofNat i),.int .i64 (IntKind.i64.wrap (Int.ofNat a+1))],[.mk 0 1 0 (fun x=>[]) true true,.mk 0 1 1 (fun j=>[[T.own 0 0 0 0 (some 0)]].getD j []) false true,.mk (v+1) (1:Nat) (cnt+1) (fun j =>
 bif j.blt cnt then get (0+j)
 else [[T.own [Blk.mk 0 1 0 (fun x=>[]) true true,Blk.mk 0 1 1 (fun j=>[[T.own 0 0 0 0 (some 0)]].getD j []) false true,Blk.mk v 1 nd get false false,Blk.mk 0 1 0 (fun j=>[]) true true].length (1:Nat) (0:Nat) ((0:Nat)+(a - (0:Nat))+(1:Nat)+(k - a))
 none]].getD ((0:Nat)+(j - cnt)) []) false false,.mk 0 1 0 (fun j=>[]) true true,.mk 1 1 ((0:Nat)+(a - 0)+(1:Nat)+(k - a)) (fun j =>
 bif j.blt ((0:Nat)+(a - 0)+(1:Nat)) then
 bif ((0:Nat)+((0:Nat)+(a - (0:Nat)))).ble (0+j)&&((0:Nat)+j).blt ((0:Nat)+((0:Nat)+(a - 0))+(1:Nat)) then List.map plainOr ([[T.int .i64 (Int.ofNat k)]].getD (0+j - ((0:Nat)+((0:Nat)+(a - 0)))) [])
 else [.int .i64 (.ofNat (p i ((0:Nat)+(0+j - 0))))]
 else [.int .i64 (.ofNat (p i (a+(j - ((0:Nat)+(a - 0)+(1:Nat))))))]) true false,.mk 0 1 1 (fun j=>[[T.own [Blk.mk 0 1 0 (fun x=>[]) true true,Blk.mk 0 1 1 (fun j=>[[T.own 0 0 0 0 (some 0)]].getD j []) false true,Blk.mk v 1 nd get false false,Blk.mk 0 1 0 (fun j=>[]) true true].length (1:Nat) (0:Nat) ((0:Nat)+(a - (0:Nat))+(1:Nat)+(k - a))
 none]].getD j []) false true]))
 else none else none else none else none else none else none else none else none else
 bif decide (0<=Int.ofNat i)&&decide (Int.ofNat i<Int.ofNat N) then
 bif decide (0<=Int.ofNat a)&&decide (Int.ofNat a<=Int.ofNat k)&&decide (Int.ofNat k<=Int.ofNat k) then
 bif k.ble k then
 bif ((0:Nat)+((0:Nat)+(a - (0:Nat))+(1:Nat))).ble ((0:Nat)+(a - 0)+(1:Nat)) then
 bif k - a==(0:Nat) then
 bif v==v then
 bif ((0:Nat)+cnt).ble nd then
 bif ((cnt+(1:Nat)) * (25:Nat)).ble 70368744177664 then
 bif ((0:Nat)+cnt+(1:Nat)).ble nd then
 some ((.normal,[.int .i64 (.ofNat n),.view 1 N (fun j=>[.view 1 k (fun q=>[.int .i64 (.ofNat (p j q))])
 none])
 none,.int .i64 (.ofNat k),.own 2 v 0 (cnt+1)
 none,.int .i64 (.ofNat i),.int .i64 (IntKind.i64.wrap (Int.ofNat a+1))],[.mk 0 1 0 (fun x=>[]) true true,.mk 0 1 1 (fun j=>[[T.own 0 0 0 0 (some 0)]].getD j []) false true,.mk v 1 nd (fun j =>
 bif ((0:Nat)+cnt).ble j&&j.blt (0+cnt+1) then [[T.own [Blk.mk 0 1 0 (fun x=>[]) true true,Blk.mk 0 1 1 (fun j=>[[T.own 0 0 0 0 (some 0)]].getD j []) false true,Blk.mk v 1 nd get false false,Blk.mk 0 1 0 (fun j=>[]) true true].length (1:Nat) (0:Nat) ((0:Nat)+(a - (0:Nat))+(1:Nat))
 none]].getD ((0:Nat)+(j - (0+cnt))) []
 else get j) false false,.mk 0 1 0 (fun j=>[]) true true,.mk 1 1 ((0:Nat)+(a - 0)+(1:Nat)) (fun j =>
 bif j.blt ((0:Nat)+(a - 0)) then [.int .i64 (.ofNat (p i ((0:Nat)+(0+j - 0))))]
 else List.map plainOr ([[T.int .i64 (Int.ofNat k)]].getD (j - ((0:Nat)+(a - 0))) [])) true false,.mk 0 1 1 (fun j=>[[T.own [Blk.mk 0 1 0 (fun x=>[]) true true,Blk.mk 0 1 1 (fun j=>[[T.own 0 0 0 0 (some 0)]].getD j []) false true,Blk.mk v 1 nd get false false,Blk.mk 0 1 0 (fun j=>[]) true true].length (1:Nat) (0:Nat) ((0:Nat)+(a - (0:Nat))+(1:Nat))
 none]].getD j []) false true]))
 else
 some ((.normal,[.int .i64 (.ofNat n),.view 1 N (fun j=>[.view 1 k (fun q=>[.int .i64 (.ofNat (p j q))])
 none])
 none,.int .i64 (.ofNat k),.own 2 (v+1) (0:Nat) (cnt+1)
 none,.int .i64 (.ofNat i),.int .i64 (IntKind.i64.wrap (Int.ofNat a+1))],[.mk 0 1 0 (fun x=>[]) true true,.mk 0 1 1 (fun j=>[[T.own 0 0 0 0 (some 0)]].getD j []) false true,.mk (v+1) (1:Nat) (cnt+1) (fun j =>
 bif j.blt cnt then get (0+j)
 else [[T.own [Blk.mk 0 1 0 (fun x=>[]) true true,Blk.mk 0 1 1 (fun j=>[[T.own 0 0 0 0 (some 0)]].getD j []) false true,Blk.mk v 1 nd get false false,Blk.mk 0 1 0 (fun j=>[]) true true].length (1:Nat) (0:Nat) ((0:Nat)+(a - (0:Nat))+(1:Nat))
 none]].getD ((0:Nat)+(j - cnt)) []) false false,.mk 0 1 0 (fun j=>[]) true true,.mk 1 1 ((0:Nat)+(a - 0)+(1:Nat)) (fun j =>
 bif j.blt ((0:Nat)+(a - 0)) then [.int .i64 (.ofNat (p i ((0:Nat)+(0+j - 0))))]
 else List.map plainOr ([[T.int .i64 (Int.ofNat k)]].getD (j - ((0:Nat)+(a - 0))) [])) true false,.mk 0 1 1 (fun j=>[[T.own [Blk.mk 0 1 0 (fun x=>[]) true true,Blk.mk 0 1 1 (fun j=>[[T.own 0 0 0 0 (some 0)]].getD j []) false true,Blk.mk v 1 nd get false false,Blk.mk 0 1 0 (fun j=>[]) true true].length (1:Nat) (0:Nat) ((0:Nat)+(a - (0:Nat))+(1:Nat))
 none]].getD j []) false true]))
 else none else none else none else
 bif (((0:Nat)+(a - (0:Nat))+(1:Nat)+(k - a)) * (9:Nat)).ble 70368744177664 then
 bif ((0:Nat)+((0:Nat)+(a - (0:Nat))+(1:Nat))+(k - a)).ble ((0:Nat)+(a - 0)+(1:Nat)) then
 bif v==v then
 bif ((0:Nat)+cnt).ble nd then
 bif ((cnt+(1:Nat)) * (25:Nat)).ble 70368744177664 then
 bif ((0:Nat)+cnt+(1:Nat)).ble nd then
 some ((.normal,[.int .i64 (.ofNat n),.view 1 N (fun j=>[.view 1 k (fun q=>[.int .i64 (.ofNat (p j q))])
 none])
 none,.int .i64 (.ofNat k),.own 2 v 0 (cnt+1)
 none,.int .i64 (.ofNat i),.int .i64 (IntKind.i64.wrap (Int.ofNat a+1))],[.mk 0 1 0 (fun x=>[]) true true,.mk 0 1 1 (fun j=>[[T.own 0 0 0 0 (some 0)]].getD j []) false true,.mk v 1 nd (fun j =>
 bif ((0:Nat)+cnt).ble j&&j.blt (0+cnt+1) then [[T.own [Blk.mk 0 1 0 (fun x=>[]) true true,Blk.mk 0 1 1 (fun j=>[[T.own 0 0 0 0 (some 0)]].getD j []) false true,Blk.mk v 1 nd get false false,Blk.mk 0 1 0 (fun j=>[]) true true].length (1:Nat) (0:Nat) ((0:Nat)+(a - (0:Nat))+(1:Nat)+(k - a))
 none]].getD ((0:Nat)+(j - (0+cnt))) []
 else get j) false false,.mk 0 1 0 (fun j=>[]) true true,.mk 1 1 ((0:Nat)+(a - 0)+(1:Nat)) (fun j =>
 bif ((0:Nat)+((0:Nat)+(a - (0:Nat))+(1:Nat))).ble j&&j.blt ((0:Nat)+((0:Nat)+(a - 0)+(1:Nat))+(k - a)) then [.int .i64 (.ofNat (p i (a+(j - ((0:Nat)+((0:Nat)+(a - 0)+(1:Nat)))))))]
 else
 bif j.blt ((0:Nat)+(a - 0)) then [.int .i64 (.ofNat (p i ((0:Nat)+(0+j - 0))))]
 else List.map plainOr ([[T.int .i64 (Int.ofNat k)]].getD (j - ((0:Nat)+(a - 0))) [])) true false,.mk 0 1 1 (fun j=>[[T.own [Blk.mk 0 1 0 (fun x=>[]) true true,Blk.mk 0 1 1 (fun j=>[[T.own 0 0 0 0 (some 0)]].getD j []) false true,Blk.mk v 1 nd get false false,Blk.mk 0 1 0 (fun j=>[]) true true].length (1:Nat) (0:Nat) ((0:Nat)+(a - (0:Nat))+(1:Nat)+(k - a))
 none]].getD j []) false true]))
 else
 some ((.normal,[.int .i64 (.ofNat n),.view 1 N (fun j=>[.view 1 k (fun q=>[.int .i64 (.ofNat (p j q))])
 none])
 none,.int .i64 (.ofNat k),.own 2 (v+1) (0:Nat) (cnt+1)
 none,.int .i64 (.ofNat i),.int .i64 (IntKind.i64.wrap (Int.ofNat a+1))],[.mk 0 1 0 (fun x=>[]) true true,.mk 0 1 1 (fun j=>[[T.own 0 0 0 0 (some 0)]].getD j []) false true,.mk (v+1) (1:Nat) (cnt+1) (fun j =>
 bif j.blt cnt then get (0+j)
 else [[T.own [Blk.mk 0 1 0 (fun x=>[]) true true,Blk.mk 0 1 1 (fun j=>[[T.own 0 0 0 0 (some 0)]].getD j []) false true,Blk.mk v 1 nd get false false,Blk.mk 0 1 0 (fun j=>[]) true true].length (1:Nat) (0:Nat) ((0:Nat)+(a - (0:Nat))+(1:Nat)+(k - a))
 none]].getD ((0:Nat)+(j - cnt)) []) false false,.mk 0 1 0 (fun j=>[]) true true,.mk 1 1 ((0:Nat)+(a - 0)+(1:Nat)) (fun j =>
 bif ((0:Nat)+((0:Nat)+(a - (0:Nat))+(1:Nat))).ble j&&j.blt ((0:Nat)+((0:Nat)+(a - 0)+(1:Nat))+(k - a)) then [.int .i64 (.ofNat (p i (a+(j - ((0:Nat)+((0:Nat)+(a - 0)+(1:Nat)))))))]
 else
 bif j.blt ((0:Nat)+(a - 0)) then [.int .i64 (.ofNat (p i ((0:Nat)+(0+j - 0))))]
 else List.map plainOr ([[T.int .i64 (Int.ofNat k)]].getD (j - ((0:Nat)+(a - 0))) [])) true false,.mk 0 1 1 (fun j=>[[T.own [Blk.mk 0 1 0 (fun x=>[]) true true,Blk.mk 0 1 1 (fun j=>[[T.own 0 0 0 0 (some 0)]].getD j []) false true,Blk.mk v 1 nd get false false,Blk.mk 0 1 0 (fun j=>[]) true true].length (1:Nat) (0:Nat) ((0:Nat)+(a - (0:Nat))+(1:Nat)+(k - a))
 none]].getD j []) false true]))
 else none else none else none else
 bif v==v then
 bif ((0:Nat)+cnt).ble nd then
 bif ((cnt+(1:Nat)) * (25:Nat)).ble 70368744177664 then
 bif ((0:Nat)+cnt+(1:Nat)).ble nd then
 some ((.normal,[.int .i64 (.ofNat n),.view 1 N (fun j=>[.view 1 k (fun q=>[.int .i64 (.ofNat (p j q))])
 none])
 none,.int .i64 (.ofNat k),.own 2 v 0 (cnt+1)
 none,.int .i64 (.ofNat i),.int .i64 (IntKind.i64.wrap (Int.ofNat a+1))],[.mk 0 1 0 (fun x=>[]) true true,.mk 0 1 1 (fun j=>[[T.own 0 0 0 0 (some 0)]].getD j []) false true,.mk v 1 nd (fun j =>
 bif ((0:Nat)+cnt).ble j&&j.blt (0+cnt+1) then [[T.own [Blk.mk 0 1 0 (fun x=>[]) true true,Blk.mk 0 1 1 (fun j=>[[T.own 0 0 0 0 (some 0)]].getD j []) false true,Blk.mk v 1 nd get false false,Blk.mk 0 1 0 (fun j=>[]) true true].length (2:Nat) (0:Nat) ((0:Nat)+(a - (0:Nat))+(1:Nat)+(k - a))
 none]].getD ((0:Nat)+(j - (0+cnt))) []
 else get j) false false,.mk 0 1 0 (fun j=>[]) true true,.mk 2 1 ((0:Nat)+(a - 0)+(1:Nat)+(k - a)) (fun j =>
 bif j.blt ((0:Nat)+(a - 0)+(1:Nat)) then
 bif ((0:Nat)+j).blt ((0:Nat)+(a - 0)) then [.int .i64 (.ofNat (p i ((0:Nat)+((0:Nat)+(0+j) - (0:Nat)))))]
 else List.map plainOr ([[T.int .i64 (Int.ofNat k)]].getD (0+j - ((0:Nat)+(a - 0))) [])
 else [.int .i64 (.ofNat (p i (a+(j - ((0:Nat)+(a - 0)+(1:Nat))))))]) true false,.mk 0 1 1 (fun j=>[[T.own [Blk.mk 0 1 0 (fun x=>[]) true true,Blk.mk 0 1 1 (fun j=>[[T.own 0 0 0 0 (some 0)]].getD j []) false true,Blk.mk v 1 nd get false false,Blk.mk 0 1 0 (fun j=>[]) true true].length (2:Nat) (0:Nat) ((0:Nat)+(a - (0:Nat))+(1:Nat)+(k - a))
 none]].getD j []) false true]))
 else
 some ((.normal,[.int .i64 (.ofNat n),.view 1 N (fun j=>[.view 1 k (fun q=>[.int .i64 (.ofNat (p j q))])
 none])
 none,.int .i64 (.ofNat k),.own 2 (v+1) (0:Nat) (cnt+1)
 none,.int .i64 (.ofNat i),.int .i64 (IntKind.i64.wrap (Int.ofNat a+1))],[.mk 0 1 0 (fun x=>[]) true true,.mk 0 1 1 (fun j=>[[T.own 0 0 0 0 (some 0)]].getD j []) false true,.mk (v+1) (1:Nat) (cnt+1) (fun j =>
 bif j.blt cnt then get (0+j)
 else [[T.own [Blk.mk 0 1 0 (fun x=>[]) true true,Blk.mk 0 1 1 (fun j=>[[T.own 0 0 0 0 (some 0)]].getD j []) false true,Blk.mk v 1 nd get false false,Blk.mk 0 1 0 (fun j=>[]) true true].length (2:Nat) (0:Nat) ((0:Nat)+(a - (0:Nat))+(1:Nat)+(k - a))
 none]].getD ((0:Nat)+(j - cnt)) []) false false,.mk 0 1 0 (fun j=>[]) true true,.mk 2 1 ((0:Nat)+(a - 0)+(1:Nat)+(k - a)) (fun j =>
 bif j.blt ((0:Nat)+(a - 0)+(1:Nat)) then
 bif ((0:Nat)+j).blt ((0:Nat)+(a - 0)) then [.int .i64 (.ofNat (p i ((0:Nat)+((0:Nat)+(0+j) - (0:Nat)))))]
 else List.map plainOr ([[T.int .i64 (Int.ofNat k)]].getD (0+j - ((0:Nat)+(a - 0))) [])
 else [.int .i64 (.ofNat (p i (a+(j - ((0:Nat)+(a - 0)+(1:Nat))))))]) true false,.mk 0 1 1 (fun j=>[[T.own [Blk.mk 0 1 0 (fun x=>[]) true true,Blk.mk 0 1 1 (fun j=>[[T.own 0 0 0 0 (some 0)]].getD j []) false true,Blk.mk v 1 nd get false false,Blk.mk 0 1 0 (fun j=>[]) true true].length (2:Nat) (0:Nat) ((0:Nat)+(a - (0:Nat))+(1:Nat)+(k - a))
 none]].getD j []) false true]))
 else none else none else none else none else none else none else none else none else none else none else none else none else none else none else
 some ((.exit 4,[.int .i64 (.ofNat n),.view 1 N (fun j=>[.view 1 k (fun q=>[.int .i64 (.ofNat (p j q))])
 none])
 none,.int .i64 (.ofNat k),.own 2 v 0 cnt
 none,.int .i64 (.ofNat i)],[.mk 0 1 0 (fun x=>[]) true true,.mk 0 1 1 (fun j=>[[T.own 0 0 0 0 (some 0)]].getD j []) false true,.mk v 1 nd get false false]))
 else
 none) from by kernel_rfl)
set_option maxHeartbeats 1000000 in
theorem s10own (kk:Nat) (hkk:kk = 2 ∨ kk = 3) (n N k i a v cnt nd:Nat) (p:Nat->Nat->Nat) (get:Nat->List T) (hi:i<N) (hN:N<=1000) (hk0:0<k) (hk:k<=10) (ha:a<=k) (hp:Ordr k (p i)) (hcnt:cnt<=nd) (hc2:cnt<=10000) (hget:Nok k cnt get) :
 ∃ v' nd' get',cnt+1<=nd'/\Nok k (cnt+1) get'/\Step P41 G41 (A41 14) 14 10 kk (v10o n N k p (.own 2 v 0 cnt none) i a) [eb 0,x1B,ob v nd get] (v10o n N k p (.own 2 v' 0 (cnt+1) none) i (a+1:Nat)) [eb 0,x1B,ob v' nd' get']:=by
 have hd:=hp.ins ha
 have wa:IntKind.i64.wrap (Int.ofNat a+(1:Int)) = ((a+1:Nat):Int):=by rw [wr64 (by rw [ofNatE]; omega) (by rw [ofNatE]; omega)]; rfl
 have tree:=tree10 n N k i a v cnt nd p get
 rw [wa] at tree
 refine by_tree tree ?_
 clear tree
 by_cases a0:a = 0
 ·by_cases qn:cnt+1<=nd
  ·(repeat (first | (refine exTr (by first | assumption | omega | (simp (disch:=omega) only [wr64,wr8,wr16,wr32,ofNatE,toNatE,toNatE1,Bool.and_eq_true,Bool.or_eq_true,Bool.not_eq_true',decide_eq_true_eq,decide_eq_false_iff_not,nble,nblt,nbeq,Nat.zero_add,Nat.add_zero,Int.zero_add,Int.add_zero,List.length_cons,List.length_nil,true_and,and_true,Nat.reduceAdd,and_self,beq_self_eq_true]; done) | (simp (disch:=omega) only [wr64,wr8,wr16,wr32,ofNatE,toNatE,toNatE1,Bool.and_eq_true,Bool.or_eq_true,Bool.not_eq_true',decide_eq_true_eq,decide_eq_false_iff_not,nble,nblt,nbeq,Nat.zero_add,Nat.add_zero,Int.zero_add,Int.add_zero,List.length_cons,List.length_nil,true_and,and_true,Nat.reduceAdd,and_self,beq_self_eq_true]; omega)) ?_) | (refine exFa (by first | assumption | (simp (disch:=omega) only [wr64,wr8,wr16,wr32,ofNatE,toNatE,toNatE1,Bool.and_eq_true,Bool.or_eq_true,Bool.not_eq_true',decide_eq_true_eq,decide_eq_false_iff_not,nble,nblt,nbeq,Nat.zero_add,Nat.add_zero,Int.zero_add,Int.add_zero,List.length_cons,List.length_nil,true_and,and_true,Nat.reduceAdd,and_self,beq_self_eq_true]; done) | (simp (disch:=omega) only [wr64,wr8,wr16,wr32,ofNatE,toNatE,toNatE1,Bool.and_eq_true,Bool.or_eq_true,Bool.not_eq_true',decide_eq_true_eq,decide_eq_false_iff_not,nble,nblt,nbeq,Nat.zero_add,Nat.add_zero,Int.zero_add,Int.add_zero,List.length_cons,List.length_nil,true_and,and_true,Nat.reduceAdd,and_self,beq_self_eq_true]; omega)) ?_)))
   refine ⟨_,rfl,fun hr=>o10fin (nx:=2) (ix:=4) (w:=1) (m:=1+(k - a)) hr get hget rfl (by rcases hkk with rfl | rfl <;> rfl) rfl rfl (by omega) (gt_fit get cnt _).1 (gt_fit get cnt _).2 rfl rfl rfl (by omega) (by omega) (ins (p i) a k) hd (fun q hq=>bgA (p i) k a q a0)⟩
  ·(repeat (first | (refine exTr (by first | assumption | omega | (simp (disch:=omega) only [wr64,wr8,wr16,wr32,ofNatE,toNatE,toNatE1,Bool.and_eq_true,Bool.or_eq_true,Bool.not_eq_true',decide_eq_true_eq,decide_eq_false_iff_not,nble,nblt,nbeq,Nat.zero_add,Nat.add_zero,Int.zero_add,Int.add_zero,List.length_cons,List.length_nil,true_and,and_true,Nat.reduceAdd,and_self,beq_self_eq_true]; done) | (simp (disch:=omega) only [wr64,wr8,wr16,wr32,ofNatE,toNatE,toNatE1,Bool.and_eq_true,Bool.or_eq_true,Bool.not_eq_true',decide_eq_true_eq,decide_eq_false_iff_not,nble,nblt,nbeq,Nat.zero_add,Nat.add_zero,Int.zero_add,Int.add_zero,List.length_cons,List.length_nil,true_and,and_true,Nat.reduceAdd,and_self,beq_self_eq_true]; omega)) ?_) | (refine exFa (by first | assumption | (simp (disch:=omega) only [wr64,wr8,wr16,wr32,ofNatE,toNatE,toNatE1,Bool.and_eq_true,Bool.or_eq_true,Bool.not_eq_true',decide_eq_true_eq,decide_eq_false_iff_not,nble,nblt,nbeq,Nat.zero_add,Nat.add_zero,Int.zero_add,Int.add_zero,List.length_cons,List.length_nil,true_and,and_true,Nat.reduceAdd,and_self,beq_self_eq_true]; done) | (simp (disch:=omega) only [wr64,wr8,wr16,wr32,ofNatE,toNatE,toNatE1,Bool.and_eq_true,Bool.or_eq_true,Bool.not_eq_true',decide_eq_true_eq,decide_eq_false_iff_not,nble,nblt,nbeq,Nat.zero_add,Nat.add_zero,Int.zero_add,Int.add_zero,List.length_cons,List.length_nil,true_and,and_true,Nat.reduceAdd,and_self,beq_self_eq_true]; omega)) ?_)))
   refine ⟨_,rfl,fun hr=>o10fin (nx:=2) (ix:=4) (w:=1) (m:=1+(k - a)) hr get hget rfl (by rcases hkk with rfl | rfl <;> rfl) rfl rfl (by omega) (gt_grow get cnt _).1 (gt_grow get cnt _).2 rfl rfl rfl (by omega) (by omega) (ins (p i) a k) hd (fun q hq=>bgA (p i) k a q a0)⟩
 ·by_cases ak:a = k
  ·by_cases qn:cnt+1<=nd
   ·(repeat (first | (refine exTr (by first | assumption | omega | (simp (disch:=omega) only [wr64,wr8,wr16,wr32,ofNatE,toNatE,toNatE1,Bool.and_eq_true,Bool.or_eq_true,Bool.not_eq_true',decide_eq_true_eq,decide_eq_false_iff_not,nble,nblt,nbeq,Nat.zero_add,Nat.add_zero,Int.zero_add,Int.add_zero,List.length_cons,List.length_nil,true_and,and_true,Nat.reduceAdd,and_self,beq_self_eq_true]; done) | (simp (disch:=omega) only [wr64,wr8,wr16,wr32,ofNatE,toNatE,toNatE1,Bool.and_eq_true,Bool.or_eq_true,Bool.not_eq_true',decide_eq_true_eq,decide_eq_false_iff_not,nble,nblt,nbeq,Nat.zero_add,Nat.add_zero,Int.zero_add,Int.add_zero,List.length_cons,List.length_nil,true_and,and_true,Nat.reduceAdd,and_self,beq_self_eq_true]; omega)) ?_) | (refine exFa (by first | assumption | (simp (disch:=omega) only [wr64,wr8,wr16,wr32,ofNatE,toNatE,toNatE1,Bool.and_eq_true,Bool.or_eq_true,Bool.not_eq_true',decide_eq_true_eq,decide_eq_false_iff_not,nble,nblt,nbeq,Nat.zero_add,Nat.add_zero,Int.zero_add,Int.add_zero,List.length_cons,List.length_nil,true_and,and_true,Nat.reduceAdd,and_self,beq_self_eq_true]; done) | (simp (disch:=omega) only [wr64,wr8,wr16,wr32,ofNatE,toNatE,toNatE1,Bool.and_eq_true,Bool.or_eq_true,Bool.not_eq_true',decide_eq_true_eq,decide_eq_false_iff_not,nble,nblt,nbeq,Nat.zero_add,Nat.add_zero,Int.zero_add,Int.add_zero,List.length_cons,List.length_nil,true_and,and_true,Nat.reduceAdd,and_self,beq_self_eq_true]; omega)) ?_)))
    refine ⟨_,rfl,fun hr=>o10fin (nx:=2) (ix:=4) (w:=1) (m:=0+(a - 0)+1) hr get hget rfl (by rcases hkk with rfl | rfl <;> rfl) rfl rfl (by omega) (gt_fit get cnt _).1 (gt_fit get cnt _).2 rfl rfl rfl (by omega) (by omega) (ins (p i) a k) hd (fun q hq=>bgB (p i) k a q (by omega))⟩
   ·(repeat (first | (refine exTr (by first | assumption | omega | (simp (disch:=omega) only [wr64,wr8,wr16,wr32,ofNatE,toNatE,toNatE1,Bool.and_eq_true,Bool.or_eq_true,Bool.not_eq_true',decide_eq_true_eq,decide_eq_false_iff_not,nble,nblt,nbeq,Nat.zero_add,Nat.add_zero,Int.zero_add,Int.add_zero,List.length_cons,List.length_nil,true_and,and_true,Nat.reduceAdd,and_self,beq_self_eq_true]; done) | (simp (disch:=omega) only [wr64,wr8,wr16,wr32,ofNatE,toNatE,toNatE1,Bool.and_eq_true,Bool.or_eq_true,Bool.not_eq_true',decide_eq_true_eq,decide_eq_false_iff_not,nble,nblt,nbeq,Nat.zero_add,Nat.add_zero,Int.zero_add,Int.add_zero,List.length_cons,List.length_nil,true_and,and_true,Nat.reduceAdd,and_self,beq_self_eq_true]; omega)) ?_) | (refine exFa (by first | assumption | (simp (disch:=omega) only [wr64,wr8,wr16,wr32,ofNatE,toNatE,toNatE1,Bool.and_eq_true,Bool.or_eq_true,Bool.not_eq_true',decide_eq_true_eq,decide_eq_false_iff_not,nble,nblt,nbeq,Nat.zero_add,Nat.add_zero,Int.zero_add,Int.add_zero,List.length_cons,List.length_nil,true_and,and_true,Nat.reduceAdd,and_self,beq_self_eq_true]; done) | (simp (disch:=omega) only [wr64,wr8,wr16,wr32,ofNatE,toNatE,toNatE1,Bool.and_eq_true,Bool.or_eq_true,Bool.not_eq_true',decide_eq_true_eq,decide_eq_false_iff_not,nble,nblt,nbeq,Nat.zero_add,Nat.add_zero,Int.zero_add,Int.add_zero,List.length_cons,List.length_nil,true_and,and_true,Nat.reduceAdd,and_self,beq_self_eq_true]; omega)) ?_)))
    refine ⟨_,rfl,fun hr=>o10fin (nx:=2) (ix:=4) (w:=1) (m:=0+(a - 0)+1) hr get hget rfl (by rcases hkk with rfl | rfl <;> rfl) rfl rfl (by omega) (gt_grow get cnt _).1 (gt_grow get cnt _).2 rfl rfl rfl (by omega) (by omega) (ins (p i) a k) hd (fun q hq=>bgB (p i) k a q (by omega))⟩
  ·by_cases qn:cnt+1<=nd
   ·(repeat (first | (refine exTr (by first | assumption | omega | (simp (disch:=omega) only [wr64,wr8,wr16,wr32,ofNatE,toNatE,toNatE1,Bool.and_eq_true,Bool.or_eq_true,Bool.not_eq_true',decide_eq_true_eq,decide_eq_false_iff_not,nble,nblt,nbeq,Nat.zero_add,Nat.add_zero,Int.zero_add,Int.add_zero,List.length_cons,List.length_nil,true_and,and_true,Nat.reduceAdd,and_self,beq_self_eq_true]; done) | (simp (disch:=omega) only [wr64,wr8,wr16,wr32,ofNatE,toNatE,toNatE1,Bool.and_eq_true,Bool.or_eq_true,Bool.not_eq_true',decide_eq_true_eq,decide_eq_false_iff_not,nble,nblt,nbeq,Nat.zero_add,Nat.add_zero,Int.zero_add,Int.add_zero,List.length_cons,List.length_nil,true_and,and_true,Nat.reduceAdd,and_self,beq_self_eq_true]; omega)) ?_) | (refine exFa (by first | assumption | (simp (disch:=omega) only [wr64,wr8,wr16,wr32,ofNatE,toNatE,toNatE1,Bool.and_eq_true,Bool.or_eq_true,Bool.not_eq_true',decide_eq_true_eq,decide_eq_false_iff_not,nble,nblt,nbeq,Nat.zero_add,Nat.add_zero,Int.zero_add,Int.add_zero,List.length_cons,List.length_nil,true_and,and_true,Nat.reduceAdd,and_self,beq_self_eq_true]; done) | (simp (disch:=omega) only [wr64,wr8,wr16,wr32,ofNatE,toNatE,toNatE1,Bool.and_eq_true,Bool.or_eq_true,Bool.not_eq_true',decide_eq_true_eq,decide_eq_false_iff_not,nble,nblt,nbeq,Nat.zero_add,Nat.add_zero,Int.zero_add,Int.add_zero,List.length_cons,List.length_nil,true_and,and_true,Nat.reduceAdd,and_self,beq_self_eq_true]; omega)) ?_)))
    refine ⟨_,rfl,fun hr=>o10fin (nx:=2) (ix:=4) (w:=2) (m:=0+(a - 0)+1+(k - a)) hr get hget rfl (by rcases hkk with rfl | rfl <;> rfl) rfl rfl (by omega) (gt_fit get cnt _).1 (gt_fit get cnt _).2 rfl rfl rfl (by omega) (by omega) (ins (p i) a k) hd (fun q hq=>bgC (p i) k a q (by omega))⟩
   ·(repeat (first | (refine exTr (by first | assumption | omega | (simp (disch:=omega) only [wr64,wr8,wr16,wr32,ofNatE,toNatE,toNatE1,Bool.and_eq_true,Bool.or_eq_true,Bool.not_eq_true',decide_eq_true_eq,decide_eq_false_iff_not,nble,nblt,nbeq,Nat.zero_add,Nat.add_zero,Int.zero_add,Int.add_zero,List.length_cons,List.length_nil,true_and,and_true,Nat.reduceAdd,and_self,beq_self_eq_true]; done) | (simp (disch:=omega) only [wr64,wr8,wr16,wr32,ofNatE,toNatE,toNatE1,Bool.and_eq_true,Bool.or_eq_true,Bool.not_eq_true',decide_eq_true_eq,decide_eq_false_iff_not,nble,nblt,nbeq,Nat.zero_add,Nat.add_zero,Int.zero_add,Int.add_zero,List.length_cons,List.length_nil,true_and,and_true,Nat.reduceAdd,and_self,beq_self_eq_true]; omega)) ?_) | (refine exFa (by first | assumption | (simp (disch:=omega) only [wr64,wr8,wr16,wr32,ofNatE,toNatE,toNatE1,Bool.and_eq_true,Bool.or_eq_true,Bool.not_eq_true',decide_eq_true_eq,decide_eq_false_iff_not,nble,nblt,nbeq,Nat.zero_add,Nat.add_zero,Int.zero_add,Int.add_zero,List.length_cons,List.length_nil,true_and,and_true,Nat.reduceAdd,and_self,beq_self_eq_true]; done) | (simp (disch:=omega) only [wr64,wr8,wr16,wr32,ofNatE,toNatE,toNatE1,Bool.and_eq_true,Bool.or_eq_true,Bool.not_eq_true',decide_eq_true_eq,decide_eq_false_iff_not,nble,nblt,nbeq,Nat.zero_add,Nat.add_zero,Int.zero_add,Int.add_zero,List.length_cons,List.length_nil,true_and,and_true,Nat.reduceAdd,and_self,beq_self_eq_true]; omega)) ?_)))
    refine ⟨_,rfl,fun hr=>o10fin (nx:=2) (ix:=4) (w:=2) (m:=0+(a - 0)+1+(k - a)) hr get hget rfl (by rcases hkk with rfl | rfl <;> rfl) rfl rfl (by omega) (gt_grow get cnt _).1 (gt_grow get cnt _).2 rfl rfl rfl (by omega) (by omega) (ins (p i) a k) hd (fun q hq=>bgC (p i) k a q (by omega))⟩
theorem x10own (kk:Nat) (n N k i v cnt nd:Nat) (p:Nat->Nat->Nat) (get:Nat->List T) (hi:i<N) (hN:N<=1000) :
 Last P41 G41 (A41 14) 14 10 kk (v10o n N k p (.own 2 v 0 cnt none) i (k+1:Nat)) [eb 0,x1B,ob v nd get] (.exit 4) (e10o n N k p (.own 2 v 0 cnt none) i) [eb 0,x1B,ob v nd get]:=by
 refine Last.mk0 (A:=A41) (m:=0) none_ok rfl rfl loops0 (by simp) (h1:=[eb 0,x1B,ob v nd get]) (Eq.trans (tree10 n N k i (k+1) v cnt nd p get) ?_) (.refl _)
 refine bift (by simp only [ofNatE,Bool.and_eq_true,decide_eq_true_eq]; omega) ?_
 refine biff (by simp only [ofNatE,decide_eq_true_eq]; omega) ?_
 rfl
theorem s10nil (n N k i:Nat) (p:Nat->Nat->Nat) (hi:i<N) (hN:N<=1000) (hk0:0<k) (hk:k<=10) (hp:Ordr k (p i)) :
 ∃ v' nd' get',0+1<=nd'/\Nok k (0+1) get'/\Step P41 G41 (A41 14) 14 10 2 (v10o n N k p .nils i (0:Nat)) [eb 0,x1B] (v10o n N k p (.own 2 v' 0 (0+1) none) i (0+1:Nat)) [eb 0,x1B,ob v' nd' get']:=by
 have hd:=hp.ins (Nat.zero_le k)
 have tree:=(show iterR P41 G41 A41 noneO 0 14 [] 10 (v10o n N k p .nils i (0:Nat)) [eb 0,x1B] =
(
 bif decide (0<=Int.ofNat i)&&decide (Int.ofNat i<Int.ofNat N) then
 bif decide (0<=Int.ofNat i)&&decide (Int.ofNat i<Int.ofNat N) then
 bif decide (0<=Int.ofNat i)&&decide (Int.ofNat i<Int.ofNat N) then
 bif decide (0<=Int.ofNat k)&&decide (Int.ofNat k<=Int.ofNat k) then
 bif k.ble k then
 bif k - 0==(0:Nat) then
 some ((.normal,[.int .i64 (.ofNat n),.view 1 N (fun j=>[.view 1 k (fun q=>[.int .i64 (.ofNat (p j q))])
 none])
 none,.int .i64 (.ofNat k),.own [Blk.mk 0 1 0 (fun x=>[]) true true,Blk.mk 0 1 1 (fun j=>[[T.own 0 0 0 0 (some 0)]].getD j []) false true,Blk.mk 0 1 0 (fun j=>[]) true true,Blk.mk 0 1 1 (fun j =>
 bif j.blt 0 then []
 else List.map plainOr ([[T.int .i64 (Int.ofNat k)]].getD (j - (0:Nat)) [])) true false,Blk.mk 0 1 1 (fun j=>[[T.own 3 0 0 1
 none]].getD j []) false true].length (0:Nat) (0:Nat) (1:Nat)
 none,.int .i64 (.ofNat i),.int .i64 1],[.mk 0 1 0 (fun x=>[]) true true,.mk 0 1 1 (fun j=>[[T.own 0 0 0 0 (some 0)]].getD j []) false true,.mk 0 1 0 (fun j=>[]) true true,.mk 0 1 1 (fun j =>
 bif j.blt 0 then []
 else List.map plainOr ([[T.int .i64 (Int.ofNat k)]].getD (j - 0) [])) true false,.mk 0 1 1 (fun j=>[[T.own 3 0 0 1
 none]].getD j []) false true,.mk 0 1 1 (fun j=>[[T.own 3 0 0 1
 none]].getD (0+j) []) false false]))
 else
 bif (((1:Nat)+(k - (0:Nat))) * (9:Nat)).ble 70368744177664 then
 bif ((1:Nat)+(k - (0:Nat))).ble 1 then
 some ((.normal,[.int .i64 (.ofNat n),.view 1 N (fun j=>[.view 1 k (fun q=>[.int .i64 (.ofNat (p j q))])
 none])
 none,.int .i64 (.ofNat k),.own [Blk.mk 0 1 0 (fun x=>[]) true true,Blk.mk 0 1 1 (fun j=>[[T.own 0 0 0 0 (some 0)]].getD j []) false true,Blk.mk 0 1 0 (fun j=>[]) true true,Blk.mk 0 1 1 (fun j =>
 bif Nat.ble 1 j&&j.blt ((1:Nat)+(k - (0:Nat))) then [T.int .i64 (Int.ofNat (p i ((0:Nat)+(j - (1:Nat)))))]
 else
 bif j.blt 0 then []
 else List.map plainOr ([[T.int .i64 (Int.ofNat k)]].getD (j - (0:Nat)) [])) true false,Blk.mk 0 1 1 (fun j=>[[T.own 3 0 0 ((1:Nat)+(k - (0:Nat)))
 none]].getD j []) false true].length (0:Nat) (0:Nat) (1:Nat)
 none,.int .i64 (.ofNat i),.int .i64 1],[.mk 0 1 0 (fun x=>[]) true true,.mk 0 1 1 (fun j=>[[T.own 0 0 0 0 (some 0)]].getD j []) false true,.mk 0 1 0 (fun j=>[]) true true,.mk 0 1 1 (fun j =>
 bif Nat.ble 1 j&&j.blt ((1:Nat)+(k - 0)) then [.int .i64 (.ofNat (p i ((0:Nat)+(j - 1))))]
 else
 bif j.blt 0 then []
 else List.map plainOr ([[T.int .i64 (Int.ofNat k)]].getD (j - 0) [])) true false,.mk 0 1 1 (fun j=>[[T.own 3 0 0 ((1:Nat)+(k - (0:Nat)))
 none]].getD j []) false true,.mk 0 1 1 (fun j=>[[T.own 3 0 0 ((1:Nat)+(k - (0:Nat)))
 none]].getD (0+j) []) false false]))
 else
 some ((.normal,[.int .i64 (.ofNat n),.view 1 N (fun j=>[.view 1 k (fun q=>[.int .i64 (.ofNat (p j q))])
 none])
 none,.int .i64 (.ofNat k),.own [Blk.mk 0 1 0 (fun x=>[]) true true,Blk.mk 0 1 1 (fun j=>[[T.own 0 0 0 0 (some 0)]].getD j []) false true,Blk.mk 0 1 0 (fun j=>[]) true true,Blk.mk 1 1 ((1:Nat)+(k - (0:Nat))) (fun j =>
 bif j.blt 1 then
 bif ((0:Nat)+j).blt 0 then []
 else List.map plainOr ([[T.int .i64 (Int.ofNat k)]].getD ((0:Nat)+j - (0:Nat)) [])
 else [T.int .i64 (Int.ofNat (p i ((0:Nat)+(j - (1:Nat)))))]) true false,Blk.mk 0 1 1 (fun j=>[[T.own 3 1 0 ((1:Nat)+(k - (0:Nat)))
 none]].getD j []) false true].length (0:Nat) (0:Nat) (1:Nat)
 none,.int .i64 (.ofNat i),.int .i64 1],[.mk 0 1 0 (fun x=>[]) true true,.mk 0 1 1 (fun j=>[[T.own 0 0 0 0 (some 0)]].getD j []) false true,.mk 0 1 0 (fun j=>[]) true true,.mk 1 1 ((1:Nat)+(k - 0)) (fun j =>
 bif j.blt 1 then
 bif ((0:Nat)+j).blt 0 then []
 else List.map plainOr ([[T.int .i64 (Int.ofNat k)]].getD (0+j - 0) [])
 else [.int .i64 (.ofNat (p i ((0:Nat)+(j - 1))))]) true false,.mk 0 1 1 (fun j=>[[T.own 3 1 0 ((1:Nat)+(k - (0:Nat)))
 none]].getD j []) false true,.mk 0 1 1 (fun j=>[[T.own 3 1 0 ((1:Nat)+(k - (0:Nat)))
 none]].getD (0+j) []) false false]))
 else none else none else none else none else none else
 none) from by kernel_rfl)
 refine by_tree tree ?_
 clear tree
 (repeat (first | (refine exTr (by first | assumption | omega | (simp (disch:=omega) only [wr64,wr8,wr16,wr32,ofNatE,toNatE,toNatE1,Bool.and_eq_true,Bool.or_eq_true,Bool.not_eq_true',decide_eq_true_eq,decide_eq_false_iff_not,nble,nblt,nbeq,Nat.zero_add,Nat.add_zero,Int.zero_add,Int.add_zero,List.length_cons,List.length_nil,true_and,and_true,Nat.reduceAdd,and_self,beq_self_eq_true]; done) | (simp (disch:=omega) only [wr64,wr8,wr16,wr32,ofNatE,toNatE,toNatE1,Bool.and_eq_true,Bool.or_eq_true,Bool.not_eq_true',decide_eq_true_eq,decide_eq_false_iff_not,nble,nblt,nbeq,Nat.zero_add,Nat.add_zero,Int.zero_add,Int.add_zero,List.length_cons,List.length_nil,true_and,and_true,Nat.reduceAdd,and_self,beq_self_eq_true]; omega)) ?_) | (refine exFa (by first | assumption | (simp (disch:=omega) only [wr64,wr8,wr16,wr32,ofNatE,toNatE,toNatE1,Bool.and_eq_true,Bool.or_eq_true,Bool.not_eq_true',decide_eq_true_eq,decide_eq_false_iff_not,nble,nblt,nbeq,Nat.zero_add,Nat.add_zero,Int.zero_add,Int.add_zero,List.length_cons,List.length_nil,true_and,and_true,Nat.reduceAdd,and_self,beq_self_eq_true]; done) | (simp (disch:=omega) only [wr64,wr8,wr16,wr32,ofNatE,toNatE,toNatE1,Bool.and_eq_true,Bool.or_eq_true,Bool.not_eq_true',decide_eq_true_eq,decide_eq_false_iff_not,nble,nblt,nbeq,Nat.zero_add,Nat.add_zero,Int.zero_add,Int.add_zero,List.length_cons,List.length_nil,true_and,and_true,Nat.reduceAdd,and_self,beq_self_eq_true]; omega)) ?_)))
 refine ⟨_,rfl,fun hr=>o10fin (nx:=5) (ix:=3) (w:=1) (m:=1+(k - 0)) (cnt:=0) hr (fun _=>[]) (fun j hj=>by omega) rfl (by rfl) rfl rfl (by omega) (fun j hj=>by omega) rfl rfl rfl rfl (by omega) (by omega) (ins (p i) 0 k) hd (fun q hq=>?_)⟩
 exact bgA (p i) k 0 q rfl
open Go.Proofs
def fct:Nat->Nat
 | 0=>1
 | k+1=>fct k * (k+1)
def v7o (n N k:Nat) (p:Nat->Nat->Nat) (nx:T) (i:Int):List T:=[.int .i64 n,allT N k p,.int .i64 k,nx,.int .i64 i]
def e7o (n k:Nat) (nx:T):List T:=[.int .i64 n,.int .i64 k,nx]
def v3o (n:Nat) (x:T) (k:Int):List T:=[.int .i64 n,x,.int .i64 k]
theorem fct_le (k:Nat) (h:k<=6):fct k<=720:=by
 have:k = 0 ∨ k = 1 ∨ k = 2 ∨ k = 3 ∨ k = 4 ∨ k = 5 ∨ k = 6:=by omega
 rcases this with rfl | rfl | rfl | rfl | rfl | rfl | rfl <;> decide
theorem l10own (kk:Nat) (hkk:kk = 2 ∨ kk = 3) (n N k i a0 v0 c0 nd0:Nat) (p:Nat->Nat->Nat) (get0:Nat->List T) (hi:i<N) (hN:N<=1000) (hk0:0<k) (hk:k<=6) (hp:Ordr k (p i)) (ha0:a0<=k) (hcnt:c0<=nd0) (hc2:c0<=6000) (hget:Nok k c0 get0) :
 ∃ (m:Nat) (V:Nat->List T) (H:Nat->Heap) (v nd:Nat) (get:Nat->List T),V 0 = v10o n N k p (.own 2 v0 0 c0 none) i a0/\H 0 = [eb 0,x1B,ob v0 nd0 get0]/\(∀ j,j<m->Step P41 G41 (A41 14) 14 10 kk (V j) (H j) (V (j+1)) (H (j+1)))/\c0+(k+1 - a0)<=nd/\Nok k (c0+(k+1 - a0)) get ∧
  Last P41 G41 (A41 14) 14 10 kk (V m) (H m) (.exit 4) (e10o n N k p (.own 2 v 0 (c0+(k+1 - a0)) none) i) [eb 0,x1B,ob v nd get]:=by
 have key:∀ r,∀ a v cnt nd get,r = k+1 - a->a<=k+1->cnt<=nd->cnt<=6010->Nok k cnt get->cnt+r<=6010 →
  ∃ (m:Nat) (V:Nat->List T) (H:Nat->Heap) (v' nd':Nat) (get':Nat->List T),V 0 = v10o n N k p (.own 2 v 0 cnt none) i a/\H 0 = [eb 0,x1B,ob v nd get]/\(∀ j,j<m->Step P41 G41 (A41 14) 14 10 kk (V j) (H j) (V (j+1)) (H (j+1)))/\cnt+r<=nd'/\Nok k (cnt+r) get' ∧
   Last P41 G41 (A41 14) 14 10 kk (V m) (H m) (.exit 4) (e10o n N k p (.own 2 v' 0 (cnt+r) none) i) [eb 0,x1B,ob v' nd' get']:=by
  intro r
  induction r with
  | zero =>
   intro a v cnt nd get hr hak hc hc2 hg _
   obtain rfl:a = k+1:=by omega
   exact ⟨0,fun _=>_,fun _=>_,v,nd,get,rfl,rfl,fun j hj=>by omega,hc,hg,x10own kk n N k i v cnt nd p get hi hN⟩
  | succ r ih =>
   intro a v cnt nd get hr hak hc hc2 hg hb
   obtain ⟨v1,nd1,get1,q1,q2,q3⟩:=s10own kk hkk n N k i a v cnt nd p get hi hN hk0 (by omega) (by omega) hp hc (by omega) hg
   obtain ⟨m,V,H,v',nd',get',w1,w2,w3,w4,w5,w6⟩:=ih (a+1) v1 (cnt+1) nd1 get1 (by omega) (by omega) q1 (by omega) q2 (by omega)
   rw [show cnt+1+r = cnt+(r+1) by omega] at w4 w5 w6
   refine ⟨m+1,fun j=>match j with | 0=>v10o n N k p (.own 2 v 0 cnt none) i a | j+1=>V j,fun j=>match j with | 0=>[eb 0,x1B,ob v nd get] | j+1=>H j,v',nd',get',rfl,rfl,fun j hj=>?_,w4,w5,w6⟩
   cases j with
   | zero=>show Step P41 G41 (A41 14) 14 10 kk _ _ (V 0) (H 0); rw [w1,w2]; exact q3
   | succ j=>exact w3 j (by omega)
 exact key (k+1 - a0) a0 v0 c0 nd0 get0 rfl (by omega) hcnt (by omega) hget (by omega)
theorem l10a (n N k i v0 c0 nd0:Nat) (p:Nat->Nat->Nat) (get0:Nat->List T) (hi:i<N) (hN:N<=1000) (hk0:0<k) (hk:k<=6) (hp:Ordr k (p i)) (hcnt:c0<=nd0) (hc2:c0<=6000) (hget:Nok k c0 get0) :
 ∃ (v nd:Nat) (get:Nat->List T),c0+(k+1)<=nd/\Nok k (c0+(k+1)) get/\LoopOk P41 G41 (A41 14) 14 10 (litS (v10o n N k p (.own 2 v0 0 c0 none) i 0) [eb 0,x1B,ob v0 nd0 get0] (.exit 4) (e10o n N k p (.own 2 v 0 (c0+(k+1)) none) i) [eb 0,x1B,ob v nd get]):=by
 obtain ⟨m,V,H,v,nd,get,w1,w2,w3,w4,w5,w6⟩:=l10own 3 (.inr rfl) n N k i 0 v0 c0 nd0 p get0 hi hN hk0 hk hp (by omega) hcnt hc2 hget
 refine ⟨v,nd,get,w4,w5,?_⟩
 have:=loop_steps (P:=P41) (Gl:=G41) (an:=A41 14) hm41 (f:=14) (r:=10) (by kernel_rfl) V H (n:=m) (e1:=.exit 4) (vs1:=e10o n N k p (.own 2 v 0 (c0+(k+1)) none) i) (h1:=[eb 0,x1B,ob v nd get]) (fun j hj=>by rw [w2]; exact w3 j hj) (by rw [w2]; exact w6)
 rw [w1,w2] at this
 exact this
theorem l10z (n N k i:Nat) (p:Nat->Nat->Nat) (hi:i<N) (hN:N<=1000) (hk0:0<k) (hk:k<=6) (hp:Ordr k (p i)) :
 ∃ (v nd:Nat) (get:Nat->List T),k+1<=nd/\Nok k (k+1) get/\LoopOk P41 G41 (A41 14) 14 10 (litS (v10o n N k p .nils i 0) [eb 0,x1B] (.exit 4) (e10o n N k p (.own 2 v 0 (k+1) none) i) [eb 0,x1B,ob v nd get]):=by
 obtain ⟨v1,nd1,get1,q1,q2,q3⟩:=s10nil n N k i p hi hN hk0 (by omega) hp
 obtain ⟨m,V,H,v,nd,get,w1,w2,w3,w4,w5,w6⟩:=l10own 2 (.inl rfl) n N k i 1 v1 1 nd1 p get1 hi hN hk0 hk hp (by omega) q1 (by omega) q2
 rw [show 1+(k+1 - 1) = k+1 by omega] at w4 w5 w6
 refine ⟨v,nd,get,w4,w5,?_⟩
 have:=loop_steps (P:=P41) (Gl:=G41) (an:=A41 14) hm41 (f:=14) (r:=10) (by kernel_rfl) (fun j=>match j with | 0=>v10o n N k p .nils i (0:Nat) | j+1=>V j) (fun j=>match j with | 0=>[eb 0,x1B] | j+1=>H j) (n:=m+1) (e1:=.exit 4) (vs1:=e10o n N k p (.own 2 v 0 (k+1) none) i) (h1:=[eb 0,x1B,ob v nd get]) (fun j hj=>?_) w6
 ·exact this
 ·cases j with
  | zero=>show Step P41 G41 (A41 14) 14 10 2 _ _ (V 0) (H 0); rw [w1,w2]; exact q3
  | succ j=>exact w3 j (by omega)
theorem step7o (n N k i:Nat) (p:Nat->Nat->Nat) (hi:i<N) (hN:N<=720) (hk0:0<k) (hk:k<=5) (hp:Ordr k (p i)):(i = 0->∃ v nd get,k+1<=nd/\Nok k (k+1) get/\Step P41 G41 (A41 14) 14 7 2 (v7o n N k p .nils i) [eb 0,x1B] (v7o n N k p (.own 2 v 0 (k+1) none) (i+1:Nat)) [eb 0,x1B,ob v nd get]) ∧
 (∀ v0 nd0 c0 get0,c0 = i * (k+1)->c0<=nd0->Nok k c0 get0->∃ v nd get,c0+(k+1)<=nd/\Nok k (c0+(k+1)) get/\Step P41 G41 (A41 14) 14 7 2 (v7o n N k p (.own 2 v0 0 c0 none) i) [eb 0,x1B,ob v0 nd0 get0] (v7o n N k p (.own 2 v 0 (c0+(k+1)) none) (i+1:Nat)) [eb 0,x1B,ob v nd get]):=by
 have wi:IntKind.i64.wrap (Int.ofNat i+(1:Int)) = ((i+1:Nat):Int):=by rw [wr64 (by rw [ofNatE]; omega) (by rw [ofNatE]; omega)]; rfl
 constructor
 ·intro _
  obtain ⟨v,nd,get,w1,w2,hl⟩:=l10z n N k i p hi (by omega) hk0 (by omega) hp
  refine ⟨v,nd,get,w1,w2,Step.mk0 (A:=A41) (m:=0) none_ok rfl rfl (loops1 hl) (h1:=[eb 0,x1B,ob v nd get]) (Eq.trans (show iterR P41 G41 A41 noneO 0 14 [(10,litS (v10o n N k p .nils i 0) [eb 0,x1B] (.exit 4) (e10o n N k p (.own 2 v 0 (k+1) none) i) [eb 0,x1B,ob v nd get])] 7 (v7o n N k p .nils i) [eb 0,x1B] =
(
 bif decide (Int.ofNat i<Int.ofNat N) then
 bif weakF [.int .i64 (.ofNat n),.view 1 N (fun j=>[.view 1 k (fun q=>[.int .i64 (.ofNat (p j q))])
 none])
 none,.int .i64 (.ofNat k),.nils,.int .i64 (.ofNat i),.int .i64 0] [.mk 0 1 0 (fun x=>[]) true true,.mk 0 1 1 (fun j=>[[T.own 0 0 0 0 (some 0)]].getD j []) false true] [.int .i64 (.ofNat n),.view 1 N (fun j=>[.view 1 k (fun q=>[.int .i64 (.ofNat (p j q))])
 none])
 none,.int .i64 (.ofNat k),.nils,.int .i64 (.ofNat i),.int .i64 0] [.mk 0 1 0 (fun x=>[]) true true,.mk 0 1 1 (fun j=>[[T.own 0 0 0 0 (some 0)]].getD j []) false true] then
 some ((.normal,[.int .i64 (.ofNat n),.view 1 N (fun j=>[.view 1 k (fun q=>[.int .i64 (.ofNat (p j q))])
 none])
 none,.int .i64 (.ofNat k),.own 2 v 0 (k+1)
 none,.int .i64 (IntKind.i64.wrap (Int.ofNat i+1))],[.mk 0 1 0 (fun x=>[]) true true,.mk 0 1 1 (fun j=>[[T.own 0 0 0 0 (some 0)]].getD j []) false true,.mk v 1 nd get false false]))
 else none else
 some ((.exit 2,[.int .i64 (.ofNat n),.int .i64 (.ofNat k),.nils],[.mk 0 1 0 (fun x=>[]) true true,.mk 0 1 1 (fun j=>[[T.own 0 0 0 0 (some 0)]].getD j []) false true]))) from by kernel_rfl) ?_) (.refl _)⟩
  rw [wi]
  refine bift (by simp only [ofNatE,decide_eq_true_eq]; omega) (bift (weakF_of ⟨rfl,.refl _⟩) rfl)
 ·intro v0 nd0 c0 get0 hc0 hn0 hg0
  have hb:c0<=6000:=by
   subst hc0
   have:i * (k+1)<=720 * 6:=Nat.mul_le_mul (by omega) (by omega)
   omega
  obtain ⟨v,nd,get,w1,w2,hl⟩:=l10a n N k i v0 c0 nd0 p get0 hi (by omega) hk0 (by omega) hp hn0 hb hg0
  refine ⟨v,nd,get,w1,w2,?_⟩
  clear hc0 hb w1 w2
  generalize c0+(k+1) = c1 at *
  refine Step.mk0 (A:=A41) (m:=0) none_ok rfl rfl (loops1 hl) (h1:=[eb 0,x1B,ob v nd get]) (Eq.trans (show iterR P41 G41 A41 noneO 0 14 [(10,litS (v10o n N k p (.own 2 v0 0 c0 none) i 0) [eb 0,x1B,ob v0 nd0 get0] (.exit 4) (e10o n N k p (.own 2 v 0 c1 none) i) [eb 0,x1B,ob v nd get])] 7 (v7o n N k p (.own 2 v0 0 c0 none) i) [eb 0,x1B,ob v0 nd0 get0] =
(
 bif decide (Int.ofNat i<Int.ofNat N) then
 bif weakF [.int .i64 (.ofNat n),.view 1 N (fun j=>[.view 1 k (fun q=>[.int .i64 (.ofNat (p j q))])
 none])
 none,.int .i64 (.ofNat k),.own 2 v0 0 c0
 none,.int .i64 (.ofNat i),.int .i64 0] [.mk 0 1 0 (fun x=>[]) true true,.mk 0 1 1 (fun j=>[[T.own 0 0 0 0 (some 0)]].getD j []) false true,.mk v0 1 nd0 get0 false false] [.int .i64 (.ofNat n),.view 1 N (fun j=>[.view 1 k (fun q=>[.int .i64 (.ofNat (p j q))])
 none])
 none,.int .i64 (.ofNat k),.own 2 v0 0 c0
 none,.int .i64 (.ofNat i),.int .i64 0] [.mk 0 1 0 (fun x=>[]) true true,.mk 0 1 1 (fun j=>[[T.own 0 0 0 0 (some 0)]].getD j []) false true,.mk v0 1 nd0 get0 false false] then
 some ((.normal,[.int .i64 (.ofNat n),.view 1 N (fun j=>[.view 1 k (fun q=>[.int .i64 (.ofNat (p j q))])
 none])
 none,.int .i64 (.ofNat k),.own 2 v 0 c1
 none,.int .i64 (IntKind.i64.wrap (Int.ofNat i+1))],[.mk 0 1 0 (fun x=>[]) true true,.mk 0 1 1 (fun j=>[[T.own 0 0 0 0 (some 0)]].getD j []) false true,.mk v 1 nd get false false]))
 else none else
 some ((.exit 2,[.int .i64 (.ofNat n),.int .i64 (.ofNat k),.own 2 v0 0 c0
 none],[.mk 0 1 0 (fun x=>[]) true true,.mk 0 1 1 (fun j=>[[T.own 0 0 0 0 (some 0)]].getD j []) false true,.mk v0 1 nd0 get0 false false]))) from by kernel_rfl) ?_) (.refl _)
  rw [wi]
  refine bift (by simp only [ofNatE,decide_eq_true_eq]; omega) (bift (weakF_of ⟨rfl,.refl _⟩) rfl)
theorem l7o (n N k:Nat) (p:Nat->Nat->Nat) (h0:0<N) (hN:N<=720) (hk0:0<k) (hk:k<=5) (hp:∀ i,i<N->Ordr k (p i)):∃ v nd get,N * (k+1)<=nd/\Nok k (N * (k+1)) get/\LoopOk P41 G41 (A41 14) 14 7 (litS (v7o n N k p .nils 0) [eb 0,x1B] (.exit 2) (e7o n k (.own 2 v 0 (N * (k+1)) none)) [eb 0,x1B,ob v nd get]):=by
 obtain ⟨e,vs1,h1,⟨rfl,v,nd,get,w1,w2,rfl,rfl⟩,hl⟩:=loop_exists (P:=P41) (Gl:=G41) (an:=A41 14) hm41 (f:=14) (r:=7) (k:=2) (by kernel_rfl)
  (fun m vs h=>∃ i,i<=N/\m = N - i/\((i = 0/\vs = v7o n N k p .nils i/\h = [eb 0,x1B]) ∨ (0<i/\∃ v nd c get,c = i * (k+1)/\c<=nd/\Nok k c get/\vs = v7o n N k p (.own 2 v 0 c none) i/\h = [eb 0,x1B,ob v nd get])))
  (fun e vs h=>e = .exit 2/\∃ v nd get,N * (k+1)<=nd/\Nok k (N * (k+1)) get/\vs = e7o n k (.own 2 v 0 (N * (k+1)) none)/\h = [eb 0,x1B,ob v nd get])
  (fun m vs h hI=>by
   obtain ⟨i,hi,hm,hc⟩:=hI
   rcases Nat.lt_or_ge i N with q | q
   ·left
    have hm1:m - 1<m:=by clear hc; omega
    have hm2:i+1<=N:=by clear hc; omega
    have hm3:m - 1 = N - (i+1):=by clear hc; omega
    have hm4:0<i+1:=by clear hc; omega
    have hs:=step7o n N k i p q hN hk0 hk (hp i q)
    rcases hc with ⟨i0,rfl,rfl⟩ | ⟨i0,v,nd,c,get,hcc,c1,c2,rfl,rfl⟩
    ·obtain ⟨v,nd,get,w1,w2,w3⟩:=hs.1 i0
     exact ⟨m - 1,_,_,hm1,w3,i+1,hm2,hm3,.inr ⟨hm4,v,nd,k+1,get,by rw [i0]; simp,w1,w2,rfl,rfl⟩⟩
    ·obtain ⟨v',nd',get',w1,w2,w3⟩:=hs.2 v nd c get hcc c1 c2
     exact ⟨m - 1,_,_,hm1,w3,i+1,hm2,hm3,.inr ⟨hm4,v',nd',c+(k+1),get',by rw [hcc,Nat.add_mul]; simp,w1,w2,rfl,rfl⟩⟩
   ·right
    have hiN:i = N:=by clear hc; omega
    subst hiN
    rcases hc with ⟨i0,rfl,rfl⟩ | ⟨i0,v,nd,c,get,hcc,c1,c2,rfl,rfl⟩
    ·omega
    ·refine ⟨.exit 2,e7o n k (.own 2 v 0 c none),[eb 0,x1B,ob v nd get],Last.mk0 (A:=A41) (m:=0) none_ok rfl rfl loops0 (by simp) (h1:=[eb 0,x1B,ob v nd get]) (Eq.trans (show iterR P41 G41 A41 noneO 0 14 [(10,fun _ _=>.none)] 7 (v7o n i k p (.own 2 v 0 c none) i) [eb 0,x1B,ob v nd get] =
(
 bif decide (Int.ofNat i<Int.ofNat i) then none else
 some ((.exit 2,[.int .i64 (.ofNat n),.int .i64 (.ofNat k),.own 2 v 0 c
 none],[.mk 0 1 0 (fun x=>[]) true true,.mk 0 1 1 (fun j=>[[T.own 0 0 0 0 (some 0)]].getD j []) false true,.mk v 1 nd get false false]))) from by kernel_rfl) ?_) (.refl _),rfl,v,nd,get,by rw [← hcc]; exact c1,by rw [← hcc]; exact c2,by rw [← hcc],rfl⟩
     exact biff (by simp) rfl)
  (n:=N) (vs:=v7o n N k p .nils 0) (h:=[eb 0,x1B]) rfl ⟨0,by omega,by omega,.inl ⟨rfl,rfl,rfl⟩⟩
 exact ⟨v,nd,get,w1,w2,hl⟩
open Go.Proofs
theorem simX1 {σ:List Nat} {h:Heap} (hp:posOf σ 0 = some 0):SimBlks [eb 0,renB σ h x1B] [eb 0,x1B]:=by
 refine .cons ⟨rfl,rfl,rfl⟩ (fun hf=>⟨rfl,fun _ _=>rfl⟩) (fun _ _=>.refl _) (.cons ⟨rfl,rfl,rfl⟩ (fun hf=>by cases hf) (fun j hj=>?_) .nil)
 have hj:j<1:=hj
 obtain rfl:j = 0:=by omega
 show SimL [ren0 σ h (.own 0 0 0 0 (some 0))] [.own 0 0 0 0 (some 0)]
 simp only [ren0,hp]
 exact .refl _
theorem s3a (n:Nat) (hn:0<n):Step P41 G41 (A41 14) 14 3 2 (v3o n (.own 1 0 0 1 (some 1)) 0) [eb 0,x1B] (v3o n (allT 1 1 fun _ _=>0) (1:Nat)) [eb 0,x1B]:=by
 have tree:=(show iterR P41 G41 A41 noneO 3 14 [] 3 (v3o n (.own 1 0 0 1 (some 1)) 0) [eb 0,x1B] =
(
 bif decide (0<Int.ofNat n) then
 some ((.normal,[.int .i64 (.ofNat n),.own 5 0 0 1
 none,.int .i64 1],[.mk 0 1 0 (fun x=>[]) true true,.mk 0 1 1 (fun j=>[[T.own 0 0 0 0 (some 0)]].getD j []) false true,.mk 0 1 0 (fun j=>[]) true true,.mk 0 1 1 (fun j =>
 bif j.blt 0 then []
 else List.map plainOr ([[T.int .i64 (0:Int)]].getD (j - 0) [])) true false,.mk 0 1 1 (fun j=>[[T.own 3 0 0 1
 none]].getD j []) false true,.mk 0 1 1 (fun j=>[[T.own 3 0 0 1
 none]].getD (0+j) []) false false]))
 else
 some ((.exit 0,[.own 1 0 0 1 (some 1)],[.mk 0 1 0 (fun x=>[]) true true,.mk 0 1 1 (fun j=>[[T.own 0 0 0 0 (some 0)]].getD j []) false true]))) from by kernel_rfl)
 refine by_tree tree ?_
 clear tree
 refine exTr (by simp only [ofNatE,decide_eq_true_eq]; omega) ?_
 refine ⟨_,rfl,fun hr=>Step.mkC (A:=A41) (m:=3) none_ok rfl rfl loops0 [0,1] hr rfl rfl rfl fun nt=>.simAll rfl (fun i x y h1 h2=>?_) (simX1 rfl)⟩
 match i with
 | 0=>simp [v3o] at h1 h2; subst h1 h2; exact .refl _
 | 1 =>
  simp only [List.map_cons,List.getElem?_cons_succ,List.getElem?_cons_zero,Option.some.injEq,v3o] at h1 h2
  subst h1 h2
  refine .inl (.inr ⟨rfl,.view (.inl rfl) fun j hj=>?_,rfl⟩)
  obtain rfl:j = 0:=by omega
  refine .cons (.view (.inl rfl) fun q hq=>?_) .nil
  obtain rfl:q = 0:=by omega
  exact .refl _
 | 2 =>
  simp only [List.map_cons,List.getElem?_cons_succ,List.getElem?_cons_zero,Option.some.injEq,v3o] at h1 h2
  subst h1 h2
  exact .refl _
 | i+3=>simp at h1
theorem s3b (n N k:Nat) (p:Nat->Nat->Nat) (hkn:k<n) (hn:n<=6) (h0:0<N) (hN:N<=720) (hk0:0<k) (hp:∀ i,i<N->Ordr k (p i)):∃ p':Nat->Nat->Nat,(∀ j,j<N * (k+1)->Ordr (k+1) (p' j))/\Step P41 G41 (A41 14) 14 3 2 (v3o n (allT N k p) k) [eb 0,x1B] (v3o n (allT (N * (k+1)) (k+1) p') (k+1:Nat)) [eb 0,x1B]:=by
 obtain ⟨v,nd,get,w1,w2,hl⟩:=l7o n N k p h0 hN hk0 (by omega) hp
 generalize N * (k+1) = c at *
 have hch:∀ j,∃ d:Nat->Nat,j<c->Ordr (k+1) d/\get j = [.view 1 (k+1) (fun q=>[.int .i64 (d q:Nat)]) none]:=fun j=>by
  by_cases q:j<c
  ·obtain ⟨d,h1,h2⟩:=w2 j q
   exact ⟨d,fun _=>⟨h1,h2⟩⟩
  ·exact ⟨fun _=>0,fun h=>absurd h q⟩
 obtain ⟨p',hpe⟩:∃ p':Nat->Nat->Nat,p' = fun j=>Classical.choose (hch j):=⟨_,rfl⟩
 have hp1:∀ j,j<c->Ordr (k+1) (p' j):=fun j hj=>by rw [hpe]; exact (Classical.choose_spec (hch j) hj).1
 have hp':∀ j,j<c->get j = [.view 1 (k+1) (fun q=>[.int .i64 (p' j q:Nat)]) none]:=fun j hj=>by rw [hpe]; exact (Classical.choose_spec (hch j) hj).2
 refine ⟨p',hp1,?_⟩
 have wi:IntKind.i64.wrap (Int.ofNat k+(1:Int)) = ((k+1:Nat):Int):=by rw [wr64 (by rw [ofNatE]; omega) (by rw [ofNatE]; omega)]; rfl
 have tree:=(show iterR P41 G41 A41 noneO 0 14 [(7,litS (v7o n N k p .nils 0) [eb 0,x1B] (.exit 2) (e7o n k (.own 2 v 0 c none)) [eb 0,x1B,ob v nd get])] 3 (v3o n (allT N k p) k) [eb 0,x1B] =
(
 bif decide (Int.ofNat k<Int.ofNat n) then
 bif weakF [.int .i64 (.ofNat n),.view 1 N (fun j=>[.view 1 k (fun q=>[.int .i64 (.ofNat (p j q))])
 none])
 none,.int .i64 (.ofNat k),.nils,.int .i64 0] [.mk 0 1 0 (fun x=>[]) true true,.mk 0 1 1 (fun j=>[[T.own 0 0 0 0 (some 0)]].getD j []) false true] [.int .i64 (.ofNat n),.view 1 N (fun j=>[.view 1 k (fun q=>[.int .i64 (.ofNat (p j q))])
 none])
 none,.int .i64 (.ofNat k),.nils,.int .i64 0] [.mk 0 1 0 (fun x=>[]) true true,.mk 0 1 1 (fun j=>[[T.own 0 0 0 0 (some 0)]].getD j []) false true] then
 some ((.normal,[.int .i64 (.ofNat n),.own 2 v 0 c
 none,.int .i64 (IntKind.i64.wrap (Int.ofNat k+1))],[.mk 0 1 0 (fun x=>[]) true true,.mk 0 1 1 (fun j=>[[T.own 0 0 0 0 (some 0)]].getD j []) false true,.mk v 1 nd get false false]))
 else none else
 some ((.exit 0,[.view 1 N (fun j=>[.view 1 k (fun q=>[.int .i64 (.ofNat (p j q))])
 none])
 none],[.mk 0 1 0 (fun x=>[]) true true,.mk 0 1 1 (fun j=>[[T.own 0 0 0 0 (some 0)]].getD j []) false true]))) from by kernel_rfl)
 rw [wi] at tree
 refine Step.mkC (A:=A41) (m:=0) none_ok rfl rfl (loops1 hl) [0,1] (v1:=v3o n (.own 2 v 0 c none) (k+1:Nat)) (h1:=[eb 0,x1B,ob v nd get]) (v2:=v3o n (.view 1 c (fun j=>(get (0+j)).map (resolve 3 [0,1] [eb 0,x1B,ob v nd get])) none) (k+1:Nat)) (Eq.trans tree ?_) rfl ?_ rfl fun nt=>.simAll rfl (fun i x y h1 h2=>?_) (simX1 rfl)
 ·refine bift (by simp only [ofNatE,decide_eq_true_eq]; omega) (bift (weakF_of ⟨rfl,.refl _⟩) rfl)
 ·show [T.int .i64 n,ren0 [0,1] [eb 0,x1B,ob v nd get] (.own 2 v 0 c none),.int .i64 (k+1:Nat)] = _
  rw [show ren0 [0,1] [eb 0,x1B,ob v nd get] (.own 2 v 0 c none) = (bif v==v&&Nat.ble (0+c) nd then .view 1 c (fun j=>(get (0+j)).map (resolve 3 [0,1] [eb 0,x1B,ob v nd get])) none else .undef) from rfl,beq_self_eq_true,show Nat.ble (0+c) nd = true from bleT (by omega)]
  rfl
 ·match i with
  | 0=>simp [v3o] at h1 h2; subst h1 h2; exact .refl _
  | 1 =>
   simp only [List.getElem?_cons_succ,List.getElem?_cons_zero,Option.some.injEq,v3o] at h1 h2
   subst h1 h2
   refine .inl (.inr ⟨rfl,.view (.inl rfl) fun j hj=>?_,rfl⟩)
   rw [Nat.zero_add,hp' j hj]
   exact .refl _
  | 2 =>
   simp only [List.getElem?_cons_succ,List.getElem?_cons_zero,Option.some.injEq,v3o] at h1 h2
   subst h1 h2
   exact .refl _
  | i+3=>simp [v3o] at h1
theorem fct_pos (k:Nat):0<fct k:=by
 induction k with
 | zero=>decide
 | succ k ih=>exact Nat.mul_pos ih (by omega)
theorem l3o (n:Nat) (h0:0<n) (hn:n<=6):∃ p:Nat->Nat->Nat,(∀ j,j<fct n->Ordr n (p j))/\LoopOk P41 G41 (A41 14) 14 3 (litS (v3o n (.own 1 0 0 1 (some 1)) 0) [eb 0,x1B] (.exit 0) [allT (fct n) n p] [eb 0,x1B]):=by
 obtain ⟨e,vs1,h1,⟨rfl,p,hp,rfl,rfl⟩,hl⟩:=loop_exists (P:=P41) (Gl:=G41) (an:=A41 14) hm41 (f:=14) (r:=3) (k:=2) (by kernel_rfl)
  (fun m vs h=>(m = n/\vs = v3o n (.own 1 0 0 1 (some 1)) 0/\h = [eb 0,x1B]) ∨ (∃ k p,0<k/\k<=n/\m = n - k/\(∀ j,j<fct k->Ordr k (p j))/\vs = v3o n (allT (fct k) k p) k/\h = [eb 0,x1B]))
  (fun e vs h=>e = .exit 0/\∃ p,(∀ j,j<fct n->Ordr n (p j))/\vs = [allT (fct n) n p]/\h = [eb 0,x1B])
  (fun m vs h hI=>by
   rcases hI with ⟨rfl,rfl,rfl⟩ | ⟨k,p,hk0,hk,hm,hp,rfl,rfl⟩
   ·left
    refine ⟨m - 1,_,_,by omega,s3a m h0,.inr ⟨1,fun _ _=>0,by omega,by omega,rfl,fun j hj=>⟨fun q hq=>Nat.zero_lt_one,fun i j hij hj=>by omega⟩,rfl,rfl⟩⟩
   ·rcases Nat.lt_or_ge k n with q | q
    ·left
     obtain ⟨p',h1,h2⟩:=s3b n (fct k) k p q hn (fct_pos k) (fct_le k (by omega)) hk0 hp
     exact ⟨m - 1,_,_,by omega,h2,.inr ⟨k+1,p',by omega,by omega,by omega,h1,rfl,rfl⟩⟩
    ·right
     obtain rfl:k = n:=by omega
     refine ⟨.exit 0,_,_,?_,rfl,p,hp,rfl,rfl⟩
     generalize fct k = N
     refine Last.mk0 (A:=A41) (m:=0) none_ok rfl rfl loops0 (by simp) (h1:=[eb 0,x1B]) (Eq.trans (show iterR P41 G41 A41 noneO 0 14 [(7,fun _ _=>.none)] 3 (v3o k (allT N k p) k) [eb 0,x1B] =
(
 bif decide (Int.ofNat k<Int.ofNat k) then none else
 some ((.exit 0,[.view 1 N (fun j=>[.view 1 k (fun q=>[.int .i64 (.ofNat (p j q))])
 none])
 none],[.mk 0 1 0 (fun x=>[]) true true,.mk 0 1 1 (fun j=>[[T.own 0 0 0 0 (some 0)]].getD j []) false true]))) from by kernel_rfl) ?_) (.refl _)
     exact biff (by simp) rfl)
  (n:=n) (vs:=v3o n (.own 1 0 0 1 (some 1)) 0) (h:=[eb 0,x1B]) rfl (.inl ⟨rfl,rfl,rfl⟩)
 exact ⟨p,hp,hl⟩
theorem ordersT (n:Nat) (hn:n<=6):∃ (N:Nat) (p:Nat->Nat->Nat),N<=720/\(∀ j,j<N->Ordr n (p j))/\ToldOk P41 G41 14 [.int .i64 n] (allT N n p):=by
 rcases Nat.eq_zero_or_pos n with q | q
 ·subst q
  refine ⟨1,fun _ _=>0,by omega,fun j _=>⟨fun q hq=>by omega,fun i j _ hj=>by omega⟩,?_⟩
  have:=(stepL_told (P:=P41) (Gl:=G41) (f:=14) (args:=[.int .i64 (0:Nat)]) hm41 hn41 none_ok (K:=noneO) (A:=A41) (m:=1) (by kernel_rfl) loops0 (show stepL P41 G41 A41 noneO 1 14 [] [.int .i64 (0:Nat)] = some (.fresh false 1 1 (fun j=>([[T.own 0 0 0 0 (some 0)]].getD (0+j) []).map (resolve 3 [1] [eb 0,x1B])) 1 (some 1)) from by kernel_rfl)).frz
  refine this.resTo (.view (.view (.inr rfl) fun j hj=>?_))
  obtain rfl:j = 0:=by omega
  exact .cons (.view (.inr rfl) fun q hq=>by omega) .nil
 ·obtain ⟨p,hp,hl⟩:=l3o n q hn
  refine ⟨fct n,p,fct_le n hn,hp,?_⟩
  generalize fct n = N at *
  refine stepL_told hm41 hn41 none_ok (K:=noneO) (A:=A41) (m:=0) (by kernel_rfl) (loops1 hl) (Eq.trans (show stepL P41 G41 A41 noneO 0 14 [(3,litS (v3o n (.own 1 0 0 1 (some 1)) 0) [eb 0,x1B] (.exit 0) [allT N n p] [eb 0,x1B])] [.int .i64 n] =
(
 bif weakF [.int .i64 (.ofNat n),.own 1 0 0 1 (some 1),.int .i64 0] [.mk 0 1 0 (fun j=>[]) true true,.mk 0 1 1 (fun j=>[[T.own 0 0 0 0 (some 0)]].getD j []) false true] [.int .i64 (.ofNat n),.own 1 0 0 1 (some 1),.int .i64 0] [.mk 0 1 0 (fun x=>[]) true true,.mk 0 1 1 (fun j=>[[T.own 0 0 0 0 (some 0)]].getD j []) false true] then
 some (.view 1 N (fun j=>[.view 1 n (fun q=>[.int .i64 (.ofNat (p j q))])
 none])
 none)
 else
 none) from by kernel_rfl) ?_)
  exact bift (weakF_of ⟨rfl,.refl _⟩) rfl
open Go.Proofs
noncomputable def K4 (p9 p10 p11 p13 p14 p12:List T->Prop) (xF x4 xa xb xo:T) (vF:List T->Int):Orc :=
 (((((noneO.add 9 (callP p9 (.new xF))).add 10 (callP p10 (.tup [x4,.int .i64 0]))).add 11 (callI p11 vF)).add 13 (callP p13 (.tup [.new xa,.new xb,.int .i64 0]))).add 14 (callP p14 xo)).add 12 (callP p12 (.bool true))
theorem law4m (R:JR) (c:Option Nat) (L:JL) (hL:L.Ok) (h9:ToldOk P41 G41 9 [R.v c] (.new (jv L none))) (hr:R.n<=6) (hn:L.n<=6) (o:Nat->Nat) (ho:Ordr L.n o) (h10:ToldOk P41 G41 10 [jv L none] (.tup [ov L.n o (some L.n),.int .i64 0])) (a m:Nat) (xa x:Nat->Nat) (h13:ToldOk P41 G41 13 [jv L none] (.tup [.new (ov a xa (some a)),.new (ov m x (some m)),.int .i64 0]))
 (ham:a+m = L.n) (hxa:∀ j,j<a->xa j<L.n) (hxn:∀ i j,i<j->j<a->xa i ≠ xa j) (hx:∀ i,i+1<m->x i<x (i+1)) (N:Nat) (p:Nat->Nat->Nat) (hN:N<=720) (hp:∀ j,j<N->Ordr L.n (p j)) (h14:ToldOk P41 G41 14 [.int .i64 L.n] (allT N L.n p))
 (hw:∀ j,j<N->wst L o L.n<=wst L (p j) L.n) (hm:∀ j,j<N->m<=mny L (p j) L.n) (hdone:0<a->wst L xa a<=0):ToldOk P41 G41 4 [R.v c] (.bool true):=by
 obtain ⟨p9,e9⟩:=told_pred P41 G41 9 (.new (jv L none))
 obtain ⟨p10,e10⟩:=told_pred P41 G41 10 (.tup [ov L.n o (some L.n),.int .i64 0])
 obtain ⟨p11,e11⟩:=told_predI P41 G41 11 (lateVF L)
 obtain ⟨p13,e13⟩:=told_pred P41 G41 13 (.tup [.new (ov a xa (some a)),.new (ov m x (some m)),.int .i64 0])
 obtain ⟨p14,e14⟩:=told_pred P41 G41 14 (allT N L.n p)
 obtain ⟨p12,e12⟩:=told_pred P41 G41 12 (.bool true)
 have t1:=lateT L none L.n o (some L.n) hL (by omega) ho.lt ho.ne
 have t2:=lateT L none a xa (some a) hL (by omega) hxa hxn
 have v1:lateVF L [jv L none,ov L.n o (some L.n)] = wst L o L.n:=rfl
 have v2:lateVF L [jv L none,ov a xa (some a)] = wst L xa a:=rfl
 have y1:=predI_yes e11 t1 v1
 have y2:=predI_yes e11 t2 v2
 have la:=l13b L (lateVF L [jv L none,ov L.n o (some L.n)]) m x (by omega) hx
 have lb:=l19b L hL (lateVF L [jv L none,ov L.n o (some L.n)]) m x N p (by omega) hp (by rw [v1]; exact hw) hm
 refine stepL_told hm41 hn41 (K:=K4 p9 p10 p11 p13 p14 p12 (jv L none) (ov L.n o (some L.n)) (ov a xa (some a)) (ov m x (some m)) (allT N L.n p) (lateVF L)) (told_add (told_add (told_add (told_add (told_add (told_add none_ok (callP_told (told_predT e9))) (callP_told (told_predT e10))) (callI_told (predI_told e11))) (callP_told (told_predT e13))) (callP_told (told_predT e14))) (callP_told (told_predT e12))) (A:=A41) (m:=0) (by kernel_rfl) (loopsC la (loops1 lb)) ?_
 generalize lateVF L = vF at *
 refine Eq.trans (show stepL P41 G41 A41 (K4 p9 p10 p11 p13 p14 p12 (jv L none) (ov L.n o (some L.n)) (ov a xa (some a)) (ov m x (some m)) (allT N L.n p) vF) 0 4 [(13,litS (v13b L (vF [jv L none,ov L.n o (some L.n)]) (ov m x (some m)) 1) [] (.exit 0) (e13b L (vF [jv L none,ov L.n o (some L.n)]) (ov m x (some m))) []),(19,litS (v19b L (vF [jv L none,ov L.n o (some L.n)]) (ov m x (some m)) N p 0) [] (.exit 2) [.undef] [])] [R.v c] =
(
 bif decide (6<Int.ofNat R.n) then
 bif propF p12 [] then
 some (.bool true)
 else none else
 bif propF p9 [.view 4 R.n (fun j=>[.int .u8 (.ofNat (R.t j)),.int .u8 (.ofNat (R.d j)),.int .u8 (.ofNat (R.a j)),.int .u8 (.ofNat (R.o j))]) c] then
 bif propF p10 [jv L
 none] then
 bif propF p11 [jv L
 none,ov L.n o (some L.n)] then
 bif propF p13 [jv L
 none] then
 bif !decide (IntKind.i64.wrap (Int.ofNat a+Int.ofNat m) = Int.ofNat L.n) then
 some (.bool false)
 else
 bif !decide (Int.ofNat a = Int.ofNat a) then
 some (.bool false)
 else
 bif !decide (Int.ofNat m = Int.ofNat m) then
 some (.bool false)
 else
 bif propF p11 [jv L
 none,ov a xa (some a)] then
 bif decide (0<Int.ofNat a) then
 bif decide (0<vF [jv L
 none,ov a xa (some a)]) then
 some (.bool false)
 else
 bif weakF [jv L
 none,.int .i64 (vF [jv L
 none,ov L.n o (some L.n)]),ov m x (some m),.int .i64 1] [] [jv L
 none,.int .i64 (vF [jv L
 none,ov L.n o (some L.n)]),ov m x (some m),.int .i64 1] [] then
 bif propF p14 [.int .i64 (.ofNat L.n)] then
 bif weakF [jv L
 none,.int .i64 (vF [jv L
 none,ov L.n o (some L.n)]),ov m x (some m),.view 1 N (fun j=>[.view 1 L.n (fun q=>[.int .i64 (.ofNat (p j q))])
 none])
 none,.int .i64 0] [] [jv L
 none,.int .i64 (vF [jv L
 none,ov L.n o (some L.n)]),ov m x (some m),.view 1 N (fun j=>[.view 1 L.n (fun q=>[.int .i64 (.ofNat (p j q))])
 none])
 none,.int .i64 0] [] then
 bif propF p12 [] then
 some (.bool true)
 else none else none else none else none else
 bif weakF [jv L
 none,.int .i64 (vF [jv L
 none,ov L.n o (some L.n)]),ov m x (some m),.int .i64 1] [] [jv L
 none,.int .i64 (vF [jv L
 none,ov L.n o (some L.n)]),ov m x (some m),.int .i64 1] [] then
 bif propF p14 [.int .i64 (.ofNat L.n)] then
 bif weakF [jv L
 none,.int .i64 (vF [jv L
 none,ov L.n o (some L.n)]),ov m x (some m),.view 1 N (fun j=>[.view 1 L.n (fun q=>[.int .i64 (.ofNat (p j q))])
 none])
 none,.int .i64 0] [] [jv L
 none,.int .i64 (vF [jv L
 none,ov L.n o (some L.n)]),ov m x (some m),.view 1 N (fun j=>[.view 1 L.n (fun q=>[.int .i64 (.ofNat (p j q))])
 none])
 none,.int .i64 0] [] then
 bif propF p12 [] then
 some (.bool true)
 else none else none else none else none else none else none else none else none else
 none) from by kernel_rfl) ?_
 refine biff (by simp only [ofNatE,decide_eq_true_eq]; omega) ?_
 refine bift (pred_yes e9 h9) (bift (pred_yes e10 h10) (bift y1 (bift (pred_yes e13 h13) ?_)))
 refine biff (by rw [wr64 (by rw [ofNatE,ofNatE]; omega) (by rw [ofNatE,ofNatE]; omega)]; simp only [ofNatE,Bool.not_eq_true',decide_eq_false_iff_not,Bool.not_eq_true,Bool.not_eq_false',decide_eq_true_eq]; omega) ?_
 refine biff (by simp) ?_
 refine biff (by simp) ?_
 refine bift y2 ?_
 have fin:(bif weakF [jv L none,.int .i64 (vF [jv L none,ov L.n o (some L.n)]),ov m x (some m),.int .i64 1] [] (v13b L (vF [jv L none,ov L.n o (some L.n)]) (ov m x (some m)) 1) [] then
  bif propF p14 [.int .i64 L.n] then bif weakF (v19b L (vF [jv L none,ov L.n o (some L.n)]) (ov m x (some m)) N p 0) [] (v19b L (vF [jv L none,ov L.n o (some L.n)]) (ov m x (some m)) N p 0) [] then
  bif propF p12 [] then some (T.bool true) else none else none else none else none) = some (T.bool true) :=
  bift (weakF_of ⟨rfl,.refl _⟩) (bift (pred_yes e14 h14) (bift (weakF_of ⟨rfl,.refl _⟩) (bift (pred_yes e12 livesT) rfl)))
 by_cases q:0<a
 ·refine bift (by simp only [ofNatE,decide_eq_true_eq]; omega) ?_
  refine biff ?_ fin
  rw [decide_eq_true_eq]
  have e:vF [jv L none,ov a xa (some a)] = wst L xa a:=v2
  intro h
  have h:0<vF [jv L none,ov a xa (some a)]:=h
  have:=hdone q
  omega
 ·exact biff (by simp only [ofNatE,decide_eq_true_eq]; omega) fin
theorem law4T (R:JR) (c:Option Nat) (hR:R.Ok):ToldOk P41 G41 4 [R.v c] (.bool true):=by
 by_cases q6:6<R.n
 ·obtain ⟨p12,e12⟩:=told_pred P41 G41 12 (.bool true)
  refine stepL_told hm41 hn41 (K:=noneO.add 12 (callP p12 (.bool true))) (told_add none_ok (callP_told (told_predT e12))) (A:=annWith A41 4 [(1,23,true)]) (m:=0) (by kernel_rfl) loops0 ?_
  refine Eq.trans (show stepL P41 G41 (annWith A41 4 [(1,23,true)]) (noneO.add 12 (callP p12 (.bool true))) 0 4 [] [R.v c] =
(
 bif decide (6<Int.ofNat R.n) then
 bif propF p12 [] then
 some (.bool true)
 else none else
 none) from by kernel_rfl) ?_
  exact bift (by simp only [ofNatE,decide_eq_true_eq]; omega) (bift (pred_yes e12 livesT) rfl)
 ·have h9:=listT R c hR
  have hL:=R.lok hR _ (min40 R.n)
  have hm:Nat.min R.n 40<=6:=Nat.le_trans (Nat.min_le_left _ _) (by omega)
  have hn:(R.L (Nat.min R.n 40)).n = Nat.min R.n 40:=rfl
  generalize R.L (Nat.min R.n 40) = L at *
  generalize Nat.min R.n 40 = n40 at *
  subst hn
  have h10:ToldOk P41 G41 10 [jv L none] (.tup [ov L.n (oN L) (some L.n),.int .i64 0]):=orderT L none hL
  have h13:=punT L none hL (oN L) (fun j _=>rfl)
  have hk:=pst_ok (L:=L) (o:=oN L) L.n (fun j hj=>oN_lt hj)
  have hld:=hk.ld
  have hnd:=pst_nodup L hL
  rw [List.nodup_append] at hnd
  have hls:=(srtN_perm (pst L (oN L) L.n).2.2).length_eq
  obtain ⟨N,p,hN,hp,h14⟩:=ordersT L.n hm
  have hmn:=fun j hj=>mny_least L hL (p j) (hp j hj)
  refine law4m R c L hL h9 (by omega) hm (oN L) (oN_ordr L) h10 (pst L (oN L) L.n).1.length (srtN (pst L (oN L) L.n).2.2).length (fun j=>(pst L (oN L) L.n).1.getD j 0) (fun j=>(srtN (pst L (oN L) L.n).2.2).getD j 0) h13 (by omega) (fun j hj=>hk.d _ (getD_mem hj)) (fun i j hij hj=>?_) (fun i hi=>srtN_next hnd.2.1 hi) N p hN hp h14 (fun j hj=>wst_least L hL (p j) (hp j hj)) (fun j hj=>by rw [hls]; exact hmn j hj) (done_intime L hL)
  rw [getD_eq (by omega),getD_eq hj]
  exact List.pairwise_iff_getElem.1 (List.nodup_iff_pairwise_ne.1 hnd.1) i j (by omega) hj hij
open Go.Proofs
def aU (s:Nat->Bool) (x:Nat):Nat->Bool:=fun e=>bif e==x then true else s e
theorem r5z (L:JL) (hL:L.Ok) (o:Nat->Nat) (i:Nat) (s:Nat->Bool) (hn:L.n<=40) (hi:i<L.n) (ho:o i<L.n) :
 (L.tm (o i)<=L.du (o i)->Step P41 G41 (A41 5) 5 8 1 (v8 L o .nils i) [bb 40 s] (v8 L o (.own 1 0 0 1 none) (i+1:Nat)) [bb 40 s,nb 0 1 fun _=>o i]) ∧
 (¬ L.tm (o i)<=L.du (o i)->Step P41 G41 (A41 5) 5 8 1 (v8 L o .nils i) [bb 40 s] (v8 L o (.own 1 0 0 0 (some 0)) (i+1:Nat)) [bb 40 (aU s (o i)),nb 0 0 fun _=>0]):=by
 have ht:=hL.tm _ ho
 have tree:=(show iterR P41 G41 A41 noneO 3 5 [] 8 (v8 L o .nils i) [bb 40 s] =
(
 bif decide (Int.ofNat i<Int.ofNat L.n) then
 bif decide (0<=Int.ofNat i)&&decide (Int.ofNat i<Int.ofNat L.n) then
 bif decide (0<=Int.ofNat (o i))&&decide (Int.ofNat (o i)<Int.ofNat L.n) then
 bif decide (0<=Int.ofNat (o i))&&decide (Int.ofNat (o i)<Int.ofNat L.n) then
 bif decide (0<=Int.ofNat i)&&decide (Int.ofNat i<Int.ofNat L.n) then
 bif decide (0<=Int.ofNat (o i))&&decide (Int.ofNat (o i)<Int.ofNat L.n) then
 bif decide (IntKind.i64.wrap ((0:Int)+L.tm (o i))<=L.du (o i)) then
 some ((.normal,[jv L
 none,ov L.n o (some L.n),.own [bb 40 s,Blk.mk 0 1 1 (fun j=>[[T.int .i64 (Int.ofNat (o i))]].getD j []) true true].length (0:Nat) (0:Nat) (1:Nat)
 none,.ptr 0 0 0 0,.int .i64 (IntKind.i64.wrap (Int.ofNat i+1))],[bb 40 s,.mk 0 1 1 (fun j=>[[T.int .i64 (Int.ofNat (o i))]].getD j []) true true,.mk 0 1 1 (fun j=>[[T.int .i64 (Int.ofNat (o i))]].getD (0+j) []) true false]))
 else
 bif decide (0<=Int.ofNat (o i))&&decide (Int.ofNat (o i)<Int.ofNat L.n) then
 bif !decide (L.tm (o i) =
 bif decide ((0:Int)<L.tm (o i)) then L.tm (o i)
 else (0:Int)) then none else
 bif decide (0<=Int.ofNat (o i))&&decide (Int.ofNat (o i)<40) then
 bif ((0:Nat)+o i).blt 40&&true&&true&&true then
 some ((.normal,[jv L
 none,ov L.n o (some L.n),.own [Blk.mk 0 1 40 (fun e=>[T.bool (bif e==(0:Nat)+o i then true
 else s e)]) true false,Blk.mk 0 1 1 (fun j=>[[T.int .i64 (Int.ofNat (o i))]].getD j []) true true,Blk.mk 0 1 1 (fun j=>[[T.int .i64 (Int.ofNat (o i))]].getD ((0:Nat)+j) []) true false].length (0:Nat) (0:Nat) (0:Nat) (some 0),.ptr 0 0 0 0,.int .i64 (IntKind.i64.wrap (Int.ofNat i+1))],[.mk 0 1 40 (fun e=>[.bool (bif e==0+o i then true
 else s e)]) true false,.mk 0 1 1 (fun j=>[[T.int .i64 (Int.ofNat (o i))]].getD j []) true true,.mk 0 1 1 (fun j=>[[T.int .i64 (Int.ofNat (o i))]].getD (0+j) []) true false,.mk 0 1 0 (fun j=>[]) true true]))
 else none else none else none else none else none else none else none else none else
 some ((.exit 0,[jv L
 none,.nils,.ptr 0 0 0 0],[bb 40 s]))) from by kernel_rfl)
 rw [show IntKind.i64.wrap (Int.ofNat i+(1:Int)) = ((i+1:Nat):Int) by rw [wr64 (by rw [ofNatE]; omega) (by rw [ofNatE]; omega)]; rfl] at tree
 simp only [Nat.zero_add,Int.zero_add] at tree
 constructor
 ·intro hq
  refine Step.mkC (A:=A41) (m:=3) none_ok rfl rfl loops0 [0,2] (v1:=v8 L o (.own 2 0 0 1 none) (i+1:Nat)) (h1:=[bb 40 s,tb (o i),lb1 (o i)]) (v2:=v8 L o (.own 1 0 0 1 none) (i+1:Nat)) (h2:=[bb 40 s,lb1 (o i)]) (Eq.trans tree ?_) (by rfl) (by rfl) (by rfl) fun nt=>.same (.cons ⟨rfl,rfl,rfl,id,fun _ _=>rfl⟩ (.cons ⟨rfl,rfl,rfl,id,fun j hj=>by
   have hj':j<1:=hj
   obtain rfl:j = 0:=by omega
   rfl⟩ .nil))
  clear tree
  (repeat (first | (refine bift (by first | assumption | omega | (simp (disch:=omega) only [wr64,wr8,wr16,wr32,ofNatE,toNatE,toNatE1,Bool.and_eq_true,Bool.or_eq_true,Bool.not_eq_true',decide_eq_true_eq,decide_eq_false_iff_not,nble,nblt,nbeq,Nat.zero_add,Nat.add_zero,Int.zero_add,Int.add_zero,List.length_cons,List.length_nil,true_and,and_true,Nat.reduceAdd,and_self]; done) | (simp (disch:=omega) only [wr64,wr8,wr16,wr32,ofNatE,toNatE,toNatE1,Bool.and_eq_true,Bool.or_eq_true,Bool.not_eq_true',decide_eq_true_eq,decide_eq_false_iff_not,nble,nblt,nbeq,Nat.zero_add,Nat.add_zero,Int.zero_add,Int.add_zero,List.length_cons,List.length_nil,true_and,and_true,Nat.reduceAdd,and_self]; omega)) ?_) | (refine biff (by first | assumption | (simp (disch:=omega) only [wr64,wr8,wr16,wr32,ofNatE,toNatE,toNatE1,Bool.and_eq_true,Bool.or_eq_true,Bool.not_eq_true',decide_eq_true_eq,decide_eq_false_iff_not,nble,nblt,nbeq,Nat.zero_add,Nat.add_zero,Int.zero_add,Int.add_zero,List.length_cons,List.length_nil,true_and,and_true,Nat.reduceAdd,and_self]; done) | (simp (disch:=omega) only [wr64,wr8,wr16,wr32,ofNatE,toNatE,toNatE1,Bool.and_eq_true,Bool.or_eq_true,Bool.not_eq_true',decide_eq_true_eq,decide_eq_false_iff_not,nble,nblt,nbeq,Nat.zero_add,Nat.add_zero,Int.zero_add,Int.add_zero,List.length_cons,List.length_nil,true_and,and_true,Nat.reduceAdd,and_self]; omega)) ?_)))
  simp only [lb1,Nat.zero_add]
  rfl
 ·intro hq
  refine Step.mkC (A:=A41) (m:=3) none_ok rfl rfl loops0 [0,3] (v1:=v8 L o (.own 3 0 0 0 (some 0)) (i+1:Nat)) (h1:=[bb 40 (aU s (o i)),tb (o i),lb1 (o i),eb 0]) (v2:=v8 L o (.own 1 0 0 0 (some 0)) (i+1:Nat)) (h2:=[bb 40 (aU s (o i)),eb 0]) (Eq.trans tree ?_) (by rfl) (by rfl) (by rfl) fun nt=>.same (.cons ⟨rfl,rfl,rfl,id,fun _ _=>rfl⟩ (.cons ⟨rfl,rfl,rfl,id,fun j hj=>by cases hj⟩ .nil))
  simp only [show (bif decide ((0:Int)<L.tm (o i)) then L.tm (o i) else (0:Int)) = L.tm (o i) by rw [dT (show (0:Int)<L.tm (o i) by omega)]; rfl]
  clear tree
  (repeat (first | (refine bift (by first | assumption | omega | (simp (disch:=omega) only [wr64,wr8,wr16,wr32,ofNatE,toNatE,toNatE1,Bool.and_eq_true,Bool.or_eq_true,Bool.not_eq_true',decide_eq_true_eq,decide_eq_false_iff_not,nble,nblt,nbeq,Nat.zero_add,Nat.add_zero,Int.zero_add,Int.add_zero,List.length_cons,List.length_nil,true_and,and_true,Nat.reduceAdd,and_self]; done) | (simp (disch:=omega) only [wr64,wr8,wr16,wr32,ofNatE,toNatE,toNatE1,Bool.and_eq_true,Bool.or_eq_true,Bool.not_eq_true',decide_eq_true_eq,decide_eq_false_iff_not,nble,nblt,nbeq,Nat.zero_add,Nat.add_zero,Int.zero_add,Int.add_zero,List.length_cons,List.length_nil,true_and,and_true,Nat.reduceAdd,and_self]; omega)) ?_) | (refine biff (by first | assumption | (simp (disch:=omega) only [wr64,wr8,wr16,wr32,ofNatE,toNatE,toNatE1,Bool.and_eq_true,Bool.or_eq_true,Bool.not_eq_true',decide_eq_true_eq,decide_eq_false_iff_not,nble,nblt,nbeq,Nat.zero_add,Nat.add_zero,Int.zero_add,Int.add_zero,List.length_cons,List.length_nil,true_and,and_true,Nat.reduceAdd,and_self]; done) | (simp (disch:=omega) only [wr64,wr8,wr16,wr32,ofNatE,toNatE,toNatE1,Bool.and_eq_true,Bool.or_eq_true,Bool.not_eq_true',decide_eq_true_eq,decide_eq_false_iff_not,nble,nblt,nbeq,Nat.zero_add,Nat.add_zero,Int.zero_add,Int.add_zero,List.length_cons,List.length_nil,true_and,and_true,Nat.reduceAdd,and_self]; omega)) ?_)))
  refine biff (by simp) ?_
  (repeat (first | (refine bift (by first | assumption | omega | (simp (disch:=omega) only [wr64,wr8,wr16,wr32,ofNatE,toNatE,toNatE1,Bool.and_eq_true,Bool.or_eq_true,Bool.not_eq_true',decide_eq_true_eq,decide_eq_false_iff_not,nble,nblt,nbeq,Nat.zero_add,Nat.add_zero,Int.zero_add,Int.add_zero,List.length_cons,List.length_nil,true_and,and_true,Nat.reduceAdd,and_self]; done) | (simp (disch:=omega) only [wr64,wr8,wr16,wr32,ofNatE,toNatE,toNatE1,Bool.and_eq_true,Bool.or_eq_true,Bool.not_eq_true',decide_eq_true_eq,decide_eq_false_iff_not,nble,nblt,nbeq,Nat.zero_add,Nat.add_zero,Int.zero_add,Int.add_zero,List.length_cons,List.length_nil,true_and,and_true,Nat.reduceAdd,and_self]; omega)) ?_) | (refine biff (by first | assumption | (simp (disch:=omega) only [wr64,wr8,wr16,wr32,ofNatE,toNatE,toNatE1,Bool.and_eq_true,Bool.or_eq_true,Bool.not_eq_true',decide_eq_true_eq,decide_eq_false_iff_not,nble,nblt,nbeq,Nat.zero_add,Nat.add_zero,Int.zero_add,Int.add_zero,List.length_cons,List.length_nil,true_and,and_true,Nat.reduceAdd,and_self]; done) | (simp (disch:=omega) only [wr64,wr8,wr16,wr32,ofNatE,toNatE,toNatE1,Bool.and_eq_true,Bool.or_eq_true,Bool.not_eq_true',decide_eq_true_eq,decide_eq_false_iff_not,nble,nblt,nbeq,Nat.zero_add,Nat.add_zero,Int.zero_add,Int.add_zero,List.length_cons,List.length_nil,true_and,and_true,Nat.reduceAdd,and_self]; omega)) ?_)))
  simp only [lb1,aU,Nat.zero_add]
  rfl
theorem r5e (L:JL) (hL:L.Ok) (o:Nat->Nat) (i:Nat) (s:Nat->Bool) (d:Nat->Nat) (hn:L.n<=40) (hi:i<L.n) (ho:o i<L.n) :
 (L.tm (o i)<=L.du (o i)->Step P41 G41 (A41 5) 5 8 1 (v8 L o (.own 1 0 0 0 (some 0)) i) [bb 40 s,nb 0 0 d] (v8 L o (.own 1 0 0 1 none) (i+1:Nat)) [bb 40 s,nb 0 1 fun _=>o i]) ∧
 (¬ L.tm (o i)<=L.du (o i)->Step P41 G41 (A41 5) 5 8 1 (v8 L o (.own 1 0 0 0 (some 0)) i) [bb 40 s,nb 0 0 d] (v8 L o (.own 1 0 0 0 (some 0)) (i+1:Nat)) [bb 40 (aU s (o i)),nb 0 0 fun _=>0]):=by
 have ht:=hL.tm _ ho
 have tree:=(show iterR P41 G41 A41 noneO 3 5 [] 8 (v8 L o (.own 1 0 0 0 (some 0)) i) [bb 40 s,nb 0 0 d] =
(
 bif decide (Int.ofNat i<Int.ofNat L.n) then
 bif decide (0<=Int.ofNat i)&&decide (Int.ofNat i<Int.ofNat L.n) then
 bif decide (0<=Int.ofNat (o i))&&decide (Int.ofNat (o i)<Int.ofNat L.n) then
 bif decide (0<=Int.ofNat (o i))&&decide (Int.ofNat (o i)<Int.ofNat L.n) then
 bif decide (0<=Int.ofNat i)&&decide (Int.ofNat i<Int.ofNat L.n) then
 bif decide (0<=Int.ofNat (o i))&&decide (Int.ofNat (o i)<Int.ofNat L.n) then
 bif decide (IntKind.i64.wrap ((0:Int)+L.tm (o i))<=L.du (o i)) then
 some ((.normal,[jv L
 none,ov L.n o (some L.n),.own [bb 40 s,nb 0 0 d,Blk.mk 0 1 1 (fun j=>[[T.int .i64 (Int.ofNat (o i))]].getD j []) true true].length (0:Nat) (0:Nat) (1:Nat)
 none,.ptr 0 0 0 0,.int .i64 (IntKind.i64.wrap (Int.ofNat i+1))],[bb 40 s,nb 0 0 d,.mk 0 1 1 (fun j=>[[T.int .i64 (Int.ofNat (o i))]].getD j []) true true,.mk 0 1 1 (fun j =>
 bif j.blt 0 then [.int .i64 (.ofNat (d (0+j)))]
 else [[T.int .i64 (Int.ofNat (o i))]].getD ((0:Nat)+(j - 0)) []) true false]))
 else
 bif decide (0<=Int.ofNat (o i))&&decide (Int.ofNat (o i)<Int.ofNat L.n) then
 bif !decide (L.tm (o i) =
 bif decide ((0:Int)<L.tm (o i)) then L.tm (o i)
 else (0:Int)) then none else
 bif decide (0<=Int.ofNat (o i))&&decide (Int.ofNat (o i)<40) then
 bif ((0:Nat)+o i).blt 40&&true&&true&&true then
 some ((.normal,[jv L
 none,ov L.n o (some L.n),.own [Blk.mk 0 1 40 (fun e=>[T.bool (bif e==(0:Nat)+o i then true
 else s e)]) true false,nb 0 0 d,Blk.mk 0 1 1 (fun j=>[[T.int .i64 (Int.ofNat (o i))]].getD j []) true true,Blk.mk 0 1 1 (fun j =>
 bif j.blt 0 then [T.int .i64 (Int.ofNat (d ((0:Nat)+j)))]
 else [[T.int .i64 (Int.ofNat (o i))]].getD ((0:Nat)+(j - (0:Nat))) []) true false].length (0:Nat) (0:Nat) (0:Nat) (some 0),.ptr 0 0 0 0,.int .i64 (IntKind.i64.wrap (Int.ofNat i+1))],[.mk 0 1 40 (fun e=>[.bool (bif e==0+o i then true
 else s e)]) true false,nb 0 0 d,.mk 0 1 1 (fun j=>[[T.int .i64 (Int.ofNat (o i))]].getD j []) true true,.mk 0 1 1 (fun j =>
 bif j.blt 0 then [.int .i64 (.ofNat (d (0+j)))]
 else [[T.int .i64 (Int.ofNat (o i))]].getD ((0:Nat)+(j - 0)) []) true false,.mk 0 1 0 (fun j=>[]) true true]))
 else none else none else none else none else none else none else none else none else
 some ((.exit 0,[jv L
 none,.own 1 0 0 0 (some 0),.ptr 0 0 0 0],[bb 40 s,nb 0 0 d]))) from by kernel_rfl)
 rw [show IntKind.i64.wrap (Int.ofNat i+(1:Int)) = ((i+1:Nat):Int) by rw [wr64 (by rw [ofNatE]; omega) (by rw [ofNatE]; omega)]; rfl] at tree
 simp only [Nat.zero_add,Int.zero_add] at tree
 constructor
 ·intro hq
  refine Step.mkC (A:=A41) (m:=3) none_ok rfl rfl loops0 [0,3] (v1:=v8 L o (.own 3 0 0 1 none) (i+1:Nat)) (h1:=[bb 40 s,nb 0 0 d,tb (o i),lb1 (o i)]) (v2:=v8 L o (.own 1 0 0 1 none) (i+1:Nat)) (h2:=[bb 40 s,lb1 (o i)]) (Eq.trans tree ?_) (by rfl) (by rfl) (by rfl) fun nt=>.same (.cons ⟨rfl,rfl,rfl,id,fun _ _=>rfl⟩ (.cons ⟨rfl,rfl,rfl,id,fun j hj=>by
   have hj':j<1:=hj
   obtain rfl:j = 0:=by omega
   rfl⟩ .nil))
  clear tree
  (repeat (first | (refine bift (by first | assumption | omega | (simp (disch:=omega) only [wr64,wr8,wr16,wr32,ofNatE,toNatE,toNatE1,Bool.and_eq_true,Bool.or_eq_true,Bool.not_eq_true',decide_eq_true_eq,decide_eq_false_iff_not,nble,nblt,nbeq,Nat.zero_add,Nat.add_zero,Int.zero_add,Int.add_zero,List.length_cons,List.length_nil,true_and,and_true,Nat.reduceAdd,and_self]; done) | (simp (disch:=omega) only [wr64,wr8,wr16,wr32,ofNatE,toNatE,toNatE1,Bool.and_eq_true,Bool.or_eq_true,Bool.not_eq_true',decide_eq_true_eq,decide_eq_false_iff_not,nble,nblt,nbeq,Nat.zero_add,Nat.add_zero,Int.zero_add,Int.add_zero,List.length_cons,List.length_nil,true_and,and_true,Nat.reduceAdd,and_self]; omega)) ?_) | (refine biff (by first | assumption | (simp (disch:=omega) only [wr64,wr8,wr16,wr32,ofNatE,toNatE,toNatE1,Bool.and_eq_true,Bool.or_eq_true,Bool.not_eq_true',decide_eq_true_eq,decide_eq_false_iff_not,nble,nblt,nbeq,Nat.zero_add,Nat.add_zero,Int.zero_add,Int.add_zero,List.length_cons,List.length_nil,true_and,and_true,Nat.reduceAdd,and_self]; done) | (simp (disch:=omega) only [wr64,wr8,wr16,wr32,ofNatE,toNatE,toNatE1,Bool.and_eq_true,Bool.or_eq_true,Bool.not_eq_true',decide_eq_true_eq,decide_eq_false_iff_not,nble,nblt,nbeq,Nat.zero_add,Nat.add_zero,Int.zero_add,Int.add_zero,List.length_cons,List.length_nil,true_and,and_true,Nat.reduceAdd,and_self]; omega)) ?_)))
  simp only [lb1,Nat.zero_add]
  rfl
 ·intro hq
  refine Step.mkC (A:=A41) (m:=3) none_ok rfl rfl loops0 [0,4] (v1:=v8 L o (.own 4 0 0 0 (some 0)) (i+1:Nat)) (h1:=[bb 40 (aU s (o i)),nb 0 0 d,tb (o i),lb1 (o i),eb 0]) (v2:=v8 L o (.own 1 0 0 0 (some 0)) (i+1:Nat)) (h2:=[bb 40 (aU s (o i)),eb 0]) (Eq.trans tree ?_) (by rfl) (by rfl) (by rfl) fun nt=>.same (.cons ⟨rfl,rfl,rfl,id,fun _ _=>rfl⟩ (.cons ⟨rfl,rfl,rfl,id,fun j hj=>by cases hj⟩ .nil))
  simp only [show (bif decide ((0:Int)<L.tm (o i)) then L.tm (o i) else (0:Int)) = L.tm (o i) by rw [dT (show (0:Int)<L.tm (o i) by omega)]; rfl]
  clear tree
  (repeat (first | (refine bift (by first | assumption | omega | (simp (disch:=omega) only [wr64,wr8,wr16,wr32,ofNatE,toNatE,toNatE1,Bool.and_eq_true,Bool.or_eq_true,Bool.not_eq_true',decide_eq_true_eq,decide_eq_false_iff_not,nble,nblt,nbeq,Nat.zero_add,Nat.add_zero,Int.zero_add,Int.add_zero,List.length_cons,List.length_nil,true_and,and_true,Nat.reduceAdd,and_self]; done) | (simp (disch:=omega) only [wr64,wr8,wr16,wr32,ofNatE,toNatE,toNatE1,Bool.and_eq_true,Bool.or_eq_true,Bool.not_eq_true',decide_eq_true_eq,decide_eq_false_iff_not,nble,nblt,nbeq,Nat.zero_add,Nat.add_zero,Int.zero_add,Int.add_zero,List.length_cons,List.length_nil,true_and,and_true,Nat.reduceAdd,and_self]; omega)) ?_) | (refine biff (by first | assumption | (simp (disch:=omega) only [wr64,wr8,wr16,wr32,ofNatE,toNatE,toNatE1,Bool.and_eq_true,Bool.or_eq_true,Bool.not_eq_true',decide_eq_true_eq,decide_eq_false_iff_not,nble,nblt,nbeq,Nat.zero_add,Nat.add_zero,Int.zero_add,Int.add_zero,List.length_cons,List.length_nil,true_and,and_true,Nat.reduceAdd,and_self]; done) | (simp (disch:=omega) only [wr64,wr8,wr16,wr32,ofNatE,toNatE,toNatE1,Bool.and_eq_true,Bool.or_eq_true,Bool.not_eq_true',decide_eq_true_eq,decide_eq_false_iff_not,nble,nblt,nbeq,Nat.zero_add,Nat.add_zero,Int.zero_add,Int.add_zero,List.length_cons,List.length_nil,true_and,and_true,Nat.reduceAdd,and_self]; omega)) ?_)))
  refine biff (by simp) ?_
  (repeat (first | (refine bift (by first | assumption | omega | (simp (disch:=omega) only [wr64,wr8,wr16,wr32,ofNatE,toNatE,toNatE1,Bool.and_eq_true,Bool.or_eq_true,Bool.not_eq_true',decide_eq_true_eq,decide_eq_false_iff_not,nble,nblt,nbeq,Nat.zero_add,Nat.add_zero,Int.zero_add,Int.add_zero,List.length_cons,List.length_nil,true_and,and_true,Nat.reduceAdd,and_self]; done) | (simp (disch:=omega) only [wr64,wr8,wr16,wr32,ofNatE,toNatE,toNatE1,Bool.and_eq_true,Bool.or_eq_true,Bool.not_eq_true',decide_eq_true_eq,decide_eq_false_iff_not,nble,nblt,nbeq,Nat.zero_add,Nat.add_zero,Int.zero_add,Int.add_zero,List.length_cons,List.length_nil,true_and,and_true,Nat.reduceAdd,and_self]; omega)) ?_) | (refine biff (by first | assumption | (simp (disch:=omega) only [wr64,wr8,wr16,wr32,ofNatE,toNatE,toNatE1,Bool.and_eq_true,Bool.or_eq_true,Bool.not_eq_true',decide_eq_true_eq,decide_eq_false_iff_not,nble,nblt,nbeq,Nat.zero_add,Nat.add_zero,Int.zero_add,Int.add_zero,List.length_cons,List.length_nil,true_and,and_true,Nat.reduceAdd,and_self]; done) | (simp (disch:=omega) only [wr64,wr8,wr16,wr32,ofNatE,toNatE,toNatE1,Bool.and_eq_true,Bool.or_eq_true,Bool.not_eq_true',decide_eq_true_eq,decide_eq_false_iff_not,nble,nblt,nbeq,Nat.zero_add,Nat.add_zero,Int.zero_add,Int.add_zero,List.length_cons,List.length_nil,true_and,and_true,Nat.reduceAdd,and_self]; omega)) ?_)))
  simp only [lb1,aU,Nat.zero_add]
  rfl
end Go.Ab

