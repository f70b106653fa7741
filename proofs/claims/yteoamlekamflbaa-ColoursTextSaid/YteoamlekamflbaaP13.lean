/- A part of the proof: nothing is assumed. -/
import Derived.Test.YteoamlekamflbaaP11
import Derived.Test.YteoamlekamflbaaP12
import Derived.Test.YteoamlekamflbaaP6
import Derived.Test.YteoamlekamflbaaP7
set_option linter.all false
namespace Go.Ab
open Go.Proofs
def ch42 (k:Nat) (c:Code):Code:=match k with
 | 0=>inB (sq2 c)
 | k+1=>sq2 (ch42 k c)
def pk42 (k:Nat) (c:Code):Code:=sq1 (ch42 k c)
def y42 (C:Nat->Nat->Sti) (ln:Nat->Nat) (h i:Nat):List T:=[.reg [chV C ln h],.own 0 0 0 (i+1) (some (1+h)),.int .i64 0]
theorem g0 (C:Nat->Nat->Sti) (ln:Nat->Nat) (h:Nat):codeL P18 G18 A18 noneO 0 42 [] sq1 [0] [.agg [chV C ln h]] [] [1] =
(
 some ((.normal,[.reg [chV C ln h]],[]))):=by kernel_rfl
theorem g1 (C:Nat->Nat->Sti) (ln:Nat->Nat) (h:Nat) (n:Nat) (p q:List T->T->Prop):codeL P18 G18 A18 (K42 p q 0 n) 0 42 [] (pk42 0) [1] [.reg [chV C ln h]] [] [1] =
(
 bif decF (p [.view 1 h (fun i=>[srV (C i) (ln i)
 none])
 none] (.int .i64 0)) then
 some ((.normal,[.reg [chV C ln h]],[]))
 else
 none):=by kernel_rfl
theorem g2 (C:Nat->Nat->Sti) (ln:Nat->Nat) (h:Nat) (n:Nat) (p q:List T->T->Prop):codeL P18 G18 A18 (K42 p q 0 n) 0 42 [] (pk42 1) [1] [.reg [chV C ln h]] [] [1,5] =
(
 bif decide (0<Int.ofNat h) then
 bif decF (q [.view 5 (ln (0:Nat)) (fun j=>[.int .u8 (C (0:Nat) j).k,.int .u8 (C (0:Nat) j).y,.int .i64 (C (0:Nat) j).a,.int .i64 (C (0:Nat) j).b,.bool (C (0:Nat) j).f])
 none] (.int .i64 (.ofNat n))) then
 bif decide (0<=Int.ofNat n)&&decide (Int.ofNat n<=Int.ofNat n)&&decide (Int.ofNat n * 8<=140737488355328)&&decide (Int.ofNat n<=9223372036854775807) then
 some ((.normal,[.reg [chV C ln h],.own 0 0 0 n (some n)],bk59 (fun j=>(0:Int)) n))
 else none else none else
 none):=by kernel_rfl
theorem g3 (C:Nat->Nat->Sti) (ln:Nat->Nat) (h:Nat) (n:Nat):codeL P18 G18 A18 noneO 0 42 [(6,litS (v42a C ln h n 0) (bk59 (fun _=>0) n) (.exit 0) [.reg [chV C ln h],.own 0 0 0 n (some n)] (bk59 (fun _=>1) n))] (pk42 2) [1,5] [.reg [chV C ln h],.own 0 0 0 n (some n)] (bk59 (fun _=>0) n) [1,5] =
(
 bif weakF (v42a C ln h n (0:Int)) (bk59 (fun j=>(0:Int)) n) (v42a C ln h n (0:Int)) (bk59 (fun j=>(0:Int)) n) then
 some ((.normal,[.reg [chV C ln h],.own 0 0 0 n (some n)],bk59 (fun j=>(1:Int)) n))
 else
 none):=by kernel_rfl
theorem g4 (C:Nat->Nat->Sti) (ln:Nat->Nat) (h:Nat) (n:Nat):codeL P18 G18 A18 noneO 0 42 [] (pk42 3) [1,5] [.reg [chV C ln h],.own 0 0 0 n (some n)] (bk59 (fun _=>1) n) [1,5,7] =
(
 bif decide (1<=IntKind.i64.wrap (1+Int.ofNat h))&&decide (IntKind.i64.wrap (1+Int.ofNat h) * (24:Int)<=(140737488355328:Int))&&decide (IntKind.i64.wrap (1+Int.ofNat h)<=(9223372036854775807:Int)) then
 some ((.normal,[.reg [chV C ln h],.own 0 0 0 n (some n),.own (List.length (bk59 (fun j=>(1:Int)) n)) (0:Nat) (0:Nat) (1:Nat) (some (IntKind.i64.wrap ((1:Int)+Int.ofNat h)).toNat)],bB42 (fun e=>(1:Int)) n :: h14 (IntKind.i64.wrap ((1:Int)+Int.ofNat h)).toNat fun e=>.nils))
 else
 none):=by kernel_rfl
theorem g5 (C:Nat->Nat->Sti) (ln:Nat->Nat) (h:Nat) (n m:Nat):codeL P18 G18 A18 noneO 0 42 [] (pk42 4) [1,5,7] [.reg [chV C ln h],.own 0 0 0 n (some n),.own 1 0 0 1 (some m)] [bB42 (fun _=>1) n,⟨0,1,m,fun _=>[.nils],false,false,none⟩] [1,7] =
(
 bif Nat.blt 0 m&&[T.own 0 0 0 n (some n)].length==(1:Nat)&&true&&true then
 some ((.normal,[.reg [chV C ln h],.own 1 0 0 1 (some m)],bB42 (fun e=>(1:Int)) n :: h14 m fun e =>
 bif e==(0:Nat) then .own 0 0 0 n (some n)
 else .nils))
 else
 none):=by kernel_rfl
theorem g6 (C:Nat->Nat->Sti) (ln:Nat->Nat) (h:Nat) (n m:Nat):codeL P18 G18 A18 noneO 0 42 [] (pk42 5) [1,7] [.reg [chV C ln h],.own 1 0 0 1 (some m)] [bB42 (fun _=>1) n,⟨0,1,m,fun e=>[bif e==0 then .own 0 0 0 n (some n) else .nils],false,false,none⟩] [1,7,8] =
(
 some ((.normal,[.reg [chV C ln h],.own 1 0 0 1 (some m),.int .i64 0],bB42 (fun e=>(1:Int)) n :: h14 m fun e =>
 bif e==(0:Nat) then .own 0 0 0 n (some n)
 else .nils))):=by kernel_rfl
theorem g7 (C:Nat->Nat->Sti) (ln:Nat->Nat) (h i:Nat) (e:Int) (L L2:Nat->Nat->Int) (W W2:Nat->Nat):codeL P18 G18 A18 noneO 0 42 [(14,litS (v42b C ln h 0) [lB42 L W h] (.exit 2) [.own 0 0 0 (i+1) (some (1+h)),.int .i64 e] [lB42 L2 W2 h])] (ch42 6) [1,7,8] (y42 C ln h 0) [lB42 L W h] [2,3] =
(
 bif weakF (v42b C ln h (0:Nat)) (h14 (1+h) fun e=>slV (L e) (W e) (some (W e))) (v42b C ln h (0:Nat)) (h14 (1+h) fun e=>slV (L e) (W e) (some (W e))) then
 bif !decide (e = 0) then
 some ((.ret,[.nils,.int .i64 e],h14 (1+h) fun e=>slV (L2 e) (W2 e) (some (W2 e))))
 else
 some ((.ret,[.own 0 0 0 (i+1) (some (1+h)),.int .i64 0],h14 (1+h) fun e=>slV (L2 e) (W2 e) (some (W2 e))))
 else
 none):=by kernel_rfl
open Go.Proofs
theorem rE_zero {r:Nat->Sti} {n:Nat} (h:rE r n = 0):1<=n/\n<=16/\allV r n = true/\(1<=nR5 r n/\nR5 r n<=16)/\1<=mR5 r n/\mR5 r n<=16:=by
 unfold rE at h
 by_cases h1:16<n
 ·rw [if_pos h1] at h; omega
 rw [if_neg h1] at h
 by_cases h2:n = 0
 ·rw [if_pos h2] at h; omega
 rw [if_neg h2] at h
 by_cases h3:allV r n = true
 ·rw [if_pos h3] at h
  by_cases h4:wOk (nR5 r n) = true/\wOk (mR5 r n) = true
  ·unfold wOk at h4
   simp only [Bool.and_eq_true,decide_eq_true_eq] at h4
   exact ⟨by omega,by omega,h3,h4.1,h4.2⟩
  ·rw [if_neg h4] at h; omega
 ·rw [if_neg h3] at h; omega
structure ChOk (C:Nat->Nat->Sti) (ln:Nat->Nat) (h:Nat):Prop where
 h1:1<=h
 h31:h<=31
 odd:h % 2 = 1
 row:∀ i,i<h->rE (C i) (ln i) = 0
 link:∀ i,i+1<h->nR5 (C (i+1)) (ln (i+1)) = mR5 (C i) (ln i)
theorem ChOk.wd {C:Nat->Nat->Sti} {ln:Nat->Nat} {h:Nat} (ok:ChOk C ln h) (hC:∀ i j,(C i j).Ok):∀ i,i<h->WD C ln i = offN (C i) (ln i)
 | 0,_=>rfl
 | i+1,hi=>by
  have:=ok.link i hi
  have h1:=(offN_eq (C (i+1)) (hC (i+1)) (ln (i+1))).1
  have h2:=(offN_eq (C i) (hC i) (ln i)).2
  show outN (C i) (ln i) = _
  omega
theorem ChOk.out {C:Nat->Nat->Sti} {ln:Nat->Nat} {h:Nat} (ok:ChOk C ln h) (hC:∀ i j,(C i j).Ok) {i:Nat} (hi:i<h):outN (C i) (ln i)<=16/\1<=outN (C i) (ln i)/\offN (C i) (ln i)<=16/\1<=offN (C i) (ln i):=by
 obtain ⟨_,_,_,h3,h4⟩:=rE_zero (ok.row i hi)
 have h1:=offN_eq (C i) (hC i) (ln i)
 omega
section
variable (C:Nat->Nat->Sti) (ln:Nat->Nat) (h:Nat)
end
open Go.Proofs
open Go.Proofs
def up24 {α:Type} (k:Nat) (x:α) (f:Nat->α) (e:Nat):α:=bif e==0+k then x else f e
open Go.Proofs
def pgV (R:Nat->Nat->Int) (ln:Nat->Nat) (h:Nat) (rc:Nat->Option Nat) (c:Option Nat):T:=.view 1 h (fun i=>[rowV (R i) (ln i) (rc i)]) c
def v29g (R:Nat->Nat->Int) (ln:Nat->Nat) (h:Nat) (rc:Nat->Option Nat) (c:Option Nat) (i:Int):List T:=[pgV R ln h rc c,pgV R ln h rc c,.int .i64 h,.int .i64 i]
def v29e (R:Nat->Nat->Int) (ln:Nat->Nat) (h:Nat) (rc:Nat->Option Nat) (c:Option Nat) (i:Int):List T:=[pgV R ln h rc c,.int .i64 h,.int .i64 i]
def pA (ln:Nat->Nat) (i:Nat):Bool:=decide (ln i<=16)
def pB (R:Nat->Nat->Int) (ln:Nat->Nat) (i:Nat):Bool:=!(decide (ln i = 0) || decide (mnF (R i) (ln i - 1)<1) || decide (6<mxF (R i) (ln i - 1)))
def pC (ln:Nat->Nat) (i:Nat):Bool:=decide (ln i = ln 0)
def pD (R:Nat->Nat->Int) (ln:Nat->Nat) (i:Nat):Bool:=decide (kK (R i) (ln i)<=2)
def pcE (R:Nat->Nat->Int) (ln:Nat->Nat) (h:Nat):Int:=bif decide (31<h) then 3 else bif allB (pA ln) h then (bif decide (h % 2 = 0) then 1 else bif allB (pB R ln) h then (bif allB (pC ln) h then (bif allB (pD R ln) h then 0 else 14) else 5) else 1) else 3
noncomputable def l29 (x y z t:List T->Heap->Ex->List T->Heap->Prop) (R:Nat->Nat->Int) (ln:Nat->Nat) (h:Nat) (rc:Nat->Option Nat) (c:Option Nat):List (Nat × (List T->Heap->LT)) :=
 [(4,loopF x (.ite (allB (pA ln) h) (.ret (.exit 0) [pgV R ln h rc c,.undef] []) (.ret .ret [pgV R ln h rc c,.int .i64 3] []))),
  (12,loopF y (.ite (allB (pB R ln) h) (.ret (.exit 2) [pgV R ln h rc c,.undef] []) (.ret .ret [pgV R ln h rc c,.int .i64 1] []))),
  (18,loopF z (.ite (allB (pC ln) h) (.ret (.exit 4) [pgV R ln h rc c,.undef] []) (.ret .ret [pgV R ln h rc c,.int .i64 5] []))),
  (24,loopF t (.ite (allB (pD R ln) h) (.ret (.exit 6) [.undef] []) (.ret .ret [.int .i64 14] [])))]
section
variable (R:Nat->Nat->Int) (ln:Nat->Nat) (h:Nat) (rc:Nat->Option Nat) (c:Option Nat)
theorem i29a (i:Nat):iterR P18 G18 A18 noneO 0 29 [] 4 (v29g R ln h rc c i) [] =
(
 bif decide (Int.ofNat i<Int.ofNat h) then
 bif decide (0<=Int.ofNat i)&&decide (Int.ofNat i<Int.ofNat h) then
 bif decide (16<Int.ofNat (ln i)) then
 some ((.ret,[pgV R ln h rc c,.int .i64 3],[]))
 else
 some ((.normal,v29g R ln h rc c (IntKind.i64.wrap (Int.ofNat i+1)),[]))
 else none else
 some ((.exit 0,[pgV R ln h rc c,.undef],[]))):=by kernel_rfl
theorem i29b (i:Nat) (a b:Int) (p q:List T->T->Prop):iterR P18 G18 A18 (K29 p q a b) 0 29 [] 12 (v29g R ln h rc c i) [] =
(
 bif decide (Int.ofNat i<Int.ofNat h) then
 bif decide (0<=Int.ofNat i)&&decide (Int.ofNat i<Int.ofNat h) then
 bif decide (Int.ofNat (ln i) = 0) then
 some ((.ret,[pgV R ln h rc c,.int .i64 1],[]))
 else
 bif decF (p [.view 1 (ln i) (fun j=>[.int .u8 (R i j)]) (rc i)] (.int .u8 a)) then
 bif decide (a<1) then
 some ((.ret,[pgV R ln h rc c,.int .i64 1],[]))
 else
 bif decF (q [.view 1 (ln i) (fun j=>[.int .u8 (R i j)]) (rc i)] (.int .u8 b)) then
 bif decide (6<b) then
 some ((.ret,[pgV R ln h rc c,.int .i64 1],[]))
 else
 some ((.normal,v29g R ln h rc c (IntKind.i64.wrap (Int.ofNat i+1)),[]))
 else none else none else none else
 some ((.exit 2,[pgV R ln h rc c,.undef],[]))):=by kernel_rfl
theorem i29c (i:Nat):iterR P18 G18 A18 noneO 0 29 [] 18 (v29g R ln h rc c i) [] =
(
 bif decide (Int.ofNat i<Int.ofNat h) then
 bif decide (0<=Int.ofNat i)&&decide (Int.ofNat i<Int.ofNat h) then
 bif decide (0<Int.ofNat h) then
 bif !decide (Int.ofNat (ln i) = Int.ofNat (ln (0:Nat))) then
 some ((.ret,[pgV R ln h rc c,.int .i64 5],[]))
 else
 some ((.normal,v29g R ln h rc c (IntKind.i64.wrap (Int.ofNat i+1)),[]))
 else none else none else
 some ((.exit 4,[pgV R ln h rc c,.undef],[]))):=by kernel_rfl
theorem i29d (i k:Nat) (cs:Nat->Int) (p:List T->T->Prop):iterR P18 G18 A18 (K29k p (.new (rowV cs k none))) 0 29 [] 24 (v29e R ln h rc c i) [] =
(
 bif decide (Int.ofNat i<Int.ofNat h) then
 bif decide (0<=Int.ofNat i)&&decide (Int.ofNat i<Int.ofNat h) then
 bif decF (p [.view 1 (ln i) (fun j=>[.int .u8 (R i j)]) (rc i)] (rowV cs k
 none).new) then
 bif decide (2<Int.ofNat k) then
 some ((.ret,[.int .i64 14],[]))
 else
 some ((.normal,v29e R ln h rc c (IntKind.i64.wrap (Int.ofNat i+1)),[]))
 else none else none else
 some ((.exit 6,[.undef],[]))):=by kernel_rfl
theorem k29 (x y z t:List T->Heap->Ex->List T->Heap->Prop):stepL P18 G18 A18 noneO 0 29 (l29 x y z t R ln h rc c) [pgV R ln h rc c] =
(
 bif decide (31<Int.ofNat h) then
 some (.int .i64 3)
 else
 bif allB (pA ln) h then
 bif decF (x [.view 1 h (fun i=>[.view 1 (ln i) (fun j=>[.int .u8 (R i j)]) (rc i)]) c,.view 1 h (fun i=>[.view 1 (ln i) (fun j=>[.int .u8 (R i j)]) (rc i)]) c,.int .i64 (.ofNat h),.int .i64 0] [] (.exit 0) [.view 1 h (fun i=>[.view 1 (ln i) (fun j=>[.int .u8 (R i j)]) (rc i)]) c,.undef] []) then
 bif decide ((Int.ofNat h).tmod 2 = 0) then
 some (.int .i64 1)
 else
 bif allB (pB R ln) h then
 bif decF (y [.view 1 h (fun i=>[.view 1 (ln i) (fun j=>[.int .u8 (R i j)]) (rc i)]) c,.view 1 h (fun i=>[.view 1 (ln i) (fun j=>[.int .u8 (R i j)]) (rc i)]) c,.int .i64 (.ofNat h),.int .i64 0] [] (.exit 2) [.view 1 h (fun i=>[.view 1 (ln i) (fun j=>[.int .u8 (R i j)]) (rc i)]) c,.undef] []) then
 bif allB (pC ln) h then
 bif decF (z [.view 1 h (fun i=>[.view 1 (ln i) (fun j=>[.int .u8 (R i j)]) (rc i)]) c,.view 1 h (fun i=>[.view 1 (ln i) (fun j=>[.int .u8 (R i j)]) (rc i)]) c,.int .i64 (.ofNat h),.int .i64 0] [] (.exit 4) [.view 1 h (fun i=>[.view 1 (ln i) (fun j=>[.int .u8 (R i j)]) (rc i)]) c,.undef] []) then
 bif allB (pD R ln) h then
 bif decF (t [.view 1 h (fun i=>[.view 1 (ln i) (fun j=>[.int .u8 (R i j)]) (rc i)]) c,.int .i64 (.ofNat h),.int .i64 0] [] (.exit 6) [.undef] []) then
 some (.int .i64 0)
 else none else
 bif decF (t [.view 1 h (fun i=>[.view 1 (ln i) (fun j=>[.int .u8 (R i j)]) (rc i)]) c,.int .i64 (.ofNat h),.int .i64 0] [] .ret [.int .i64 14] []) then
 some (.int .i64 14)
 else none else none else
 bif decF (z [.view 1 h (fun i=>[.view 1 (ln i) (fun j=>[.int .u8 (R i j)]) (rc i)]) c,.view 1 h (fun i=>[.view 1 (ln i) (fun j=>[.int .u8 (R i j)]) (rc i)]) c,.int .i64 (.ofNat h),.int .i64 0] [] .ret [.view 1 h (fun i=>[.view 1 (ln i) (fun j=>[.int .u8 (R i j)]) (rc i)]) c,.int .i64 5] []) then
 some (.int .i64 5)
 else none else none else
 bif decF (y [.view 1 h (fun i=>[.view 1 (ln i) (fun j=>[.int .u8 (R i j)]) (rc i)]) c,.view 1 h (fun i=>[.view 1 (ln i) (fun j=>[.int .u8 (R i j)]) (rc i)]) c,.int .i64 (.ofNat h),.int .i64 0] [] .ret [.view 1 h (fun i=>[.view 1 (ln i) (fun j=>[.int .u8 (R i j)]) (rc i)]) c,.int .i64 1] []) then
 some (.int .i64 1)
 else none else none else
 bif decF (x [.view 1 h (fun i=>[.view 1 (ln i) (fun j=>[.int .u8 (R i j)]) (rc i)]) c,.view 1 h (fun i=>[.view 1 (ln i) (fun j=>[.int .u8 (R i j)]) (rc i)]) c,.int .i64 (.ofNat h),.int .i64 0] [] .ret [.view 1 h (fun i=>[.view 1 (ln i) (fun j=>[.int .u8 (R i j)]) (rc i)]) c,.int .i64 3] []) then
 some (.int .i64 3)
 else
 none):=by kernel_rfl
end
theorem check29a {R:Nat->Nat->Int} {ln:Nat->Nat} {h:Nat} {rc:Nat->Option Nat} {c:Option Nat} (hh:h<=1000):(allB (pA ln) h = true->LoopOk P18 G18 (A18 29) 29 4 (litS (v29g R ln h rc c 0) [] (.exit 0) [pgV R ln h rc c,.undef] []))/\(allB (pA ln) h = false->LoopOk P18 G18 (A18 29) 29 4 (litS (v29g R ln h rc c 0) [] .ret [pgV R ln h rc c,.int .i64 3] [])):=by
 refine loop_scan hm18 (by kernel_rfl) (fun i=>v29g R ln h rc c i) (fun _=>[]) (pA ln) (n:=h) (fun i hi _ hg=>?_) (fun i hi _ hg=>?_) (fun _=>?_)
 ·have hg:ln i<=16:=of_decide_eq_true hg
  refine Step.mk0 (A:=A18) (m:=0) none_ok rfl rfl loops0 (h1:=[]) ?_ .nil
  rw [i29a,ofNatE i,num1 hi (by omega)]
  refine BT ?_
  refine BT ?_
  refine BF ?_
  rfl
 ·have hg:¬ ln i<=16:=of_decide_eq_false hg
  refine Last.mk0 (A:=A18) (m:=0) none_ok rfl rfl loops0 (h1:=[]) (by simp) ?_ .nil
  rw [i29a]
  refine BT ?_
  refine BT ?_
  refine BT ?_
  rfl
 ·refine Last.mk0 (A:=A18) (m:=0) none_ok rfl rfl loops0 (h1:=[]) (by simp) ?_ .nil
  rw [i29a]
  refine BF ?_
  rfl
theorem check29b {R:Nat->Nat->Int} {ln:Nat->Nat} {h:Nat} {rc:Nat->Option Nat} {c:Option Nat} (hh:h<=1000) (hln:∀ i,i<h->ln i<=1000):(allB (pB R ln) h = true->LoopOk P18 G18 (A18 29) 29 12 (litS (v29g R ln h rc c 0) [] (.exit 2) [pgV R ln h rc c,.undef] []))/\(allB (pB R ln) h = false->LoopOk P18 G18 (A18 29) 29 12 (litS (v29g R ln h rc c 0) [] .ret [pgV R ln h rc c,.int .i64 1] [])):=by
 obtain ⟨p,hp⟩:=is_val P18 G18 45
 obtain ⟨q,hq⟩:=is_val P18 G18 46
 have hK:∀ a b,OrcOk P18 G18 (K29 p q a b):=fun a b=>told_add (told_add none_ok (callF_told hp)) (callF_told hq)
 refine loop_scan hm18 (by kernel_rfl) (fun i=>v29g R ln h rc c i) (fun _=>[]) (pB R ln) (n:=h) (fun i hi _ hg=>?_) (fun i hi _ hg=>?_) (fun _=>?_)
 ·simp only [pB,Bool.not_eq_true',Bool.or_eq_false_iff,decide_eq_false_iff_not] at hg
  obtain ⟨⟨g1,g2⟩,g3⟩:=hg
  have t1:=minT (R i) (ln i) (rc i) (by omega) (hln i hi)
  have t2:=maxT (R i) (ln i) (rc i) (by omega) (hln i hi)
  generalize mnF (R i) (ln i - 1) = a at *
  generalize mxF (R i) (ln i - 1) = b at *
  clear hln
  refine Step.mk0 (A:=A18) (m:=0) (hK a b) rfl rfl loops0 (h1:=[]) ?_ .nil
  rw [i29b,ofNatE i,num1 hi (by omega)]
  refine BT ?_
  refine BT ?_
  refine BF ?_
  refine bift (callF_yes hp t1) ?_
  refine BF ?_
  refine bift (callF_yes hq t2) ?_
  refine BF ?_
  rfl
 ·by_cases g1:ln i = 0
  ·refine Last.mk0 (A:=A18) (m:=0) (hK 0 0) rfl rfl loops0 (h1:=[]) (by simp) ?_ .nil
   clear hln hg
   rw [i29b]
   refine BT ?_
   refine BT ?_
   refine BT ?_
   rfl
  have t1:=minT (R i) (ln i) (rc i) (by omega) (hln i hi)
  have t2:=maxT (R i) (ln i) (rc i) (by omega) (hln i hi)
  unfold pB at hg
  generalize mnF (R i) (ln i - 1) = a at *
  generalize mxF (R i) (ln i - 1) = b at *
  clear hln
  refine Last.mk0 (A:=A18) (m:=0) (hK a b) rfl rfl loops0 (h1:=[]) (by simp) ?_ .nil
  rw [i29b]
  rw [dF g1] at hg
  refine BT ?_
  refine BT ?_
  refine BF ?_
  refine bift (callF_yes hp t1) ?_
  by_cases g2:a<1
  ·exact bift (dT g2) rfl
  refine biff (by simpa using g2) ?_
  refine bift (callF_yes hq t2) ?_
  rw [dF g2] at hg
  refine bift (by simpa using hg) ?_
  rfl
 ·clear hln
  refine Last.mk0 (A:=A18) (m:=0) (hK 0 0) rfl rfl loops0 (h1:=[]) (by simp) ?_ .nil
  rw [i29b]
  refine BF ?_
  rfl
theorem check29c {R:Nat->Nat->Int} {ln:Nat->Nat} {h:Nat} {rc:Nat->Option Nat} {c:Option Nat} (hh:h<=1000):(allB (pC ln) h = true->LoopOk P18 G18 (A18 29) 29 18 (litS (v29g R ln h rc c 0) [] (.exit 4) [pgV R ln h rc c,.undef] []))/\(allB (pC ln) h = false->LoopOk P18 G18 (A18 29) 29 18 (litS (v29g R ln h rc c 0) [] .ret [pgV R ln h rc c,.int .i64 5] [])):=by
 refine loop_scan hm18 (by kernel_rfl) (fun i=>v29g R ln h rc c i) (fun _=>[]) (pC ln) (n:=h) (fun i hi _ hg=>?_) (fun i hi _ hg=>?_) (fun _=>?_)
 ·have hg:ln i = ln 0:=of_decide_eq_true hg
  refine Step.mk0 (A:=A18) (m:=0) none_ok rfl rfl loops0 (h1:=[]) ?_ .nil
  rw [i29c,ofNatE i,num1 hi (by omega)]
  refine BT ?_
  refine BT ?_
  refine BT ?_
  refine biff (by rw [hg]; simp) ?_
  rfl
 ·have hg:¬ ln i = ln 0:=of_decide_eq_false hg
  refine Last.mk0 (A:=A18) (m:=0) none_ok rfl rfl loops0 (h1:=[]) (by simp) ?_ .nil
  rw [i29c]
  refine BT ?_
  refine BT ?_
  refine BT ?_
  refine bift (by simp only [ofNatE,Bool.not_eq_true',decide_eq_false_iff_not]; omega) ?_
  rfl
 ·refine Last.mk0 (A:=A18) (m:=0) none_ok rfl rfl loops0 (h1:=[]) (by simp) ?_ .nil
  rw [i29c]
  refine BF ?_
  rfl
theorem check29d {R:Nat->Nat->Int} {ln:Nat->Nat} {h:Nat} {rc:Nat->Option Nat} {c:Option Nat} (hh:h<=1000) (hln:∀ i,i<h->1<=ln i/\ln i<=16) (hR:∀ i,i<h->∀ j,j<ln i->0<=R i j/\R i j<256):(allB (pD R ln) h = true->LoopOk P18 G18 (A18 29) 29 24 (litS (v29e R ln h rc c 0) [] (.exit 6) [.undef] []))/\(allB (pD R ln) h = false->LoopOk P18 G18 (A18 29) 29 24 (litS (v29e R ln h rc c 0) [] .ret [.int .i64 14] [])):=by
 obtain ⟨p,hp⟩:=is_val P18 G18 47
 refine loop_scan hm18 (by kernel_rfl) (fun i=>v29e R ln h rc c i) (fun _=>[]) (pD R ln) (n:=h) (fun i hi _ hg=>?_) (fun i hi _ hg=>?_) (fun _=>?_)
 ·have hg:kK (R i) (ln i)<=2:=of_decide_eq_true hg
  have t1:=kindsT (R i) (ln i) (rc i) (hln i hi).1 (by unfold nmax; have:=(hln i hi).2; omega) (hR i hi)
  generalize kK (R i) (ln i) = k at *
  generalize csK (R i) (ln i) = cs at *
  clear hln hR
  refine Step.mk0 (A:=A18) (K:=K29k p (.new (rowV cs k none))) (m:=0) (told_add none_ok (callF_told hp)) rfl rfl loops0 (h1:=[]) ?_ .nil
  rw [i29d,ofNatE i,num1 hi (by omega)]
  refine BT ?_
  refine BT ?_
  refine bift (callF_yes hp t1) ?_
  refine BF ?_
  rfl
 ·have hg:¬ kK (R i) (ln i)<=2:=of_decide_eq_false hg
  have t1:=kindsT (R i) (ln i) (rc i) (hln i hi).1 (by unfold nmax; have:=(hln i hi).2; omega) (hR i hi)
  generalize kK (R i) (ln i) = k at *
  generalize csK (R i) (ln i) = cs at *
  clear hln hR
  refine Last.mk0 (A:=A18) (K:=K29k p (.new (rowV cs k none))) (m:=0) (told_add none_ok (callF_told hp)) rfl rfl loops0 (h1:=[]) (by simp) ?_ .nil
  rw [i29d]
  refine BT ?_
  refine BT ?_
  refine bift (callF_yes hp t1) ?_
  refine BT ?_
  rfl
 ·clear hln hR
  refine Last.mk0 (A:=A18) (K:=K29k p .nils) (m:=0) (told_add none_ok (callF_told hp)) rfl rfl loops0 (h1:=[]) (by simp) ?_ .nil
  rw [(show iterR P18 G18 A18 (K29k p .nils) 0 29 [] 24 (v29e R ln h rc c h) [] =
(
 bif decide (Int.ofNat h<Int.ofNat h) then
 bif decide (0<=Int.ofNat h)&&decide (Int.ofNat h<Int.ofNat h) then
 bif decF (p [.view 1 (ln h) (fun j=>[.int .u8 (R h j)]) (rc h)] .nils) then
 some ((.normal,v29e R ln h rc c (IntKind.i64.wrap (Int.ofNat h+1)),[]))
 else none else none else
 some ((.exit 6,[.undef],[]))) from by kernel_rfl)]
  refine BF ?_
  rfl
theorem checkGT (R:Nat->Nat->Int) (ln:Nat->Nat) (h:Nat) (rc:Nat->Option Nat) (c:Option Nat) (hh:h<=1000) (hln:∀ i,i<h->ln i<=1000) (hR:∀ i,i<h->∀ j,j<ln i->0<=R i j/\R i j<256):ToldOk P18 G18 29 [pgV R ln h rc c] (.int .i64 (pcE R ln h)):=by
 obtain ⟨x,hx⟩:=is_loop P18 G18 (A18 29) 29 4
 obtain ⟨y,hy⟩:=is_loop P18 G18 (A18 29) 29 12
 obtain ⟨z,hz⟩:=is_loop P18 G18 (A18 29) 29 18
 obtain ⟨t,ht⟩:=is_loop P18 G18 (A18 29) 29 24
 refine stepL_told hm18 hn18 none_ok (A:=A18) (m:=0) (l:=l29 x y z t R ln h rc c) (by kernel_rfl) (loopsC (loopF_ok hx _) (loopsC (loopF_ok hy _) (loopsC (loopF_ok hz _) (loops1 (loopF_ok ht _))))) ?_
 rw [k29,tmod_two]
 have ha:=check29a (R:=R) (ln:=ln) (rc:=rc) (c:=c) hh
 have hb:=check29b (R:=R) (ln:=ln) (rc:=rc) (c:=c) hh hln
 have hc:=check29c (R:=R) (ln:=ln) (rc:=rc) (c:=c) hh
 have hd:=fun q1=>check29d (R:=R) (ln:=ln) (rc:=rc) (c:=c) hh q1 hR
 have hAB:allB (pA ln) h = true->allB (pB R ln) h = true->∀ i,i<h->1<=ln i/\ln i<=16:=fun h1 h2 i hi=>by
  have h1:=of_decide_eq_true ((allB_iff _ _).1 h1 i hi)
  have h2:=(allB_iff _ _).1 h2 i hi
  simp only [pB,Bool.not_eq_true',Bool.or_eq_false_iff,decide_eq_false_iff_not] at h2
  omega
 clear hln hR
 unfold pcE
 have key:decide ((31:Int)<Int.ofNat h) = decide (31<h):=by
  by_cases q:31<h
  ·rw [dT q,dT (by rw [ofNatE]; omega)]
  ·rw [dF q,dF (by rw [ofNatE]; omega)]
 rw [key]
 cases decide (31<h)
 ·rw [cond_false,cond_false]
  cases qa:allB (pA ln) h
  ·rw [cond_false,cond_false]
   exact bift (loopF_yes hx (ha.2 qa)) rfl
  ·rw [cond_true,cond_true]
   refine bift (loopF_yes hx (ha.1 qa)) ?_
   cases decide (h % 2 = 0)
   ·rw [cond_false,cond_false]
    cases qb:allB (pB R ln) h
    ·rw [cond_false,cond_false]; exact bift (loopF_yes hy (hb.2 qb)) rfl
    ·rw [cond_true,cond_true]
     refine bift (loopF_yes hy (hb.1 qb)) ?_
     have hd:=hd (hAB qa qb)
     cases qc:allB (pC ln) h
     ·rw [cond_false,cond_false]; exact bift (loopF_yes hz (hc.2 qc)) rfl
     ·rw [cond_true,cond_true]
      refine bift (loopF_yes hz (hc.1 qc)) ?_
      cases qd:allB (pD R ln) h
      ·rw [cond_false,cond_false]; exact bift (loopF_yes ht (hd.2 qd)) rfl
      ·rw [cond_true,cond_true]; exact bift (loopF_yes ht (hd.1 qd)) rfl
   ·rfl
 ·rfl
open Go.Proofs Go.RowKit
def blkA:Value->Nat × Nat × Nat
 | .slice (some a) _ c=>(a.block,a.off,c)
 | _=>(0,0,0)
def colN (R:Nat->Nat->Int) (i j:Nat):Nat:=(R i j).toNat
def txtR (R:Nat->Nat->Int) (ln:Nat->Nat) (h:Nat):List UInt8:=txtB (colN R) ln h h
theorem textT (R:Nat->Nat->Int) (ln:Nat->Nat) (h:Nat) (rc:Nat->Option Nat) (c:Option Nat) (h0:0<h) (hh:h<=1000) (hln:∀ i,ln i<=1000) (hl1:∀ i,i<h->0<ln i) (hR:∀ i j,0<=R i j/\R i j<=100) (hok:pcE R ln h = 0) :
 ToldOk P18 G18 20 [pgV R ln h rc c] (.str (txtR R ln h)):=by
 have t:=checkGT R ln h rc c hh (fun i _=>hln i) (fun i _ j _=>by have:=hR i j; omega)
 rw [hok] at t
 refine ⟨⟨Try.f20,Try.func20,by kernel_rfl,by kernel_rfl⟩,fun w U cargs hU hgl ha=>?_⟩
 have tc:=t.calls w U cargs hU hgl ha
 obtain ⟨v0,a1,a2⟩:=ha.2 0 _ rfl
 have hc2:cargs = #[v0]:=by
  have hs:cargs.size = 1:=ha.1.symm
  refine Array.ext (by simp [hs]) fun k h1 h2=>?_
  match k,h1 with
  | 0,_=>simpa [Array.getElem?_eq_getElem (show 0<cargs.size by omega)] using a1
  | k+1,h1=>omega
 subst hc2
 unfold pgV at a2
 cases a2 with
 | vnil _ _ _ _=>omega
 | view _ _ _ _ a cc vs hs hcap hn hUb hl hc hv =>
  have hsp:=hs (by omega)
  obtain ⟨ab,ao,sp⟩:=a
  dsimp only at hsp
  subst hsp
  have hUb:=hUb h0 (by decide)
  have row:∀ i,i<h->vs i 0 = .slice (some ⟨(blkA (vs i 0)).1,(blkA (vs i 0)).2.1,none⟩) (ln i) (blkA (vs i 0)).2.2/\∀ j,j<ln i->(blkA (vs i 0)).1<w.heap.size/\w.cell? ⟨(blkA (vs i 0)).1,(blkA (vs i 0)).2.1+j,none⟩ = some (.int .u8 (colN R i j)):=by
   intro i hi
   have hv0:=hv i 0 _ hi rfl
   unfold rowV at hv0
   have hpos:=hl1 i hi
   generalize vs i 0 = v at hv0
   generalize ln i = n0 at hv0 hpos ⊢
   cases hv0 with
   | vnil _ _ _ _=>omega
   | view _ _ _ _ a2 c2 vs2 hs2 hcap2 hn2 hU2 hl2 hc2 hv2 =>
    have hsp:=hs2 (by omega)
    obtain ⟨b2,o2,sp⟩:=a2
    dsimp only at hsp
    subst hsp
    refine ⟨rfl,fun j hj=>⟨hU _ (hU2 hpos (by decide)),?_⟩⟩
    have q1:=(hc2 j 0 _ hj rfl).1
    have q2:=hv2 j 0 _ hj rfl
    generalize vs2 j 0 = u at q1 q2
    have hu:u = .int .u8 (R i j):=by cases q2; rfl
    rw [hu] at q1
    have e:((colN R i j:Nat):Int) = R i j:=by
     have:=(hR i j).1
     unfold colN
     omega
    rw [e]
    simpa [blkA] using q1
  have hw:=text_walk (colN R) ln h ab ao cc hh (fun i=>(blkA (vs i 0)).1) (fun i=>(blkA (vs i 0)).2.1) (fun i=>(blkA (vs i 0)).2.2) w
   (fun i hi=>by
    have q:=(hc i 0 _ hi rfl).1
    rw [(row i hi).1] at q
    simpa using q)
   (fun i j hi hj=>(row i hi).2 j hj) (hU _ hUb) (fun i j=>by have:=hR i j; unfold colN; omega) hln
   (tc.mono fun e w' ⟨v,q1,q2⟩=>by
    obtain ⟨⟨hb,_⟩,U',X,_,_,_,_,hrt⟩:=q2
    refine ⟨?_,hb⟩
    rw [q1]
    congr 1
    have hrt:RT0 w' _ U' (.int .i64 0) v X:=hrt
    cases hrt with
    | vi _ _ hv=>cases hv; rfl)
  refine hw.mono fun e w' h=>?_
  obtain ⟨q1,q2⟩:=h
  exact ⟨_,q1,rv_imm hU q2 (.vi _ _ (.str _ _ (by simp [txtR])))⟩
end Go.Ab

