/- A part of the proof: nothing is assumed. -/
import Derived.Test.YteoamlekamflbaaP13
import Derived.Test.YteoamlekamflbaaP14
import Derived.Test.YteoamlekamflbaaP11
set_option linter.all false
namespace Go.Ab
open Go.Proofs
def pgV (R:Nat->Nat->Int) (ln:Nat->Nat) (h:Nat) (rc:Nat->Option Nat) (c:Option Nat):T:=.view 1 h (fun i=>[rowV (R i) (ln i) (rc i)]) c
def v29g (R:Nat->Nat->Int) (ln:Nat->Nat) (h:Nat) (rc:Nat->Option Nat) (c:Option Nat) (i:Int):List T:=[pgV R ln h rc c,pgV R ln h rc c,.int .i64 h,.int .i64 i]
def v29e (R:Nat->Nat->Int) (ln:Nat->Nat) (h:Nat) (rc:Nat->Option Nat) (c:Option Nat) (i:Int):List T:=[pgV R ln h rc c,.int .i64 h,.int .i64 i]
def pA (ln:Nat->Nat) (i:Nat):Bool:=decide (ln i<=16)
def pB (R:Nat->Nat->Int) (ln:Nat->Nat) (i:Nat):Bool:=!(decide (ln i = 0) || decide (mnF (R i) (ln i - 1)<1) || decide (6<mxF (R i) (ln i - 1)))
def pC (ln:Nat->Nat) (i:Nat):Bool:=decide (ln i = ln 0)
def pD (R:Nat->Nat->Int) (ln:Nat->Nat) (i:Nat):Bool:=decide (kK (R i) (ln i)<=2)
def pcE (R:Nat->Nat->Int) (ln:Nat->Nat) (h:Nat):Int:=bif decide (31<h) then 3 else bif allB (pA ln) h then (bif decide (h % 2 = 0) then 1 else bif allB (pB R ln) h then (bif allB (pC ln) h then (bif allB (pD R ln) h then 0 else 14) else 5) else 1) else 3
noncomputable def l29 (x y z t:List T->Heap->Ex->List T->Heap->Prop) (R:Nat->Nat->Int) (ln:Nat->Nat) (h:Nat) (rc:Nat->Option Nat) (c:Option Nat):List (Nat × (List T->Heap->LT)) :=
 [(4,loopF x (.ite (allB (pA ln) h) (.ret (.exit 0) [pgV R ln h rc c,.undef] []) (.ret .ret [pgV R ln h rc c,.int .i64 3] []))),
  (12,loopF y (.ite (allB (pB R ln) h) (.ret (.exit 2) [pgV R ln h rc c,.undef] []) (.ret .ret [pgV R ln h rc c,.int .i64 1] []))),
  (18,loopF z (.ite (allB (pC ln) h) (.ret (.exit 4) [pgV R ln h rc c,.undef] []) (.ret .ret [pgV R ln h rc c,.int .i64 5] []))),
  (24,loopF t (.ite (allB (pD R ln) h) (.ret (.exit 6) [.undef] []) (.ret .ret [.int .i64 14] [])))]
section
variable (R:Nat->Nat->Int) (ln:Nat->Nat) (h:Nat) (rc:Nat->Option Nat) (c:Option Nat)
theorem i29a (i:Nat):iterR P18 G18 A18 noneO 0 29 [] 4 (v29g R ln h rc c i) [] =
(
 bif decide (Int.ofNat i<Int.ofNat h) then
 bif decide (0<=Int.ofNat i)&&decide (Int.ofNat i<Int.ofNat h) then
 bif decide (16<Int.ofNat (ln i)) then
 some ((.ret,[pgV R ln h rc c,.int .i64 3],[]))
 else
 some ((.normal,v29g R ln h rc c (IntKind.i64.wrap (Int.ofNat i+1)),[]))
 else none else
 some ((.exit 0,[pgV R ln h rc c,.undef],[]))):=by kernel_rfl
theorem i29b (i:Nat) (a b:Int) (p q:List T->T->Prop):iterR P18 G18 A18 (K29 p q a b) 0 29 [] 12 (v29g R ln h rc c i) [] =
(
 bif decide (Int.ofNat i<Int.ofNat h) then
 bif decide (0<=Int.ofNat i)&&decide (Int.ofNat i<Int.ofNat h) then
 bif decide (Int.ofNat (ln i) = 0) then
 some ((.ret,[pgV R ln h rc c,.int .i64 1],[]))
 else
 bif decF (p [.view 1 (ln i) (fun j=>[.int .u8 (R i j)]) (rc i)] (.int .u8 a)) then
 bif decide (a<1) then
 some ((.ret,[pgV R ln h rc c,.int .i64 1],[]))
 else
 bif decF (q [.view 1 (ln i) (fun j=>[.int .u8 (R i j)]) (rc i)] (.int .u8 b)) then
 bif decide (6<b) then
 some ((.ret,[pgV R ln h rc c,.int .i64 1],[]))
 else
 some ((.normal,v29g R ln h rc c (IntKind.i64.wrap (Int.ofNat i+1)),[]))
 else none else none else none else
 some ((.exit 2,[pgV R ln h rc c,.undef],[]))):=by kernel_rfl
theorem i29c (i:Nat):iterR P18 G18 A18 noneO 0 29 [] 18 (v29g R ln h rc c i) [] =
(
 bif decide (Int.ofNat i<Int.ofNat h) then
 bif decide (0<=Int.ofNat i)&&decide (Int.ofNat i<Int.ofNat h) then
 bif decide (0<Int.ofNat h) then
 bif !decide (Int.ofNat (ln i) = Int.ofNat (ln (0:Nat))) then
 some ((.ret,[pgV R ln h rc c,.int .i64 5],[]))
 else
 some ((.normal,v29g R ln h rc c (IntKind.i64.wrap (Int.ofNat i+1)),[]))
 else none else none else
 some ((.exit 4,[pgV R ln h rc c,.undef],[]))):=by kernel_rfl
theorem i29d (i k:Nat) (cs:Nat->Int) (p:List T->T->Prop):iterR P18 G18 A18 (K29k p (.new (rowV cs k none))) 0 29 [] 24 (v29e R ln h rc c i) [] =
(
 bif decide (Int.ofNat i<Int.ofNat h) then
 bif decide (0<=Int.ofNat i)&&decide (Int.ofNat i<Int.ofNat h) then
 bif decF (p [.view 1 (ln i) (fun j=>[.int .u8 (R i j)]) (rc i)] (rowV cs k
 none).new) then
 bif decide (2<Int.ofNat k) then
 some ((.ret,[.int .i64 14],[]))
 else
 some ((.normal,v29e R ln h rc c (IntKind.i64.wrap (Int.ofNat i+1)),[]))
 else none else none else
 some ((.exit 6,[.undef],[]))):=by kernel_rfl
theorem k29 (x y z t:List T->Heap->Ex->List T->Heap->Prop):stepL P18 G18 A18 noneO 0 29 (l29 x y z t R ln h rc c) [pgV R ln h rc c] =
(
 bif decide (31<Int.ofNat h) then
 some (.int .i64 3)
 else
 bif allB (pA ln) h then
 bif decF (x [.view 1 h (fun i=>[.view 1 (ln i) (fun j=>[.int .u8 (R i j)]) (rc i)]) c,.view 1 h (fun i=>[.view 1 (ln i) (fun j=>[.int .u8 (R i j)]) (rc i)]) c,.int .i64 (.ofNat h),.int .i64 0] [] (.exit 0) [.view 1 h (fun i=>[.view 1 (ln i) (fun j=>[.int .u8 (R i j)]) (rc i)]) c,.undef] []) then
 bif decide ((Int.ofNat h).tmod 2 = 0) then
 some (.int .i64 1)
 else
 bif allB (pB R ln) h then
 bif decF (y [.view 1 h (fun i=>[.view 1 (ln i) (fun j=>[.int .u8 (R i j)]) (rc i)]) c,.view 1 h (fun i=>[.view 1 (ln i) (fun j=>[.int .u8 (R i j)]) (rc i)]) c,.int .i64 (.ofNat h),.int .i64 0] [] (.exit 2) [.view 1 h (fun i=>[.view 1 (ln i) (fun j=>[.int .u8 (R i j)]) (rc i)]) c,.undef] []) then
 bif allB (pC ln) h then
 bif decF (z [.view 1 h (fun i=>[.view 1 (ln i) (fun j=>[.int .u8 (R i j)]) (rc i)]) c,.view 1 h (fun i=>[.view 1 (ln i) (fun j=>[.int .u8 (R i j)]) (rc i)]) c,.int .i64 (.ofNat h),.int .i64 0] [] (.exit 4) [.view 1 h (fun i=>[.view 1 (ln i) (fun j=>[.int .u8 (R i j)]) (rc i)]) c,.undef] []) then
 bif allB (pD R ln) h then
 bif decF (t [.view 1 h (fun i=>[.view 1 (ln i) (fun j=>[.int .u8 (R i j)]) (rc i)]) c,.int .i64 (.ofNat h),.int .i64 0] [] (.exit 6) [.undef] []) then
 some (.int .i64 0)
 else none else
 bif decF (t [.view 1 h (fun i=>[.view 1 (ln i) (fun j=>[.int .u8 (R i j)]) (rc i)]) c,.int .i64 (.ofNat h),.int .i64 0] [] .ret [.int .i64 14] []) then
 some (.int .i64 14)
 else none else none else
 bif decF (z [.view 1 h (fun i=>[.view 1 (ln i) (fun j=>[.int .u8 (R i j)]) (rc i)]) c,.view 1 h (fun i=>[.view 1 (ln i) (fun j=>[.int .u8 (R i j)]) (rc i)]) c,.int .i64 (.ofNat h),.int .i64 0] [] .ret [.view 1 h (fun i=>[.view 1 (ln i) (fun j=>[.int .u8 (R i j)]) (rc i)]) c,.int .i64 5] []) then
 some (.int .i64 5)
 else none else none else
 bif decF (y [.view 1 h (fun i=>[.view 1 (ln i) (fun j=>[.int .u8 (R i j)]) (rc i)]) c,.view 1 h (fun i=>[.view 1 (ln i) (fun j=>[.int .u8 (R i j)]) (rc i)]) c,.int .i64 (.ofNat h),.int .i64 0] [] .ret [.view 1 h (fun i=>[.view 1 (ln i) (fun j=>[.int .u8 (R i j)]) (rc i)]) c,.int .i64 1] []) then
 some (.int .i64 1)
 else none else none else
 bif decF (x [.view 1 h (fun i=>[.view 1 (ln i) (fun j=>[.int .u8 (R i j)]) (rc i)]) c,.view 1 h (fun i=>[.view 1 (ln i) (fun j=>[.int .u8 (R i j)]) (rc i)]) c,.int .i64 (.ofNat h),.int .i64 0] [] .ret [.view 1 h (fun i=>[.view 1 (ln i) (fun j=>[.int .u8 (R i j)]) (rc i)]) c,.int .i64 3] []) then
 some (.int .i64 3)
 else
 none):=by kernel_rfl
end
theorem check29a {R:Nat->Nat->Int} {ln:Nat->Nat} {h:Nat} {rc:Nat->Option Nat} {c:Option Nat} (hh:h<=1000):(allB (pA ln) h = true->LoopOk P18 G18 (A18 29) 29 4 (litS (v29g R ln h rc c 0) [] (.exit 0) [pgV R ln h rc c,.undef] []))/\(allB (pA ln) h = false->LoopOk P18 G18 (A18 29) 29 4 (litS (v29g R ln h rc c 0) [] .ret [pgV R ln h rc c,.int .i64 3] [])):=by
 refine loop_scan hm18 (by kernel_rfl) (fun i=>v29g R ln h rc c i) (fun _=>[]) (pA ln) (n:=h) (fun i hi _ hg=>?_) (fun i hi _ hg=>?_) (fun _=>?_)
 ·have hg:ln i<=16:=of_decide_eq_true hg
  refine Step.mk0 (A:=A18) (m:=0) none_ok rfl rfl loops0 (h1:=[]) ?_ .nil
  rw [i29a,ofNatE i,num1 hi (by omega)]
  refine BT ?_
  refine BT ?_
  refine BF ?_
  rfl
 ·have hg:¬ ln i<=16:=of_decide_eq_false hg
  refine Last.mk0 (A:=A18) (m:=0) none_ok rfl rfl loops0 (h1:=[]) (by simp) ?_ .nil
  rw [i29a]
  refine BT ?_
  refine BT ?_
  refine BT ?_
  rfl
 ·refine Last.mk0 (A:=A18) (m:=0) none_ok rfl rfl loops0 (h1:=[]) (by simp) ?_ .nil
  rw [i29a]
  refine BF ?_
  rfl
theorem check29b {R:Nat->Nat->Int} {ln:Nat->Nat} {h:Nat} {rc:Nat->Option Nat} {c:Option Nat} (hh:h<=1000) (hln:∀ i,i<h->ln i<=1000):(allB (pB R ln) h = true->LoopOk P18 G18 (A18 29) 29 12 (litS (v29g R ln h rc c 0) [] (.exit 2) [pgV R ln h rc c,.undef] []))/\(allB (pB R ln) h = false->LoopOk P18 G18 (A18 29) 29 12 (litS (v29g R ln h rc c 0) [] .ret [pgV R ln h rc c,.int .i64 1] [])):=by
 obtain ⟨p,hp⟩:=is_val P18 G18 45
 obtain ⟨q,hq⟩:=is_val P18 G18 46
 have hK:∀ a b,OrcOk P18 G18 (K29 p q a b):=fun a b=>told_add (told_add none_ok (callF_told hp)) (callF_told hq)
 refine loop_scan hm18 (by kernel_rfl) (fun i=>v29g R ln h rc c i) (fun _=>[]) (pB R ln) (n:=h) (fun i hi _ hg=>?_) (fun i hi _ hg=>?_) (fun _=>?_)
 ·simp only [pB,Bool.not_eq_true',Bool.or_eq_false_iff,decide_eq_false_iff_not] at hg
  obtain ⟨⟨g1,g2⟩,g3⟩:=hg
  have t1:=minT (R i) (ln i) (rc i) (by omega) (hln i hi)
  have t2:=maxT (R i) (ln i) (rc i) (by omega) (hln i hi)
  generalize mnF (R i) (ln i - 1) = a at *
  generalize mxF (R i) (ln i - 1) = b at *
  clear hln
  refine Step.mk0 (A:=A18) (m:=0) (hK a b) rfl rfl loops0 (h1:=[]) ?_ .nil
  rw [i29b,ofNatE i,num1 hi (by omega)]
  refine BT ?_
  refine BT ?_
  refine BF ?_
  refine bift (callF_yes hp t1) ?_
  refine BF ?_
  refine bift (callF_yes hq t2) ?_
  refine BF ?_
  rfl
 ·by_cases g1:ln i = 0
  ·refine Last.mk0 (A:=A18) (m:=0) (hK 0 0) rfl rfl loops0 (h1:=[]) (by simp) ?_ .nil
   clear hln hg
   rw [i29b]
   refine BT ?_
   refine BT ?_
   refine BT ?_
   rfl
  have t1:=minT (R i) (ln i) (rc i) (by omega) (hln i hi)
  have t2:=maxT (R i) (ln i) (rc i) (by omega) (hln i hi)
  unfold pB at hg
  generalize mnF (R i) (ln i - 1) = a at *
  generalize mxF (R i) (ln i - 1) = b at *
  clear hln
  refine Last.mk0 (A:=A18) (m:=0) (hK a b) rfl rfl loops0 (h1:=[]) (by simp) ?_ .nil
  rw [i29b]
  rw [dF g1] at hg
  refine BT ?_
  refine BT ?_
  refine BF ?_
  refine bift (callF_yes hp t1) ?_
  by_cases g2:a<1
  ·exact bift (dT g2) rfl
  refine biff (by simpa using g2) ?_
  refine bift (callF_yes hq t2) ?_
  rw [dF g2] at hg
  refine bift (by simpa using hg) ?_
  rfl
 ·clear hln
  refine Last.mk0 (A:=A18) (m:=0) (hK 0 0) rfl rfl loops0 (h1:=[]) (by simp) ?_ .nil
  rw [i29b]
  refine BF ?_
  rfl
theorem check29c {R:Nat->Nat->Int} {ln:Nat->Nat} {h:Nat} {rc:Nat->Option Nat} {c:Option Nat} (hh:h<=1000):(allB (pC ln) h = true->LoopOk P18 G18 (A18 29) 29 18 (litS (v29g R ln h rc c 0) [] (.exit 4) [pgV R ln h rc c,.undef] []))/\(allB (pC ln) h = false->LoopOk P18 G18 (A18 29) 29 18 (litS (v29g R ln h rc c 0) [] .ret [pgV R ln h rc c,.int .i64 5] [])):=by
 refine loop_scan hm18 (by kernel_rfl) (fun i=>v29g R ln h rc c i) (fun _=>[]) (pC ln) (n:=h) (fun i hi _ hg=>?_) (fun i hi _ hg=>?_) (fun _=>?_)
 ·have hg:ln i = ln 0:=of_decide_eq_true hg
  refine Step.mk0 (A:=A18) (m:=0) none_ok rfl rfl loops0 (h1:=[]) ?_ .nil
  rw [i29c,ofNatE i,num1 hi (by omega)]
  refine BT ?_
  refine BT ?_
  refine BT ?_
  refine biff (by rw [hg]; simp) ?_
  rfl
 ·have hg:¬ ln i = ln 0:=of_decide_eq_false hg
  refine Last.mk0 (A:=A18) (m:=0) none_ok rfl rfl loops0 (h1:=[]) (by simp) ?_ .nil
  rw [i29c]
  refine BT ?_
  refine BT ?_
  refine BT ?_
  refine bift (by simp only [ofNatE,Bool.not_eq_true',decide_eq_false_iff_not]; omega) ?_
  rfl
 ·refine Last.mk0 (A:=A18) (m:=0) none_ok rfl rfl loops0 (h1:=[]) (by simp) ?_ .nil
  rw [i29c]
  refine BF ?_
  rfl
theorem check29d {R:Nat->Nat->Int} {ln:Nat->Nat} {h:Nat} {rc:Nat->Option Nat} {c:Option Nat} (hh:h<=1000) (hln:∀ i,i<h->1<=ln i/\ln i<=16) (hR:∀ i,i<h->∀ j,j<ln i->0<=R i j/\R i j<256):(allB (pD R ln) h = true->LoopOk P18 G18 (A18 29) 29 24 (litS (v29e R ln h rc c 0) [] (.exit 6) [.undef] []))/\(allB (pD R ln) h = false->LoopOk P18 G18 (A18 29) 29 24 (litS (v29e R ln h rc c 0) [] .ret [.int .i64 14] [])):=by
 obtain ⟨p,hp⟩:=is_val P18 G18 47
 refine loop_scan hm18 (by kernel_rfl) (fun i=>v29e R ln h rc c i) (fun _=>[]) (pD R ln) (n:=h) (fun i hi _ hg=>?_) (fun i hi _ hg=>?_) (fun _=>?_)
 ·have hg:kK (R i) (ln i)<=2:=of_decide_eq_true hg
  have t1:=kindsT (R i) (ln i) (rc i) (hln i hi).1 (by unfold nmax; have:=(hln i hi).2; omega) (hR i hi)
  generalize kK (R i) (ln i) = k at *
  generalize csK (R i) (ln i) = cs at *
  clear hln hR
  refine Step.mk0 (A:=A18) (K:=K29k p (.new (rowV cs k none))) (m:=0) (told_add none_ok (callF_told hp)) rfl rfl loops0 (h1:=[]) ?_ .nil
  rw [i29d,ofNatE i,num1 hi (by omega)]
  refine BT ?_
  refine BT ?_
  refine bift (callF_yes hp t1) ?_
  refine BF ?_
  rfl
 ·have hg:¬ kK (R i) (ln i)<=2:=of_decide_eq_false hg
  have t1:=kindsT (R i) (ln i) (rc i) (hln i hi).1 (by unfold nmax; have:=(hln i hi).2; omega) (hR i hi)
  generalize kK (R i) (ln i) = k at *
  generalize csK (R i) (ln i) = cs at *
  clear hln hR
  refine Last.mk0 (A:=A18) (K:=K29k p (.new (rowV cs k none))) (m:=0) (told_add none_ok (callF_told hp)) rfl rfl loops0 (h1:=[]) (by simp) ?_ .nil
  rw [i29d]
  refine BT ?_
  refine BT ?_
  refine bift (callF_yes hp t1) ?_
  refine BT ?_
  rfl
 ·clear hln hR
  refine Last.mk0 (A:=A18) (K:=K29k p .nils) (m:=0) (told_add none_ok (callF_told hp)) rfl rfl loops0 (h1:=[]) (by simp) ?_ .nil
  rw [(show iterR P18 G18 A18 (K29k p .nils) 0 29 [] 24 (v29e R ln h rc c h) [] =
(
 bif decide (Int.ofNat h<Int.ofNat h) then
 bif decide (0<=Int.ofNat h)&&decide (Int.ofNat h<Int.ofNat h) then
 bif decF (p [.view 1 (ln h) (fun j=>[.int .u8 (R h j)]) (rc h)] .nils) then
 some ((.normal,v29e R ln h rc c (IntKind.i64.wrap (Int.ofNat h+1)),[]))
 else none else none else
 some ((.exit 6,[.undef],[]))) from by kernel_rfl)]
  refine BF ?_
  rfl
theorem checkGT (R:Nat->Nat->Int) (ln:Nat->Nat) (h:Nat) (rc:Nat->Option Nat) (c:Option Nat) (hh:h<=1000) (hln:∀ i,i<h->ln i<=1000) (hR:∀ i,i<h->∀ j,j<ln i->0<=R i j/\R i j<256):ToldOk P18 G18 29 [pgV R ln h rc c] (.int .i64 (pcE R ln h)):=by
 obtain ⟨x,hx⟩:=is_loop P18 G18 (A18 29) 29 4
 obtain ⟨y,hy⟩:=is_loop P18 G18 (A18 29) 29 12
 obtain ⟨z,hz⟩:=is_loop P18 G18 (A18 29) 29 18
 obtain ⟨t,ht⟩:=is_loop P18 G18 (A18 29) 29 24
 refine stepL_told hm18 hn18 none_ok (A:=A18) (m:=0) (l:=l29 x y z t R ln h rc c) (by kernel_rfl) (loopsC (loopF_ok hx _) (loopsC (loopF_ok hy _) (loopsC (loopF_ok hz _) (loops1 (loopF_ok ht _))))) ?_
 rw [k29,tmod_two]
 have ha:=check29a (R:=R) (ln:=ln) (rc:=rc) (c:=c) hh
 have hb:=check29b (R:=R) (ln:=ln) (rc:=rc) (c:=c) hh hln
 have hc:=check29c (R:=R) (ln:=ln) (rc:=rc) (c:=c) hh
 have hd:=fun q1=>check29d (R:=R) (ln:=ln) (rc:=rc) (c:=c) hh q1 hR
 have hAB:allB (pA ln) h = true->allB (pB R ln) h = true->∀ i,i<h->1<=ln i/\ln i<=16:=fun h1 h2 i hi=>by
  have h1:=of_decide_eq_true ((allB_iff _ _).1 h1 i hi)
  have h2:=(allB_iff _ _).1 h2 i hi
  simp only [pB,Bool.not_eq_true',Bool.or_eq_false_iff,decide_eq_false_iff_not] at h2
  omega
 clear hln hR
 unfold pcE
 have key:decide ((31:Int)<Int.ofNat h) = decide (31<h):=by
  by_cases q:31<h
  ·rw [dT q,dT (by rw [ofNatE]; omega)]
  ·rw [dF q,dF (by rw [ofNatE]; omega)]
 rw [key]
 cases decide (31<h)
 ·rw [cond_false,cond_false]
  cases qa:allB (pA ln) h
  ·rw [cond_false,cond_false]
   exact bift (loopF_yes hx (ha.2 qa)) rfl
  ·rw [cond_true,cond_true]
   refine bift (loopF_yes hx (ha.1 qa)) ?_
   cases decide (h % 2 = 0)
   ·rw [cond_false,cond_false]
    cases qb:allB (pB R ln) h
    ·rw [cond_false,cond_false]; exact bift (loopF_yes hy (hb.2 qb)) rfl
    ·rw [cond_true,cond_true]
     refine bift (loopF_yes hy (hb.1 qb)) ?_
     have hd:=hd (hAB qa qb)
     cases qc:allB (pC ln) h
     ·rw [cond_false,cond_false]; exact bift (loopF_yes hz (hc.2 qc)) rfl
     ·rw [cond_true,cond_true]
      refine bift (loopF_yes hz (hc.1 qc)) ?_
      cases qd:allB (pD R ln) h
      ·rw [cond_false,cond_false]; exact bift (loopF_yes ht (hd.2 qd)) rfl
      ·rw [cond_true,cond_true]; exact bift (loopF_yes ht (hd.1 qd)) rfl
   ·rfl
 ·rfl
open Go.Proofs
def kO (C:Nat->Nat->Sti) (i j:Nat):Bool:=decide ((C i j).k = 1)
def kOr (C:Nat->Nat->Sti) (ln:Nat->Nat) (i:Nat):Bool:=allB (kO C i) (ln i)
def yO (C:Nat->Nat->Sti) (i j:Nat):Int:=(C i j).y
def b22 (w:Nat->T) (h i n:Nat):Blk:=⟨0,1,h,fun e=>[bif e==i then .own 1 0 0 n (some n) else w e],false,false,none⟩
def c22 (y:Nat->Int) (n:Nat):Blk:=⟨0,1,n,fun e=>[.int .u8 (y e)],true,false,none⟩
def v22 (C:Nat->Nat->Sti) (ln:Nat->Nat) (h i:Nat):List T:=[.own 0 0 0 h (some h),chV C ln h,.int .i64 h,.int .i64 i]
def x22 (C:Nat->Nat->Sti) (ln:Nat->Nat) (h i:Nat):List T:=[.undef,.undef,.own 0 0 0 h (some h),chV C ln h,.int .i64 h,.int .i64 i]
def z22 (C:Nat->Nat->Sti) (ln:Nat->Nat) (h i:Nat):List T:=[.nils,.int .i64 7,.own 0 0 0 h (some h),chV C ln h,.int .i64 h,.int .i64 i]
def v22i (C:Nat->Nat->Sti) (ln:Nat->Nat) (h i k:Nat):List T:=[.own 0 0 0 h (some h),.int .i64 i,chV C ln h,.int .i64 h,.int .i64 i,srV (C i) (ln i) none,.int .i64 (ln i),.int .i64 k]
def wO (C:Nat->Nat->Sti) (ln:Nat->Nat) (i e:Nat):T:=bif Nat.blt e i then rowV (yO C e) (ln e) (some (ln e)) else .nils
def kwO (C:Nat->Nat->Sti) (ln:Nat->Nat) (e:Nat):T:=rowV (yO C e) (ln e) (some (ln e))
noncomputable def l22i (x:List T->Heap->Ex->List T->Heap->Prop) (C:Nat->Nat->Sti) (ln:Nat->Nat) (h i:Nat) (w:Nat->T) (y:Nat->Int):List (Nat × (List T->Heap->LT)) :=
 [(10,loopF x (.ite (kOr C ln i) (.ret (.exit 2) (x22 C ln h i) [b22 w h i (ln i),c22 (yO C i) (ln i)]) (.ret .ret (z22 C ln h i) [b22 w h i (ln i),c22 y (ln i)])))]
noncomputable def K22 (p q:List T->T->Prop) (a b:Int):Orc:=(noneO.add 25 (callF p fun _=>some (.int .i64 a))).add 29 (callF q fun _=>some (.int .i64 b))
theorem q22 (C:Nat->Nat->Sti) (ln:Nat->Nat) (h k:Nat) (w:Nat->T) (y:Nat->Int):∀ i,i<31->iterR P18 G18 A18 noneO 0 22 [] 10 (v22i C ln h i k) [b22 w h i (ln i),c22 y (ln i)] =
 bif decide ((k:Int)<ln i) then bif decide ((0:Int)<=k)&&decide ((k:Int)<ln i) then bif !decide ((C i k).k = 1) then some (.ret,z22 C ln h i,[b22 w h i (ln i),c22 y (ln i)]) else bif decide ((i:Int)<h) then bif Nat.blt i h then bif decide ((0:Int)<=k)&&decide ((k:Int)<ln i) then bif Nat.blt (0+k) (ln i)&&true&&true&&true then
  some (.normal,v22i C ln h i k |>.set 7 (.int .i64 (IntKind.i64.wrap ((k:Int)+1))),[b22 w h i (ln i),c22 (up24 k (yO C i k) y) (ln i)])
  else none else none else none else none else none else some (.exit 2,x22 C ln h i,[b22 w h i (ln i),c22 y (ln i)]):=by
 intro i hi
 obtain rfl | rfl | rfl | rfl | rfl | rfl | rfl | rfl | rfl | rfl | rfl | rfl | rfl | rfl | rfl | rfl | rfl | rfl | rfl | rfl | rfl | rfl | rfl | rfl | rfl | rfl | rfl | rfl | rfl | rfl | rfl:i = 0 ∨ i = 1 ∨ i = 2 ∨ i = 3 ∨ i = 4 ∨ i = 5 ∨ i = 6 ∨ i = 7 ∨ i = 8 ∨ i = 9 ∨ i = 10 ∨ i = 11 ∨ i = 12 ∨ i = 13 ∨ i = 14 ∨ i = 15 ∨ i = 16 ∨ i = 17 ∨ i = 18 ∨ i = 19 ∨ i = 20 ∨ i = 21 ∨ i = 22 ∨ i = 23 ∨ i = 24 ∨ i = 25 ∨ i = 26 ∨ i = 27 ∨ i = 28 ∨ i = 29 ∨ i = 30:=by omega
 all_goals kernel_rfl
theorem i22 (C:Nat->Nat->Sti) (ln:Nat->Nat) (h i:Nat) (w:Nat->T) (y:Nat->Int) (x:List T->Heap->Ex->List T->Heap->Prop):iterR P18 G18 A18 noneO 0 22 (l22i x C ln h i w y) 6 (v22 C ln h i) [w24 w h] =
(
 bif decide (Int.ofNat i<Int.ofNat h) then
 bif decide (0<=Int.ofNat i)&&decide (Int.ofNat i<Int.ofNat h) then
 bif decide (0<=Int.ofNat (ln i))&&decide (Int.ofNat (ln i)<=Int.ofNat (ln i))&&decide (Int.ofNat (ln i) * (1:Int)<=(140737488355328:Int))&&decide (Int.ofNat (ln i)<=9223372036854775807) then
 bif decide (0<=Int.ofNat i)&&decide (Int.ofNat i<Int.ofNat h) then
 bif ((0:Nat)+i).blt h&&[T.own (List.length (h14 h w)) (0:Nat) (0:Nat) (ln i) (some (ln i))].length==(1:Nat)&&true&&true then
 bif allB (kO C i) (ln i) then
 bif decF (x [.own 0 0 0 h (some h),.int .i64 (.ofNat i),.view 1 h (fun i=>[srV (C i) (ln i)
 none])
 none,.int .i64 (.ofNat h),.int .i64 (.ofNat i),srV (C i) (ln i)
 none,.int .i64 (.ofNat (ln i)),.int .i64 0] [.mk 0 1 h (fun e=>[bif e==0+i then .own [Blk.mk 0 1 h (fun e=>[w e]) false false
 none].length (0:Nat) (0:Nat) (ln i) (some (ln i))
 else w e]) false false
 none,.mk 0 1 (ln i) (fun x=>[.int .u8 0]) true false
 none] (.exit 2) [.undef,.undef,.own 0 0 0 h (some h),.view 1 h (fun i=>[srV (C i) (ln i)
 none])
 none,.int .i64 (.ofNat h),.int .i64 (.ofNat i)] [.mk 0 1 h (fun e=>[bif e==i then .own 1 0 0 (ln i) (some (ln i))
 else w e]) false false
 none,.mk 0 1 (ln i) (fun e=>[.int .u8 (C i e).y]) true false
 none]) then
 some ((.normal,[.own 0 0 0 h (some h),chV C ln h,.int .i64 (.ofNat h),.int .i64 (IntKind.i64.wrap (Int.ofNat i+1))],[b24 w h i (ln i),rbk (ln i) fun e=>(C i e).y]))
 else none else
 bif decF (x [.own 0 0 0 h (some h),.int .i64 (.ofNat i),.view 1 h (fun i=>[srV (C i) (ln i)
 none])
 none,.int .i64 (.ofNat h),.int .i64 (.ofNat i),srV (C i) (ln i)
 none,.int .i64 (.ofNat (ln i)),.int .i64 0] [.mk 0 1 h (fun e=>[bif e==0+i then .own [Blk.mk 0 1 h (fun e=>[w e]) false false
 none].length (0:Nat) (0:Nat) (ln i) (some (ln i))
 else w e]) false false
 none,.mk 0 1 (ln i) (fun x=>[.int .u8 0]) true false
 none] .ret [.nils,.int .i64 7,.own 0 0 0 h (some h),.view 1 h (fun i=>[srV (C i) (ln i)
 none])
 none,.int .i64 (.ofNat h),.int .i64 (.ofNat i)] [.mk 0 1 h (fun e=>[bif e==i then .own 1 0 0 (ln i) (some (ln i))
 else w e]) false false
 none,.mk 0 1 (ln i) (fun e=>[.int .u8 (y e)]) true false
 none]) then
 some ((.ret,[.nils,.int .i64 7,.own 0 0 0 h (some h)],[b24 w h i (ln i),rbk (ln i) y]))
 else none else none else none else none else none else
 some ((.exit 0,[.undef,.undef,.own 0 0 0 h (some h)],h14 h w))):=by kernel_rfl
theorem in22 {C:Nat->Nat->Sti} {ln:Nat->Nat} {h:Nat} (w:Nat->T) {i:Nat} (hi:i<31) (hih:i<h) (hln:ln i<=1000) :
 (allB (kO C i) (ln i) = true->LoopOk P18 G18 (A18 22) 22 10 (litS (v22i C ln h i 0) [b22 w h i (ln i),c22 (fun _=>0) (ln i)] (.exit 2) (x22 C ln h i) [b22 w h i (ln i),c22 (yO C i) (ln i)])) ∧
 (allB (kO C i) (ln i) = false->∃ e v H,(e = .ret/\v = z22 C ln h i/\∃ y,H = [b22 w h i (ln i),c22 y (ln i)])/\LoopOk P18 G18 (A18 22) 22 10 (litS (v22i C ln h i 0) [b22 w h i (ln i),c22 (fun _=>0) (ln i)] e v H)):=by
 refine loop_scanE hm18 (by kernel_rfl) (fun k=>v22i C ln h i k) (fun k=>[b22 w h i (ln i),c22 (fun e=>bif Nat.blt e k then yO C i e else 0) (ln i)]) (kO C i) (n:=ln i) _ (fun k hk _ hg=>?_) (fun k hk _ hg=>?_) (fun _=>?_)
 ·have hg:(C i k).k = 1:=of_decide_eq_true hg
  rw [← up_blt k (yO C i) 0]
  refine Step.mk0 (A:=A18) (m:=0) none_ok rfl rfl loops0 (h1:=[b22 w h i (ln i),c22 (up24 k (yO C i k) fun e=>bif Nat.blt e k then yO C i e else 0) (ln i)]) ?_ (.refl _)
  rw [q22 C ln h k w _ i hi,num1 hk (by omega)]
  refine BT ?_
  refine BT ?_
  refine biff (by simp [hg]) ?_
  refine BT ?_
  refine BT ?_
  refine BT ?_
  refine BT ?_
  rfl
 ·have hg:¬ (C i k).k = 1:=of_decide_eq_false hg
  refine ⟨.ret,_,_,⟨rfl,rfl,(fun e=>bif Nat.blt e k then yO C i e else 0),rfl⟩,?_⟩
  refine Last.mk0 (A:=A18) (m:=0) none_ok rfl rfl loops0 (h1:=[b22 w h i (ln i),c22 (fun e=>bif Nat.blt e k then yO C i e else 0) (ln i)]) (by simp) ?_ (.refl _)
  rw [q22 C ln h k w _ i hi]
  refine BT ?_
  refine BT ?_
  refine bift (by simp [hg]) ?_
  rfl
 ·refine Last.mk0 (A:=A18) (m:=0) none_ok rfl rfl loops0 (h1:=[b22 w h i (ln i),c22 (fun e=>bif Nat.blt e (ln i) then yO C i e else 0) (ln i)]) (by simp) ?_ (.cons ⟨rfl,rfl,rfl,id,fun j hj=>rfl⟩ (.cons ⟨rfl,rfl,rfl,id,fun j hj=>?_⟩ .nil))
  ·rw [q22 C ln h (ln i) w _ i hi]
   refine BF ?_
   rfl
  ·show [T.int .u8 (yO C i j)] = [T.int .u8 (bif Nat.blt j (ln i) then yO C i j else 0)]
   rw [bltT (show j<ln i from hj)]
   rfl
theorem ren0_c22 {σ:List Nat} {h:Heap} {ix n:Nat} {y:Nat->Int} (hp:posOf σ ix = none) (hc:σ.contains ix = false) (hi:h[ix]? = some (c22 y n)):ren0 σ h (.own ix 0 0 n (some n)) = rowV y n (some n):=by
 unfold c22 at hi
 simp only [ren0,hp,resolve,hc,cond_false,hi,beq_self_eq_true,Bool.true_and,Option.isNone_none]
 rw [show Nat.ble (0+n) n = true from bleT (by omega)]
 simp only [cond_true,Nat.zero_add]
 rfl
theorem out22 {C:Nat->Nat->Sti} {ln:Nat->Nat} {h:Nat} (hh:h<=31) (hln:∀ i,i<h->ln i<=1000) :
 (allB (kOr C ln) h = true->LoopOk P18 G18 (A18 22) 22 6 (litS (v22 C ln h 0) [w24 (fun _=>.nils) h] (.exit 0) [.undef,.undef,.own 0 0 0 h (some h)] [w24 (kwO C ln) h])) ∧
 (allB (kOr C ln) h = false->∃ e v H,(e = .ret/\v = [.nils,.int .i64 7,.own 0 0 0 h (some h)])/\LoopOk P18 G18 (A18 22) 22 6 (litS (v22 C ln h 0) [w24 (fun _=>.nils) h] e v H)):=by
 obtain ⟨x,hx⟩:=is_loop P18 G18 (A18 22) 22 10
 refine loop_scanE hm18 (by kernel_rfl) (fun i=>v22 C ln h i) (fun i=>[w24 (wO C ln i) h]) (kOr C ln) (n:=h) _ (fun i hi _ hg=>?_) (fun i hi _ hg=>?_) (fun _=>?_)
 ·have hl:=(in22 (C:=C) (ln:=ln) (h:=h) (wO C ln i) (by omega) hi (hln i hi)).1 hg
  have hren:∀ σ hp e,ren0 σ hp (wO C ln i e) = wO C ln i e:=fun σ hp e=>by unfold wO; cases Nat.blt e i <;> rfl
  have hnew:∀ e,e ≠ i->wO C ln (i+1) e = wO C ln i e:=fun e he=>by
   unfold wO
   by_cases q:e<i
   ·rw [bltT q,bltT (by omega)]
   ·rw [bltF (by omega),bltF (by omega)]
  have hat:wO C ln (i+1) i = rowV (yO C i) (ln i) (some (ln i)):=by unfold wO; rw [bltT (by omega)]; rfl
  have hlni:=hln i hi
  clear hln
  generalize wO C ln (i+1) = w2 at *
  generalize wO C ln i = w at *
  refine Step.mkC (A:=A18) (m:=0) none_ok rfl rfl (l:=l22i x C ln h i w fun _=>0) (loops1 (loopF_ok hx _)) [0] (v1:=v22 C ln h (i+1)) (h1:=[b22 w h i (ln i),c22 (yO C i) (ln i)]) ?_ (by kernel_rfl) (v2:=v22 C ln h (i+1)) (by rfl) rfl fun nt=>.same (.cons ⟨rfl,rfl,rfl,id,fun j hj=>?_⟩ .nil)
  ·rw [i22,ofNatE i,num1 hi (by omega),Nat.zero_add]
   refine BT ?_
   refine BT ?_
   refine BT ?_
   refine BT ?_
   refine bift (by rw [bltT hi]; rfl) ?_
   refine bift hg ?_
   refine bift (loopF_yes hx hl) ?_
   rfl
  ·show [w2 j] = [ren0 [0] _ (bif j==i then .own 1 0 0 (ln i) (some (ln i)) else w j)]
   by_cases q:j = i
   ·subst q
    rw [beq_self_eq_true,cond_true,ren0_c22 rfl rfl rfl,hat]
   ·rw [show (j==i) = false by simpa using q,cond_false,hren,hnew j q]
 ·obtain ⟨e2,v2,h2,⟨rfl,rfl,y,rfl⟩,hl⟩:=(in22 (C:=C) (ln:=ln) (h:=h) (wO C ln i) (by omega) hi (hln i hi)).2 hg
  have hlni:=hln i hi
  clear hln
  generalize wO C ln i = w at *
  refine ⟨.ret,_,[b22 w h i (ln i),c22 y (ln i)],⟨rfl,rfl⟩,?_⟩
  refine Last.mk0 (A:=A18) (m:=0) none_ok rfl rfl (l:=l22i x C ln h i w y) (loops1 (loopF_ok hx _)) (h1:=[b22 w h i (ln i),c22 y (ln i)]) (by simp) ?_ (.refl _)
  rw [i22,Nat.zero_add]
  refine BT ?_
  refine BT ?_
  refine BT ?_
  refine BT ?_
  refine bift (by rw [bltT hi]; rfl) ?_
  refine biff (by rw [show allB (kO C i) (ln i) = false from hg]; simp) ?_
  refine bift (loopF_yes hx hl) ?_
  rfl
 ·have hln:True:=trivial
  refine Last.mk0 (A:=A18) (m:=0) none_ok rfl rfl loops0 (h1:=[w24 (wO C ln h) h]) (by simp) ?_ (.cons ⟨rfl,rfl,rfl,id,fun j hj=>?_⟩ .nil)
  ·generalize wO C ln h = w
   rw [(show iterR P18 G18 A18 noneO 0 22 [] 6 (v22 C ln h h) [w24 w h] =
(
 bif decide (Int.ofNat h<Int.ofNat h) then
 bif decide (0<=Int.ofNat h)&&decide (Int.ofNat h<Int.ofNat h) then
 bif decide (0<=Int.ofNat (ln h))&&decide (Int.ofNat (ln h)<=Int.ofNat (ln h))&&decide (Int.ofNat (ln h) * (1:Int)<=(140737488355328:Int))&&decide (Int.ofNat (ln h)<=9223372036854775807) then
 bif decide (0<=Int.ofNat h)&&decide (Int.ofNat h<Int.ofNat h) then
 bif ((0:Nat)+h).blt h&&[T.own (List.length (h14 h w)) (0:Nat) (0:Nat) (ln h) (some (ln h))].length==(1:Nat)&&true&&true then none else none else none else none else none else
 some ((.exit 0,[.undef,.undef,.own 0 0 0 h (some h)],h14 h w))) from by kernel_rfl)]
   refine BF ?_
   rfl
  ·show [kwO C ln j] = [wO C ln h j]
   unfold wO
   rw [bltT (show j<h from hj)]
   rfl
def ofE (C:Nat->Nat->Sti) (ln:Nat->Nat) (h:Nat):Int:=if chkE C ln h ≠ 0 then chkE C ln h else if allB (kOr C ln) h = false then 7 else pcE (yO C) ln h
theorem ofGT (C:Nat->Nat->Sti) (ln:Nat->Nat) (h:Nat) (hh:h<=1000) (hln:∀ i,i<h->ln i<=1000) (hC:∀ i j,(C i j).Ok):ToldOk P18 G18 22 [.agg [chV C ln h]] (if ofE C ln h = 0 then .tup [pgV (yO C) ln h (fun i=>some (ln i)) (some h),.int .i64 0] else .tup [.nils,.int .i64 (ofE C ln h)]):=by
 obtain ⟨p,hp⟩:=is_val P18 G18 25
 obtain ⟨q,hq⟩:=is_val P18 G18 29
 have hK:∀ a b,OrcOk P18 G18 (K22 p q a b):=fun a b=>told_add (told_add none_ok (callF_told hp)) (callF_told hq)
 have t1:=chartCheckT C ln h hh hln hC
 by_cases h1:chkE C ln h ≠ 0
 ·rw [show ofE C ln h = chkE C ln h from if_pos h1,if_neg h1]
  generalize chkE C ln h = e at *
  refine stepV_told hm18 hn18 (hK e 0) (A:=A18) (m:=0) ?_
  rw [(show stepV P18 G18 A18 (K22 p q e 0) 0 22 [.agg [chV C ln h]] =
(
 bif decF (p [.agg [.view 1 h (fun i=>[srV (C i) (ln i)
 none])
 none]] (.int .i64 e)) then
 bif !decide (e = 0) then
 some (.tup [.nils,.int .i64 e])
 else
 bif decide (0<=Int.ofNat h)&&decide (Int.ofNat h<=Int.ofNat h)&&decide (Int.ofNat h * 24<=140737488355328)&&decide (Int.ofNat h<=9223372036854775807) then none else none else
 none) from by kernel_rfl)]
  refine bift (callF_yes hp t1) ?_
  refine bift (by simp [h1]) ?_
  rfl
 have h1:chkE C ln h = 0:=Classical.byContradiction h1
 rw [h1] at t1
 have h31:h<=31:=by
  have:chE C ln h = 0:=by
   unfold chkE at h1
   by_cases q:chE C ln h ≠ 0
   ·rw [if_pos q] at h1; exact h1
   ·omega
  exact (chE_zero this).h31
 cases h2:allB (kOr C ln) h
 ·obtain ⟨_,_,H,⟨rfl,rfl⟩,hl⟩:=(out22 h31 hln).2 h2
  rw [show ofE C ln h = 7 from (if_neg (by omega)).trans (by rw [h2]; rfl),if_neg (by omega)]
  refine stepL_told hm18 hn18 (hK 0 0) (A:=A18) (m:=0) (by kernel_rfl) (loops1 hl) ?_
  rw [(show stepL P18 G18 A18 (K22 p q 0 0) 0 22 [(6,litS (v22 C ln h 0) [w24 (fun _=>.nils) h] .ret [.nils,.int .i64 7,.own 0 0 0 h (some h)] H)] [.agg [chV C ln h]] =
(
 bif decF (p [.agg [.view 1 h (fun i=>[srV (C i) (ln i)
 none])
 none]] (.int .i64 0)) then
 bif decide (0<=Int.ofNat h)&&decide (Int.ofNat h<=Int.ofNat h)&&decide (Int.ofNat h * 24<=140737488355328)&&decide (Int.ofNat h<=9223372036854775807) then
 bif weakF (v22 C ln h (nat_lit 0)) (h14 h fun e=>.nils) (v22 C ln h (nat_lit 0)) (h14 h fun e=>.nils) then
 some (.tup [.nils,.int .i64 7])
 else none else none else
 none) from by kernel_rfl)]
  refine bift (callF_yes hp t1) ?_
  refine BT ?_
  refine bift (weakF_of ⟨rfl,.refl _⟩) ?_
  rfl
 ·rw [show ofE C ln h = pcE (yO C) ln h from (if_neg (by omega)).trans (by rw [h2]; rfl)]
  have hl:=(out22 h31 hln).1 h2
  have t2:=checkGT (yO C) ln h (fun i=>some (ln i)) (some h) hh hln fun i _ j _=>(hC i j).y
  generalize pcE (yO C) ln h = e at *
  by_cases h3:e = 0
  ·subst h3
   rw [if_pos rfl]
   refine ToldOk.frz (r:=.tup [.fresh false 1 h (fun i=>[rowV (yO C i) (ln i) (some (ln i))]) h (some h),.int .i64 0]) ?_
   refine stepL_told hm18 hn18 (hK 0 0) (A:=A18) (m:=0) (by kernel_rfl) (loops1 hl) ?_
   rw [(show stepL P18 G18 A18 (K22 p q 0 0) 0 22 [(6,litS (v22 C ln h 0) [w24 (fun _=>.nils) h] (.exit 0) [.undef,.undef,.own 0 0 0 h (some h)] [w24 (kwO C ln) h])] [.agg [chV C ln h]] =
(
 bif decF (p [.agg [.view 1 h (fun i=>[srV (C i) (ln i)
 none])
 none]] (.int .i64 0)) then
 bif decide (0<=Int.ofNat h)&&decide (Int.ofNat h<=Int.ofNat h)&&decide (Int.ofNat h * 24<=140737488355328)&&decide (Int.ofNat h<=9223372036854775807) then
 bif weakF (v22 C ln h (nat_lit 0)) (h14 h fun e=>.nils) (v22 C ln h (nat_lit 0)) (h14 h fun e=>.nils) then
 bif decF (q [bif ((0:Nat)+h).ble h then .view 1 h (fun j=>[.view 1 (ln (0+j)) (fun j_1=>[.int .u8 (C ((0:Nat)+j) j_1).y]) (some (ln (0+j)))]) (some h)
 else .undef] (.int .i64 0)) then
 some (.tup [bif ((0:Nat)+h).ble h then .fresh false (1:Nat) (h - 0) (fun j=>[kwO C ln (0+j)]) h (some h)
 else .undef,.int .i64 0])
 else none else none else none else
 none) from by kernel_rfl)]
   refine bift (callF_yes hp t1) ?_
   refine BT ?_
   refine bift (weakF_of ⟨rfl,.refl _⟩) ?_
   simp only [Nat.zero_add,Nat.sub_zero]
   rw [bleT (Nat.le_refl _)]
   refine bift (callF_yes hq t2) ?_
   rfl
  ·rw [if_neg h3]
   refine stepL_told hm18 hn18 (hK 0 e) (A:=A18) (m:=0) (by kernel_rfl) (loops1 hl) ?_
   rw [(show stepL P18 G18 A18 (K22 p q 0 e) 0 22 [(6,litS (v22 C ln h 0) [w24 (fun _=>.nils) h] (.exit 0) [.undef,.undef,.own 0 0 0 h (some h)] [w24 (kwO C ln) h])] [.agg [chV C ln h]] =
(
 bif decF (p [.agg [.view 1 h (fun i=>[srV (C i) (ln i)
 none])
 none]] (.int .i64 0)) then
 bif decide (0<=Int.ofNat h)&&decide (Int.ofNat h<=Int.ofNat h)&&decide (Int.ofNat h * 24<=140737488355328)&&decide (Int.ofNat h<=9223372036854775807) then
 bif weakF (v22 C ln h (nat_lit 0)) (h14 h fun e=>.nils) (v22 C ln h (nat_lit 0)) (h14 h fun e=>.nils) then
 bif decF (q [bif ((0:Nat)+h).ble h then .view 1 h (fun j=>[.view 1 (ln (0+j)) (fun j_1=>[.int .u8 (C ((0:Nat)+j) j_1).y]) (some (ln (0+j)))]) (some h)
 else .undef] (.int .i64 e)) then
 bif !decide (e = 0) then
 some (.tup [.nils,.int .i64 e])
 else
 some (.tup [bif ((0:Nat)+h).ble h then .fresh false (1:Nat) (h - 0) (fun j=>[kwO C ln (0+j)]) h (some h)
 else .undef,.int .i64 0])
 else none else none else none else
 none) from by kernel_rfl)]
   refine bift (callF_yes hp t1) ?_
   refine BT ?_
   refine bift (weakF_of ⟨rfl,.refl _⟩) ?_
   simp only [Nat.zero_add,Nat.sub_zero]
   rw [bleT (Nat.le_refl _)]
   refine bift (callF_yes hq t2) ?_
   exact bift (by simp [h3]) rfl
open Go.Proofs
def A18F:FuncId->Ann:=fun f=>match f with
 | 36=>⟨[],fun r o=>match r with | 4=>bif o then [4] else [0,3,4,5] | _=>[],false⟩
 | f=>A18 f
def bb36 (s:Nat->Bool):Blk:=⟨0,1,256,fun e=>[.bool (s e)],true,false,none⟩
def v36 (r:Nat->Int) (n:Nat) (c:Option Nat) (x:Int) (i:Nat):List T:=[rowV r n c,.ptr 0 0 0 0,.int .i64 x,.int .i64 i]
def sN (r:Nat->Int):Nat->Nat->Bool
 | 0=>fun _=>false
 | i+1=>fun e=>bif e==(r i).toNat then true else sN r i e
def cN (r:Nat->Int):Nat->Nat
 | 0=>0
 | i+1=>bif sN r i (r i).toNat then cN r i else cN r i+1
def v21 (R:Nat->Nat->Int) (ln:Nat->Nat) (h:Nat) (rc:Nat->Option Nat) (c:Option Nat) (i:Nat):List T:=[pgV R ln h rc c,.int .i64 i]
def v21i (R:Nat->Nat->Int) (ln:Nat->Nat) (h:Nat) (rc:Nat->Option Nat) (c:Option Nat) (i k:Nat):List T:=[pgV R ln h rc c,.int .i64 i,.int .i64 k]
def pK (R:Nat->Nat->Int) (i k:Nat):Bool:=!(decide (R i k = 0) || decide (6<R i k))
def pB2 (R:Nat->Nat->Int) (ln:Nat->Nat) (i:Nat):Bool:=!decide (ln i = 0)&&allB (pK R i) (ln i)
def pD2 (R:Nat->Nat->Int) (ln:Nat->Nat) (i:Nat):Bool:=decide (cN (R i) (ln i)<=2)
noncomputable def K21 (p:List T->T->Prop) (x:Nat):Orc:=noneO.add 36 (callF p fun _=>some (.int .i64 x))
noncomputable def l21b (x:List T->Heap->Ex->List T->Heap->Prop) (R:Nat->Nat->Int) (ln:Nat->Nat) (h:Nat) (rc:Nat->Option Nat) (c:Option Nat) (i:Nat):List (Nat × (List T->Heap->LT)) :=
 [(16,loopF x (.ite (allB (pK R i) (ln i)) (.ret (.exit 4) [pgV R ln h rc c,.undef,.int .i64 i] []) (.ret .ret [pgV R ln h rc c,.int .i64 1,.int .i64 i] [])))]
noncomputable def l21 (x y z t:List T->Heap->Ex->List T->Heap->Prop) (R:Nat->Nat->Int) (ln:Nat->Nat) (h:Nat) (rc:Nat->Option Nat) (c:Option Nat):List (Nat × (List T->Heap->LT)) :=
 [(4,loopF x (.ite (allB (pA ln) h) (.ret (.exit 0) [pgV R ln h rc c,.undef] []) (.ret .ret [pgV R ln h rc c,.int .i64 3] []))),
  (11,loopF y (.ite (allB (pB2 R ln) h) (.ret (.exit 2) [pgV R ln h rc c,.undef] []) (.ret .ret [pgV R ln h rc c,.int .i64 1] []))),
  (21,loopF z (.ite (allB (pC ln) h) (.ret (.exit 6) [pgV R ln h rc c,.undef] []) (.ret .ret [pgV R ln h rc c,.int .i64 5] []))),
  (26,loopF t (.ite (allB (pD2 R ln) h) (.ret (.exit 8) [.undef] []) (.ret .ret [.int .i64 14] [])))]
theorem i36 (r:Nat->Int) (n:Nat) (c:Option Nat) (x i:Nat) (s:Nat->Bool):iterR P18 G18 A18F noneO 0 36 [] 4 (v36 r n c x i) [bb36 s] =
(
 bif decide (Int.ofNat i<Int.ofNat n) then
 bif decide (0<=Int.ofNat i)&&decide (Int.ofNat i<Int.ofNat n) then
 bif decide (0<=r i)&&decide (r i<256) then
 bif ((0:Nat)+(r i).toNat).blt 256 then
 bif s ((0:Nat)+(r i).toNat) then
 some ((.normal,[rowV r n c,.ptr 0 0 0 0,.int .i64 (.ofNat x),.int .i64 (IntKind.i64.wrap (Int.ofNat i+1))],[bb36 s]))
 else
 bif decide (0<=Int.ofNat i)&&decide (Int.ofNat i<Int.ofNat n) then
 bif decide (0<=r i)&&decide (r i<256) then
 bif ((0:Nat)+(r i).toNat).blt 256&&true&&true&&true then
 some ((.normal,[rowV r n c,.ptr 0 0 0 0,.int .i64 (IntKind.i64.wrap (Int.ofNat x+1)),.int .i64 (IntKind.i64.wrap (Int.ofNat i+1))],[bb36 fun e =>
 bif e==(0:Nat)+(r i).toNat then true
 else s e]))
 else none else none else none else none else none else none else
 some ((.exit 0,[.int .i64 (.ofNat x)],[bb36 s]))):=by kernel_rfl
theorem coloursT (r:Nat->Int) (n:Nat) (c:Option Nat) (hn:n<=1000) (hr:∀ j,j<n->0<=r j/\r j<256):ToldOk P18 G18 36 [rowV r n c] (.int .i64 (cN r n)):=by
 have hl:LoopOk P18 G18 (A18F 36) 36 4 (litS (v36 r n c 0 0) [bb36 fun _=>false] (.exit 0) [.int .i64 (cN r n)] [bb36 (sN r n)]):=by
  refine loop_steps hm18 (by kernel_rfl) (fun i=>v36 r n c (cN r i) i) (fun i=>[bb36 (sN r i)]) (n:=n) (fun i hi=>?_) ?_
  ·have e1:cN r (i+1) = bif sN r i (r i).toNat then cN r i else cN r i+1:=rfl
   have e2:sN r (i+1) = fun e=>bif e==(r i).toNat then true else sN r i e:=rfl
   have hb:cN r i<=i:=by
    clear e1 e2
    induction i with
    | zero=>exact Nat.le_refl _
    | succ i ih =>
     have:=ih (by omega)
     show (bif sN r i (r i).toNat then cN r i else cN r i+1)<=i+1
     cases sN r i (r i).toNat
     ·show cN r i+1<=i+1; omega
     ·show cN r i<=i+1; omega
   rw [e1,e2]
   have h1:=hr i hi
   clear e1 e2 hr
   generalize cN r i = x at *
   generalize sN r i = s at *
   cases hs:s (r i).toNat
   ·refine Step.mk0 (A:=A18F) (m:=0) none_ok rfl rfl loops0 (h1:=[bb36 fun e=>bif e==(r i).toNat then true else s e]) ?_ (.refl _)
    rw [i36,up1 (by omega),up1 (by omega),Nat.zero_add,hs]
    (repeat (first | refine BS ?_ | refine BF ?_))
    rfl
   ·refine Step.mk0 (A:=A18F) (m:=0) none_ok rfl rfl loops0 (h1:=[bb36 s]) ?_ (.cons ⟨rfl,rfl,rfl,id,fun j hj=>?_⟩ .nil)
    ·rw [i36,up1 (by omega),up1 (by omega),Nat.zero_add,hs]
     (repeat (first | refine BS ?_ | refine BF ?_))
     rfl
    ·show [T.bool (bif j==(r i).toNat then true else s j)] = [T.bool (s j)]
     by_cases q:j = (r i).toNat
     ·rw [q,hs]; simp
     ·rw [show (j==(r i).toNat) = false by simpa using q]; rfl
  ·refine Last.mk0 (A:=A18F) (m:=0) none_ok rfl rfl loops0 (h1:=[bb36 (sN r n)]) (by simp) ?_ (.refl _)
   rw [i36]
   (repeat (first | refine BS ?_ | refine BF ?_))
   rfl
 generalize cN r n = x at *
 generalize sN r n = s at *
 refine stepL_told hm18 hn18 none_ok (A:=A18F) (m:=0) (by kernel_rfl) (loops1 hl) ?_
 rw [(show stepL P18 G18 A18F noneO 0 36 [(4,litS (v36 r n c 0 0) [bb36 fun _=>false] (.exit 0) [.int .i64 x] [bb36 s])] [rowV r n c] =
(
 bif weakF (v36 r n c (0:Int) (nat_lit 0)) [bb36 fun e=>false] (v36 r n c (0:Int) (nat_lit 0)) [bb36 fun e=>false] then
 some (.int .i64 (.ofNat x))
 else
 none) from by kernel_rfl)]
 (repeat (first | refine BS ?_ | refine BF ?_))
 rfl
theorem sN_iff (r:Nat->Int):∀ n e,sN r n e = true ↔ ∃ j,j<n/\(r j).toNat = e
 | 0,e=>⟨fun h=>(by cases h),fun ⟨j,h,_⟩=>by omega⟩
 | n+1,e=>by
  have ih:=sN_iff r n e
  show (bif e==(r n).toNat then true else sN r n e) = true ↔ _
  by_cases q:e = (r n).toNat
  ·rw [show (e==(r n).toNat) = true by simpa using q]
   exact ⟨fun _=>⟨n,by omega,q.symm⟩,fun _=>rfl⟩
  ·rw [show (e==(r n).toNat) = false by simpa using q,cond_false,ih]
   constructor
   ·rintro ⟨j,h1,h2⟩; exact ⟨j,by omega,h2⟩
   ·rintro ⟨j,h1,h2⟩
    refine ⟨j,?_,h2⟩
    by_cases e:j = n
    ·subst e; exact absurd h2.symm q
    ·omega
theorem filter_or (p:Int->Bool) (a:Int):∀ l:List Int,l.Pairwise (·<·)->(l.filter fun v=>p v || decide (a = v)).length = (l.filter p).length+(if a ∈ l/\p a = false then 1 else 0)
 | [],_=>rfl
 | v :: l,h=>by
  rw [List.pairwise_cons] at h
  have ih:=filter_or p a l h.2
  rw [List.filter_cons,List.filter_cons]
  by_cases q:a = v
  ·subst q
   have hn:¬ a ∈ l:=fun hm=>by have:=h.1 a hm; omega
   rw [if_neg (by simp [hn])] at ih
   cases hp:p a
   ·simp [ih]
   ·simp [hp,ih]
  ·have e1:decide (a = v) = false:=by simpa using q
   have e2:(a ∈ v :: l) = (a ∈ l):=by simp [q]
   simp only [e1,Bool.or_false,e2]
   cases p v
   ·simpa using ih
   ·rw [if_pos rfl,if_pos rfl,List.length_cons,List.length_cons,ih]; omega
theorem cN_kK (r:Nat->Int):∀ n,(∀ j,j<n->0<=r j/\r j<256)->cN r n = kK r n
 | 0,_=>by
  show 0 = kK r 0
  unfold kK kindL
  rw [List.length_eq_zero_iff.2 (List.filter_eq_nil_iff.2 fun a _=>by simp)]
 | n+1,h=>by
  have ih:=cN_kK r n fun j hj=>h j (by omega)
  have hn:=h n (by omega)
  show (bif sN r n (r n).toNat then cN r n else cN r n+1) = kK r (n+1)
  unfold kK kindL at *
  rw [ih]
  have e:(fun v=>(List.range (n+1)).any fun j=>decide (r j = v)) = fun v=>((List.range n).any fun j=>decide (r j = v)) || decide (r n = v):=by
   funext v
   rw [List.range_succ,List.any_append]
   simp
  rw [e,filter_or _ _ _ (by rw [List.pairwise_map]; exact List.pairwise_lt_range.imp (fun {a b} h=>by show (a:Int)<(b:Int); omega))]
  have hm:r n ∈ (List.range 256).map Int.ofNat:=by
   rw [List.mem_map]
   exact ⟨(r n).toNat,List.mem_range.2 (by omega),by show (((r n).toNat:Nat):Int) = r n; omega⟩
  have hs:sN r n (r n).toNat = (List.range n).any fun j=>decide (r j = r n):=by
   rw [Bool.eq_iff_iff,sN_iff,List.any_eq_true]
   constructor
   ·rintro ⟨j,h1,h2⟩
    have:=h j (by omega)
    exact ⟨j,List.mem_range.2 h1,by rw [decide_eq_true_eq]; omega⟩
   ·rintro ⟨j,h1,h2⟩
    rw [decide_eq_true_eq] at h2
    exact ⟨j,List.mem_range.1 h1,by rw [h2]⟩
  rw [hs]
  cases (List.range n).any fun j=>decide (r j = r n)
  ·rw [if_pos ⟨hm,rfl⟩]; rfl
  ·rw [if_neg (by simp)]; rfl
open Go.Proofs
section
variable (R:Nat->Nat->Int) (ln:Nat->Nat) (h:Nat) (rc:Nat->Option Nat) (c:Option Nat)
theorem i21a (i:Nat):iterR P18 G18 A18 noneO 0 21 [] 4 (v21 R ln h rc c i) [] =
(
 bif decide (Int.ofNat i<Int.ofNat h) then
 bif decide (0<=Int.ofNat i)&&decide (Int.ofNat i<Int.ofNat h) then
 bif decide (16<Int.ofNat (ln i)) then
 some ((.ret,v21 R ln h rc c (nat_lit 3),[]))
 else
 some ((.normal,[pgV R ln h rc c,.int .i64 (IntKind.i64.wrap (Int.ofNat i+1))],[]))
 else none else
 some ((.exit 0,[pgV R ln h rc c,.undef],[]))):=by kernel_rfl
theorem i21i (i k:Nat):iterR P18 G18 A18 noneO 0 21 [] 16 (v21i R ln h rc c i k) [] =
(
 bif decide (0<=Int.ofNat i)&&decide (Int.ofNat i<Int.ofNat h) then
 bif decide (Int.ofNat k<Int.ofNat (ln i)) then
 bif decide (0<=Int.ofNat i)&&decide (Int.ofNat i<Int.ofNat h) then
 bif decide (0<=Int.ofNat k)&&decide (Int.ofNat k<Int.ofNat (ln i)) then
 bif decide (R i k = 0) then
 some ((.ret,v21i R ln h rc c (nat_lit 1) i,[]))
 else
 bif decide (0<=Int.ofNat i)&&decide (Int.ofNat i<Int.ofNat h) then
 bif decide (0<=Int.ofNat k)&&decide (Int.ofNat k<Int.ofNat (ln i)) then
 bif decide ((6:Int)<R i k) then
 some ((.ret,v21i R ln h rc c (nat_lit 1) i,[]))
 else
 some ((.normal,[pgV R ln h rc c,.int .i64 (.ofNat i),.int .i64 (IntKind.i64.wrap (Int.ofNat k+1))],[]))
 else none else none else none else none else
 some ((.exit 4,[pgV R ln h rc c,.undef,.int .i64 (.ofNat i)],[]))
 else
 none):=by kernel_rfl
theorem i21b (i:Nat) (x:List T->Heap->Ex->List T->Heap->Prop):iterR P18 G18 A18 noneO 0 21 (l21b x R ln h rc c i) 11 (v21 R ln h rc c i) [] =
(
 bif decide (Int.ofNat i<Int.ofNat h) then
 bif decide (0<=Int.ofNat i)&&decide (Int.ofNat i<Int.ofNat h) then
 bif decide (Int.ofNat (ln i) = 0) then
 some ((.ret,v21 R ln h rc c (nat_lit 1),[]))
 else
 bif allB (pK R i) (ln i) then
 bif decF (x [.view 1 h (fun i=>[.view 1 (ln i) (fun j=>[.int .u8 (R i j)]) (rc i)]) c,.int .i64 (.ofNat i),.int .i64 0] [] (.exit 4) [.view 1 h (fun i=>[.view 1 (ln i) (fun j=>[.int .u8 (R i j)]) (rc i)]) c,.undef,.int .i64 (.ofNat i)] []) then
 some ((.normal,[pgV R ln h rc c,.int .i64 (IntKind.i64.wrap (Int.ofNat i+1))],[]))
 else none else
 bif decF (x [.view 1 h (fun i=>[.view 1 (ln i) (fun j=>[.int .u8 (R i j)]) (rc i)]) c,.int .i64 (.ofNat i),.int .i64 0] [] .ret [.view 1 h (fun i=>[.view 1 (ln i) (fun j=>[.int .u8 (R i j)]) (rc i)]) c,.int .i64 1,.int .i64 (.ofNat i)] []) then
 some ((.ret,v21 R ln h rc c (nat_lit 1),[]))
 else none else none else
 some ((.exit 2,[pgV R ln h rc c,.undef],[]))):=by kernel_rfl
theorem i21c (i:Nat):iterR P18 G18 A18 noneO 0 21 [] 21 (v21 R ln h rc c i) [] =
(
 bif decide (Int.ofNat i<Int.ofNat h) then
 bif decide (0<=Int.ofNat i)&&decide (Int.ofNat i<Int.ofNat h) then
 bif decide (0<Int.ofNat h) then
 bif !decide (Int.ofNat (ln i) = Int.ofNat (ln (0:Nat))) then
 some ((.ret,v21 R ln h rc c (nat_lit 5),[]))
 else
 some ((.normal,[pgV R ln h rc c,.int .i64 (IntKind.i64.wrap (Int.ofNat i+1))],[]))
 else none else none else
 some ((.exit 6,[pgV R ln h rc c,.undef],[]))):=by kernel_rfl
theorem i21d (i x:Nat) (p:List T->T->Prop):iterR P18 G18 A18 (K21 p x) 0 21 [] 26 (v21 R ln h rc c i) [] =
(
 bif decide (Int.ofNat i<Int.ofNat h) then
 bif decide (0<=Int.ofNat i)&&decide (Int.ofNat i<Int.ofNat h) then
 bif decF (p [.view 1 (ln i) (fun j=>[.int .u8 (R i j)]) (rc i)] (.int .i64 (.ofNat x))) then
 bif decide (2<Int.ofNat x) then
 some ((.ret,[.int .i64 14],[]))
 else
 some ((.normal,[pgV R ln h rc c,.int .i64 (IntKind.i64.wrap (Int.ofNat i+1))],[]))
 else none else none else
 some ((.exit 8,[.undef],[]))):=by kernel_rfl
theorem k21 (x y z t:List T->Heap->Ex->List T->Heap->Prop):stepL P18 G18 A18 noneO 0 21 (l21 x y z t R ln h rc c) [pgV R ln h rc c] =
(
 bif decide (31<Int.ofNat h) then
 some (.int .i64 3)
 else
 bif allB (pA ln) h then
 bif decF (x [.view 1 h (fun i=>[.view 1 (ln i) (fun j=>[.int .u8 (R i j)]) (rc i)]) c,.int .i64 0] [] (.exit 0) [.view 1 h (fun i=>[.view 1 (ln i) (fun j=>[.int .u8 (R i j)]) (rc i)]) c,.undef] []) then
 bif decide ((Int.ofNat h).tmod 2 = 0) then
 some (.int .i64 1)
 else
 bif allB (pB2 R ln) h then
 bif decF (y [.view 1 h (fun i=>[.view 1 (ln i) (fun j=>[.int .u8 (R i j)]) (rc i)]) c,.int .i64 0] [] (.exit 2) [.view 1 h (fun i=>[.view 1 (ln i) (fun j=>[.int .u8 (R i j)]) (rc i)]) c,.undef] []) then
 bif allB (pC ln) h then
 bif decF (z [.view 1 h (fun i=>[.view 1 (ln i) (fun j=>[.int .u8 (R i j)]) (rc i)]) c,.int .i64 0] [] (.exit 6) [.view 1 h (fun i=>[.view 1 (ln i) (fun j=>[.int .u8 (R i j)]) (rc i)]) c,.undef] []) then
 bif allB (pD2 R ln) h then
 bif decF (t [.view 1 h (fun i=>[.view 1 (ln i) (fun j=>[.int .u8 (R i j)]) (rc i)]) c,.int .i64 0] [] (.exit 8) [.undef] []) then
 some (.int .i64 0)
 else none else
 bif decF (t [.view 1 h (fun i=>[.view 1 (ln i) (fun j=>[.int .u8 (R i j)]) (rc i)]) c,.int .i64 0] [] .ret [.int .i64 14] []) then
 some (.int .i64 14)
 else none else none else
 bif decF (z [.view 1 h (fun i=>[.view 1 (ln i) (fun j=>[.int .u8 (R i j)]) (rc i)]) c,.int .i64 0] [] .ret [.view 1 h (fun i=>[.view 1 (ln i) (fun j=>[.int .u8 (R i j)]) (rc i)]) c,.int .i64 5] []) then
 some (.int .i64 5)
 else none else none else
 bif decF (y [.view 1 h (fun i=>[.view 1 (ln i) (fun j=>[.int .u8 (R i j)]) (rc i)]) c,.int .i64 0] [] .ret [.view 1 h (fun i=>[.view 1 (ln i) (fun j=>[.int .u8 (R i j)]) (rc i)]) c,.int .i64 1] []) then
 some (.int .i64 1)
 else none else none else
 bif decF (x [.view 1 h (fun i=>[.view 1 (ln i) (fun j=>[.int .u8 (R i j)]) (rc i)]) c,.int .i64 0] [] .ret [.view 1 h (fun i=>[.view 1 (ln i) (fun j=>[.int .u8 (R i j)]) (rc i)]) c,.int .i64 3] []) then
 some (.int .i64 3)
 else
 none):=by kernel_rfl
end
section
variable {R:Nat->Nat->Int} {ln:Nat->Nat} {h:Nat} {rc:Nat->Option Nat} {c:Option Nat}
theorem ref21a (hh:h<=1000):(allB (pA ln) h = true->LoopOk P18 G18 (A18 21) 21 4 (litS (v21 R ln h rc c 0) [] (.exit 0) [pgV R ln h rc c,.undef] []))/\(allB (pA ln) h = false->LoopOk P18 G18 (A18 21) 21 4 (litS (v21 R ln h rc c 0) [] .ret [pgV R ln h rc c,.int .i64 3] [])):=by
 refine loop_scan hm18 (by kernel_rfl) (fun i=>v21 R ln h rc c i) (fun _=>[]) (pA ln) (n:=h) (fun i hi _ hg=>?_) (fun i hi _ hg=>?_) (fun _=>?_)
 ·have hg:ln i<=16:=of_decide_eq_true hg
  refine Step.mk0 (A:=A18) (m:=0) none_ok rfl rfl loops0 (h1:=[]) ?_ .nil
  rw [i21a,up1 (by omega)]
  (repeat (first | refine BS ?_ | refine BF ?_))
  rfl
 ·have hg:¬ ln i<=16:=of_decide_eq_false hg
  refine Last.mk0 (A:=A18) (m:=0) none_ok rfl rfl loops0 (h1:=[]) (by simp) ?_ .nil
  rw [i21a]
  (repeat (first | refine BS ?_ | refine BF ?_))
  rfl
 ·refine Last.mk0 (A:=A18) (m:=0) none_ok rfl rfl loops0 (h1:=[]) (by simp) ?_ .nil
  rw [i21a]
  (repeat (first | refine BS ?_ | refine BF ?_))
  rfl
theorem ref21i {i:Nat} (hi:i<h) (hh:h<=1000) (hln:ln i<=1000):(allB (pK R i) (ln i) = true->LoopOk P18 G18 (A18 21) 21 16 (litS (v21i R ln h rc c i 0) [] (.exit 4) [pgV R ln h rc c,.undef,.int .i64 i] []))/\(allB (pK R i) (ln i) = false->LoopOk P18 G18 (A18 21) 21 16 (litS (v21i R ln h rc c i 0) [] .ret [pgV R ln h rc c,.int .i64 1,.int .i64 i] [])):=by
 refine loop_scan hm18 (by kernel_rfl) (fun k=>v21i R ln h rc c i k) (fun _=>[]) (pK R i) (n:=ln i) (fun k hk _ hg=>?_) (fun k hk _ hg=>?_) (fun _=>?_)
 ·simp only [pK,Bool.not_eq_true',Bool.or_eq_false_iff,decide_eq_false_iff_not] at hg
  refine Step.mk0 (A:=A18) (m:=0) none_ok rfl rfl loops0 (h1:=[]) ?_ .nil
  rw [i21i,up1 (by omega)]
  (repeat (first | refine BS ?_ | refine BF ?_))
  rfl
 ·refine Last.mk0 (A:=A18) (m:=0) none_ok rfl rfl loops0 (h1:=[]) (by simp) ?_ .nil
  rw [i21i]
  by_cases q:R i k = 0
  ·(repeat (first | refine BS ?_ | refine BF ?_))
   rfl
  ·have q2:6<R i k:=by
    simp only [pK,Bool.not_eq_false',Bool.or_eq_true,decide_eq_true_eq] at hg
    omega
   (repeat (first | refine BS ?_ | refine BF ?_))
   rfl
 ·refine Last.mk0 (A:=A18) (m:=0) none_ok rfl rfl loops0 (h1:=[]) (by simp) ?_ .nil
  rw [i21i]
  (repeat (first | refine BS ?_ | refine BF ?_))
  rfl
theorem ref21b (hh:h<=1000) (hln:∀ i,i<h->ln i<=1000):(allB (pB2 R ln) h = true->LoopOk P18 G18 (A18 21) 21 11 (litS (v21 R ln h rc c 0) [] (.exit 2) [pgV R ln h rc c,.undef] []))/\(allB (pB2 R ln) h = false->LoopOk P18 G18 (A18 21) 21 11 (litS (v21 R ln h rc c 0) [] .ret [pgV R ln h rc c,.int .i64 1] [])):=by
 obtain ⟨x,hx⟩:=is_loop P18 G18 (A18 21) 21 16
 refine loop_scan hm18 (by kernel_rfl) (fun i=>v21 R ln h rc c i) (fun _=>[]) (pB2 R ln) (n:=h) (fun i hi _ hg=>?_) (fun i hi _ hg=>?_) (fun _=>?_)
 ·simp only [pB2,Bool.and_eq_true,Bool.not_eq_true',decide_eq_false_iff_not] at hg
  obtain ⟨g1,g2⟩:=hg
  have hl:=(ref21i (R:=R) (rc:=rc) (c:=c) hi hh (hln i hi)).1 g2
  clear hln
  refine Step.mk0 (A:=A18) (m:=0) none_ok rfl rfl (l:=l21b x R ln h rc c i) (loops1 (loopF_ok hx _)) (h1:=[]) ?_ .nil
  rw [i21b,up1 (by omega)]
  (repeat (first | refine BS ?_ | refine BF ?_))
  rfl
 ·have hl:=(ref21i (R:=R) (rc:=rc) (c:=c) hi hh (hln i hi)).2
  clear hln
  refine Last.mk0 (A:=A18) (m:=0) none_ok rfl rfl (l:=l21b x R ln h rc c i) (loops1 (loopF_ok hx _)) (h1:=[]) (by simp) ?_ .nil
  rw [i21b]
  by_cases q:ln i = 0
  ·(repeat (first | refine BS ?_ | refine BF ?_))
   rfl
  ·have g2:allB (pK R i) (ln i) = false:=by
    unfold pB2 at hg
    rw [dF q] at hg
    exact hg
   have hl:=hl g2
   refine BS ?_
   refine BS ?_
   refine BF ?_
   rw [g2]
   (repeat (first | refine BS ?_ | refine BF ?_))
   rfl
 ·refine Last.mk0 (A:=A18) (m:=0) none_ok rfl rfl (l:=l21b x R ln h rc c h) (loops1 (loopF_ok hx _)) (h1:=[]) (by simp) ?_ .nil
  rw [i21b]
  clear hln
  (repeat (first | refine BS ?_ | refine BF ?_))
  rfl
theorem ref21c (hh:h<=1000):(allB (pC ln) h = true->LoopOk P18 G18 (A18 21) 21 21 (litS (v21 R ln h rc c 0) [] (.exit 6) [pgV R ln h rc c,.undef] []))/\(allB (pC ln) h = false->LoopOk P18 G18 (A18 21) 21 21 (litS (v21 R ln h rc c 0) [] .ret [pgV R ln h rc c,.int .i64 5] [])):=by
 refine loop_scan hm18 (by kernel_rfl) (fun i=>v21 R ln h rc c i) (fun _=>[]) (pC ln) (n:=h) (fun i hi _ hg=>?_) (fun i hi _ hg=>?_) (fun _=>?_)
 ·have hg:ln i = ln 0:=of_decide_eq_true hg
  refine Step.mk0 (A:=A18) (m:=0) none_ok rfl rfl loops0 (h1:=[]) ?_ .nil
  rw [i21c,up1 (by omega),hg]
  (repeat (first | refine BS ?_ | refine BF ?_))
  rfl
 ·have hg:¬ ln i = ln 0:=of_decide_eq_false hg
  refine Last.mk0 (A:=A18) (m:=0) none_ok rfl rfl loops0 (h1:=[]) (by simp) ?_ .nil
  rw [i21c]
  (repeat (first | refine BS ?_ | refine BF ?_))
  rfl
 ·refine Last.mk0 (A:=A18) (m:=0) none_ok rfl rfl loops0 (h1:=[]) (by simp) ?_ .nil
  rw [i21c]
  (repeat (first | refine BS ?_ | refine BF ?_))
  rfl
theorem ref21d (hh:h<=1000) (hln:∀ i,i<h->ln i<=1000) (hR:∀ i,i<h->∀ j,j<ln i->0<=R i j/\R i j<256):(allB (pD2 R ln) h = true->LoopOk P18 G18 (A18 21) 21 26 (litS (v21 R ln h rc c 0) [] (.exit 8) [.undef] []))/\(allB (pD2 R ln) h = false->LoopOk P18 G18 (A18 21) 21 26 (litS (v21 R ln h rc c 0) [] .ret [.int .i64 14] [])):=by
 obtain ⟨p,hp⟩:=is_val P18 G18 36
 have hK:∀ x,OrcOk P18 G18 (K21 p x):=fun x=>told_add none_ok (callF_told hp)
 refine loop_scan hm18 (by kernel_rfl) (fun i=>v21 R ln h rc c i) (fun _=>[]) (pD2 R ln) (n:=h) (fun i hi _ hg=>?_) (fun i hi _ hg=>?_) (fun _=>?_)
 ·have hg:cN (R i) (ln i)<=2:=of_decide_eq_true hg
  have t:=coloursT (R i) (ln i) (rc i) (hln i hi) (hR i hi)
  clear hln hR
  generalize cN (R i) (ln i) = k at *
  refine Step.mk0 (A:=A18) (m:=0) (hK k) rfl rfl loops0 (h1:=[]) ?_ .nil
  rw [i21d,up1 (by omega)]
  (repeat (first | refine BS ?_ | refine BF ?_))
  rfl
 ·have hg:¬ cN (R i) (ln i)<=2:=of_decide_eq_false hg
  have t:=coloursT (R i) (ln i) (rc i) (hln i hi) (hR i hi)
  clear hln hR
  generalize cN (R i) (ln i) = k at *
  refine Last.mk0 (A:=A18) (m:=0) (hK k) rfl rfl loops0 (h1:=[]) (by simp) ?_ .nil
  rw [i21d]
  (repeat (first | refine BS ?_ | refine BF ?_))
  rfl
 ·clear hln hR
  refine Last.mk0 (A:=A18) (m:=0) (hK 0) rfl rfl loops0 (h1:=[]) (by simp) ?_ .nil
  rw [i21d]
  (repeat (first | refine BS ?_ | refine BF ?_))
  rfl
theorem mnF_at (r:Nat->Int):∀ i j,j<=i->mnF r i<=r j
 | 0,j,hj=>by obtain rfl:j = 0:=by omega
              exact Int.le_refl _
 | i+1,j,hj=>by
  unfold mnF
  by_cases q:r (i+1)<mnF r i
  ·rw [dT q,cond_true]
   by_cases e:j = i+1
   ·rw [e]; omega
   ·have:=mnF_at r i j (by omega); omega
  ·rw [dF q,cond_false]
   by_cases e:j = i+1
   ·rw [e]; omega
   ·exact mnF_at r i j (by omega)
theorem mxF_at (r:Nat->Int):∀ i j,j<=i->r j<=mxF r i
 | 0,j,hj=>by obtain rfl:j = 0:=by omega
              exact Int.le_refl _
 | i+1,j,hj=>by
  unfold mxF
  by_cases q:mxF r i<r (i+1)
  ·rw [dT q,cond_true]
   by_cases e:j = i+1
   ·rw [e]; omega
   ·have:=mxF_at r i j (by omega); omega
  ·rw [dF q,cond_false]
   by_cases e:j = i+1
   ·rw [e]; omega
   ·exact mxF_at r i j (by omega)
theorem pB2_eq {i:Nat} (hR:∀ j,j<ln i->0<=R i j/\R i j<256):pB2 R ln i = pB R ln i:=by
 unfold pB pB2
 by_cases q:ln i = 0
 ·rw [dT q]; rfl
 rw [dF q,Bool.not_false,Bool.true_and,Bool.false_or,Bool.eq_iff_iff,allB_iff]
 simp only [pK,Bool.not_eq_true',Bool.or_eq_false_iff,decide_eq_false_iff_not]
 constructor
 ·intro hk
  have g1:=mnF_ge (R i) 1 (ln i - 1) fun j hj=>by have:=hk j (by omega); have:=hR j (by omega); omega
  have g2:=mxF_le (R i) 6 (ln i - 1) fun j hj=>by have:=hk j (by omega); omega
  omega
 ·rintro ⟨g1,g2⟩ j hj
  have h1:=mnF_at (R i) (ln i - 1) j (by omega)
  have h2:=mxF_at (R i) (ln i - 1) j (by omega)
  omega
theorem refCheckT (hh:h<=1000) (hln:∀ i,i<h->ln i<=1000) (hR:∀ i,i<h->∀ j,j<ln i->0<=R i j/\R i j<256):ToldOk P18 G18 21 [pgV R ln h rc c] (.int .i64 (pcE R ln h)):=by
 obtain ⟨x,hx⟩:=is_loop P18 G18 (A18 21) 21 4
 obtain ⟨y,hy⟩:=is_loop P18 G18 (A18 21) 21 11
 obtain ⟨z,hz⟩:=is_loop P18 G18 (A18 21) 21 21
 obtain ⟨t,ht⟩:=is_loop P18 G18 (A18 21) 21 26
 refine stepL_told hm18 hn18 none_ok (A:=A18) (m:=0) (l:=l21 x y z t R ln h rc c) (by kernel_rfl) (loopsC (loopF_ok hx _) (loopsC (loopF_ok hy _) (loopsC (loopF_ok hz _) (loops1 (loopF_ok ht _))))) ?_
 have eb:allB (pB2 R ln) h = allB (pB R ln) h:=allB_congr fun i hi=>pB2_eq (hR i hi)
 have ed:allB (pD2 R ln) h = allB (pD R ln) h:=allB_congr fun i hi=>by unfold pD pD2; rw [cN_kK _ _ (hR i hi)]
 have ha:=ref21a (R:=R) (ln:=ln) (rc:=rc) (c:=c) hh
 have hb:=ref21b (R:=R) (ln:=ln) (rc:=rc) (c:=c) hh hln
 have hc:=ref21c (R:=R) (ln:=ln) (rc:=rc) (c:=c) hh
 have hd:=ref21d (R:=R) (ln:=ln) (rc:=rc) (c:=c) hh hln hR
 rw [k21,tmod_two]
 rw [eb] at *
 rw [ed] at *
 clear hln hR eb ed
 unfold pcE
 have key:decide ((31:Int)<Int.ofNat h) = decide (31<h):=by
  by_cases q:31<h
  ·rw [dT q,dT (by rw [ofNatE]; omega)]
  ·rw [dF q,dF (by rw [ofNatE]; omega)]
 rw [key]
 cases decide (31<h)
 ·rw [cond_false,cond_false]
  cases qa:allB (pA ln) h
  ·rw [cond_false,cond_false]
   exact bift (loopF_yes hx (ha.2 qa)) rfl
  ·rw [cond_true,cond_true]
   refine bift (loopF_yes hx (ha.1 qa)) ?_
   cases decide (h % 2 = 0)
   ·rw [cond_false,cond_false]
    cases qb:allB (pB R ln) h
    ·rw [cond_false,cond_false]; exact bift (loopF_yes hy (hb.2 qb)) rfl
    ·rw [cond_true,cond_true]
     refine bift (loopF_yes hy (hb.1 qb)) ?_
     cases qc:allB (pC ln) h
     ·rw [cond_false,cond_false]; exact bift (loopF_yes hz (hc.2 qc)) rfl
     ·rw [cond_true,cond_true]
      refine bift (loopF_yes hz (hc.1 qc)) ?_
      cases qd:allB (pD R ln) h
      ·rw [cond_false,cond_false]; exact bift (loopF_yes ht (hd.2 qd)) rfl
      ·rw [cond_true,cond_true]; exact bift (loopF_yes ht (hd.1 qd)) rfl
   ·rfl
 ·rfl
end
open Go.Proofs
def v16g (R S:Nat->Nat->Int) (ln lm:Nat->Nat) (h h2:Nat) (rc rd:Nat->Option Nat) (c d:Option Nat) (i:Nat):List T:=[pgV R ln h rc c,pgV S lm h2 rd d,.int .i64 i]
def eqR (R S:Nat->Nat->Int) (ln lm:Nat->Nat) (i:Nat):Bool:=decide (ln i = lm i)&&allB (fun j=>decide (R i j = S i j)) (ln i)
def eqP (R S:Nat->Nat->Int) (ln lm:Nat->Nat) (h h2:Nat):Bool:=decide (h = h2)&&allB (eqR R S ln lm) h
noncomputable def l16g (x:List T->Heap->Ex->List T->Heap->Prop) (b:Bool):List (Nat × (List T->Heap->LT)):=[(4,loopF x (.ite b (.ret (.exit 0) [.undef] []) (.ret .ret [.int .i64 1] [])))]
theorem i16g (R S:Nat->Nat->Int) (ln lm:Nat->Nat) (h:Nat) (rc rd:Nat->Option Nat) (c d:Option Nat) (i:Nat):iterR P18 G18 A18 noneO 0 16 [] 4 (v16g R S ln lm h h rc rd c d i) [] =
(
 bif decide (Int.ofNat i<Int.ofNat h) then
 bif decide (0<=Int.ofNat i)&&decide (Int.ofNat i<Int.ofNat h) then
 bif bytesF (fun j=>[.int .u8 (R i j)]) (ln i) then
 bif decide (0<=Int.ofNat i)&&decide (Int.ofNat i<Int.ofNat h) then
 bif bytesF (fun j=>[.int .u8 (S i j)]) (lm i) then
 bif !decide (strF (fun j=>[.int .u8 (R i j)]) (ln i) = strF (fun j=>[.int .u8 (S i j)]) (lm i)) then
 some ((.ret,[.int .i64 1],[]))
 else
 some ((.normal,[pgV R ln h rc c,pgV S lm h rd d,.int .i64 (IntKind.i64.wrap (Int.ofNat i+1))],[]))
 else none else none else none else none else
 some ((.exit 0,[.undef],[]))):=by kernel_rfl
theorem eqR_iff (R S:Nat->Nat->Int) (ln lm:Nat->Nat) (i:Nat):eqR R S ln lm i = true ↔ ln i = lm i/\∀ j,j<ln i->R i j = S i j:=by
 unfold eqR
 rw [Bool.and_eq_true,allB_iff]
 simp only [decide_eq_true_eq]
theorem eqP_iff (R S:Nat->Nat->Int) (ln lm:Nat->Nat) (h h2:Nat):eqP R S ln lm h h2 = true ↔ h = h2/\∀ i,i<h->ln i = lm i/\∀ j,j<ln i->R i j = S i j:=by
 unfold eqP
 rw [Bool.and_eq_true,allB_iff]
 simp only [decide_eq_true_eq,eqR_iff]
theorem strF_len {f:Nat->Int} {n:Nat}:(strF (fun j=>[T.int .u8 (f j)]) n).length = n:=by rw [strF_eq]; simp
theorem eqR_str {R S:Nat->Nat->Int} {ln lm:Nat->Nat} {i:Nat} (hR:∀ j,j<ln i->0<=R i j/\R i j<256) (hS:∀ j,j<lm i->0<=S i j/\S i j<256):decide (strF (fun j=>[T.int .u8 (R i j)]) (ln i) = strF (fun j=>[T.int .u8 (S i j)]) (lm i)) = eqR R S ln lm i:=by
 rw [Bool.eq_iff_iff,eqR_iff,decide_eq_true_eq]
 constructor
 ·intro q
  have e:ln i = lm i:=by have:=congrArg List.length q; rwa [strF_len,strF_len] at this
  rw [← e] at q
  exact ⟨e,strF_inj hR (fun j hj=>hS j (by omega)) q⟩
 ·rintro ⟨e,q⟩
  rw [← e,strF_eq,strF_eq]
  refine List.map_inj_left.2 fun j hj=>?_
  rw [q j (List.mem_range.1 hj)]
theorem differGT (R S:Nat->Nat->Int) (ln lm:Nat->Nat) (h h2:Nat) (rc rd:Nat->Option Nat) (c d:Option Nat) (hh:h<=1000) (hR:∀ i,i<h->∀ j,j<ln i->0<=R i j/\R i j<256) (hS:∀ i,i<h2->∀ j,j<lm i->0<=S i j/\S i j<256):ToldOk P18 G18 16 [pgV R ln h rc c,pgV S lm h2 rd d] (.int .i64 (bif eqP R S ln lm h h2 then 0 else 1)):=by
 obtain ⟨x,hx⟩:=is_loop P18 G18 (A18 16) 16 4
 by_cases q:h = h2
 ·subst q
  have hl:(allB (eqR R S ln lm) h = true->LoopOk P18 G18 (A18 16) 16 4 (litS (v16g R S ln lm h h rc rd c d 0) [] (.exit 0) [.undef] []))/\(allB (eqR R S ln lm) h = false->LoopOk P18 G18 (A18 16) 16 4 (litS (v16g R S ln lm h h rc rd c d 0) [] .ret [.int .i64 1] [])):=by
   refine loop_scan hm18 (by kernel_rfl) (fun i=>v16g R S ln lm h h rc rd c d i) (fun _=>[]) (eqR R S ln lm) (n:=h) (fun i hi _ hg=>?_) (fun i hi _ hg=>?_) (fun _=>?_)
   ·refine Step.mk0 (A:=A18) (m:=0) none_ok rfl rfl loops0 (h1:=[]) ?_ .nil
    rw [i16g,up1 (by omega),bytes_row,bytes_row,eqR_str (hR i hi) (hS i hi),hg]
    clear hR hS
    (repeat (first | refine BS ?_ | refine BF ?_))
    rfl
   ·refine Last.mk0 (A:=A18) (m:=0) none_ok rfl rfl loops0 (h1:=[]) (by simp) ?_ .nil
    rw [i16g,up1 (by omega),bytes_row,bytes_row,eqR_str (hR i hi) (hS i hi),hg]
    clear hR hS
    (repeat (first | refine BS ?_ | refine BF ?_))
    rfl
   ·refine Last.mk0 (A:=A18) (m:=0) none_ok rfl rfl loops0 (h1:=[]) (by simp) ?_ .nil
    rw [i16g]
    clear hR hS
    (repeat (first | refine BS ?_ | refine BF ?_))
    rfl
  clear hR hS
  unfold eqP
  rw [dT rfl,Bool.true_and]
  generalize allB (eqR R S ln lm) h = b at *
  refine stepL_told hm18 hn18 none_ok (A:=A18) (m:=0) (l:=l16g x b) (by kernel_rfl) (loops1 (loopF_ok hx _)) ?_
  rw [(show stepL P18 G18 A18 noneO 0 16 (l16g x b) [pgV R ln h rc c,pgV S lm h rd d] =
(
 bif !decide (Int.ofNat h = Int.ofNat h) then
 some (.int .i64 1)
 else
 bif b then
 bif decF (x [.view 1 h (fun i=>[.view 1 (ln i) (fun j=>[.int .u8 (R i j)]) (rc i)]) c,.view 1 h (fun i=>[.view 1 (lm i) (fun j=>[.int .u8 (S i j)]) (rd i)]) d,.int .i64 0] [] (.exit 0) [.undef] []) then
 some (.int .i64 0)
 else none else
 bif decF (x [.view 1 h (fun i=>[.view 1 (ln i) (fun j=>[.int .u8 (R i j)]) (rc i)]) c,.view 1 h (fun i=>[.view 1 (lm i) (fun j=>[.int .u8 (S i j)]) (rd i)]) d,.int .i64 0] [] .ret [.int .i64 1] []) then
 some (.int .i64 1)
 else
 none) from by kernel_rfl)]
  refine BF ?_
  cases b
  ·have:=hl.2 rfl
   (repeat (first | refine BS ?_ | refine BF ?_))
   rfl
  ·have:=hl.1 rfl
   (repeat (first | refine BS ?_ | refine BF ?_))
   rfl
 ·clear hR hS
  unfold eqP
  rw [dF q,Bool.false_and]
  refine stepL_told hm18 hn18 none_ok (A:=A18) (m:=0) (l:=l16g x true) (by kernel_rfl) (loops1 (loopF_ok hx _)) ?_
  rw [(show stepL P18 G18 A18 noneO 0 16 (l16g x true) [pgV R ln h rc c,pgV S lm h2 rd d] =
(
 bif !decide (Int.ofNat h = Int.ofNat h2) then
 some (.int .i64 1)
 else
 bif decF (x [.view 1 h (fun i=>[.view 1 (ln i) (fun j=>[.int .u8 (R i j)]) (rc i)]) c,.view 1 h2 (fun i=>[.view 1 (lm i) (fun j=>[.int .u8 (S i j)]) (rd i)]) d,.int .i64 0] [] (.exit 0) [.undef] []) then
 some (.int .i64 0)
 else
 none) from by kernel_rfl)]
  refine BS ?_
  rfl
open Go.Proofs
noncomputable def K40 (p:List T->T->Prop) (b:Bool):Orc:=noneO.add 53 (callF p fun _=>some (.int .i64 (bif b then 1 else 0)))
def v38 (r:Nat->Sti) (n:Nat) (c:Option Nat) (x:Int) (i:Nat):List T:=[srV r n c,.int .i64 x,.int .i64 i]
noncomputable def K38 (p:List T->T->Prop) (f:Nat) (x:Int):Orc:=noneO.add f (callF p fun _=>some (.int .i64 x))
def v37 (r:Nat->Sti) (n:Nat) (c:Option Nat) (i:Nat):List T:=[srV r n c,.int .i64 i]
noncomputable def K37 (p38 p39:List T->T->Prop) (x y:Int):Orc:=(noneO.add 38 (callF p38 fun _=>some (.int .i64 x))).add 39 (callF p39 fun _=>some (.int .i64 y))
def v53i (s:Sti) (a b:Nat):List T:=[.reg s.c,.int .i64 a,.int .i64 b]
def v53 (s:Sti) (a:Nat):List T:=[.reg s.c,.int .i64 a]
def g53i (s:Sti) (a k:Nat):Bool:=!(decide (s.a = (a:Int))&&decide (s.b = ((1+k:Nat):Int)))
def g53 (s:Sti) (k:Nat):Bool:=allB (g53i s (1+k)) (4 - (1+k))
noncomputable def l53i (x:List T->Heap->Ex->List T->Heap->Prop) (s:Sti) (a:Nat):List (Nat × (List T->Heap->LT)):=[(8,loopF x (.ite (allB (g53i s a) (4 - a)) (.ret (.exit 2) [.reg s.c,.undef,.int .i64 a] []) (.ret .ret [.reg s.c,.int .i64 1,.int .i64 a] [])))]
noncomputable def l53 (x:List T->Heap->Ex->List T->Heap->Prop) (s:Sti) (b:Bool):List (Nat × (List T->Heap->LT)):=[(5,loopF x (.ite b (.ret (.exit 0) [.undef] []) (.ret .ret [.int .i64 1] [])))]
theorem i53i (s:Sti) (a b:Nat):iterR P18 G18 A18 noneO 0 53 [] 8 (v53i s a b) [] =
(
 bif decide (IntKind.i64.wrap (Int.ofNat a+Int.ofNat b)<=(4:Int)) then
 bif decide (s.a = Int.ofNat a) then
 bif decide (s.b = Int.ofNat b) then
 some ((.ret,v53i s (nat_lit 1) a,[]))
 else
 some ((.normal,[.reg s.c,.int .i64 (.ofNat a),.int .i64 (IntKind.i64.wrap (Int.ofNat b+1))],[]))
 else
 some ((.normal,[.reg s.c,.int .i64 (.ofNat a),.int .i64 (IntKind.i64.wrap (Int.ofNat b+1))],[]))
 else
 some ((.exit 2,[.reg s.c,.undef,.int .i64 (.ofNat a)],[]))):=by kernel_rfl
theorem i53 (s:Sti) (a:Nat) (x:List T->Heap->Ex->List T->Heap->Prop):iterR P18 G18 A18 noneO 0 53 (l53i x s a) 5 (v53 s a) [] =
(
 bif decide (Int.ofNat a<4) then
 bif allB (g53i s a) (4 - a) then
 bif decF (x (v53i s a (nat_lit 1)) [] (.exit 2) [.reg s.c,.undef,.int .i64 (.ofNat a)] []) then
 some ((.normal,[.reg s.c,.int .i64 (IntKind.i64.wrap (Int.ofNat a+1))],[]))
 else none else
 bif decF (x (v53i s a (nat_lit 1)) [] .ret (v53i s (nat_lit 1) a) []) then
 some ((.ret,[.int .i64 1],[]))
 else none else
 some ((.exit 0,[.undef],[]))):=by kernel_rfl
theorem k53 (s:Sti) (b:Bool) (x:List T->Heap->Ex->List T->Heap->Prop):stepL P18 G18 A18 noneO 0 53 (l53 x s b) [s.t] =
(
 bif decide (s.y = 0) then
 some (.int .i64 0)
 else
 bif decide (6<s.y) then
 some (.int .i64 0)
 else
 bif decide (s.k = 0) then
 some (.int .i64 0)
 else
 bif decide (8<s.k) then
 some (.int .i64 0)
 else
 bif decide (s.k = 8) then
 bif b then
 bif decF (x (v53 s (nat_lit 1)) [] (.exit 0) [.undef] []) then
 some (.int .i64 0)
 else none else
 bif decF (x (v53 s (nat_lit 1)) [] .ret [.int .i64 1] []) then
 some (.int .i64 1)
 else none else
 bif !decide (s.a = 0) then
 some (.int .i64 0)
 else
 bif !decide (s.b = 0) then
 some (.int .i64 0)
 else
 bif s.f then
 some (.int .i64 0)
 else
 some (.int .i64 1)):=by kernel_rfl
theorem in53 (s:Sti) {a:Nat} (ha:a<=4):(allB (g53i s a) (4 - a) = true->LoopOk P18 G18 (A18 53) 53 8 (litS (v53i s a 1) [] (.exit 2) [.reg s.c,.undef,.int .i64 a] []))/\(allB (g53i s a) (4 - a) = false->LoopOk P18 G18 (A18 53) 53 8 (litS (v53i s a 1) [] .ret [.reg s.c,.int .i64 1,.int .i64 a] [])):=by
 refine loop_scan hm18 (by kernel_rfl) (fun k=>v53i s a (1+k)) (fun _=>[]) (g53i s a) (n:=4 - a) (fun k hk _ hg=>?_) (fun k hk _ hg=>?_) (fun _=>?_)
 ·refine Step.mk0 (A:=A18) (m:=0) none_ok rfl rfl loops0 (h1:=[]) ?_ .nil
  have e:IntKind.i64.wrap (Int.ofNat a+Int.ofNat (1+k)) = ((a+1+k:Nat):Int):=by rw [ofNatE,ofNatE,wr64 (by omega) (by omega)]; omega
  rw [i53i,up1 (by omega),e]
  unfold g53i at hg
  by_cases q:s.a = a
  ·have q2:¬ s.b = ((1+k:Nat):Int):=by rw [dT q] at hg; simpa using hg
   (repeat (first | refine BS ?_ | refine BF ?_))
   rfl
  ·(repeat (first | refine BS ?_ | refine BF ?_))
   rfl
 ·refine Last.mk0 (A:=A18) (m:=0) none_ok rfl rfl loops0 (h1:=[]) (by simp) ?_ .nil
  have e:IntKind.i64.wrap (Int.ofNat a+Int.ofNat (1+k)) = ((a+1+k:Nat):Int):=by rw [ofNatE,ofNatE,wr64 (by omega) (by omega)]; omega
  rw [i53i,e]
  simp only [g53i,Bool.not_eq_false',Bool.and_eq_true,decide_eq_true_eq] at hg
  obtain ⟨q1,q2⟩:=hg
  (repeat (first | refine BS ?_ | refine BF ?_))
  rfl
 ·refine Last.mk0 (A:=A18) (m:=0) none_ok rfl rfl loops0 (h1:=[]) (by simp) ?_ .nil
  have e:IntKind.i64.wrap (Int.ofNat a+Int.ofNat (1+(4 - a))) = 5:=by rw [ofNatE,ofNatE,wr64 (by omega) (by omega)]; omega
  rw [i53i,e]
  (repeat (first | refine BS ?_ | refine BF ?_))
  rfl
theorem out53 (s:Sti):(allB (g53 s) 3 = true->LoopOk P18 G18 (A18 53) 53 5 (litS (v53 s 1) [] (.exit 0) [.undef] []))/\(allB (g53 s) 3 = false->LoopOk P18 G18 (A18 53) 53 5 (litS (v53 s 1) [] .ret [.int .i64 1] [])):=by
 obtain ⟨x,hx⟩:=is_loop P18 G18 (A18 53) 53 8
 refine loop_scan hm18 (by kernel_rfl) (fun k=>v53 s (1+k)) (fun _=>[]) (g53 s) (n:=3) (fun k hk _ hg=>?_) (fun k hk _ hg=>?_) (fun _=>?_)
 ·refine Step.mk0 (A:=A18) (m:=0) none_ok rfl rfl (l:=l53i x s (1+k)) (loops1 (loopF_ok hx _)) (h1:=[]) ?_ .nil
  have hl:=(in53 s (a:=1+k) (by omega)).1 hg
  rw [i53,up1 (by omega)]
  refine BS ?_
  rw [show allB (g53i s (1+k)) (4 - (1+k)) = true from hg]
  (repeat (first | refine BS ?_ | refine BF ?_))
  rfl
 ·refine Last.mk0 (A:=A18) (m:=0) none_ok rfl rfl (l:=l53i x s (1+k)) (loops1 (loopF_ok hx _)) (h1:=[]) (by simp) ?_ .nil
  have hl:=(in53 s (a:=1+k) (by omega)).2 hg
  rw [i53]
  refine BS ?_
  rw [show allB (g53i s (1+k)) (4 - (1+k)) = false from hg]
  (repeat (first | refine BS ?_ | refine BF ?_))
  rfl
 ·refine Last.mk0 (A:=A18) (m:=0) none_ok rfl rfl (l:=l53i x s (1+3)) (loops1 (loopF_ok hx _)) (h1:=[]) (by simp) ?_ .nil
  rw [i53]
  refine BF ?_
  rfl
theorem refValidT (s:Sti) (hs:s.Ok):ToldOk P18 G18 53 [s.t] (.int .i64 (bif vF s then 1 else 0)):=by
 obtain ⟨x,hx⟩:=is_loop P18 G18 (A18 53) 53 5
 refine stepL_told hm18 hn18 none_ok (A:=A18) (m:=0) (l:=l53 x s (allB (g53 s) 3)) (by kernel_rfl) (loops1 (loopF_ok hx _)) ?_
 rw [k53]
 have hv:=s.v_iff hs
 have:=hs.k
 have:=hs.y
 have ho:=out53 s
 have hg:allB (g53 s) 3 = false ↔ (1<=s.a/\s.a<=4/\1<=s.b/\s.a+s.b<=4):=by
  rw [allB_false]
  constructor
  ·rintro ⟨k,hk,h⟩
   obtain ⟨j,hj,h⟩:=(allB_false _ _).1 h
   simp only [g53i,Bool.not_eq_false',Bool.and_eq_true,decide_eq_true_eq] at h
   omega
  ·intro h
   refine ⟨s.a.toNat - 1,by omega,(allB_false _ _).2 ⟨s.b.toNat - 1,by omega,?_⟩⟩
   simp only [g53i,Bool.not_eq_false',Bool.and_eq_true,decide_eq_true_eq]
   omega
 by_cases h1:s.y = 0
 ·rw [show vF s = false by rw [← Bool.not_eq_true,hv]; omega]
  refine BS ?_
  rfl
 refine BF ?_
 by_cases h2:6<s.y
 ·rw [show vF s = false by rw [← Bool.not_eq_true,hv]; omega]
  refine BS ?_
  rfl
 refine BF ?_
 by_cases h3:s.k = 0
 ·rw [show vF s = false by rw [← Bool.not_eq_true,hv]; omega]
  refine BS ?_
  rfl
 refine BF ?_
 by_cases h4:8<s.k
 ·rw [show vF s = false by rw [← Bool.not_eq_true,hv]; omega]
  refine BS ?_
  rfl
 refine BF ?_
 by_cases h5:s.k = 8
 ·refine BS ?_
  cases hb:allB (g53 s) 3
  ·rw [show vF s = true from hv.2 (by have:=hg.1 hb; omega)]
   have hl:=ho.2 hb
   (repeat (first | refine BS ?_ | refine BF ?_))
   rfl
  ·rw [show vF s = false by rw [← Bool.not_eq_true,hv,← hg,hb]; simp; omega]
   have hl:=ho.1 hb
   (repeat (first | refine BS ?_ | refine BF ?_))
   rfl
 refine BF ?_
 by_cases h6:s.a = 0
 ·by_cases h7:s.b = 0
  ·cases h8:s.f
   ·rw [show vF s = true from hv.2 ⟨by omega,by omega,by omega,by omega,.inl ⟨h5,h6,h7,h8⟩⟩]
    (repeat (first | refine BS ?_ | refine BF ?_))
    rfl
   ·rw [show vF s = false by rw [← Bool.not_eq_true,hv,h8]; simp; omega]
    (repeat (first | refine BS ?_ | refine BF ?_))
    rfl
  ·rw [show vF s = false by rw [← Bool.not_eq_true,hv]; omega]
   (repeat (first | refine BS ?_ | refine BF ?_))
   rfl
 ·rw [show vF s = false by rw [← Bool.not_eq_true,hv]; omega]
  (repeat (first | refine BS ?_ | refine BF ?_))
  rfl
open Go.Proofs
theorem refNeedsT (s:Sti) (hs:s.Ok):ToldOk P18 G18 40 [s.t] (.int .i64 s.n):=by
 obtain ⟨p,hp⟩:=is_val P18 G18 53
 have t:=refValidT s hs
 refine stepV_told hm18 hn18 (told_add none_ok (callF_told hp)) (K:=K40 p (vF s)) (A:=A18) (m:=0) ?_
 unfold Sti.n
 generalize vF s = b at *
 rw [(show stepV P18 G18 A18 (K40 p b) 0 40 [s.t] =
(
 bif decF (p [s.t] (.int .i64 (bif b then (1:Int)
 else (0:Int)))) then
 bif decide ((bif b then (1:Int)
 else (0:Int)) = (0:Int)) then
 some (.int .i64 0)
 else
 bif decide (s.k = 3) then
 some (.int .i64 0)
 else
 bif decide (s.k = 8) then
 some (.int .i64 (IntKind.i64.wrap (s.a+s.b)))
 else
 bif decide (s.k = 4) then
 some (.int .i64 2)
 else
 bif decide (s.k = 5) then
 some (.int .i64 2)
 else
 some (.int .i64 1)
 else
 none) from by kernel_rfl)]
 refine BS ?_
 cases b
 ·rfl
 by_cases h3:s.k = 3
 ·rw [dT h3]
  rfl
 rw [dF h3]
 by_cases h8:s.k = 8
 ·rw [dT h8,dF (show ¬ s.k = 4 by omega),dF (show ¬ s.k = 5 by omega)]
  rfl
 rw [dF h8]
 by_cases h4:s.k = 4
 ·rw [dT h4]
  rfl
 rw [dF h4]
 by_cases h5:s.k = 5
 ·rw [dT h5]
  rfl
 rw [dF h5]
 rfl
theorem refMakesT (s:Sti) (hs:s.Ok):ToldOk P18 G18 54 [s.t] (.int .i64 s.m):=by
 obtain ⟨p,hp⟩:=is_val P18 G18 53
 have t:=refValidT s hs
 refine stepV_told hm18 hn18 (told_add none_ok (callF_told hp)) (K:=K40 p (vF s)) (A:=A18) (m:=0) ?_
 unfold Sti.m
 generalize vF s = b at *
 rw [(show stepV P18 G18 A18 (K40 p b) 0 54 [s.t] =
(
 bif decF (p [s.t] (.int .i64 (bif b then (1:Int)
 else (0:Int)))) then
 bif decide ((bif b then (1:Int)
 else (0:Int)) = (0:Int)) then
 some (.int .i64 0)
 else
 bif decide (s.k = 8) then
 some (.int .i64 (IntKind.i64.wrap (s.a+s.b)))
 else
 some (.int .i64 1)
 else
 none) from by kernel_rfl)]
 refine BS ?_
 cases b
 ·rfl
 by_cases h8:s.k = 8
 ·rw [dT h8]
  rfl
 rw [dF h8]
 rfl
theorem i38 (r:Nat->Sti) (n:Nat) (c:Option Nat) (a x:Int) (i:Nat) (p:List T->T->Prop):iterR P18 G18 A18 (K38 p 40 x) 0 38 [] 3 (v38 r n c a i) [] =
(
 bif decide (Int.ofNat i<Int.ofNat n) then
 bif decide (0<=Int.ofNat i)&&decide (Int.ofNat i<Int.ofNat n) then
 bif decF (p [(r i).t] (.int .i64 x)) then
 some ((.normal,[srV r n c,.int .i64 (IntKind.i64.wrap (a+x)),.int .i64 (IntKind.i64.wrap (Int.ofNat i+1))],[]))
 else none else none else
 some ((.exit 0,[.int .i64 a],[]))):=by kernel_rfl
theorem i39 (r:Nat->Sti) (n:Nat) (c:Option Nat) (a x:Int) (i:Nat) (p:List T->T->Prop):iterR P18 G18 A18 (K38 p 54 x) 0 39 [] 3 (v38 r n c a i) [] =
(
 bif decide (Int.ofNat i<Int.ofNat n) then
 bif decide (0<=Int.ofNat i)&&decide (Int.ofNat i<Int.ofNat n) then
 bif decF (p [(r i).t] (.int .i64 x)) then
 some ((.normal,[srV r n c,.int .i64 (IntKind.i64.wrap (a+x)),.int .i64 (IntKind.i64.wrap (Int.ofNat i+1))],[]))
 else none else none else
 some ((.exit 0,[.int .i64 a],[]))):=by kernel_rfl
section
variable (r:Nat->Sti) (n:Nat) (c:Option Nat)
theorem refRowNeedsT (hn:n<=1000) (hr:∀ j,(r j).Ok):ToldOk P18 G18 38 [srV r n c] (.int .i64 (nR5 r n)):=by
 obtain ⟨p,hp⟩:=is_val P18 G18 40
 have hK:∀ x,OrcOk P18 G18 (K38 p 40 x):=fun x=>told_add none_ok (callF_told hp)
 unfold nR5
 have hb:=sumN_le (N:=fun j=>(r j).n) (b:=4) fun i=>(r i).n_bd (hr i)
 have hl:LoopOk P18 G18 (A18 38) 38 3 (litS (v38 r n c 0 0) [] (.exit 0) [.int .i64 (sumN (fun j=>(r j).n) n)] []):=by
  refine loop_steps hm18 (by kernel_rfl) (fun i=>v38 r n c (sumN (fun j=>(r j).n) i) i) (fun _=>[]) (n:=n) (fun i hi=>?_) ?_
  ·have e:sumN (fun j=>(r j).n) (i+1) = sumN (fun j=>(r j).n) i+(r i).n:=rfl
   have t:=refNeedsT (r i) (hr i)
   have h1:=hb i
   have h2:=(r i).n_bd (hr i)
   rw [e]
   clear e hb hr
   generalize sumN (fun j=>(r j).n) i = a at *
   generalize (r i).n = x at *
   refine Step.mk0 (A:=A18) (m:=0) (hK x) rfl rfl loops0 (h1:=[]) ?_ .nil
   rw [i38,up1 (by omega),wr64 (x:=a+x) (by omega) (by omega)]
   (repeat (first | refine BS ?_ | refine BF ?_))
   rfl
  ·clear hb hr
   generalize sumN (fun j=>(r j).n) n = a at *
   refine Last.mk0 (A:=A18) (m:=0) (hK 0) rfl rfl loops0 (h1:=[]) (by simp) ?_ .nil
   rw [i38]
   (repeat (first | refine BS ?_ | refine BF ?_))
   rfl
 clear hb hr
 generalize sumN (fun j=>(r j).n) n = a at *
 refine stepL_told hm18 hn18 none_ok (A:=A18) (m:=0) (by kernel_rfl) (loops1 hl) ?_
 rw [(show stepL P18 G18 A18 noneO 0 38 [(3,litS (v38 r n c 0 0) [] (.exit 0) [.int .i64 a] [])] [srV r n c] =
(
 bif weakF (v38 r n c (0:Int) (nat_lit 0)) [] (v38 r n c (0:Int) (nat_lit 0)) [] then
 some (.int .i64 a)
 else
 none) from by kernel_rfl)]
 (repeat (first | refine BS ?_ | refine BF ?_))
 rfl
theorem refRowMakesT (hn:n<=1000) (hr:∀ j,(r j).Ok):ToldOk P18 G18 39 [srV r n c] (.int .i64 (mR5 r n)):=by
 obtain ⟨p,hp⟩:=is_val P18 G18 54
 have hK:∀ x,OrcOk P18 G18 (K38 p 54 x):=fun x=>told_add none_ok (callF_told hp)
 unfold mR5
 have hb:=sumN_le (N:=fun j=>(r j).m) (b:=4) fun i=>(r i).m_bd (hr i)
 have hl:LoopOk P18 G18 (A18 39) 39 3 (litS (v38 r n c 0 0) [] (.exit 0) [.int .i64 (sumN (fun j=>(r j).m) n)] []):=by
  refine loop_steps hm18 (by kernel_rfl) (fun i=>v38 r n c (sumN (fun j=>(r j).m) i) i) (fun _=>[]) (n:=n) (fun i hi=>?_) ?_
  ·have e:sumN (fun j=>(r j).m) (i+1) = sumN (fun j=>(r j).m) i+(r i).m:=rfl
   have t:=refMakesT (r i) (hr i)
   have h1:=hb i
   have h2:=(r i).m_bd (hr i)
   rw [e]
   clear e hb hr
   generalize sumN (fun j=>(r j).m) i = a at *
   generalize (r i).m = x at *
   refine Step.mk0 (A:=A18) (m:=0) (hK x) rfl rfl loops0 (h1:=[]) ?_ .nil
   rw [i39,up1 (by omega),wr64 (x:=a+x) (by omega) (by omega)]
   (repeat (first | refine BS ?_ | refine BF ?_))
   rfl
  ·clear hb hr
   generalize sumN (fun j=>(r j).m) n = a at *
   refine Last.mk0 (A:=A18) (m:=0) (hK 0) rfl rfl loops0 (h1:=[]) (by simp) ?_ .nil
   rw [i39]
   (repeat (first | refine BS ?_ | refine BF ?_))
   rfl
 clear hb hr
 generalize sumN (fun j=>(r j).m) n = a at *
 refine stepL_told hm18 hn18 none_ok (A:=A18) (m:=0) (by kernel_rfl) (loops1 hl) ?_
 rw [(show stepL P18 G18 A18 noneO 0 39 [(3,litS (v38 r n c 0 0) [] (.exit 0) [.int .i64 a] [])] [srV r n c] =
(
 bif weakF (v38 r n c (0:Int) (nat_lit 0)) [] (v38 r n c (0:Int) (nat_lit 0)) [] then
 some (.int .i64 a)
 else
 none) from by kernel_rfl)]
 (repeat (first | refine BS ?_ | refine BF ?_))
 rfl
end
open Go.Proofs
noncomputable def l37 (x:List T->Heap->Ex->List T->Heap->Prop) (r:Nat->Sti) (n:Nat) (c:Option Nat) (b:Bool):List (Nat × (List T->Heap->LT)):=[(6,loopF x (.ite b (.ret (.exit 0) [srV r n c,.undef] []) (.ret .ret [srV r n c,.int .i64 1] [])))]
def v41 (s:Sti) (B:Nat->Int) (n:Nat) (c:Option Nat) (i:Nat):List T:=[slV B n c,.reg s.c,.int .i64 i]
def o41:Nat->T
 | 0=>.nils
 | j+1=>.own 0 j 0 (j+1) none
def ob41 (j:Nat):Blk:=⟨j,1,j+1,fun _=>[.int .i64 1],true,false,none⟩
def oh41:Nat->Heap
 | 0=>[]
 | j+1=>[ob41 j]
def w41 (s:Sti) (j:Nat):List T:=[.reg s.c,o41 j,.int .i64 j]
theorem k37 (r:Nat->Sti) (n:Nat) (c:Option Nat) (b:Bool) (a d:Int) (x:List T->Heap->Ex->List T->Heap->Prop) (p q:List T->T->Prop):stepL P18 G18 A18 (K37 p q a d) 0 37 (l37 x r n c b) [srV r n c] =
(
 bif decide (16<Int.ofNat n) then
 some (.int .i64 3)
 else
 bif decide (Int.ofNat n = 0) then
 some (.int .i64 1)
 else
 bif b then
 bif decF (x (v37 r n c (nat_lit 0)) [] (.exit 0) [srV r n c,.undef] []) then
 bif decF (p [srV r n c] (.int .i64 a)) then
 bif decide (a<1) then
 some (.int .i64 5)
 else
 bif decF (p [srV r n c] (.int .i64 a)) then
 bif decide (16<a) then
 some (.int .i64 5)
 else
 bif decF (q [srV r n c] (.int .i64 d)) then
 bif decide (d<1) then
 some (.int .i64 5)
 else
 bif decF (q [srV r n c] (.int .i64 d)) then
 bif decide (16<d) then
 some (.int .i64 5)
 else
 some (.int .i64 0)
 else none else none else none else none else none else
 bif decF (x (v37 r n c (nat_lit 0)) [] .ret (v37 r n c (nat_lit 1)) []) then
 some (.int .i64 1)
 else
 none):=by kernel_rfl
theorem i37 (r:Nat->Sti) (n:Nat) (c:Option Nat) (i:Nat) (b:Bool) (p:List T->T->Prop):iterR P18 G18 A18 (K40 p b) 0 37 [] 6 (v37 r n c i) [] =
(
 bif decide (Int.ofNat i<Int.ofNat n) then
 bif decide (0<=Int.ofNat i)&&decide (Int.ofNat i<Int.ofNat n) then
 bif decF (p [(r i).t] (.int .i64 (bif b then (1:Int)
 else (0:Int)))) then
 bif decide ((bif b then (1:Int)
 else (0:Int)) = (0:Int)) then
 some ((.ret,v37 r n c (nat_lit 1),[]))
 else
 some ((.normal,[srV r n c,.int .i64 (IntKind.i64.wrap (Int.ofNat i+1))],[]))
 else none else none else
 some ((.exit 0,[srV r n c,.undef],[]))):=by kernel_rfl
theorem i41w (s:Sti) (x:Int) (p:List T->T->Prop):iterR P18 G18 A18 (K38 p 54 x) 0 41 [] 22 (w41 s 0) (oh41 0) =
(
 bif decF (p [s.t] (.int .i64 x)) then
 bif decide (0<x) then
 some ((.normal,[.reg s.c,.own 1 0 0 1
 none,.int .i64 1],[.mk 0 1 1 (fun j=>[[T.int .i64 (1:Int)]].getD j []) true true
 none,.mk 0 1 1 (fun j=>[[T.int .i64 (1:Int)]].getD (0+j) []) true false
 none]))
 else
 some ((.exit 2,[.nils],[]))
 else
 none):=by kernel_rfl
theorem i41x (s:Sti) (j:Nat) (x:Int) (p:List T->T->Prop):iterR P18 G18 A18 (K38 p 54 x) 0 41 [] 22 (w41 s (j+1)) (oh41 (j+1)) =
(
 bif decF (p [s.t] (.int .i64 x)) then
 bif decide (Int.ofNat (j+1)<x) then
 bif j==j&&true then
 bif ((0:Nat)+(j+(1:Nat))).ble (j+1) then
 bif ((j+(1:Nat)+(1:Nat)) * (9:Nat)).ble 70368744177664 then
 bif ((0:Nat)+(j+(1:Nat))+(1:Nat)).ble (j+1) then
 some ((.normal,[.reg s.c,.own 0 j 0 (j+1+(1:Nat))
 none,.int .i64 (IntKind.i64.wrap (Int.ofNat (j+1)+(1:Int)))],[.mk j 1 (j+1) (fun j_1 =>
 bif ((0:Nat)+(j+(1:Nat))).ble j_1&&j_1.blt ((0:Nat)+(j+1)+(1:Nat)) then [[T.int .i64 (1:Int)]].getD ((0:Nat)+(j_1 - ((0:Nat)+(j+1)))) []
 else [.int .i64 1]) true false
 none,.mk 0 1 1 (fun j=>[[T.int .i64 (1:Int)]].getD j []) true true
 none]))
 else
 some ((.normal,[.reg s.c,pO (j+1),.int .i64 (IntKind.i64.wrap (Int.ofNat (j+1)+(1:Int)))],[.mk (j+1) (1:Nat) (j+1+(1:Nat)) (fun j_1 =>
 bif j_1.blt (j+1) then [.int .i64 1]
 else [[T.int .i64 (1:Int)]].getD ((0:Nat)+(j_1 - (j+1))) []) true false
 none,.mk 0 1 1 (fun j=>[[T.int .i64 (1:Int)]].getD j []) true true
 none]))
 else none else none else none else
 some ((.exit 2,[pO j],[ob41 j]))
 else
 none):=by kernel_rfl
theorem i41 (s:Sti) (B:Nat->Int) (n:Nat) (c:Option Nat) (i:Nat):iterR P18 G18 A18 noneO 0 41 [] 6 (v41 s B n c i) [] =
(
 bif decide (Int.ofNat i<Int.ofNat n) then
 bif decide (0<=Int.ofNat i)&&decide (Int.ofNat i<Int.ofNat n) then
 bif !decide (B i = 1) then
 bif decide (0<=Int.ofNat i)&&decide (Int.ofNat i<Int.ofNat n) then
 bif !decide (B i = 2) then
 bif decide (0<=Int.ofNat i)&&decide (Int.ofNat i<Int.ofNat n) then
 bif !decide (B i = 3) then
 some ((.ret,[slV B n c,.reg s.c,.nils,.int .i64 1],[]))
 else
 some ((.normal,[slV B n c,.reg s.c,.int .i64 (IntKind.i64.wrap (Int.ofNat i+1))],[]))
 else none else
 some ((.normal,[slV B n c,.reg s.c,.int .i64 (IntKind.i64.wrap (Int.ofNat i+1))],[]))
 else none else
 some ((.normal,[slV B n c,.reg s.c,.int .i64 (IntKind.i64.wrap (Int.ofNat i+1))],[]))
 else none else
 some ((.exit 0,[slV B n c,.reg s.c,.undef,.undef],[]))):=by kernel_rfl
theorem allV_B (r:Nat->Sti):∀ n,allV r n = allB (fun i=>vF (r i)) n
 | 0=>rfl
 | n+1=>by unfold allV allB; rw [allV_B r n]
theorem refRowT (r:Nat->Sti) (n:Nat) (c:Option Nat) (hn:n<=1000) (hr:∀ j,(r j).Ok):ToldOk P18 G18 37 [srV r n c] (.int .i64 (rE r n)):=by
 obtain ⟨x,hx⟩:=is_loop P18 G18 (A18 37) 37 6
 obtain ⟨p,hp⟩:=is_val P18 G18 38
 obtain ⟨q,hq⟩:=is_val P18 G18 39
 obtain ⟨p53,hp53⟩:=is_val P18 G18 53
 have t1:=refRowNeedsT r n c hn hr
 have t2:=refRowMakesT r n c hn hr
 have hl:(allB (fun i=>vF (r i)) n = true->LoopOk P18 G18 (A18 37) 37 6 (litS (v37 r n c 0) [] (.exit 0) [srV r n c,.undef] []))/\(allB (fun i=>vF (r i)) n = false->LoopOk P18 G18 (A18 37) 37 6 (litS (v37 r n c 0) [] .ret [srV r n c,.int .i64 1] [])):=by
  refine loop_scan hm18 (by kernel_rfl) (fun i=>v37 r n c i) (fun _=>[]) (fun i=>vF (r i)) (n:=n) (fun i hi _ hg=>?_) (fun i hi _ hg=>?_) (fun _=>?_)
  ·have t:=refValidT (r i) (hr i)
   rw [hg] at t
   clear t1 t2 hr
   refine Step.mk0 (A:=A18) (K:=K40 p53 true) (m:=0) (told_add none_ok (callF_told hp53)) rfl rfl loops0 (h1:=[]) ?_ .nil
   rw [i37,up1 (by omega)]
   refine BS ?_
   refine BS ?_
   refine bift (callF_yes hp53 t) ?_
   (repeat (first | refine BS ?_ | refine BF ?_))
   rfl
  ·have t:=refValidT (r i) (hr i)
   rw [hg] at t
   clear t1 t2 hr
   refine Last.mk0 (A:=A18) (K:=K40 p53 false) (m:=0) (told_add none_ok (callF_told hp53)) rfl rfl loops0 (h1:=[]) (by simp) ?_ .nil
   rw [i37]
   refine BS ?_
   refine BS ?_
   refine bift (callF_yes hp53 t) ?_
   (repeat (first | refine BS ?_ | refine BF ?_))
   rfl
  ·refine Last.mk0 (A:=A18) (K:=K40 p53 false) (m:=0) (told_add none_ok (callF_told hp53)) rfl rfl loops0 (h1:=[]) (by simp) ?_ .nil
   rw [i37]
   clear t1 t2 hr
   (repeat (first | refine BS ?_ | refine BF ?_))
   rfl
 unfold rE wOk
 rw [allV_B]
 generalize nR5 r n = a at *
 generalize mR5 r n = d at *
 generalize allB (fun i=>vF (r i)) n = b at *
 refine stepL_told hm18 hn18 (K:=K37 p q a d) (told_add (told_add none_ok (callF_told hp)) (callF_told hq)) (A:=A18) (m:=0) (l:=l37 x r n c b) (by kernel_rfl) (loops1 (loopF_ok hx _)) ?_
 rw [k37]
 clear hr
 by_cases h1:16<n
 ·rw [if_pos h1]
  (repeat (first | refine BS ?_ | refine BF ?_))
  rfl
 rw [if_neg h1]
 refine BF ?_
 by_cases h2:n = 0
 ·rw [if_pos h2]
  (repeat (first | refine BS ?_ | refine BF ?_))
  rfl
 rw [if_neg h2]
 refine BF ?_
 cases b
 ·have hl:=hl.2 rfl
  rw [if_neg (by simp)]
  (repeat (first | refine BS ?_ | refine BF ?_))
  rfl
 have hl:=hl.1 rfl
 rw [if_pos rfl]
 simp only [Bool.and_eq_true,decide_eq_true_eq]
 by_cases h3:a<1
 ·rw [if_neg (by omega)]
  (repeat (first | refine BS ?_ | refine BF ?_))
  rfl
 by_cases h4:16<a
 ·rw [if_neg (by omega)]
  (repeat (first | refine BS ?_ | refine BF ?_))
  rfl
 by_cases h5:d<1
 ·rw [if_neg (by omega)]
  (repeat (first | refine BS ?_ | refine BF ?_))
  rfl
 by_cases h6:16<d
 ·rw [if_neg (by omega)]
  (repeat (first | refine BS ?_ | refine BF ?_))
  rfl
 rw [if_pos (by omega)]
 (repeat (first | refine BS ?_ | refine BF ?_))
 rfl
open Go.Proofs
noncomputable def K41 (p53 p40:List T->T->Prop) (b:Bool) (x:Int):Orc:=(noneO.add 53 (callF p53 fun _=>some (.int .i64 (bif b then 1 else 0)))).add 40 (callF p40 fun _=>some (.int .i64 x))
noncomputable def l41s (x y:List T->Heap->Ex->List T->Heap->Prop) (s:Sti) (B:Nat->Int) (n:Nat) (c:Option Nat) (b:Bool) (j:Nat):List (Nat × (List T->Heap->LT)) :=
 [(6,loopF x (.ite b (.ret (.exit 0) [slV B n c,.reg s.c,.undef,.undef] []) (.ret .ret [slV B n c,.reg s.c,.nils,.int .i64 1] []))),(22,loopF y (.ret (.exit 2) [o41 (j+1)] (oh41 (j+1))))]
def ldR2 (s:Sti) (B:Nat->Int) (n:Nat):T:=if ldE s B n = 0 then .tup [.new (.view 1 s.mN (fun j=>[.int .i64 (ldG s B j)]) none),.int .i64 0] else .tup [.nils,.int .i64 (ldE s B n)]
theorem k41 (s:Sti) (B:Nat->Int) (n:Nat) (c:Option Nat) (b d:Bool) (j:Nat) (z:Int) (x y:List T->Heap->Ex->List T->Heap->Prop) (p q:List T->T->Prop):stepL P18 G18 A18 (K41 p q d z) 0 41 (l41s x y s B n c b j) [s.t,slV B n c] =
(
 bif decF (p [s.t] (.int .i64 (bif d then (1:Int)
 else (0:Int)))) then
 bif decide ((bif d then (1:Int)
 else (0:Int)) = (0:Int)) then
 some (.tup [.nils,.int .i64 1])
 else
 bif decF (q [s.t] (.int .i64 z)) then
 bif !decide (Int.ofNat n = z) then
 some (.tup [.nils,.int .i64 5])
 else
 bif b then
 bif decF (x (v41 s B n c (nat_lit 0)) [] (.exit 0) [slV B n c,.reg s.c,.undef,.undef] []) then
 bif decide (s.k = 4) then
 bif decide (0<Int.ofNat n) then
 bif decide (1<Int.ofNat n) then
 bif decide (4<IntKind.i64.wrap (B (0:Nat)+B (1:Nat))) then
 some (.tup [.nils,.int .i64 9])
 else
 some (.tup [.fresh true (1:Nat) (1:Nat) (fun j=>[[T.int .i64 (1:Int)]].getD (0+j) []) (1:Nat) (some 1),.int .i64 0])
 else none else none else
 bif decide (s.k = 5) then
 bif decide (0<Int.ofNat n) then
 bif decide (1<Int.ofNat n) then
 bif decide (4<IntKind.i64.wrap (B (0:Nat)+B (1:Nat))) then
 some (.tup [.nils,.int .i64 9])
 else
 some (.tup [.fresh true (1:Nat) (1:Nat) (fun j=>[[T.int .i64 (1:Int)]].getD (0+j) []) (1:Nat) (some 1),.int .i64 0])
 else none else none else
 bif decide (s.k = 6) then
 bif decide (0<Int.ofNat n) then
 bif decide (B (0:Nat) = (3:Int)) then
 some (.tup [.nils,.int .i64 9])
 else
 bif decide (0<Int.ofNat n) then
 some (.tup [.fresh true (1:Nat) (1:Nat) (fun j=>[[T.int .i64 (IntKind.i64.wrap (B (0:Nat)+(1:Int)))]].getD (0+j) []) (1:Nat) (some 1),.int .i64 0])
 else none else none else
 bif decide (s.k = 7) then
 bif decide (0<Int.ofNat n) then
 some (.tup [.fresh true (1:Nat) (1:Nat) (fun j=>[[T.int .i64 (B (0:Nat))]].getD (0+j) []) (1:Nat) (some 1),.int .i64 0])
 else none else
 bif decF (y [.reg s.c,.nils,.int .i64 0] [] (.exit 2) [pO j] [ob41 j]) then
 some (.tup [bif j==j&&((0:Nat)+(j+(1:Nat))).ble (j+1) then .fresh true (1:Nat) (j+1 - (0:Nat)) (fun j=>[.int .i64 1]) (j+1) none else .undef,.int .i64 0])
 else none else none else
 bif decF (x (v41 s B n c (nat_lit 0)) [] .ret [slV B n c,.reg s.c,.nils,.int .i64 1] []) then
 some (.tup [.nils,.int .i64 1])
 else none else none else
 none):=by kernel_rfl
theorem scan41 (s:Sti) (B:Nat->Int) (n:Nat) (c:Option Nat) (hn:n<=1000):(allB (slotB B) n = true->LoopOk P18 G18 (A18 41) 41 6 (litS (v41 s B n c 0) [] (.exit 0) [slV B n c,.reg s.c,.undef,.undef] []))/\(allB (slotB B) n = false->LoopOk P18 G18 (A18 41) 41 6 (litS (v41 s B n c 0) [] .ret [slV B n c,.reg s.c,.nils,.int .i64 1] [])):=by
 refine loop_scan hm18 (by kernel_rfl) (fun i=>v41 s B n c i) (fun _=>[]) (slotB B) (n:=n) (fun i hi _ hg=>?_) (fun i hi _ hg=>?_) (fun _=>?_)
 ·rw [slotB_iff] at hg
  refine Step.mk0 (A:=A18) (m:=0) none_ok rfl rfl loops0 (h1:=[]) ?_ .nil
  rw [i41,up1 (by omega)]
  by_cases q1:B i = 1
  ·(repeat (first | refine BS ?_ | refine BF ?_))
   rfl
  by_cases q2:B i = 2
  ·(repeat (first | refine BS ?_ | refine BF ?_))
   rfl
  have q3:B i = 3:=by omega
  (repeat (first | refine BS ?_ | refine BF ?_))
  rfl
 ·have hg:¬ (1<=B i/\B i<=3):=by rw [← slotB_iff,hg]; simp
  have q1:¬ B i = 1:=by omega
  have q2:¬ B i = 2:=by omega
  have q3:¬ B i = 3:=by omega
  refine Last.mk0 (A:=A18) (m:=0) none_ok rfl rfl loops0 (h1:=[]) (by simp) ?_ .nil
  rw [i41]
  (repeat (first | refine BS ?_ | refine BF ?_))
  rfl
 ·refine Last.mk0 (A:=A18) (m:=0) none_ok rfl rfl loops0 (h1:=[]) (by simp) ?_ .nil
  rw [i41]
  (repeat (first | refine BS ?_ | refine BF ?_))
  rfl
theorem slotsB_all (B:Nat->Int):∀ n,slotsB B n = allB (slotB B) n
 | 0=>rfl
 | n+1=>by unfold slotsB allB; rw [slotsB_all B n]
theorem one_get (j:Nat) (hj:j<1):([[T.int .i64 1]]:List (List T)).getD (0+j) [] = [.int .i64 1]:=by
 obtain rfl:j = 0:=by omega
 rfl
theorem make41 (s:Sti) (hs:s.Ok) {j:Nat} (hj:s.m = ((j+1:Nat):Int)):LoopOk P18 G18 (A18 41) 41 22 (litS (w41 s 0) (oh41 0) (.exit 2) [o41 (j+1)] (oh41 (j+1))):=by
 obtain ⟨p,hp⟩:=is_val P18 G18 54
 have t:=refMakesT s hs
 have hb:=s.m_bd hs
 rw [hj] at t hb
 have hK:OrcOk P18 G18 (K38 p 54 ((j+1:Nat):Int)):=told_add none_ok (callF_told hp)
 refine loop_steps hm18 (by kernel_rfl) (fun i=>w41 s i) (fun i=>oh41 i) (n:=j+1) (fun i hi=>?_) ?_
 ·cases i with
  | zero =>
   refine Step.mkC (A:=A18) (m:=0) hK rfl rfl loops0 [1] (v1:=[.reg s.c,.own 1 0 0 1 none,.int .i64 1]) (h1:=[⟨0,1,1,fun j=>[[T.int .i64 1]].getD j [],true,true,none⟩,⟨0,1,1,fun j=>[[T.int .i64 1]].getD (0+j) [],true,false,none⟩]) ?_ (by kernel_rfl) (v2:=w41 s 1) rfl rfl fun nt=>.same (.cons ⟨rfl,rfl,rfl,id,fun k hk=>(one_get k hk).symm⟩ .nil)
   rw [i41w]
   (repeat (first | refine BS ?_ | refine BF ?_))
   rfl
  | succ i =>
   refine Step.mk (A:=A18) (m:=0) hK rfl rfl loops0 1 (by simp [oh41]) (h1:=[⟨i+1,1,i+1+1,fun k=>bif Nat.blt k (i+1) then [T.int .i64 1] else [[T.int .i64 1]].getD (0+(k - (i+1))) [],true,false,none⟩,⟨0,1,1,fun j=>[[T.int .i64 1]].getD j [],true,true,none⟩]) (vs':=w41 s (i+1+1)) ?_ (by rfl) (.cons ⟨rfl,rfl,rfl,id,fun k hk=>?_⟩ .nil)
   ·rw [i41x,up1 (by omega)]
    (repeat (first | refine BS ?_ | refine BF ?_))
    rfl
   ·show [T.int .i64 1] = bif Nat.blt k (i+1) then [T.int .i64 1] else [[T.int .i64 1]].getD (0+(k - (i+1))) []
    have hk:k<i+2:=hk
    by_cases q:k<i+1
    ·rw [bltT q]; rfl
    ·rw [bltF (by omega),show k - (i+1) = 0 by omega]; rfl
 ·refine Last.mk0 (A:=A18) (m:=0) hK rfl rfl loops0 (h1:=oh41 (j+1)) (by simp) ?_ (.refl _)
  rw [i41x]
  (repeat (first | refine BS ?_ | refine BF ?_))
  rfl
theorem refLoadsT (s:Sti) (hs:s.Ok) (B:Nat->Int) (n:Nat) (c:Option Nat) (hn:n<=1000):ToldOk P18 G18 41 [s.t,slV B n c] (ldR2 s B n):=by
 obtain ⟨p,hp⟩:=is_val P18 G18 53
 obtain ⟨q,hq⟩:=is_val P18 G18 40
 obtain ⟨x,hx⟩:=is_loop P18 G18 (A18 41) 41 6
 obtain ⟨y,hy⟩:=is_loop P18 G18 (A18 41) 41 22
 have t1:=refValidT s hs
 have t2:=refNeedsT s hs
 have hl:=scan41 s B n c hn
 have hmk:=fun j=>make41 s hs (j:=j)
 have hv:=s.v_iff hs
 have hnb:=s.n_bd hs
 have hmb:=s.m_bd hs
 have em:s.m = bif vF s then (bif decide (s.k = 8) then IntKind.i64.wrap (s.a+s.b) else 1) else 0:=rfl
 have en:s.n = bif vF s then (bif decide (s.k = 3) then 0 else bif decide (s.k = 4) then 2 else bif decide (s.k = 5) then 2 else bif decide (s.k = 8) then IntKind.i64.wrap (s.a+s.b) else 1) else 0:=rfl
 unfold ldR2
 have key:∀ (d b:Bool) (j:Nat) (r:T),d = vF s->b = allB (slotB B) n->stepL P18 G18 A18 (K41 p q d s.n) 0 41 (l41s x y s B n c b j) [s.t,slV B n c] = some r->ToldOk P18 G18 41 [s.t,slV B n c] r:=fun d b j r _ _ h =>
  stepL_told hm18 hn18 (told_add (told_add none_ok (callF_told hp)) (callF_told hq)) (A:=A18) (m:=0) (by kernel_rfl) (loopsC (loopF_ok hx _) (loops1 (loopF_ok hy _))) h
 have bad:∀ e,(∃ j,stepL P18 G18 A18 (K41 p q (vF s) s.n) 0 41 (l41s x y s B n c (allB (slotB B) n) j) [s.t,slV B n c] = some (.tup [.nils,.int .i64 e]))->ldE s B n = e->e ≠ 0->ToldOk P18 G18 41 [s.t,slV B n c] (if ldE s B n = 0 then .tup [.new (.view 1 s.mN (fun j=>[.int .i64 (ldG s B j)]) none),.int .i64 0] else .tup [.nils,.int .i64 (ldE s B n)]):=fun e ⟨j,h⟩ he hne=>by
  rw [he,if_neg hne]
  exact key _ _ _ _ rfl rfl h
 cases h1:vF s
 ·refine bad 1 ⟨0,?_⟩ (ldE_1 h1) (by decide)
  rw [h1] at t1 ⊢
  rw [k41]
  clear bad key hv em en hl hmk
  (repeat (first | refine BS ?_ | refine BF ?_))
  rfl
 have hk:=hv.1 h1
 rw [h1] at t1 em en
 have en2:((s.nN:Nat):Int) = s.n:=by unfold Sti.nN; omega
 have em2:((s.mN:Nat):Int) = s.m:=by unfold Sti.mN; omega
 by_cases h2:n = s.nN
 rotate_left
 ·refine bad 5 ⟨0,?_⟩ (ldE_5 h1 h2) (by decide)
  rw [h1,k41]
  clear bad key hv em en hl hmk
  have h3:¬ (n:Int) = s.n:=by omega
  (repeat (first | refine BS ?_ | refine BF ?_))
  rfl
 have h3:(n:Int) = s.n:=by omega
 rw [cond_true] at em en
 cases h4:allB (slotB B) n
 ·refine bad 1 ⟨0,?_⟩ (ldE_s h1 h2 (by rw [slotsB_all]; exact h4)) (by decide)
  have hl:=hl.2 h4
  rw [h1,h4,k41]
  clear bad key hv em en hmk
  (repeat (first | refine BS ?_ | refine BF ?_))
  rfl
 have hl:=hl.1 h4
 have hB:=(allB_iff _ _).1 h4
 have hle:=ldE_k h1 h2 (by rw [slotsB_all]; exact h4)
 rw [h1,h4] at bad
 by_cases h5:s.k = 4 ∨ s.k = 5
 ·have e2:n = 2:=by
   rcases h5 with q | q
   ·rw [dF (by omega),dT q] at en; simp only [cond_true,cond_false] at en; omega
   ·rw [dF (by omega),dF (by omega),dT q] at en; simp only [cond_true,cond_false] at en; omega
  have b0:=(slotB_iff _ _).1 (hB 0 (by omega))
  have b1:=(slotB_iff _ _).1 (hB 1 (by omega))
  rw [if_pos h5] at hle
  by_cases h6:4<B 0+B 1
  ·rw [if_pos h6] at hle
   refine bad 9 ⟨0,?_⟩ hle (by decide)
   rw [k41,wr64 (x:=B 0+B 1) (by omega) (by omega)]
   clear bad key hv em en hmk hB hle h1 h4
   rcases h5 with q | q
   ·(repeat (first | refine BS ?_ | refine BF ?_))
    rfl
   ·(repeat (first | refine BS ?_ | refine BF ?_))
    rfl
  ·rw [if_neg h6] at hle
   rw [hle,if_pos rfl]
   have e3:s.mN = 1:=by
    rw [dF (by omega)] at em
    simp only [cond_false] at em
    omega
   rw [e3]
   refine (ToldOk.frz (key true true 0 (.tup [.fresh true 1 1 (fun j=>[[T.int .i64 1]].getD (0+j) []) 1 (some 1),.int .i64 0]) h1.symm h4.symm ?_)).tupTo (.cons (.new (.view (.inr rfl) fun j hj=>?_)) (.cons (.refl _) .nil))
   ·rw [k41,wr64 (x:=B 0+B 1) (by omega) (by omega)]
    clear bad key hv em en hmk hB hle h1 h4
    rcases h5 with q | q
    ·(repeat (first | refine BS ?_ | refine BF ?_))
     rfl
    ·(repeat (first | refine BS ?_ | refine BF ?_))
     rfl
   ·rw [one_get j hj]
    unfold ldG
    rw [if_neg (by omega),if_neg (by omega)]
    exact .refl _
 rw [if_neg h5] at hle
 by_cases h6:s.k = 6
 ·have e2:n = 1:=by
   rw [dF (by omega),dF (by omega),dF (by omega),dF (by omega)] at en; simp only [cond_false] at en; omega
  have b0:=(slotB_iff _ _).1 (hB 0 (by omega))
  rw [if_pos h6] at hle
  by_cases h7:B 0 = 3
  ·rw [if_pos h7] at hle
   refine bad 9 ⟨0,?_⟩ hle (by decide)
   rw [k41]
   clear bad key hv em en hmk hB hle h1 h4
   (repeat (first | refine BS ?_ | refine BF ?_))
   rfl
  ·rw [if_neg h7] at hle
   rw [hle,if_pos rfl]
   have e3:s.mN = 1:=by
    rw [dF (by omega)] at em
    simp only [cond_false] at em
    omega
   rw [e3]
   refine (ToldOk.frz (key true true 0 (.tup [.fresh true 1 1 (fun j=>[[T.int .i64 (B 0+1)]].getD (0+j) []) 1 (some 1),.int .i64 0]) h1.symm h4.symm ?_)).tupTo (.cons (.new (.view (.inr rfl) fun j hj=>?_)) (.cons (.refl _) .nil))
   ·rw [k41,wr64 (x:=B 0+1) (by omega) (by omega)]
    clear bad key hv em en hmk hB hle h1 h4
    (repeat (first | refine BS ?_ | refine BF ?_))
    rfl
   ·obtain rfl:j = 0:=by omega
    unfold ldG
    rw [if_pos ⟨h6,rfl⟩]
    exact .refl _
 rw [if_neg h6] at hle
 rw [hle,if_pos rfl]
 by_cases h7:s.k = 7
 ·have e2:n = 1:=by
   rw [dF (by omega),dF (by omega),dF (by omega),dF (by omega)] at en; simp only [cond_false] at en; omega
  have e3:s.mN = 1:=by
   rw [dF (by omega)] at em
   simp only [cond_false] at em
   omega
  rw [e3]
  refine (ToldOk.frz (key true true 0 (.tup [.fresh true 1 1 (fun j=>[[T.int .i64 (B 0)]].getD (0+j) []) 1 (some 1),.int .i64 0]) h1.symm h4.symm ?_)).tupTo (.cons (.new (.view (.inr rfl) fun j hj=>?_)) (.cons (.refl _) .nil))
  ·rw [k41]
   clear bad key hv em en hmk hB hle h1 h4
   (repeat (first | refine BS ?_ | refine BF ?_))
   rfl
  ·obtain rfl:j = 0:=by omega
   unfold ldG
   rw [if_neg (by omega),if_pos ⟨h7,rfl⟩]
   exact .refl _
 have e3:1<=s.mN/\s.mN<=4:=by
  by_cases q:s.k = 8
  ·rw [dT q,cond_true,wr64 (by omega) (by omega)] at em; omega
  ·rw [dF q,cond_false] at em; omega
 obtain ⟨j,hj⟩:∃ j,s.mN = j+1:=⟨s.mN - 1,by omega⟩
 have hmk:=hmk j (by omega)
 rw [hj]
 refine (ToldOk.frz (key true true j (.tup [.fresh true 1 (j+1) (fun _=>[T.int .i64 1]) (j+1) none,.int .i64 0]) h1.symm h4.symm ?_)).tupTo (.cons (.new (.view (.inl rfl) fun i hi=>?_)) (.cons (.refl _) .nil))
 ·rw [k41]
  clear bad key hv em en hB hle h1 h4
  (repeat (first | refine BS ?_ | refine BF ?_))
  rw [Nat.zero_add,Nat.sub_zero,bleT (Nat.le_refl _),beq_self_eq_true]
  rfl
 ·unfold ldG
  rw [if_neg (by omega),if_neg (by omega)]
  exact .refl _
open Go.Proofs
def oL:Nat->T
 | 0=>.own 0 0 0 1 (some 1)
 | j+1=>.own 0 j 0 (j+2) none
def oB (L:Nat->Nat->Int) (W:Nat->Nat):Nat->Blk
 | 0=>⟨0,1,1,fun e=>[slV (L e) (W e) none],false,false,none⟩
 | j+1=>⟨j,1,j+2,fun e=>[slV (L e) (W e) none],false,false,none⟩
def nX (m:Nat):Nat->T
 | 0=>.nils
 | j+1=>.own 1 j 0 m none
def nB (g:Nat->Int) (m:Nat):Nat->Heap
 | 0=>[]
 | j+1=>[⟨j,1,m,fun e=>[.int .i64 (g e)],true,false,none⟩]
def v23i (C:Nat->Nat->Sti) (ln:Nat->Nat) (h:Nat) (B:Nat->Int) (w:Nat) (ol:T) (i at_:Nat) (nx:T) (k:Nat):List T:=[.reg [chV C ln h],slV B w none,ol,.int .i64 i,.int .i64 at_,nx,.int .i64 k]
def v23 (C:Nat->Nat->Sti) (ln:Nat->Nat) (h:Nat) (B:Nat->Int) (w:Nat) (ol:T) (i:Nat):List T:=[.reg [chV C ln h],slV B w none,ol,.int .i64 i]
noncomputable def K23 (p q:List T->T->Prop) (n m:Nat) (g:Nat->Int) (e:Int):Orc:=(noneO.add 40 (callF p fun _=>some (.int .i64 n))).add 41 (callF q fun _=>some (bif decide (e = 0) then .tup [.new (.view 1 m (fun j=>[.int .i64 (g j)]) none),.int .i64 0] else .tup [.nils,.int .i64 e]))
noncomputable def K23b (p q:List T->T->Prop) (n:Nat) (e:Int):Orc:=(noneO.add 40 (callF p fun _=>some (.int .i64 n))).add 41 (callF q fun _=>some (.tup [.nils,.int .i64 e]))
def x23 (C:Nat->Nat->Sti) (ln:Nat->Nat) (h:Nat) (ol:T) (i:Nat) (nx:T):List T:=[.reg [chV C ln h],.undef,.undef,ol,.int .i64 i,nx]
def z23 (C:Nat->Nat->Sti) (ln:Nat->Nat) (h:Nat) (ol:T) (i:Nat) (nx:T) (e:Int):List T:=[.reg [chV C ln h],.nils,.int .i64 e,ol,.int .i64 i,nx]
noncomputable def l23 (x:List T->Heap->Ex->List T->Heap->Prop) (C:Nat->Nat->Sti) (ln:Nat->Nat) (h:Nat) (ol:T) (ob:Blk) (i o k:Nat) (y:Nat->Int):List (Nat × (List T->Heap->LT)) :=
 [(28,loopF x (.ret (.exit 8) (x23 C ln h ol i (nX o (k+1))) (ob :: nB y o (k+1))))]
noncomputable def l23b (x:List T->Heap->Ex->List T->Heap->Prop) (v:List T) (hp:Heap):List (Nat × (List T->Heap->LT)):=[(28,loopF x (.ret .ret v hp))]
theorem i23a (C:Nat->Nat->Sti) (ln:Nat->Nat) (h:Nat) (B:Nat->Int) (w i at_ n m:Nat) (g:Nat->Int) (ob:Blk) (ol:T) (p q:List T->T->Prop):iterR P18 G18 A18 (K23 p q n m g 0) 0 23 [] 28 (v23i C ln h B w ol i at_ .nils 0) [ob] =
(
 bif decide (0<=Int.ofNat i)&&decide (Int.ofNat i<Int.ofNat h) then
 bif decide (0<Int.ofNat (ln i)) then
 bif decide (0<=Int.ofNat i)&&decide (Int.ofNat i<Int.ofNat h) then
 bif decide (0<Int.ofNat (ln i)) then
 bif decF (p [(C i (0:Nat)).t] (.int .i64 (.ofNat n))) then
 bif decide (0<=Int.ofNat at_)&&decide (Int.ofNat at_<=IntKind.i64.wrap (Int.ofNat at_+Int.ofNat n))&&decide (IntKind.i64.wrap (Int.ofNat at_+Int.ofNat n)<=Int.ofNat w) then
 bif (IntKind.i64.wrap (Int.ofNat at_+Int.ofNat n)).toNat.ble w then
 bif decF (q [(C i (0:Nat)).t,slV (fun j=>B (at_+j)) ((IntKind.i64.wrap (Int.ofNat at_+Int.ofNat n)).toNat - at_)
 none] (.tup [(slV g m
 none).new,.int .i64 0])) then
 bif m==(0:Nat) then
 some ((.normal,[.reg [chV C ln h],slV B w
 none,ol,.int .i64 (.ofNat i),.int .i64 (IntKind.i64.wrap (Int.ofNat at_+Int.ofNat n)),.nils,.int .i64 1],[ob]))
 else
 bif (m * (9:Nat)).ble 70368744177664 then
 some ((.normal,[.reg [chV C ln h],slV B w
 none,ol,.int .i64 (.ofNat i),.int .i64 (IntKind.i64.wrap (Int.ofNat at_+Int.ofNat n)),.own [ob].length (0:Nat) (0:Nat) m
 none,.int .i64 1],ob :: bk59 g m))
 else none else none else none else none else none else none else none else
 some ((.exit 8,[.reg [chV C ln h],.undef,.undef,ol,.int .i64 (.ofNat i),.nils],[ob]))
 else
 none):=by kernel_rfl
theorem i23b (C:Nat->Nat->Sti) (ln:Nat->Nat) (h:Nat) (B:Nat->Int) (w i at_ n m o k:Nat) (g x:Nat->Int) (ob:Blk) (ol:T) (p q:List T->T->Prop):iterR P18 G18 A18 (K23 p q n m g 0) 0 23 [] 28 (v23i C ln h B w ol i at_ (nX o (k+1)) (k+1)) (ob :: nB x o (k+1)) =
(
 bif decide (0<=Int.ofNat i)&&decide (Int.ofNat i<Int.ofNat h) then
 bif decide (Int.ofNat (k+1)<Int.ofNat (ln i)) then
 bif decide (0<=Int.ofNat i)&&decide (Int.ofNat i<Int.ofNat h) then
 bif decide (0<=Int.ofNat (k+1))&&decide (Int.ofNat (k+1)<Int.ofNat (ln i)) then
 bif decF (p [(C i (k+(1:Nat))).t] (.int .i64 (.ofNat n))) then
 bif decide (0<=Int.ofNat at_)&&decide (Int.ofNat at_<=IntKind.i64.wrap (Int.ofNat at_+Int.ofNat n))&&decide (IntKind.i64.wrap (Int.ofNat at_+Int.ofNat n)<=Int.ofNat w) then
 bif (IntKind.i64.wrap (Int.ofNat at_+Int.ofNat n)).toNat.ble w then
 bif decF (q [(C i (k+(1:Nat))).t,slV (fun j=>B (at_+j)) ((IntKind.i64.wrap (Int.ofNat at_+Int.ofNat n)).toNat - at_)
 none] (.tup [(slV g m
 none).new,.int .i64 0])) then
 bif k==k&&true then
 bif ((0:Nat)+o).ble o then
 bif m==(0:Nat) then
 some ((.normal,[.reg [chV C ln h],slV B w
 none,ol,.int .i64 (.ofNat i),.int .i64 (IntKind.i64.wrap (Int.ofNat at_+Int.ofNat n)),.own 1 k 0 o
 none,.int .i64 (IntKind.i64.wrap (Int.ofNat (k+1)+(1:Int)))],[ob,.mk k 1 o (fun e=>[.int .i64 (x e)]) true false
 none]))
 else
 bif ((o+m) * (9:Nat)).ble 70368744177664 then
 bif ((0:Nat)+o+m).ble o then
 some ((.normal,[.reg [chV C ln h],slV B w
 none,ol,.int .i64 (.ofNat i),.int .i64 (IntKind.i64.wrap (Int.ofNat at_+Int.ofNat n)),.own 1 k 0 (o+m)
 none,.int .i64 (IntKind.i64.wrap (Int.ofNat (k+1)+(1:Int)))],[ob,.mk k 1 o (fun j =>
 bif ((0:Nat)+o).ble j&&j.blt (0+o+m) then [.int .i64 (g (j - (0+o)))]
 else [.int .i64 (x j)]) true false
 none]))
 else
 some ((.normal,[.reg [chV C ln h],slV B w
 none,ol,.int .i64 (.ofNat i),.int .i64 (IntKind.i64.wrap (Int.ofNat at_+Int.ofNat n)),.own 1 (k+1) (0:Nat) (o+m)
 none,.int .i64 (IntKind.i64.wrap (Int.ofNat (k+1)+(1:Int)))],[ob,.mk (k+1) (1:Nat) (o+m) (fun j =>
 bif j.blt o then [.int .i64 (x (0+j))]
 else [.int .i64 (g (j - o))]) true false
 none]))
 else none else none else none else none else none else none else none else none else none else
 some ((.exit 8,[.reg [chV C ln h],.undef,.undef,ol,.int .i64 (.ofNat i),.own 1 k 0 o
 none],[ob,.mk k 1 o (fun e=>[.int .i64 (x e)]) true false
 none]))
 else
 none):=by kernel_rfl
theorem i23e (C:Nat->Nat->Sti) (ln:Nat->Nat) (h:Nat) (B:Nat->Int) (w i at_ n k:Nat) (e:Int) (o:Nat) (ol:T) (ob:Blk) (x:Nat->Int) (p q:List T->T->Prop):iterR P18 G18 A18 (K23b p q n e) 0 23 [] 28 (v23i C ln h B w ol i at_ .nils k) [ob] =
(
 bif decide (0<=Int.ofNat i)&&decide (Int.ofNat i<Int.ofNat h) then
 bif decide (Int.ofNat k<Int.ofNat (ln i)) then
 bif decide (0<=Int.ofNat i)&&decide (Int.ofNat i<Int.ofNat h) then
 bif decide (0<=Int.ofNat k)&&decide (Int.ofNat k<Int.ofNat (ln i)) then
 bif decF (p [(C i k).t] (.int .i64 (.ofNat n))) then
 bif decide (0<=Int.ofNat at_)&&decide (Int.ofNat at_<=IntKind.i64.wrap (Int.ofNat at_+Int.ofNat n))&&decide (IntKind.i64.wrap (Int.ofNat at_+Int.ofNat n)<=Int.ofNat w) then
 bif (IntKind.i64.wrap (Int.ofNat at_+Int.ofNat n)).toNat.ble w then
 bif decF (q [(C i k).t,slV (fun j=>B (at_+j)) ((IntKind.i64.wrap (Int.ofNat at_+Int.ofNat n)).toNat - at_)
 none] (.tup [.nils,.int .i64 e])) then
 bif !decide (e = 0) then
 some ((.ret,[.reg [chV C ln h],.nils,.int .i64 e,ol,.int .i64 (.ofNat i),.nils],[ob]))
 else
 some ((.normal,[.reg [chV C ln h],slV B w
 none,ol,.int .i64 (.ofNat i),.int .i64 (IntKind.i64.wrap (Int.ofNat at_+Int.ofNat n)),.nils,.int .i64 (IntKind.i64.wrap (Int.ofNat k+1))],[ob]))
 else none else none else none else none else none else none else
 some ((.exit 8,[.reg [chV C ln h],.undef,.undef,ol,.int .i64 (.ofNat i),.nils],[ob]))
 else
 none):=by kernel_rfl
theorem i23f (C:Nat->Nat->Sti) (ln:Nat->Nat) (h:Nat) (B:Nat->Int) (w i at_ n k:Nat) (e:Int) (o:Nat) (ol:T) (ob:Blk) (x:Nat->Int) (p q:List T->T->Prop):iterR P18 G18 A18 (K23b p q n e) 0 23 [] 28 (v23i C ln h B w ol i at_ (nX o (k+1)) (k+1)) (ob :: nB x o (k+1)) =
(
 bif decide (0<=Int.ofNat i)&&decide (Int.ofNat i<Int.ofNat h) then
 bif decide (Int.ofNat (k+1)<Int.ofNat (ln i)) then
 bif decide (0<=Int.ofNat i)&&decide (Int.ofNat i<Int.ofNat h) then
 bif decide (0<=Int.ofNat (k+1))&&decide (Int.ofNat (k+1)<Int.ofNat (ln i)) then
 bif decF (p [(C i (k+(1:Nat))).t] (.int .i64 (.ofNat n))) then
 bif decide (0<=Int.ofNat at_)&&decide (Int.ofNat at_<=IntKind.i64.wrap (Int.ofNat at_+Int.ofNat n))&&decide (IntKind.i64.wrap (Int.ofNat at_+Int.ofNat n)<=Int.ofNat w) then
 bif (IntKind.i64.wrap (Int.ofNat at_+Int.ofNat n)).toNat.ble w then
 bif decF (q [(C i (k+(1:Nat))).t,slV (fun j=>B (at_+j)) ((IntKind.i64.wrap (Int.ofNat at_+Int.ofNat n)).toNat - at_)
 none] (.tup [.nils,.int .i64 e])) then
 bif !decide (e = 0) then
 some ((.ret,[.reg [chV C ln h],.nils,.int .i64 e,ol,.int .i64 (.ofNat i),.own 1 k 0 o
 none],[ob,.mk k 1 o (fun e=>[.int .i64 (x e)]) true false
 none]))
 else
 bif k==k&&true then
 bif ((0:Nat)+o).ble o then
 some ((.normal,[.reg [chV C ln h],slV B w
 none,ol,.int .i64 (.ofNat i),.int .i64 (IntKind.i64.wrap (Int.ofNat at_+Int.ofNat n)),.own 1 k 0 o
 none,.int .i64 (IntKind.i64.wrap (Int.ofNat (k+1)+(1:Int)))],[ob,.mk k 1 o (fun e=>[.int .i64 (x e)]) true false
 none]))
 else none else none else none else none else none else none else none else none else
 some ((.exit 8,[.reg [chV C ln h],.undef,.undef,ol,.int .i64 (.ofNat i),.own 1 k 0 o
 none],[ob,.mk k 1 o (fun e=>[.int .i64 (x e)]) true false
 none]))
 else
 none):=by kernel_rfl
theorem j23a (C:Nat->Nat->Sti) (ln:Nat->Nat) (h:Nat) (L:Nat->Nat->Int) (W:Nat->Nat) (o k:Nat) (y:Nat->Int) (x:List T->Heap->Ex->List T->Heap->Prop):iterR P18 G18 A18 noneO 0 23 (l23 x C ln h (oL 0) (oB L W 0) 0 o k y) 23 (v23 C ln h (L 0) (W 0) (oL 0) 0) [oB L W 0] =
(
 bif decide (0<Int.ofNat h) then
 bif decF (x [.reg [chV C ln h],slV (L (0:Nat)) (W (0:Nat))
 none,.own 0 0 0 1 (some 1),.int .i64 0,.int .i64 0,.nils,.int .i64 0] (h14 (1:Nat) fun e=>slV (L e) (W e)
 none) (.exit 8) [.reg [chV C ln h],.undef,.undef,.own 0 0 0 1 (some 1),.int .i64 0,.own 1 k 0 o
 none] [pbk (0:Nat) fun e=>slV (L e) (W e)
 none,.mk k 1 o (fun e=>[.int .i64 (y e)]) true false
 none]) then
 some ((.normal,[.reg [chV C ln h],.own 1 k 0 o
 none,.own [pbk (0:Nat) fun e=>slV (L e) (W e)
 none,Blk.mk k 1 o (fun e=>[T.int .i64 (y e)]) true false
 none,Blk.mk 0 1 1 (fun j=>[[T.own 1 k 0 o
 none]].getD j []) false true
 none].length (0:Nat) (0:Nat) (2:Nat)
 none,.int .i64 1],[pbk (0:Nat) fun e=>slV (L e) (W e)
 none,.mk k 1 o (fun e=>[.int .i64 (y e)]) true false
 none,.mk 0 1 1 (fun j=>[[T.own 1 k 0 o
 none]].getD j []) false true
 none,.mk 0 1 2 (fun j =>
 bif j.blt 1 then [slV (L (0+j)) (W (0+j))
 none]
 else [[T.own 1 k 0 o
 none]].getD ((0:Nat)+(j - 1)) []) false false
 none]))
 else none else
 some ((.exit 6,[.undef,.undef,.own 0 0 0 1 (some 1)],h14 (1:Nat) fun e=>slV (L e) (W e)
 none))):=by kernel_rfl
theorem j23b (C:Nat->Nat->Sti) (ln:Nat->Nat) (h i:Nat) (L:Nat->Nat->Int) (W:Nat->Nat) (o k:Nat) (y:Nat->Int) (x:List T->Heap->Ex->List T->Heap->Prop):iterR P18 G18 A18 noneO 0 23 (l23 x C ln h (oL (i+1)) (oB L W (i+1)) (i+1) o k y) 23 (v23 C ln h (L (i+1)) (W (i+1)) (oL (i+1)) (i+1)) [oB L W (i+1)] =
(
 bif decide (Int.ofNat (i+1)<Int.ofNat h) then
 bif decF (x [.reg [chV C ln h],slV (L (i+1)) (W (i+1))
 none,.own 0 i 0 (i+2)
 none,.int .i64 (.ofNat (i+1)),.int .i64 0,.nils,.int .i64 0] [.mk i 1 (i+2) (fun e=>[slV (L e) (W e)
 none]) false false
 none] (.exit 8) [.reg [chV C ln h],.undef,.undef,.own 0 i 0 (i+2)
 none,.int .i64 (.ofNat (i+1)),.own 1 k 0 o
 none] [.mk i 1 (i+2) (fun e=>[slV (L e) (W e)
 none]) false false
 none,.mk k 1 o (fun e=>[.int .i64 (y e)]) true false
 none]) then
 bif i==i&&true then
 bif ((0:Nat)+(i+(2:Nat))).ble (i+2) then
 bif ((i+(2:Nat)+(1:Nat)) * (25:Nat)).ble 70368744177664 then
 bif ((0:Nat)+(i+(2:Nat))+(1:Nat)).ble (i+2) then
 some ((.normal,[.reg [chV C ln h],.own 1 k 0 o
 none,.own 0 i 0 (i+2+(1:Nat))
 none,.int .i64 (IntKind.i64.wrap (Int.ofNat (i+1)+(1:Int)))],[.mk i 1 (i+2) (fun j =>
 bif ((0:Nat)+(i+(2:Nat))).ble j&&j.blt ((0:Nat)+(i+2)+(1:Nat)) then [[T.own 1 k 0 o
 none]].getD ((0:Nat)+(j - ((0:Nat)+(i+2)))) []
 else [slV (L j) (W j)
 none]) false false
 none,.mk k 1 o (fun e=>[.int .i64 (y e)]) true false
 none,.mk 0 1 1 (fun j=>[[T.own 1 k 0 o
 none]].getD j []) false true
 none]))
 else
 some ((.normal,[.reg [chV C ln h],.own 1 k 0 o
 none,.own 0 (i+1) (0:Nat) (i+2+(1:Nat))
 none,.int .i64 (IntKind.i64.wrap (Int.ofNat (i+1)+(1:Int)))],[.mk (i+1) (1:Nat) (i+2+(1:Nat)) (fun j =>
 bif j.blt (i+2) then [slV (L (0+j)) (W (0+j))
 none]
 else [[T.own 1 k 0 o
 none]].getD ((0:Nat)+(j - (i+2))) []) false false
 none,.mk k 1 o (fun e=>[.int .i64 (y e)]) true false
 none,.mk 0 1 1 (fun j=>[[T.own 1 k 0 o
 none]].getD j []) false true
 none]))
 else none else none else none else none else
 some ((.exit 6,[.undef,.undef,.own 0 i 0 (i+2)
 none],[.mk i 1 (i+2) (fun e=>[slV (L e) (W e)
 none]) false false
 none]))):=by kernel_rfl
theorem j23e (C:Nat->Nat->Sti) (ln:Nat->Nat) (h i w:Nat) (B:Nat->Int) (ol a:T) (e:Int) (ob:Blk) (hp:Heap) (x:List T->Heap->Ex->List T->Heap->Prop):iterR P18 G18 A18 noneO 0 23 (l23b x (z23 C ln h ol i a e) hp) 23 (v23 C ln h B w ol i) [ob] =
(
 bif decide (Int.ofNat i<Int.ofNat h) then
 bif decF (x [.reg [chV C ln h],slV B w
 none,ol,.int .i64 (.ofNat i),.int .i64 0,.nils,.int .i64 0] [ob] .ret [.reg [chV C ln h],.nils,.int .i64 e,ol,.int .i64 (.ofNat i),a] hp) then
 some ((.ret,[.nils,.int .i64 e,ol],hp))
 else none else
 some ((.exit 6,[.undef,.undef,ol],[ob]))):=by kernel_rfl
open Go.Proofs
theorem mN_pos {s:Sti} (hs:s.Ok) (hv:vF s = true):1<=s.mN/\s.mN<=4:=by
 have hk:=(s.v_iff hs).1 hv
 have em:s.m = bif vF s then (bif decide (s.k = 8) then IntKind.i64.wrap (s.a+s.b) else 1) else 0:=rfl
 rw [hv,cond_true] at em
 unfold Sti.mN
 by_cases q:s.k = 8
 ·rw [dT q,cond_true,wr64 (by omega) (by omega)] at em; omega
 ·rw [dF q,cond_false] at em; omega
theorem wrN {a n:Nat} (h:a+n<=1000000):IntKind.i64.wrap (Int.ofNat a+Int.ofNat n) = Int.ofNat (a+n):=by rw [wr64 (by show (-9223372036854775808:Int)<=(a:Int)+n; omega) (by show (a:Int)+n<=9223372036854775807; omega)]; rfl
section
variable {C:Nat->Nat->Sti} {ln:Nat->Nat} {h i:Nat} {B:Nat->Int} {w:Nat} {ol:T} {ob:Blk}
theorem in23 (hC:∀ i j,(C i j).Ok) (hi:i<h) (hh:h<=1000) (hln:ln i<=1000) (hw:w = offN (C i) (ln i)) (hw2:w<=1000) (hout:outN (C i) (ln i)<=1000) :
 (allB (fun k=>decide (erK (C i) B k = 0)) (ln i) = true->LoopOk P18 G18 (A18 23) 23 28 (litS (v23i C ln h B w ol i 0 .nils 0) [ob] (.exit 8) (x23 C ln h ol i (nX (outN (C i) (ln i)) (ln i))) (ob :: nB (conF (C i) B (ln i)) (outN (C i) (ln i)) (ln i)))) ∧
 (allB (fun k=>decide (erK (C i) B k = 0)) (ln i) = false->∃ e v H,(e = .ret/\∃ a,v = z23 C ln h ol i a (rowEr (C i) B (ln i)))/\LoopOk P18 G18 (A18 23) 23 28 (litS (v23i C ln h B w ol i 0 .nils 0) [ob] e v H)):=by
 obtain ⟨p,hp⟩:=is_val P18 G18 40
 obtain ⟨q,hq⟩:=is_val P18 G18 41
 have hK:∀ n m g e,OrcOk P18 G18 (K23 p q n m g e):=fun n m g e=>told_add (told_add none_ok (callF_told hp)) (callF_told hq)
 have hKb:∀ n e,OrcOk P18 G18 (K23b p q n e):=fun n e=>told_add (told_add none_ok (callF_told hp)) (callF_told hq)
 refine loop_scanE hm18 (by kernel_rfl) (fun k=>v23i C ln h B w ol i (offN (C i) k) (nX (outN (C i) k) k) k) (fun k=>ob :: nB (conF (C i) B k) (outN (C i) k) k) (fun k=>decide (erK (C i) B k = 0)) (n:=ln i) _ (fun k hk _ hg=>?_) (fun k hk hlt hg=>?_) (fun _=>?_)
 ·have hg:erK (C i) B k = 0:=of_decide_eq_true hg
  have hv:vF (C i k) = true:=ldE_v hg
  have hm:=mN_pos (hC i k) hv
  have t40:=refNeedsT (C i k) (hC i k)
  have hnb:=(C i k).n_bd (hC i k)
  rw [show (C i k).n = (((C i k).nN:Nat):Int) by unfold Sti.nN; omega] at t40
  have t41:=refLoadsT (C i k) (hC i k) (fun j=>B (offN (C i) k+j)) (C i k).nN none (by unfold Sti.nN; omega)
  unfold ldR2 at t41
  rw [if_pos (show ldE (C i k) (fun j=>B (offN (C i) k+j)) (C i k).nN = 0 from hg)] at t41
  have eo:offN (C i) (k+1) = offN (C i) k+(C i k).nN:=rfl
  have eu:outN (C i) (k+1) = outN (C i) k+(C i k).mN:=rfl
  have hle1:=(offN_le (C i) (show k+1<=ln i from hk)).1
  have hle2:=(offN_le (C i) (show k+1<=ln i from hk)).2
  have ec:∀ j,conF (C i) B (k+1) j = bif Nat.ble (outN (C i) k) j&&Nat.blt j (outN (C i) k+(C i k).mN) then ldG (C i k) (fun t=>B (offN (C i) k+t)) (j - outN (C i) k) else conF (C i) B k j:=fun j=>rfl
  rw [eo] at hle1 ⊢
  rw [eu] at hle2 ⊢
  generalize conF (C i) B (k+1) = y2 at *
  generalize ldG (C i k) (fun t=>B (offN (C i) k+t)) = g at *
  change ToldOk P18 G18 41 _ (.tup [.new (slV g (C i k).mN none),.int .i64 0]) at t41
  cases k with
  | zero =>
   change ∀ j,y2 j = bif Nat.ble 0 j&&Nat.blt j (0+(C i 0).mN) then g (j - 0) else 0 at ec
   change 0+(C i 0).nN<=_ at hle1
   change 0+(C i 0).mN<=_ at hle2
   show Step P18 G18 (A18 23) 23 28 _ (v23i C ln h B w ol i 0 .nils 0) [ob] (v23i C ln h B w ol i (0+(C i 0).nN) (nX (0+(C i 0).mN) 1) 1) (ob :: nB y2 (0+(C i 0).mN) 1)
   change ToldOk P18 G18 41 [(C i 0).t,slV (fun j=>B (0+j)) (C i 0).nN none] _ at t41
   generalize (C i 0).nN = n at *
   generalize (C i 0).mN = m at *
   refine Step.mk0 (A:=A18) (m:=0) (hK n m g 0) rfl rfl loops0 (h1:=ob :: bk59 g m) ?_ (.cons ⟨rfl,rfl,rfl,id,fun j hj=>rfl⟩ (.cons ⟨rfl,rfl,by show 0+m = m; omega,id,fun j hj=>?_⟩ .nil))
   ·rw [i23a,wrN (by omega),show (Int.ofNat (0+n)).toNat = 0+n from rfl,Nat.add_sub_cancel_left]
    clear ec hC hg hv
    (repeat (first | refine BS ?_ | refine BF ?_))
    rw [Nat.zero_add,Nat.zero_add]
    rfl
   ·show [T.int .i64 (y2 j)] = [.int .i64 (g j)]
    have hj:j<m:=hj
    rw [ec,bleT (Nat.zero_le _),bltT (by omega)]
    rfl
  | succ k =>
   generalize (C i (k+1)).nN = n at *
   generalize (C i (k+1)).mN = m at *
   generalize conF (C i) B (k+1) = y1 at *
   generalize offN (C i) (k+1) = a at *
   generalize outN (C i) (k+1) = o at *
   refine Step.mk0 (A:=A18) (m:=0) (hK n m g 0) rfl rfl loops0 (h1:=[ob,⟨k+1,1,o+m,fun j=>bif Nat.blt j o then [.int .i64 (y1 (0+j))] else [.int .i64 (g (j - o))],true,false,none⟩]) ?_ (.cons ⟨rfl,rfl,rfl,id,fun j hj=>rfl⟩ (.cons ⟨rfl,rfl,rfl,id,fun j hj=>?_⟩ .nil))
   ·rw [i23b,wrN (by omega),show (Int.ofNat (a+n)).toNat = a+n from rfl,Nat.add_sub_cancel_left,up1 (by omega)]
    clear ec hC hg hv
    (repeat (first | refine BS ?_ | refine BF ?_))
    rfl
   ·show [T.int .i64 (y2 j)] = bif Nat.blt j o then [.int .i64 (y1 (0+j))] else [.int .i64 (g (j - o))]
    have hj:j<o+m:=hj
    rw [ec,Nat.zero_add]
    by_cases q:j<o
    ·rw [bltT q,bleF q]; rfl
    ·rw [bltF (show o<=j by omega),bleT (show o<=j by omega),bltT hj]; rfl
 ·have hg:erK (C i) B k ≠ 0:=of_decide_eq_false hg
  have er:=rowEr_at (C i) B k hg (fun j hj=>of_decide_eq_true (hlt j hj)) (ln i) hk
  have t40:=refNeedsT (C i k) (hC i k)
  have hnb:=(C i k).n_bd (hC i k)
  rw [show (C i k).n = (((C i k).nN:Nat):Int) by unfold Sti.nN; omega] at t40
  have t41:=refLoadsT (C i k) (hC i k) (fun j=>B (offN (C i) k+j)) (C i k).nN none (by unfold Sti.nN; omega)
  unfold ldR2 at t41
  rw [if_neg (show ¬ ldE (C i k) (fun j=>B (offN (C i) k+j)) (C i k).nN = 0 from hg)] at t41
  have eo:offN (C i) (k+1) = offN (C i) k+(C i k).nN:=rfl
  have hle1:=(offN_le (C i) (show k+1<=ln i from hk)).1
  rw [eo] at hle1
  change ToldOk P18 G18 41 _ (.tup [.nils,.int .i64 (erK (C i) B k)]) at t41
  refine ⟨.ret,z23 C ln h ol i (nX (outN (C i) k) k) (rowEr (C i) B (ln i)),ob :: nB (conF (C i) B k) (outN (C i) k) k,⟨rfl,_,rfl⟩,?_⟩
  rw [er]
  clear er hlt eo
  generalize erK (C i) B k = e at *
  cases k with
  | zero =>
   show Last P18 G18 (A18 23) 23 28 _ (v23i C ln h B w ol i 0 .nils 0) [ob] .ret (z23 C ln h ol i .nils e) [ob]
   change 0+(C i 0).nN<=_ at hle1
   change ToldOk P18 G18 41 [(C i 0).t,slV (fun j=>B (0+j)) (C i 0).nN none] _ at t41
   generalize (C i 0).nN = n at *
   refine Last.mk0 (A:=A18) (m:=0) (hKb n e) rfl rfl loops0 (h1:=[ob]) (by simp) ?_ (.refl _)
   rw [i23e (o:=0) (x:=fun _=>0),wrN (by omega),show (Int.ofNat (0+n)).toNat = 0+n from rfl,Nat.add_sub_cancel_left]
   clear hC
   (repeat (first | refine BS ?_ | refine BF ?_))
   rfl
  | succ k =>
   generalize (C i (k+1)).nN = n at *
   generalize conF (C i) B (k+1) = y1 at *
   generalize offN (C i) (k+1) = a at *
   generalize outN (C i) (k+1) = o at *
   refine Last.mk0 (A:=A18) (m:=0) (hKb n e) rfl rfl loops0 (h1:=ob :: nB y1 o (k+1)) (by simp) ?_ (.refl _)
   rw [i23f,wrN (by omega),show (Int.ofNat (a+n)).toNat = a+n from rfl,Nat.add_sub_cancel_left]
   clear hC
   (repeat (first | refine BS ?_ | refine BF ?_))
   rfl
 ·generalize conF (C i) B (ln i) = y1 at *
  generalize offN (C i) (ln i) = a at *
  generalize outN (C i) (ln i) = o at *
  have e0:∀ k,ln i = k->Last P18 G18 (A18 23) 23 28 (ob :: nB (conF (C i) B 0) (outN (C i) 0) 0).length (v23i C ln h B w ol i a (nX o k) k) (ob :: nB y1 o k) (.exit 8) (x23 C ln h ol i (nX o k)) (ob :: nB y1 o k):=fun k hk=>by
   cases k with
   | zero =>
    refine Last.mk0 (A:=A18) (m:=0) (hKb 0 0) rfl rfl loops0 (h1:=[ob]) (by simp) ?_ (.refl _)
    show iterR P18 G18 A18 (K23b p q 0 0) 0 23 [] 28 (v23i C ln h B w ol i a .nils 0) [ob] = _
    rw [i23e (o:=0) (x:=fun _=>0)]
    clear hC
    refine BS ?_
    refine BF ?_
    rfl
   | succ k =>
    refine Last.mk0 (A:=A18) (m:=0) (hKb 0 0) rfl rfl loops0 (h1:=ob :: nB y1 o (k+1)) (by simp) ?_ (.refl _)
    rw [i23f]
    clear hC
    refine BS ?_
    refine BF ?_
    rfl
  exact e0 _ rfl
end
open Go.Proofs
theorem ren0_nB {σ:List Nat} {h:Heap} {ix k m:Nat} {g:Nat->Int} (hp:posOf σ ix = none) (hc:σ.contains ix = false) (hi:h[ix]? = some ⟨k,1,m,fun e=>[.int .i64 (g e)],true,false,none⟩):ren0 σ h (.own ix k 0 m none) = slV g m none:=by
 simp only [ren0,hp,resolve,hc,cond_false,hi,beq_self_eq_true,Bool.true_and,Option.isNone_none]
 rw [show Nat.ble (0+m) m = true from bleT (by omega)]
 simp only [cond_true,Nat.zero_add]
 rfl
theorem rowEr_all {r:Nat->Sti} {B:Nat->Int} {n:Nat}:(rowEr r B n = 0) = (allB (fun k=>decide (erK r B k = 0)) n = true):=by
 rcases first_badB (fun k=>decide (erK r B k = 0)) n with q | ⟨I,hI,hb,hlt⟩
 ·rw [q,rowEr_zero r B n fun i hi=>of_decide_eq_true ((allB_iff _ _).1 q i hi)]
  simp
 ·rw [(allB_false _ _).2 ⟨I,hI,hb⟩,rowEr_at r B I (of_decide_eq_false hb) (fun i hi=>of_decide_eq_true (hlt i hi)) n hI]
  simpa using of_decide_eq_false hb
section
variable {C:Nat->Nat->Sti} {ln:Nat->Nat} {h:Nat}
theorem step23 (ok:ChOk C ln h) (hC:∀ i j,(C i j).Ok) {i:Nat} (hi:i<h) (hg:rowEr (C i) (LD C ln i) (ln i) = 0) :
 Step P18 G18 (A18 23) 23 23 0 (v23 C ln h (LD C ln i) (WD C ln i) (oL i) i) [oB (LD C ln) (WD C ln) i] (v23 C ln h (LD C ln (i+1)) (WD C ln (i+1)) (oL (i+1)) (i+1)) [oB (LD C ln) (WD C ln) (i+1)]:=by
 obtain ⟨x,hx⟩:=is_loop P18 G18 (A18 23) 23 28
 obtain ⟨r1,r2,_⟩:=rE_zero (ok.row i hi)
 obtain ⟨o1,o2,o3,o4⟩:=ok.out hC hi
 have hh:=ok.h31
 have hw:=ok.wd hC i hi
 have hl:=(in23 (ol:=oL i) (ob:=oB (LD C ln) (WD C ln) i) hC hi (by omega) (by omega) hw (by omega) (by omega)).1 (by rw [← rowEr_all]; exact hg)
 obtain ⟨k,hk⟩:∃ k,ln i = k+1:=⟨ln i - 1,by omega⟩
 have eL:LD C ln (i+1) = conF (C i) (LD C ln i) (ln i):=rfl
 have eW:WD C ln (i+1) = outN (C i) (ln i):=rfl
 rw [← eL,← eW] at hl
 rw [← eW] at o1 o2
 have hk':∀ n,n = ln i->LoopOk P18 G18 (A18 23) 23 28 (litS (v23i C ln h (LD C ln i) (WD C ln i) (oL i) i 0 .nils 0) [oB (LD C ln) (WD C ln) i] (.exit 8) (x23 C ln h (oL i) i (nX (WD C ln (i+1)) n)) (oB (LD C ln) (WD C ln) i :: nB (LD C ln (i+1)) (WD C ln (i+1)) n)):=fun n hn=>by rw [hn]; exact hl
 have hl:=hk' (k+1) hk.symm
 clear eL eW ok hC hg hw hk' hk r1 r2
 generalize LD C ln = L at *
 generalize WD C ln = W at *
 cases i with
 | zero =>
  refine Step.mkC (A:=A18) (m:=0) none_ok rfl rfl (l:=l23 x C ln h (oL 0) (oB L W 0) 0 (W 1) k (L 1)) (loops1 (loopF_ok hx _)) [3]
   (v1:=[.reg [chV C ln h],.own 1 k 0 (W 1) none,.own 3 0 0 2 none,.int .i64 1]) (h1:=[oB L W 0,⟨k,1,W 1,fun e=>[.int .i64 (L 1 e)],true,false,none⟩,⟨0,1,1,fun j=>[[T.own 1 k 0 (W 1) none]].getD j [],false,true,none⟩,⟨0,1,2,fun j=>bif Nat.blt j 1 then [slV (L (0+j)) (W (0+j)) none] else [[T.own 1 k 0 (W 1) none]].getD (0+(j - 1)) [],false,false,none⟩]) ?_ (by kernel_rfl)
   (v2:=v23 C ln h (L 1) (W 1) (oL 1) 1) ?_ rfl fun nt=>.same (.cons ⟨rfl,rfl,rfl,id,fun j hj=>?_⟩ .nil)
  ·rw [j23a]
   (repeat (first | refine BS ?_ | refine BF ?_))
   rfl
  ·simp only [List.map,ren]
   rw [ren0_nB rfl rfl rfl]
   rfl
  ·have hj:j<2:=hj
   rcases (by omega:j = 0 ∨ j = 1) with rfl | rfl
   ·rfl
   ·show [slV (L 1) (W 1) none] = [ren0 [3] _ (.own 1 k 0 (W 1) none)]
    rw [ren0_nB rfl rfl rfl]
 | succ i =>
  refine Step.mkC (A:=A18) (m:=0) none_ok rfl rfl (l:=l23 x C ln h (oL (i+1)) (oB L W (i+1)) (i+1) (W (i+1+1)) k (L (i+1+1))) (loops1 (loopF_ok hx _)) [0]
   (v1:=[.reg [chV C ln h],.own 1 k 0 (W (i+1+1)) none,.own 0 (i+1) 0 (i+2+1) none,.int .i64 (i+1+1:Nat)]) (h1:=[⟨i+1,1,i+2+1,fun j=>bif Nat.blt j (i+2) then [slV (L (0+j)) (W (0+j)) none] else [[T.own 1 k 0 (W (i+1+1)) none]].getD (0+(j - (i+2))) [],false,false,none⟩,⟨k,1,W (i+1+1),fun e=>[.int .i64 (L (i+1+1) e)],true,false,none⟩,⟨0,1,1,fun j=>[[T.own 1 k 0 (W (i+1+1)) none]].getD j [],false,true,none⟩]) ?_ (by kernel_rfl)
   (v2:=v23 C ln h (L (i+1+1)) (W (i+1+1)) (oL (i+1+1)) (i+1+1)) ?_ rfl fun nt=>.same (.cons ⟨rfl,rfl,rfl,id,fun j hj=>?_⟩ .nil)
  ·rw [j23b,up1 (by omega)]
   (repeat (first | refine BS ?_ | refine BF ?_))
   rfl
  ·simp only [List.map,ren]
   rw [ren0_nB rfl rfl rfl]
   rfl
  ·have hj:j<i+3:=hj
   show [slV (L j) (W j) none] = (bif Nat.blt j (i+2) then [slV (L (0+j)) (W (0+j)) none] else [[T.own 1 k 0 (W (i+1+1)) none]].getD (0+(j - (i+2))) []).map (ren0 [0] _)
   by_cases q:j<i+2
   ·rw [bltT q,Nat.zero_add]
    rfl
   ·obtain rfl:j = i+2:=by omega
    rw [bltF (Nat.le_refl _),Nat.sub_self]
    show _ = [ren0 [0] _ (.own 1 k 0 (W (i+1+1)) none)]
    rw [ren0_nB rfl rfl rfl]
theorem end23 (ok:ChOk C ln h) (hC:∀ i j,(C i j).Ok) {i:Nat} (hi:i<h) (hg:rowEr (C i) (LD C ln i) (ln i) ≠ 0) :
 ∃ hp,Last P18 G18 (A18 23) 23 23 0 (v23 C ln h (LD C ln i) (WD C ln i) (oL i) i) [oB (LD C ln) (WD C ln) i] .ret [.nils,.int .i64 (rowEr (C i) (LD C ln i) (ln i)),oL i] hp:=by
 obtain ⟨x,hx⟩:=is_loop P18 G18 (A18 23) 23 28
 obtain ⟨r1,r2,_⟩:=rE_zero (ok.row i hi)
 obtain ⟨o1,o2,o3,o4⟩:=ok.out hC hi
 have hh:=ok.h31
 have hw:=ok.wd hC i hi
 obtain ⟨_,_,hp,⟨rfl,a,rfl⟩,hl⟩:=(in23 (ol:=oL i) (ob:=oB (LD C ln) (WD C ln) i) hC hi (by omega) (by omega) hw (by omega) (by omega)).2 (by
  cases q:allB (fun k=>decide (erK (C i) (LD C ln i) k = 0)) (ln i)
  ·rfl
  ·rw [← rowEr_all] at q; exact absurd q hg)
 refine ⟨hp,?_⟩
 clear hg ok hC hw
 generalize rowEr (C i) (LD C ln i) (ln i) = e at *
 refine Last.mk0 (A:=A18) (m:=0) none_ok rfl rfl (l:=l23b x (z23 C ln h (oL i) i a e) hp) (loops1 (loopF_ok hx _)) (h1:=hp) (by simp) ?_ (.refl _)
 rw [j23e]
 (repeat (first | refine BS ?_ | refine BF ?_))
 rfl
end
end Go.Ab

