/- A part of the proof: nothing is assumed. -/
import Derived.Test.YteoamlekamflbaaP14
import Derived.Test.YteoamlekamflbaaP15
import Derived.Test.YteoamlekamflbaaP11
import Derived.Test.YteoamlekamflbaaP4
set_option linter.all false
namespace Go.Ab
open Go.Proofs
def pgV (R : Nat -> Nat -> Int) (ln : Nat -> Nat) (h : Nat) (rc : Nat -> Option Nat) (c : Option Nat) : T := .view 1 h (fun i => [rowV (R i) (ln i) (rc i)]) c
def v29g (R : Nat -> Nat -> Int) (ln : Nat -> Nat) (h : Nat) (rc : Nat -> Option Nat) (c : Option Nat) (i : Int) : List T := [pgV R ln h rc c, pgV R ln h rc c, .int .i64 h, .int .i64 i]
def v29e (R : Nat -> Nat -> Int) (ln : Nat -> Nat) (h : Nat) (rc : Nat -> Option Nat) (c : Option Nat) (i : Int) : List T := [pgV R ln h rc c, .int .i64 h, .int .i64 i]
def pA (ln : Nat -> Nat) (i : Nat) : Bool := decide (ln i <= 16)
def pB (R : Nat -> Nat -> Int) (ln : Nat -> Nat) (i : Nat) : Bool := !(decide (ln i = 0) || decide (mnF (R i) (ln i - 1) < 1) || decide (6 < mxF (R i) (ln i - 1)))
def pC (ln : Nat -> Nat) (i : Nat) : Bool := decide (ln i = ln 0)
def pD (R : Nat -> Nat -> Int) (ln : Nat -> Nat) (i : Nat) : Bool := decide (kK (R i) (ln i) <= 2)
def pcE (R : Nat -> Nat -> Int) (ln : Nat -> Nat) (h : Nat) : Int := bif decide (31 < h) then 3 else bif allB (pA ln) h then (bif decide (h % 2 = 0) then 1 else bif allB (pB R ln) h then (bif allB (pC ln) h then (bif allB (pD R ln) h then 0 else 14) else 5) else 1) else 3
noncomputable def l29 (x y z t : List T -> Heap -> Ex -> List T -> Heap -> Prop) (R : Nat -> Nat -> Int) (ln : Nat -> Nat) (h : Nat) (rc : Nat -> Option Nat) (c : Option Nat) : List (Nat × (List T -> Heap -> LT)) :=
 [(4, loopF x (.ite (allB (pA ln) h) (.ret (.exit 0) [pgV R ln h rc c, .undef] []) (.ret .ret [pgV R ln h rc c, .int .i64 3] []))),
  (12, loopF y (.ite (allB (pB R ln) h) (.ret (.exit 2) [pgV R ln h rc c, .undef] []) (.ret .ret [pgV R ln h rc c, .int .i64 1] []))),
  (18, loopF z (.ite (allB (pC ln) h) (.ret (.exit 4) [pgV R ln h rc c, .undef] []) (.ret .ret [pgV R ln h rc c, .int .i64 5] []))),
  (24, loopF t (.ite (allB (pD R ln) h) (.ret (.exit 6) [.undef] []) (.ret .ret [.int .i64 14] [])))]
section
variable (R : Nat -> Nat -> Int) (ln : Nat -> Nat) (h : Nat) (rc : Nat -> Option Nat) (c : Option Nat)
theorem i29a (i : Nat) : iterR P18 G18 A18 noneO 0 29 [] 4 (v29g R ln h rc c i) [] =
(
 bif decide (Int.ofNat i < Int.ofNat h) then
 bif decide (0 <= Int.ofNat i) && decide (Int.ofNat i < Int.ofNat h) then
 bif decide (16 < Int.ofNat (ln i)) then
 some ((.ret, [pgV R ln h rc c, .int .i64 3], []))
 else
 some ((.normal, v29g R ln h rc c (IntKind.i64.wrap (Int.ofNat i + 1)), []))
 else none else
 some ((.exit 0, [pgV R ln h rc c, .undef], []))) := by kernel_rfl
theorem i29b (i : Nat) (a b : Int) (p q : List T -> T -> Prop) : iterR P18 G18 A18 (K29 p q a b) 0 29 [] 12 (v29g R ln h rc c i) [] =
(
 bif decide (Int.ofNat i < Int.ofNat h) then
 bif decide (0 <= Int.ofNat i) && decide (Int.ofNat i < Int.ofNat h) then
 bif decide (Int.ofNat (ln i) = 0) then
 some ((.ret, [pgV R ln h rc c, .int .i64 1], []))
 else
 bif decF (p [.view 1 (ln i) (fun j => [.int .u8 (R i j)]) (rc i)] (.int .u8 a)) then
 bif decide (a < 1) then
 some ((.ret, [pgV R ln h rc c, .int .i64 1], []))
 else
 bif decF (q [.view 1 (ln i) (fun j => [.int .u8 (R i j)]) (rc i)] (.int .u8 b)) then
 bif decide (6 < b) then
 some ((.ret, [pgV R ln h rc c, .int .i64 1], []))
 else
 some ((.normal, v29g R ln h rc c (IntKind.i64.wrap (Int.ofNat i + 1)), []))
 else none else none else none else
 some ((.exit 2, [pgV R ln h rc c, .undef], []))) := by kernel_rfl
theorem i29c (i : Nat) : iterR P18 G18 A18 noneO 0 29 [] 18 (v29g R ln h rc c i) [] =
(
 bif decide (Int.ofNat i < Int.ofNat h) then
 bif decide (0 <= Int.ofNat i) && decide (Int.ofNat i < Int.ofNat h) then
 bif decide (0 < Int.ofNat h) then
 bif !decide (Int.ofNat (ln i) = Int.ofNat (ln (0 : Nat))) then
 some ((.ret, [pgV R ln h rc c, .int .i64 5], []))
 else
 some ((.normal, v29g R ln h rc c (IntKind.i64.wrap (Int.ofNat i + 1)), []))
 else none else none else
 some ((.exit 4, [pgV R ln h rc c, .undef], []))) := by kernel_rfl
theorem i29d (i k : Nat) (cs : Nat -> Int) (p : List T -> T -> Prop) : iterR P18 G18 A18 (K29k p (.new (rowV cs k none))) 0 29 [] 24 (v29e R ln h rc c i) [] =
(
 bif decide (Int.ofNat i < Int.ofNat h) then
 bif decide (0 <= Int.ofNat i) && decide (Int.ofNat i < Int.ofNat h) then
 bif decF (p [.view 1 (ln i) (fun j => [.int .u8 (R i j)]) (rc i)] (rowV cs k
 none).new) then
 bif decide (2 < Int.ofNat k) then
 some ((.ret, [.int .i64 14], []))
 else
 some ((.normal, v29e R ln h rc c (IntKind.i64.wrap (Int.ofNat i + 1)), []))
 else none else none else
 some ((.exit 6, [.undef], []))) := by kernel_rfl
theorem k29 (x y z t : List T -> Heap -> Ex -> List T -> Heap -> Prop) : stepL P18 G18 A18 noneO 0 29 (l29 x y z t R ln h rc c) [pgV R ln h rc c] =
(
 bif decide (31 < Int.ofNat h) then
 some (.int .i64 3)
 else
 bif allB (pA ln) h then
 bif decF (x [.view 1 h (fun i => [.view 1 (ln i) (fun j => [.int .u8 (R i j)]) (rc i)]) c, .view 1 h (fun i => [.view 1 (ln i) (fun j => [.int .u8 (R i j)]) (rc i)]) c, .int .i64 (.ofNat h), .int .i64 0] [] (.exit 0) [.view 1 h (fun i => [.view 1 (ln i) (fun j => [.int .u8 (R i j)]) (rc i)]) c, .undef] []) then
 bif decide ((Int.ofNat h).tmod 2 = 0) then
 some (.int .i64 1)
 else
 bif allB (pB R ln) h then
 bif decF (y [.view 1 h (fun i => [.view 1 (ln i) (fun j => [.int .u8 (R i j)]) (rc i)]) c, .view 1 h (fun i => [.view 1 (ln i) (fun j => [.int .u8 (R i j)]) (rc i)]) c, .int .i64 (.ofNat h), .int .i64 0] [] (.exit 2) [.view 1 h (fun i => [.view 1 (ln i) (fun j => [.int .u8 (R i j)]) (rc i)]) c, .undef] []) then
 bif allB (pC ln) h then
 bif decF (z [.view 1 h (fun i => [.view 1 (ln i) (fun j => [.int .u8 (R i j)]) (rc i)]) c, .view 1 h (fun i => [.view 1 (ln i) (fun j => [.int .u8 (R i j)]) (rc i)]) c, .int .i64 (.ofNat h), .int .i64 0] [] (.exit 4) [.view 1 h (fun i => [.view 1 (ln i) (fun j => [.int .u8 (R i j)]) (rc i)]) c, .undef] []) then
 bif allB (pD R ln) h then
 bif decF (t [.view 1 h (fun i => [.view 1 (ln i) (fun j => [.int .u8 (R i j)]) (rc i)]) c, .int .i64 (.ofNat h), .int .i64 0] [] (.exit 6) [.undef] []) then
 some (.int .i64 0)
 else none else
 bif decF (t [.view 1 h (fun i => [.view 1 (ln i) (fun j => [.int .u8 (R i j)]) (rc i)]) c, .int .i64 (.ofNat h), .int .i64 0] [] .ret [.int .i64 14] []) then
 some (.int .i64 14)
 else none else none else
 bif decF (z [.view 1 h (fun i => [.view 1 (ln i) (fun j => [.int .u8 (R i j)]) (rc i)]) c, .view 1 h (fun i => [.view 1 (ln i) (fun j => [.int .u8 (R i j)]) (rc i)]) c, .int .i64 (.ofNat h), .int .i64 0] [] .ret [.view 1 h (fun i => [.view 1 (ln i) (fun j => [.int .u8 (R i j)]) (rc i)]) c, .int .i64 5] []) then
 some (.int .i64 5)
 else none else none else
 bif decF (y [.view 1 h (fun i => [.view 1 (ln i) (fun j => [.int .u8 (R i j)]) (rc i)]) c, .view 1 h (fun i => [.view 1 (ln i) (fun j => [.int .u8 (R i j)]) (rc i)]) c, .int .i64 (.ofNat h), .int .i64 0] [] .ret [.view 1 h (fun i => [.view 1 (ln i) (fun j => [.int .u8 (R i j)]) (rc i)]) c, .int .i64 1] []) then
 some (.int .i64 1)
 else none else none else
 bif decF (x [.view 1 h (fun i => [.view 1 (ln i) (fun j => [.int .u8 (R i j)]) (rc i)]) c, .view 1 h (fun i => [.view 1 (ln i) (fun j => [.int .u8 (R i j)]) (rc i)]) c, .int .i64 (.ofNat h), .int .i64 0] [] .ret [.view 1 h (fun i => [.view 1 (ln i) (fun j => [.int .u8 (R i j)]) (rc i)]) c, .int .i64 3] []) then
 some (.int .i64 3)
 else
 none) := by kernel_rfl
end
theorem num1 {i h : Nat} (hi : i < h) (hh : h <= 100000) : IntKind.i64.wrap ((i : Int) + 1) = ((i + 1 : Nat) : Int) := by rw [wr64 (by omega) (by omega)]; omega
theorem check29a {R : Nat -> Nat -> Int} {ln : Nat -> Nat} {h : Nat} {rc : Nat -> Option Nat} {c : Option Nat} (hh : h <= 1000) : (allB (pA ln) h = true -> LoopOk P18 G18 (A18 29) 29 4 (litS (v29g R ln h rc c 0) [] (.exit 0) [pgV R ln h rc c, .undef] [])) /\ (allB (pA ln) h = false -> LoopOk P18 G18 (A18 29) 29 4 (litS (v29g R ln h rc c 0) [] .ret [pgV R ln h rc c, .int .i64 3] [])) := by
 refine loop_scan hm18 (by kernel_rfl) (fun i => v29g R ln h rc c i) (fun _ => []) (pA ln) (n := h) (fun i hi _ hg => ?_) (fun i hi _ hg => ?_) (fun _ => ?_)
 ·have hg : ln i <= 16 := of_decide_eq_true hg
  refine Step.mk0 (A := A18) (m := 0) none_ok rfl rfl loops0 (h1 := []) ?_ .nil
  rw [i29a, ofNatE i, num1 hi (by omega)]
  refine BT ?_
  refine BT ?_
  refine BF ?_
  rfl
 ·have hg : ¬ ln i <= 16 := of_decide_eq_false hg
  refine Last.mk0 (A := A18) (m := 0) none_ok rfl rfl loops0 (h1 := []) (by simp) ?_ .nil
  rw [i29a]
  refine BT ?_
  refine BT ?_
  refine BT ?_
  rfl
 ·refine Last.mk0 (A := A18) (m := 0) none_ok rfl rfl loops0 (h1 := []) (by simp) ?_ .nil
  rw [i29a]
  refine BF ?_
  rfl
theorem check29b {R : Nat -> Nat -> Int} {ln : Nat -> Nat} {h : Nat} {rc : Nat -> Option Nat} {c : Option Nat} (hh : h <= 1000) (hln : ∀ i, i < h -> ln i <= 1000) : (allB (pB R ln) h = true -> LoopOk P18 G18 (A18 29) 29 12 (litS (v29g R ln h rc c 0) [] (.exit 2) [pgV R ln h rc c, .undef] [])) /\ (allB (pB R ln) h = false -> LoopOk P18 G18 (A18 29) 29 12 (litS (v29g R ln h rc c 0) [] .ret [pgV R ln h rc c, .int .i64 1] [])) := by
 obtain ⟨p, hp⟩ := is_val P18 G18 45
 obtain ⟨q, hq⟩ := is_val P18 G18 46
 have hK : ∀ a b, OrcOk P18 G18 (K29 p q a b) := fun a b => told_add (told_add none_ok (callF_told hp)) (callF_told hq)
 refine loop_scan hm18 (by kernel_rfl) (fun i => v29g R ln h rc c i) (fun _ => []) (pB R ln) (n := h) (fun i hi _ hg => ?_) (fun i hi _ hg => ?_) (fun _ => ?_)
 ·simp only [pB, Bool.not_eq_true', Bool.or_eq_false_iff, decide_eq_false_iff_not] at hg
  obtain ⟨⟨g1, g2⟩, g3⟩ := hg
  have t1 := minT (R i) (ln i) (rc i) (by omega) (hln i hi)
  have t2 := maxT (R i) (ln i) (rc i) (by omega) (hln i hi)
  generalize mnF (R i) (ln i - 1) = a at *
  generalize mxF (R i) (ln i - 1) = b at *
  clear hln
  refine Step.mk0 (A := A18) (m := 0) (hK a b) rfl rfl loops0 (h1 := []) ?_ .nil
  rw [i29b, ofNatE i, num1 hi (by omega)]
  refine BT ?_
  refine BT ?_
  refine BF ?_
  refine bift (callF_yes hp t1) ?_
  refine BF ?_
  refine bift (callF_yes hq t2) ?_
  refine BF ?_
  rfl
 ·by_cases g1 : ln i = 0
  ·refine Last.mk0 (A := A18) (m := 0) (hK 0 0) rfl rfl loops0 (h1 := []) (by simp) ?_ .nil
   clear hln hg
   rw [i29b]
   refine BT ?_
   refine BT ?_
   refine BT ?_
   rfl
  have t1 := minT (R i) (ln i) (rc i) (by omega) (hln i hi)
  have t2 := maxT (R i) (ln i) (rc i) (by omega) (hln i hi)
  unfold pB at hg
  generalize mnF (R i) (ln i - 1) = a at *
  generalize mxF (R i) (ln i - 1) = b at *
  clear hln
  refine Last.mk0 (A := A18) (m := 0) (hK a b) rfl rfl loops0 (h1 := []) (by simp) ?_ .nil
  rw [i29b]
  rw [dF g1] at hg
  refine BT ?_
  refine BT ?_
  refine BF ?_
  refine bift (callF_yes hp t1) ?_
  by_cases g2 : a < 1
  ·exact bift (dT g2) rfl
  refine biff (by simpa using g2) ?_
  refine bift (callF_yes hq t2) ?_
  rw [dF g2] at hg
  refine bift (by simpa using hg) ?_
  rfl
 ·clear hln
  refine Last.mk0 (A := A18) (m := 0) (hK 0 0) rfl rfl loops0 (h1 := []) (by simp) ?_ .nil
  rw [i29b]
  refine BF ?_
  rfl
theorem check29c {R : Nat -> Nat -> Int} {ln : Nat -> Nat} {h : Nat} {rc : Nat -> Option Nat} {c : Option Nat} (hh : h <= 1000) : (allB (pC ln) h = true -> LoopOk P18 G18 (A18 29) 29 18 (litS (v29g R ln h rc c 0) [] (.exit 4) [pgV R ln h rc c, .undef] [])) /\ (allB (pC ln) h = false -> LoopOk P18 G18 (A18 29) 29 18 (litS (v29g R ln h rc c 0) [] .ret [pgV R ln h rc c, .int .i64 5] [])) := by
 refine loop_scan hm18 (by kernel_rfl) (fun i => v29g R ln h rc c i) (fun _ => []) (pC ln) (n := h) (fun i hi _ hg => ?_) (fun i hi _ hg => ?_) (fun _ => ?_)
 ·have hg : ln i = ln 0 := of_decide_eq_true hg
  refine Step.mk0 (A := A18) (m := 0) none_ok rfl rfl loops0 (h1 := []) ?_ .nil
  rw [i29c, ofNatE i, num1 hi (by omega)]
  refine BT ?_
  refine BT ?_
  refine BT ?_
  refine biff (by rw [hg]; simp) ?_
  rfl
 ·have hg : ¬ ln i = ln 0 := of_decide_eq_false hg
  refine Last.mk0 (A := A18) (m := 0) none_ok rfl rfl loops0 (h1 := []) (by simp) ?_ .nil
  rw [i29c]
  refine BT ?_
  refine BT ?_
  refine BT ?_
  refine bift (by simp only [ofNatE, Bool.not_eq_true', decide_eq_false_iff_not]; omega) ?_
  rfl
 ·refine Last.mk0 (A := A18) (m := 0) none_ok rfl rfl loops0 (h1 := []) (by simp) ?_ .nil
  rw [i29c]
  refine BF ?_
  rfl
theorem check29d {R : Nat -> Nat -> Int} {ln : Nat -> Nat} {h : Nat} {rc : Nat -> Option Nat} {c : Option Nat} (hh : h <= 1000) (hln : ∀ i, i < h -> 1 <= ln i /\ ln i <= 16) (hR : ∀ i, i < h -> ∀ j, j < ln i -> 0 <= R i j /\ R i j < 256) : (allB (pD R ln) h = true -> LoopOk P18 G18 (A18 29) 29 24 (litS (v29e R ln h rc c 0) [] (.exit 6) [.undef] [])) /\ (allB (pD R ln) h = false -> LoopOk P18 G18 (A18 29) 29 24 (litS (v29e R ln h rc c 0) [] .ret [.int .i64 14] [])) := by
 obtain ⟨p, hp⟩ := is_val P18 G18 47
 refine loop_scan hm18 (by kernel_rfl) (fun i => v29e R ln h rc c i) (fun _ => []) (pD R ln) (n := h) (fun i hi _ hg => ?_) (fun i hi _ hg => ?_) (fun _ => ?_)
 ·have hg : kK (R i) (ln i) <= 2 := of_decide_eq_true hg
  have t1 := kindsT (R i) (ln i) (rc i) (hln i hi).1 (by unfold nmax; have := (hln i hi).2; omega) (hR i hi)
  generalize kK (R i) (ln i) = k at *
  generalize csK (R i) (ln i) = cs at *
  clear hln hR
  refine Step.mk0 (A := A18) (K := K29k p (.new (rowV cs k none))) (m := 0) (told_add none_ok (callF_told hp)) rfl rfl loops0 (h1 := []) ?_ .nil
  rw [i29d, ofNatE i, num1 hi (by omega)]
  refine BT ?_
  refine BT ?_
  refine bift (callF_yes hp t1) ?_
  refine BF ?_
  rfl
 ·have hg : ¬ kK (R i) (ln i) <= 2 := of_decide_eq_false hg
  have t1 := kindsT (R i) (ln i) (rc i) (hln i hi).1 (by unfold nmax; have := (hln i hi).2; omega) (hR i hi)
  generalize kK (R i) (ln i) = k at *
  generalize csK (R i) (ln i) = cs at *
  clear hln hR
  refine Last.mk0 (A := A18) (K := K29k p (.new (rowV cs k none))) (m := 0) (told_add none_ok (callF_told hp)) rfl rfl loops0 (h1 := []) (by simp) ?_ .nil
  rw [i29d]
  refine BT ?_
  refine BT ?_
  refine bift (callF_yes hp t1) ?_
  refine BT ?_
  rfl
 ·clear hln hR
  refine Last.mk0 (A := A18) (K := K29k p .nils) (m := 0) (told_add none_ok (callF_told hp)) rfl rfl loops0 (h1 := []) (by simp) ?_ .nil
  rw [(show iterR P18 G18 A18 (K29k p .nils) 0 29 [] 24 (v29e R ln h rc c h) [] =
(
 bif decide (Int.ofNat h < Int.ofNat h) then
 bif decide (0 <= Int.ofNat h) && decide (Int.ofNat h < Int.ofNat h) then
 bif decF (p [.view 1 (ln h) (fun j => [.int .u8 (R h j)]) (rc h)] .nils) then
 some ((.normal, v29e R ln h rc c (IntKind.i64.wrap (Int.ofNat h + 1)), []))
 else none else none else
 some ((.exit 6, [.undef], []))) from by kernel_rfl)]
  refine BF ?_
  rfl
theorem checkGT (R : Nat -> Nat -> Int) (ln : Nat -> Nat) (h : Nat) (rc : Nat -> Option Nat) (c : Option Nat) (hh : h <= 1000) (hln : ∀ i, i < h -> ln i <= 1000) (hR : ∀ i, i < h -> ∀ j, j < ln i -> 0 <= R i j /\ R i j < 256) : ToldOk P18 G18 29 [pgV R ln h rc c] (.int .i64 (pcE R ln h)) := by
 obtain ⟨x, hx⟩ := is_loop P18 G18 (A18 29) 29 4
 obtain ⟨y, hy⟩ := is_loop P18 G18 (A18 29) 29 12
 obtain ⟨z, hz⟩ := is_loop P18 G18 (A18 29) 29 18
 obtain ⟨t, ht⟩ := is_loop P18 G18 (A18 29) 29 24
 refine stepL_told hm18 hn18 none_ok (A := A18) (m := 0) (l := l29 x y z t R ln h rc c) (by kernel_rfl) (loopsC (loopF_ok hx _) (loopsC (loopF_ok hy _) (loopsC (loopF_ok hz _) (loops1 (loopF_ok ht _))))) ?_
 rw [k29, tmod_two]
 have ha := check29a (R := R) (ln := ln) (rc := rc) (c := c) hh
 have hb := check29b (R := R) (ln := ln) (rc := rc) (c := c) hh hln
 have hc := check29c (R := R) (ln := ln) (rc := rc) (c := c) hh
 have hd := fun q1 => check29d (R := R) (ln := ln) (rc := rc) (c := c) hh q1 hR
 have hAB : allB (pA ln) h = true -> allB (pB R ln) h = true -> ∀ i, i < h -> 1 <= ln i /\ ln i <= 16 := fun h1 h2 i hi => by
  have h1 := of_decide_eq_true ((allB_iff _ _).1 h1 i hi)
  have h2 := (allB_iff _ _).1 h2 i hi
  simp only [pB, Bool.not_eq_true', Bool.or_eq_false_iff, decide_eq_false_iff_not] at h2
  omega
 clear hln hR
 unfold pcE
 have key : decide ((31 : Int) < Int.ofNat h) = decide (31 < h) := by
  by_cases q : 31 < h
  ·rw [dT q, dT (by rw [ofNatE]; omega)]
  ·rw [dF q, dF (by rw [ofNatE]; omega)]
 rw [key]
 cases decide (31 < h)
 ·rw [cond_false, cond_false]
  cases qa : allB (pA ln) h
  ·rw [cond_false, cond_false]
   exact bift (loopF_yes hx (ha.2 qa)) rfl
  ·rw [cond_true, cond_true]
   refine bift (loopF_yes hx (ha.1 qa)) ?_
   cases decide (h % 2 = 0)
   ·rw [cond_false, cond_false]
    cases qb : allB (pB R ln) h
    ·rw [cond_false, cond_false]; exact bift (loopF_yes hy (hb.2 qb)) rfl
    ·rw [cond_true, cond_true]
     refine bift (loopF_yes hy (hb.1 qb)) ?_
     have hd := hd (hAB qa qb)
     cases qc : allB (pC ln) h
     ·rw [cond_false, cond_false]; exact bift (loopF_yes hz (hc.2 qc)) rfl
     ·rw [cond_true, cond_true]
      refine bift (loopF_yes hz (hc.1 qc)) ?_
      cases qd : allB (pD R ln) h
      ·rw [cond_false, cond_false]; exact bift (loopF_yes ht (hd.2 qd)) rfl
      ·rw [cond_true, cond_true]; exact bift (loopF_yes ht (hd.1 qd)) rfl
   ·rfl
 ·rfl
end Go.Ab

namespace Go.Ab
open Go.Proofs
def kO (C : Nat -> Nat -> Sti) (i j : Nat) : Bool := decide ((C i j).k = 1)
def kOr (C : Nat -> Nat -> Sti) (ln : Nat -> Nat) (i : Nat) : Bool := allB (kO C i) (ln i)
def yO (C : Nat -> Nat -> Sti) (i j : Nat) : Int := (C i j).y
def b22 (w : Nat -> T) (h i n : Nat) : Blk := ⟨0, 1, h, fun e => [bif e == i then .own 1 0 0 n (some n) else w e], false, false, none⟩
def c22 (y : Nat -> Int) (n : Nat) : Blk := ⟨0, 1, n, fun e => [.int .u8 (y e)], true, false, none⟩
def v22 (C : Nat -> Nat -> Sti) (ln : Nat -> Nat) (h i : Nat) : List T := [.own 0 0 0 h (some h), chV C ln h, .int .i64 h, .int .i64 i]
def x22 (C : Nat -> Nat -> Sti) (ln : Nat -> Nat) (h i : Nat) : List T := [.undef, .undef, .own 0 0 0 h (some h), chV C ln h, .int .i64 h, .int .i64 i]
def z22 (C : Nat -> Nat -> Sti) (ln : Nat -> Nat) (h i : Nat) : List T := [.nils, .int .i64 7, .own 0 0 0 h (some h), chV C ln h, .int .i64 h, .int .i64 i]
def v22i (C : Nat -> Nat -> Sti) (ln : Nat -> Nat) (h i k : Nat) : List T := [.own 0 0 0 h (some h), .int .i64 i, chV C ln h, .int .i64 h, .int .i64 i, srV (C i) (ln i) none, .int .i64 (ln i), .int .i64 k]
def wO (C : Nat -> Nat -> Sti) (ln : Nat -> Nat) (i e : Nat) : T := bif Nat.blt e i then rowV (yO C e) (ln e) (some (ln e)) else .nils
def kwO (C : Nat -> Nat -> Sti) (ln : Nat -> Nat) (e : Nat) : T := rowV (yO C e) (ln e) (some (ln e))
noncomputable def l22i (x : List T -> Heap -> Ex -> List T -> Heap -> Prop) (C : Nat -> Nat -> Sti) (ln : Nat -> Nat) (h i : Nat) (w : Nat -> T) (y : Nat -> Int) : List (Nat × (List T -> Heap -> LT)) :=
 [(10, loopF x (.ite (kOr C ln i) (.ret (.exit 2) (x22 C ln h i) [b22 w h i (ln i), c22 (yO C i) (ln i)]) (.ret .ret (z22 C ln h i) [b22 w h i (ln i), c22 y (ln i)])))]
noncomputable def K22 (p q : List T -> T -> Prop) (a b : Int) : Orc := (noneO.add 25 (callF p fun _ => some (.int .i64 a))).add 29 (callF q fun _ => some (.int .i64 b))
theorem q22 (C : Nat -> Nat -> Sti) (ln : Nat -> Nat) (h k : Nat) (w : Nat -> T) (y : Nat -> Int) : ∀ i, i < 31 -> iterR P18 G18 A18 noneO 0 22 [] 10 (v22i C ln h i k) [b22 w h i (ln i), c22 y (ln i)] =
 bif decide ((k : Int) < ln i) then bif decide ((0 : Int) <= k) && decide ((k : Int) < ln i) then bif !decide ((C i k).k = 1) then some (.ret, z22 C ln h i, [b22 w h i (ln i), c22 y (ln i)]) else bif decide ((i : Int) < h) then bif Nat.blt i h then bif decide ((0 : Int) <= k) && decide ((k : Int) < ln i) then bif Nat.blt (0 + k) (ln i) && true && true && true then
  some (.normal, v22i C ln h i k |>.set 7 (.int .i64 (IntKind.i64.wrap ((k : Int) + 1))), [b22 w h i (ln i), c22 (up24 k (yO C i k) y) (ln i)])
  else none else none else none else none else none else some (.exit 2, x22 C ln h i, [b22 w h i (ln i), c22 y (ln i)]) := by
 intro i hi
 obtain rfl | rfl | rfl | rfl | rfl | rfl | rfl | rfl | rfl | rfl | rfl | rfl | rfl | rfl | rfl | rfl | rfl | rfl | rfl | rfl | rfl | rfl | rfl | rfl | rfl | rfl | rfl | rfl | rfl | rfl | rfl : i = 0 ∨ i = 1 ∨ i = 2 ∨ i = 3 ∨ i = 4 ∨ i = 5 ∨ i = 6 ∨ i = 7 ∨ i = 8 ∨ i = 9 ∨ i = 10 ∨ i = 11 ∨ i = 12 ∨ i = 13 ∨ i = 14 ∨ i = 15 ∨ i = 16 ∨ i = 17 ∨ i = 18 ∨ i = 19 ∨ i = 20 ∨ i = 21 ∨ i = 22 ∨ i = 23 ∨ i = 24 ∨ i = 25 ∨ i = 26 ∨ i = 27 ∨ i = 28 ∨ i = 29 ∨ i = 30 := by omega
 all_goals kernel_rfl
theorem i22 (C : Nat -> Nat -> Sti) (ln : Nat -> Nat) (h i : Nat) (w : Nat -> T) (y : Nat -> Int) (x : List T -> Heap -> Ex -> List T -> Heap -> Prop) : iterR P18 G18 A18 noneO 0 22 (l22i x C ln h i w y) 6 (v22 C ln h i) [w24 w h] =
(
 bif decide (Int.ofNat i < Int.ofNat h) then
 bif decide (0 <= Int.ofNat i) && decide (Int.ofNat i < Int.ofNat h) then
 bif decide (0 <= Int.ofNat (ln i)) && decide (Int.ofNat (ln i) <= Int.ofNat (ln i)) && decide (Int.ofNat (ln i) * (1 : Int) <= (140737488355328 : Int)) && decide (Int.ofNat (ln i) <= 9223372036854775807) then
 bif decide (0 <= Int.ofNat i) && decide (Int.ofNat i < Int.ofNat h) then
 bif ((0 : Nat) + i).blt h && [T.own (List.length (h14 h w)) (0 : Nat) (0 : Nat) (ln i) (some (ln i))].length == (1 : Nat) && true && true then
 bif allB (kO C i) (ln i) then
 bif decF (x [.own 0 0 0 h (some h), .int .i64 (.ofNat i), .view 1 h (fun i => [srV (C i) (ln i)
 none])
 none, .int .i64 (.ofNat h), .int .i64 (.ofNat i), srV (C i) (ln i)
 none, .int .i64 (.ofNat (ln i)), .int .i64 0] [.mk 0 1 h (fun e => [bif e == 0 + i then .own [Blk.mk 0 1 h (fun e => [w e]) false false
 none].length (0 : Nat) (0 : Nat) (ln i) (some (ln i))
 else w e]) false false
 none, .mk 0 1 (ln i) (fun x => [.int .u8 0]) true false
 none] (.exit 2) [.undef, .undef, .own 0 0 0 h (some h), .view 1 h (fun i => [srV (C i) (ln i)
 none])
 none, .int .i64 (.ofNat h), .int .i64 (.ofNat i)] [.mk 0 1 h (fun e => [bif e == i then .own 1 0 0 (ln i) (some (ln i))
 else w e]) false false
 none, .mk 0 1 (ln i) (fun e => [.int .u8 (C i e).y]) true false
 none]) then
 some ((.normal, [.own 0 0 0 h (some h), chV C ln h, .int .i64 (.ofNat h), .int .i64 (IntKind.i64.wrap (Int.ofNat i + 1))], [b24 w h i (ln i), rbk (ln i) fun e => (C i e).y]))
 else none else
 bif decF (x [.own 0 0 0 h (some h), .int .i64 (.ofNat i), .view 1 h (fun i => [srV (C i) (ln i)
 none])
 none, .int .i64 (.ofNat h), .int .i64 (.ofNat i), srV (C i) (ln i)
 none, .int .i64 (.ofNat (ln i)), .int .i64 0] [.mk 0 1 h (fun e => [bif e == 0 + i then .own [Blk.mk 0 1 h (fun e => [w e]) false false
 none].length (0 : Nat) (0 : Nat) (ln i) (some (ln i))
 else w e]) false false
 none, .mk 0 1 (ln i) (fun x => [.int .u8 0]) true false
 none] .ret [.nils, .int .i64 7, .own 0 0 0 h (some h), .view 1 h (fun i => [srV (C i) (ln i)
 none])
 none, .int .i64 (.ofNat h), .int .i64 (.ofNat i)] [.mk 0 1 h (fun e => [bif e == i then .own 1 0 0 (ln i) (some (ln i))
 else w e]) false false
 none, .mk 0 1 (ln i) (fun e => [.int .u8 (y e)]) true false
 none]) then
 some ((.ret, [.nils, .int .i64 7, .own 0 0 0 h (some h)], [b24 w h i (ln i), rbk (ln i) y]))
 else none else none else none else none else none else
 some ((.exit 0, [.undef, .undef, .own 0 0 0 h (some h)], h14 h w))) := by kernel_rfl
theorem in22 {C : Nat -> Nat -> Sti} {ln : Nat -> Nat} {h : Nat} (w : Nat -> T) {i : Nat} (hi : i < 31) (hih : i < h) (hln : ln i <= 1000) :
 (allB (kO C i) (ln i) = true -> LoopOk P18 G18 (A18 22) 22 10 (litS (v22i C ln h i 0) [b22 w h i (ln i), c22 (fun _ => 0) (ln i)] (.exit 2) (x22 C ln h i) [b22 w h i (ln i), c22 (yO C i) (ln i)])) ∧
 (allB (kO C i) (ln i) = false -> ∃ e v H, (e = .ret /\ v = z22 C ln h i /\ ∃ y, H = [b22 w h i (ln i), c22 y (ln i)]) /\ LoopOk P18 G18 (A18 22) 22 10 (litS (v22i C ln h i 0) [b22 w h i (ln i), c22 (fun _ => 0) (ln i)] e v H)) := by
 refine loop_scanE hm18 (by kernel_rfl) (fun k => v22i C ln h i k) (fun k => [b22 w h i (ln i), c22 (fun e => bif Nat.blt e k then yO C i e else 0) (ln i)]) (kO C i) (n := ln i) _ (fun k hk _ hg => ?_) (fun k hk _ hg => ?_) (fun _ => ?_)
 ·have hg : (C i k).k = 1 := of_decide_eq_true hg
  rw [← up_blt k (yO C i) 0]
  refine Step.mk0 (A := A18) (m := 0) none_ok rfl rfl loops0 (h1 := [b22 w h i (ln i), c22 (up24 k (yO C i k) fun e => bif Nat.blt e k then yO C i e else 0) (ln i)]) ?_ (.refl _)
  rw [q22 C ln h k w _ i hi, num1 hk (by omega)]
  refine BT ?_
  refine BT ?_
  refine biff (by simp [hg]) ?_
  refine BT ?_
  refine BT ?_
  refine BT ?_
  refine BT ?_
  rfl
 ·have hg : ¬ (C i k).k = 1 := of_decide_eq_false hg
  refine ⟨.ret, _, _, ⟨rfl, rfl, (fun e => bif Nat.blt e k then yO C i e else 0), rfl⟩, ?_⟩
  refine Last.mk0 (A := A18) (m := 0) none_ok rfl rfl loops0 (h1 := [b22 w h i (ln i), c22 (fun e => bif Nat.blt e k then yO C i e else 0) (ln i)]) (by simp) ?_ (.refl _)
  rw [q22 C ln h k w _ i hi]
  refine BT ?_
  refine BT ?_
  refine bift (by simp [hg]) ?_
  rfl
 ·refine Last.mk0 (A := A18) (m := 0) none_ok rfl rfl loops0 (h1 := [b22 w h i (ln i), c22 (fun e => bif Nat.blt e (ln i) then yO C i e else 0) (ln i)]) (by simp) ?_ (.cons ⟨rfl, rfl, rfl, id, fun j hj => rfl⟩ (.cons ⟨rfl, rfl, rfl, id, fun j hj => ?_⟩ .nil))
  ·rw [q22 C ln h (ln i) w _ i hi]
   refine BF ?_
   rfl
  ·show [T.int .u8 (yO C i j)] = [T.int .u8 (bif Nat.blt j (ln i) then yO C i j else 0)]
   rw [bltT (show j < ln i from hj)]
   rfl
theorem ren0_c22 {σ : List Nat} {h : Heap} {ix n : Nat} {y : Nat -> Int} (hp : posOf σ ix = none) (hc : σ.contains ix = false) (hi : h[ix]? = some (c22 y n)) : ren0 σ h (.own ix 0 0 n (some n)) = rowV y n (some n) := by
 unfold c22 at hi
 simp only [ren0, hp, resolve, hc, cond_false, hi, beq_self_eq_true, Bool.true_and, Option.isNone_none]
 rw [show Nat.ble (0 + n) n = true from bleT (by omega)]
 simp only [cond_true, Nat.zero_add]
 rfl
theorem out22 {C : Nat -> Nat -> Sti} {ln : Nat -> Nat} {h : Nat} (hh : h <= 31) (hln : ∀ i, i < h -> ln i <= 1000) :
 (allB (kOr C ln) h = true -> LoopOk P18 G18 (A18 22) 22 6 (litS (v22 C ln h 0) [w24 (fun _ => .nils) h] (.exit 0) [.undef, .undef, .own 0 0 0 h (some h)] [w24 (kwO C ln) h])) ∧
 (allB (kOr C ln) h = false -> ∃ e v H, (e = .ret /\ v = [.nils, .int .i64 7, .own 0 0 0 h (some h)]) /\ LoopOk P18 G18 (A18 22) 22 6 (litS (v22 C ln h 0) [w24 (fun _ => .nils) h] e v H)) := by
 obtain ⟨x, hx⟩ := is_loop P18 G18 (A18 22) 22 10
 refine loop_scanE hm18 (by kernel_rfl) (fun i => v22 C ln h i) (fun i => [w24 (wO C ln i) h]) (kOr C ln) (n := h) _ (fun i hi _ hg => ?_) (fun i hi _ hg => ?_) (fun _ => ?_)
 ·have hl := (in22 (C := C) (ln := ln) (h := h) (wO C ln i) (by omega) hi (hln i hi)).1 hg
  have hren : ∀ σ hp e, ren0 σ hp (wO C ln i e) = wO C ln i e := fun σ hp e => by unfold wO; cases Nat.blt e i <;> rfl
  have hnew : ∀ e, e ≠ i -> wO C ln (i + 1) e = wO C ln i e := fun e he => by
   unfold wO
   by_cases q : e < i
   ·rw [bltT q, bltT (by omega)]
   ·rw [bltF (by omega), bltF (by omega)]
  have hat : wO C ln (i + 1) i = rowV (yO C i) (ln i) (some (ln i)) := by unfold wO; rw [bltT (by omega)]; rfl
  have hlni := hln i hi
  clear hln
  generalize wO C ln (i + 1) = w2 at *
  generalize wO C ln i = w at *
  refine Step.mkC (A := A18) (m := 0) none_ok rfl rfl (l := l22i x C ln h i w fun _ => 0) (loops1 (loopF_ok hx _)) [0] (v1 := v22 C ln h (i + 1)) (h1 := [b22 w h i (ln i), c22 (yO C i) (ln i)]) ?_ (by kernel_rfl) (v2 := v22 C ln h (i + 1)) (by rfl) rfl fun nt => .same (.cons ⟨rfl, rfl, rfl, id, fun j hj => ?_⟩ .nil)
  ·rw [i22, ofNatE i, num1 hi (by omega), Nat.zero_add]
   refine BT ?_
   refine BT ?_
   refine BT ?_
   refine BT ?_
   refine bift (by rw [bltT hi]; rfl) ?_
   refine bift hg ?_
   refine bift (loopF_yes hx hl) ?_
   rfl
  ·show [w2 j] = [ren0 [0] _ (bif j == i then .own 1 0 0 (ln i) (some (ln i)) else w j)]
   by_cases q : j = i
   ·subst q
    rw [beq_self_eq_true, cond_true, ren0_c22 rfl rfl rfl, hat]
   ·rw [show (j == i) = false by simpa using q, cond_false, hren, hnew j q]
 ·obtain ⟨e2, v2, h2, ⟨rfl, rfl, y, rfl⟩, hl⟩ := (in22 (C := C) (ln := ln) (h := h) (wO C ln i) (by omega) hi (hln i hi)).2 hg
  have hlni := hln i hi
  clear hln
  generalize wO C ln i = w at *
  refine ⟨.ret, _, [b22 w h i (ln i), c22 y (ln i)], ⟨rfl, rfl⟩, ?_⟩
  refine Last.mk0 (A := A18) (m := 0) none_ok rfl rfl (l := l22i x C ln h i w y) (loops1 (loopF_ok hx _)) (h1 := [b22 w h i (ln i), c22 y (ln i)]) (by simp) ?_ (.refl _)
  rw [i22, Nat.zero_add]
  refine BT ?_
  refine BT ?_
  refine BT ?_
  refine BT ?_
  refine bift (by rw [bltT hi]; rfl) ?_
  refine biff (by rw [show allB (kO C i) (ln i) = false from hg]; simp) ?_
  refine bift (loopF_yes hx hl) ?_
  rfl
 ·have hln : True := trivial
  refine Last.mk0 (A := A18) (m := 0) none_ok rfl rfl loops0 (h1 := [w24 (wO C ln h) h]) (by simp) ?_ (.cons ⟨rfl, rfl, rfl, id, fun j hj => ?_⟩ .nil)
  ·generalize wO C ln h = w
   rw [(show iterR P18 G18 A18 noneO 0 22 [] 6 (v22 C ln h h) [w24 w h] =
(
 bif decide (Int.ofNat h < Int.ofNat h) then
 bif decide (0 <= Int.ofNat h) && decide (Int.ofNat h < Int.ofNat h) then
 bif decide (0 <= Int.ofNat (ln h)) && decide (Int.ofNat (ln h) <= Int.ofNat (ln h)) && decide (Int.ofNat (ln h) * (1 : Int) <= (140737488355328 : Int)) && decide (Int.ofNat (ln h) <= 9223372036854775807) then
 bif decide (0 <= Int.ofNat h) && decide (Int.ofNat h < Int.ofNat h) then
 bif ((0 : Nat) + h).blt h && [T.own (List.length (h14 h w)) (0 : Nat) (0 : Nat) (ln h) (some (ln h))].length == (1 : Nat) && true && true then none else none else none else none else none else
 some ((.exit 0, [.undef, .undef, .own 0 0 0 h (some h)], h14 h w))) from by kernel_rfl)]
   refine BF ?_
   rfl
  ·show [kwO C ln j] = [wO C ln h j]
   unfold wO
   rw [bltT (show j < h from hj)]
   rfl
def ofE (C : Nat -> Nat -> Sti) (ln : Nat -> Nat) (h : Nat) : Int := if chkE C ln h ≠ 0 then chkE C ln h else if allB (kOr C ln) h = false then 7 else pcE (yO C) ln h
theorem ofGT (C : Nat -> Nat -> Sti) (ln : Nat -> Nat) (h : Nat) (hh : h <= 1000) (hln : ∀ i, i < h -> ln i <= 1000) (hC : ∀ i j, (C i j).Ok) : ToldOk P18 G18 22 [.agg [chV C ln h]] (if ofE C ln h = 0 then .tup [pgV (yO C) ln h (fun i => some (ln i)) (some h), .int .i64 0] else .tup [.nils, .int .i64 (ofE C ln h)]) := by
 obtain ⟨p, hp⟩ := is_val P18 G18 25
 obtain ⟨q, hq⟩ := is_val P18 G18 29
 have hK : ∀ a b, OrcOk P18 G18 (K22 p q a b) := fun a b => told_add (told_add none_ok (callF_told hp)) (callF_told hq)
 have t1 := chartCheckT C ln h hh hln hC
 by_cases h1 : chkE C ln h ≠ 0
 ·rw [show ofE C ln h = chkE C ln h from if_pos h1, if_neg h1]
  generalize chkE C ln h = e at *
  refine stepV_told hm18 hn18 (hK e 0) (A := A18) (m := 0) ?_
  rw [(show stepV P18 G18 A18 (K22 p q e 0) 0 22 [.agg [chV C ln h]] =
(
 bif decF (p [.agg [.view 1 h (fun i => [srV (C i) (ln i)
 none])
 none]] (.int .i64 e)) then
 bif !decide (e = 0) then
 some (.tup [.nils, .int .i64 e])
 else
 bif decide (0 <= Int.ofNat h) && decide (Int.ofNat h <= Int.ofNat h) && decide (Int.ofNat h * 24 <= 140737488355328) && decide (Int.ofNat h <= 9223372036854775807) then none else none else
 none) from by kernel_rfl)]
  refine bift (callF_yes hp t1) ?_
  refine bift (by simp [h1]) ?_
  rfl
 have h1 : chkE C ln h = 0 := Classical.byContradiction h1
 rw [h1] at t1
 have h31 : h <= 31 := by
  have : chE C ln h = 0 := by
   unfold chkE at h1
   by_cases q : chE C ln h ≠ 0
   ·rw [if_pos q] at h1; exact h1
   ·omega
  exact (chE_zero this).h31
 cases h2 : allB (kOr C ln) h
 ·obtain ⟨_, _, H, ⟨rfl, rfl⟩, hl⟩ := (out22 h31 hln).2 h2
  rw [show ofE C ln h = 7 from (if_neg (by omega)).trans (by rw [h2]; rfl), if_neg (by omega)]
  refine stepL_told hm18 hn18 (hK 0 0) (A := A18) (m := 0) (by kernel_rfl) (loops1 hl) ?_
  rw [(show stepL P18 G18 A18 (K22 p q 0 0) 0 22 [(6, litS (v22 C ln h 0) [w24 (fun _ => .nils) h] .ret [.nils, .int .i64 7, .own 0 0 0 h (some h)] H)] [.agg [chV C ln h]] =
(
 bif decF (p [.agg [.view 1 h (fun i => [srV (C i) (ln i)
 none])
 none]] (.int .i64 0)) then
 bif decide (0 <= Int.ofNat h) && decide (Int.ofNat h <= Int.ofNat h) && decide (Int.ofNat h * 24 <= 140737488355328) && decide (Int.ofNat h <= 9223372036854775807) then
 bif weakF (v22 C ln h (nat_lit 0)) (h14 h fun e => .nils) (v22 C ln h (nat_lit 0)) (h14 h fun e => .nils) then
 some (.tup [.nils, .int .i64 7])
 else none else none else
 none) from by kernel_rfl)]
  refine bift (callF_yes hp t1) ?_
  refine BT ?_
  refine bift (weakF_of ⟨rfl, .refl _⟩) ?_
  rfl
 ·rw [show ofE C ln h = pcE (yO C) ln h from (if_neg (by omega)).trans (by rw [h2]; rfl)]
  have hl := (out22 h31 hln).1 h2
  have t2 := checkGT (yO C) ln h (fun i => some (ln i)) (some h) hh hln fun i _ j _ => (hC i j).y
  generalize pcE (yO C) ln h = e at *
  by_cases h3 : e = 0
  ·subst h3
   rw [if_pos rfl]
   refine ToldOk.frz (r := .tup [.fresh false 1 h (fun i => [rowV (yO C i) (ln i) (some (ln i))]) h (some h), .int .i64 0]) ?_
   refine stepL_told hm18 hn18 (hK 0 0) (A := A18) (m := 0) (by kernel_rfl) (loops1 hl) ?_
   rw [(show stepL P18 G18 A18 (K22 p q 0 0) 0 22 [(6, litS (v22 C ln h 0) [w24 (fun _ => .nils) h] (.exit 0) [.undef, .undef, .own 0 0 0 h (some h)] [w24 (kwO C ln) h])] [.agg [chV C ln h]] =
(
 bif decF (p [.agg [.view 1 h (fun i => [srV (C i) (ln i)
 none])
 none]] (.int .i64 0)) then
 bif decide (0 <= Int.ofNat h) && decide (Int.ofNat h <= Int.ofNat h) && decide (Int.ofNat h * 24 <= 140737488355328) && decide (Int.ofNat h <= 9223372036854775807) then
 bif weakF (v22 C ln h (nat_lit 0)) (h14 h fun e => .nils) (v22 C ln h (nat_lit 0)) (h14 h fun e => .nils) then
 bif decF (q [bif ((0 : Nat) + h).ble h then .view 1 h (fun j => [.view 1 (ln (0 + j)) (fun j_1 => [.int .u8 (C ((0 : Nat) + j) j_1).y]) (some (ln (0 + j)))]) (some h)
 else .undef] (.int .i64 0)) then
 some (.tup [bif ((0 : Nat) + h).ble h then .fresh false (1 : Nat) (h - 0) (fun j => [kwO C ln (0 + j)]) h (some h)
 else .undef, .int .i64 0])
 else none else none else none else
 none) from by kernel_rfl)]
   refine bift (callF_yes hp t1) ?_
   refine BT ?_
   refine bift (weakF_of ⟨rfl, .refl _⟩) ?_
   simp only [Nat.zero_add, Nat.sub_zero]
   rw [bleT (Nat.le_refl _)]
   refine bift (callF_yes hq t2) ?_
   rfl
  ·rw [if_neg h3]
   refine stepL_told hm18 hn18 (hK 0 e) (A := A18) (m := 0) (by kernel_rfl) (loops1 hl) ?_
   rw [(show stepL P18 G18 A18 (K22 p q 0 e) 0 22 [(6, litS (v22 C ln h 0) [w24 (fun _ => .nils) h] (.exit 0) [.undef, .undef, .own 0 0 0 h (some h)] [w24 (kwO C ln) h])] [.agg [chV C ln h]] =
(
 bif decF (p [.agg [.view 1 h (fun i => [srV (C i) (ln i)
 none])
 none]] (.int .i64 0)) then
 bif decide (0 <= Int.ofNat h) && decide (Int.ofNat h <= Int.ofNat h) && decide (Int.ofNat h * 24 <= 140737488355328) && decide (Int.ofNat h <= 9223372036854775807) then
 bif weakF (v22 C ln h (nat_lit 0)) (h14 h fun e => .nils) (v22 C ln h (nat_lit 0)) (h14 h fun e => .nils) then
 bif decF (q [bif ((0 : Nat) + h).ble h then .view 1 h (fun j => [.view 1 (ln (0 + j)) (fun j_1 => [.int .u8 (C ((0 : Nat) + j) j_1).y]) (some (ln (0 + j)))]) (some h)
 else .undef] (.int .i64 e)) then
 bif !decide (e = 0) then
 some (.tup [.nils, .int .i64 e])
 else
 some (.tup [bif ((0 : Nat) + h).ble h then .fresh false (1 : Nat) (h - 0) (fun j => [kwO C ln (0 + j)]) h (some h)
 else .undef, .int .i64 0])
 else none else none else none else
 none) from by kernel_rfl)]
   refine bift (callF_yes hp t1) ?_
   refine BT ?_
   refine bift (weakF_of ⟨rfl, .refl _⟩) ?_
   simp only [Nat.zero_add, Nat.sub_zero]
   rw [bleT (Nat.le_refl _)]
   refine bift (callF_yes hq t2) ?_
   exact bift (by simp [h3]) rfl
end Go.Ab

namespace Go.Ab
theorem knit_ok {y : Int} (h : 1 <= y /\ y <= 6) : (knit y).Ok /\ vF (knit y) = true /\ (knit y).n = 1 /\ (knit y).m = 1 := by
 have ok : (knit y).Ok := ⟨by show (0 : Int) <= 1 /\ (1 : Int) < 256; omega, by show 0 <= y /\ y < 256; omega, by show (-9223372036854775808 : Int) <= 0 /\ (0 : Int) <= 9223372036854775807; omega, by show (-9223372036854775808 : Int) <= 0 /\ (0 : Int) <= 9223372036854775807; omega⟩
 have hv : vF (knit y) = true := ((knit y).v_iff ok).2 ⟨by show (1 : Int) <= 1; omega, by show (1 : Int) <= 8; omega, h.1, h.2, .inl ⟨by show ¬ (1 : Int) = 8; omega, rfl, rfl, rfl⟩⟩
 refine ⟨ok, hv, ?_, ?_⟩
 ·unfold Sti.n; rw [hv]; rfl
 ·unfold Sti.m; rw [hv]; rfl
theorem knit_ld (y : Int) (B : Nat -> Int) (j : Nat) : ldG (knit y) B j = 1 := by
 unfold ldG
 rw [if_neg (by intro q; have := q.1; simp [knit] at this), if_neg (by intro q; have := q.1; simp [knit] at this)]
theorem sumN_one {N : Nat -> Int} : ∀ n, (∀ i, i < n -> N i = 1) -> sumN N n = (n : Int)
 | 0, _ => rfl
 | n + 1, h => by
  unfold sumN
  rw [sumN_one n fun i hi => h i (by omega), h n (by omega)]
  omega
section
variable {R : Nat -> Nat -> Int} {n h : Nat}
theorem kn_off {i : Nat} (hR : ∀ j, j < n -> 1 <= R i j /\ R i j <= 6) : ∀ k, k <= n -> offN (knR R i) k = k /\ outN (knR R i) k = k
 | 0, _ => ⟨rfl, rfl⟩
 | k + 1, hk => by
  obtain ⟨h1, h2⟩ := kn_off hR k (by omega)
  obtain ⟨_, _, h3, h4⟩ := knit_ok (hR k (by omega))
  have e3 : offN (knR R i) (k + 1) = offN (knR R i) k + (knit (R i k)).n.toNat := rfl
  have e4 : outN (knR R i) (k + 1) = outN (knR R i) k + (knit (R i k)).m.toNat := rfl
  rw [e3, e4, h1, h2, h3, h4]
  exact ⟨rfl, rfl⟩
theorem kn_row {i : Nat} (hR : ∀ j, j < n -> 1 <= R i j /\ R i j <= 6) (h1 : 1 <= n) (h2 : n <= 16) : rE (knR R i) n = 0 /\ nR5 (knR R i) n = n /\ mR5 (knR R i) n = n := by
 have a1 : nR5 (knR R i) n = n := sumN_one n fun j hj => (knit_ok (hR j hj)).2.2.1
 have a2 : mR5 (knR R i) n = n := sumN_one n fun j hj => (knit_ok (hR j hj)).2.2.2
 refine ⟨?_, a1, a2⟩
 unfold rE
 rw [if_neg (by omega), if_neg (by omega), if_pos ((allV_iff (knR R i) n).2 fun j hj => (knit_ok (hR j hj)).2.1), a1, a2, if_pos]
 simp only [wOk, Bool.and_eq_true, decide_eq_true_eq]
 omega
theorem kn_con {i : Nat} (hR : ∀ j, j < n -> 1 <= R i j /\ R i j <= 6) (B : Nat -> Int) : ∀ k, k <= n -> ∀ j, j < k -> conF (knR R i) B k j = 1
 | k + 1, hk, j, hj => by
  obtain ⟨_, _, h3, h4⟩ := knit_ok (hR k (by omega))
  show (bif Nat.ble (outN (knR R i) k) j && Nat.blt j (outN (knR R i) k + (knit (R i k)).m.toNat) then ldG (knit (R i k)) (fun t => B (offN (knR R i) k + t)) (j - outN (knR R i) k) else conF (knR R i) B k j) = 1
  rw [(kn_off hR k (by omega)).2, h4]
  by_cases q : j < k
  ·rw [bleF q, Bool.false_and, cond_false]
   exact kn_con hR B k (by omega) j q
  ·rw [bleT (by omega), bltT (show j < k + Int.toNat 1 by show j < k + 1; omega)]
   exact knit_ld (R i k) (fun t => B (offN (knR R i) k + t)) (j - k)
theorem kn_er {i : Nat} (hR : ∀ j, j < n -> 1 <= R i j /\ R i j <= 6) {B : Nat -> Int} (hB : ∀ j, j < n -> B j = 1) {k : Nat} (hk : k < n) : erK (knR R i) B k = 0 := by
 obtain ⟨_, hv, h3, h4⟩ := knit_ok (hR k hk)
 have en : (knit (R i k)).nN = 1 := by unfold Sti.nN; rw [h3]; rfl
 show ldE (knit (R i k)) (fun j => B (offN (knR R i) k + j)) (knit (R i k)).nN = 0
 rw [ldE_k hv rfl ((slotsB_iff _ _).2 fun j hj => (slotB_iff _ _).2 ?_)]
 ·rw [if_neg (by simp [knit]), if_neg (by simp [knit])]
 ·rw [en] at hj
  rw [(kn_off hR k (by omega)).1, hB (k + j) (by omega)]
  omega
theorem kn_LD (hR : ∀ i, i < h -> ∀ j, j < n -> 1 <= R i j /\ R i j <= 6) : ∀ i, i <= h -> ∀ j, j < n -> LD (knR R) (fun _ => n) i j = 1
 | 0, _, j, _ => rfl
 | i + 1, hi, j, hj => kn_con (hR i (by omega)) _ n (Nat.le_refl _) j hj
theorem kn_chart (ok : PicOk R n h) : chkE (knR R) (fun _ => n) h = 0 := by
 have hn := ok.nm
 unfold nmax at hn
 have hn1 := ok.n1
 have hrow : ∀ i, i < h -> rE (knR R i) n = 0 /\ nR5 (knR R i) n = n /\ mR5 (knR R i) n = n := fun i hi => kn_row (ok.col i hi) hn1 hn
 have e1 : chE (knR R) (fun _ => n) h = 0 := by
  unfold chE
  have := ok.h1
  have := ok.odd
  rw [if_neg (by omega), if_neg (by omega), rowsE_zero _ _ h fun i hi => (hrow i hi).1, if_neg (by simp), if_pos ((linksB_iff _ _ _).2 fun i hi => ?_)]
  unfold linkB
  rw [(hrow (i + 1) (by omega)).2.1, (hrow i (by omega)).2.2]
  simp
 unfold chkE
 rw [e1, if_neg (by simp)]
 exact chEr_zero _ _ h fun i hi => rowEr_zero _ _ n fun k hk => kn_er (ok.col i hi) (kn_LD ok.col i (by omega)) hk
end
end Go.Ab

namespace Go.Ab
open Go.Proofs
def ckV (R : Nat -> Nat -> Int) (n h : Nat) : T := .view 1 h (fun i => [srV (knR R i) n (some n)]) (some h)
def v8 (R : Nat -> Nat -> Int) (n h : Nat) (rc c : Option Nat) (i : Nat) : List T := [picV R n h rc c, .reg [ckV R n h], .int .i64 i]
def v8i (R : Nat -> Nat -> Int) (n h : Nat) (rc c : Option Nat) (i k : Nat) : List T := [picV R n h rc c, .reg [ckV R n h], .int .i64 i, .int .i64 k]
noncomputable def K8 (p13 p24 p25 p22 p16 p12 : List T -> T -> Prop) (R : Nat -> Nat -> Int) (n h : Nat) (rc c : Option Nat) : Orc :=
 (((((noneO.add 13 (callF p13 fun _ => some (picV R n h rc c))).add 24 (callF p24 fun _ => some (.tup [.agg [ckV R n h], .int .i64 0]))).add 25 (callF p25 fun _ => some (.int .i64 0))).add 22 (callF p22 fun _ => some (.tup [picV R n h (some n) (some h), .int .i64 0]))).add 16 (callF p16 fun _ => some (.int .i64 0))).add 12 (callF p12 fun _ => some (.bool true))
theorem i8i (R : Nat -> Nat -> Int) (n h : Nat) (rc c : Option Nat) (i k : Nat) : iterR P18 G18 A18 noneO 0 8 [] 11 (v8i R n h rc c i k) [] =
(
 bif decide (0 <= Int.ofNat i) && decide (Int.ofNat i < Int.ofNat h) then
 bif decide (Int.ofNat k < Int.ofNat n) then
 bif decide (0 <= Int.ofNat i) && decide (Int.ofNat i < Int.ofNat h) then
 bif decide (0 <= Int.ofNat k) && decide (Int.ofNat k < Int.ofNat n) then
 bif decide (0 <= Int.ofNat i) && decide (Int.ofNat i < Int.ofNat h) then
 bif decide (0 <= Int.ofNat k) && decide (Int.ofNat k < Int.ofNat n) then
 bif decide (R i k = R i k) then
 some ((.normal, [picV R n h rc c, .reg [ckV R n h], .int .i64 (.ofNat i), .int .i64 (IntKind.i64.wrap (Int.ofNat k + 1))], []))
 else
 some ((.ret, .bool false :: v8 R n h rc c i, []))
 else none else none else none else none else
 some ((.exit 2, .undef :: v8 R n h rc c i, []))
 else
 none) := by kernel_rfl
theorem l8i {R : Nat -> Nat -> Int} {n h : Nat} {rc c : Option Nat} {i : Nat} (hi : i < h) (hh : h <= 1000) (hn : n <= 1000) : LoopOk P18 G18 (A18 8) 8 11 (litS (v8i R n h rc c i 0) [] (.exit 2) (.undef :: v8 R n h rc c i) []) := by
 refine loop_steps hm18 (by kernel_rfl) (fun k => v8i R n h rc c i k) (fun _ => []) (n := n) (fun k hk => ?_) ?_
 ·refine Step.mk0 (A := A18) (m := 0) none_ok rfl rfl loops0 (h1 := []) ?_ .nil
  rw [i8i, ofNatE i, ofNatE k, num1 hk (by omega)]
  (repeat (first | refine BT ?_ | refine BG ?_))
  rfl
 ·refine Last.mk0 (A := A18) (m := 0) none_ok rfl rfl loops0 (h1 := []) (by simp) ?_ .nil
  rw [i8i]
  (repeat (first | refine BT ?_ | refine BG ?_))
  rfl
theorem i8 (R : Nat -> Nat -> Int) (n h : Nat) (rc c : Option Nat) (i : Nat) : iterR P18 G18 A18 noneO 0 8 [(11, litS (v8i R n h rc c i 0) [] (.exit 2) (.undef :: v8 R n h rc c i) [])] 6 (v8 R n h rc c i) [] =
(
 bif decide (Int.ofNat i < Int.ofNat h) then
 bif decide (0 <= Int.ofNat i) && decide (Int.ofNat i < Int.ofNat h) then
 bif decide (0 <= Int.ofNat i) && decide (Int.ofNat i < Int.ofNat h) then
 bif !decide (Int.ofNat n = Int.ofNat n) then
 some ((.ret, [.bool false, picV R n h rc c, .reg [ckV R n h]], []))
 else
 bif weakF (v8i R n h rc c i (nat_lit 0)) [] (v8i R n h rc c i (nat_lit 0)) [] then
 some ((.normal, [picV R n h rc c, .reg [ckV R n h], .int .i64 (IntKind.i64.wrap (Int.ofNat i + 1))], []))
 else none else none else none else
 some ((.exit 0, [.undef, picV R n h rc c, .reg [ckV R n h]], []))) := by kernel_rfl
theorem l8 {R : Nat -> Nat -> Int} {n h : Nat} {rc c : Option Nat} (hh : h <= 1000) (hn : n <= 1000) : LoopOk P18 G18 (A18 8) 8 6 (litS (v8 R n h rc c 0) [] (.exit 0) [.undef, picV R n h rc c, .reg [ckV R n h]] []) := by
 refine loop_steps hm18 (by kernel_rfl) (fun i => v8 R n h rc c i) (fun _ => []) (n := h) (fun i hi => ?_) ?_
 ·refine Step.mk0 (A := A18) (m := 0) none_ok rfl rfl (loops1 (l8i (R := R) (rc := rc) (c := c) hi hh hn)) (h1 := []) ?_ .nil
  rw [i8, ofNatE i, num1 hi (by omega)]
  refine BT ?_
  refine BT ?_
  refine BT ?_
  refine BF ?_
  refine bift (weakF_of ⟨rfl, .refl _⟩) ?_
  rfl
 ·refine Last.mk0 (A := A18) (m := 0) none_ok rfl rfl loops0 (h1 := []) (by simp) ?_ .nil
  rw [(show iterR P18 G18 A18 noneO 0 8 [] 6 (v8 R n h rc c h) [] =
(
 bif decide (Int.ofNat h < Int.ofNat h) then
 bif decide (0 <= Int.ofNat h) && decide (Int.ofNat h < Int.ofNat h) then
 bif decide (0 <= Int.ofNat h) && decide (Int.ofNat h < Int.ofNat h) then
 bif !decide (Int.ofNat n = Int.ofNat n) then
 some ((.ret, [.bool false, picV R n h rc c, .reg [ckV R n h]], []))
 else none else none else none else
 some ((.exit 0, [.undef, picV R n h rc c, .reg [ckV R n h]], []))) from by kernel_rfl)]
  (repeat (first | refine BT ?_ | refine BG ?_))
  rfl
theorem pcE_ok {R : Nat -> Nat -> Int} {n h : Nat} (ok : PicOk R n h) : pcE R (fun _ => n) h = 0 := by
 have hn := ok.nm
 unfold nmax at hn
 have hn1 := ok.n1
 have hh := ok.h1
 have hodd := ok.odd
 unfold pcE
 have a1 : allB (pA fun _ => n) h = true := (allB_iff _ _).2 fun i hi => dT hn
 have a2 : allB (pB R fun _ => n) h = true := (allB_iff _ _).2 fun i hi => by
  have g1 := mnF_ge (R i) 1 (n - 1) fun j hj => (ok.col i hi j (by omega)).1
  have g2 := mxF_le (R i) 6 (n - 1) fun j hj => (ok.col i hi j (by omega)).2
  simp only [pB, Bool.not_eq_true', Bool.or_eq_false_iff, decide_eq_false_iff_not]
  omega
 have a3 : allB (pC fun _ => n) h = true := (allB_iff _ _).2 fun i hi => dT rfl
 have a4 : allB (pD R fun _ => n) h = true := (allB_iff _ _).2 fun i hi => dT (ok.two i hi)
 rw [dF (by omega), cond_false, a1, cond_true, dF (by omega), cond_false, a2, cond_true, a3, cond_true, a4, cond_true]
theorem law8 (D : IR) (hD : D.Ok) : ToldOk P18 G18 8 [.agg [.int .u8 D.wd, D.rows none]] (.bool true) := by
 obtain ⟨ok, hr⟩ := D.pic
 have t13 := OfT D hD
 have t24 := chartT D.r D.w D.n (some D.w) none ok
 have hn := ok.nm
 unfold nmax at hn
 have hh := ok.h1
 have hC : ∀ i j, (knR D.r i j).Ok := fun i j => (knit_ok (by have := hr i j; omega)).1
 have hs : Sims [.agg [ckV D.r D.w D.n]] [.agg [chV (knR D.r) (fun _ => D.w) D.n]] := .cons (.agg (.cons (.view (.inr rfl) fun j hj => .cons (.view (.inr rfl) fun k hk => .refl _) .nil) .nil)) .nil
 have e25 := kn_chart ok
 have t25 := (chartCheckT (knR D.r) (fun _ => D.w) D.n (by omega) (fun _ _ => by omega) hC).sim hs
 rw [e25] at t25
 have t29 := checkT D.r D.w D.n none none ok
 have e22 : ofE (knR D.r) (fun _ => D.w) D.n = 0 := by
  unfold ofE
  rw [e25, if_neg (by simp), if_neg]
  ·exact pcE_ok ok
  ·rw [show allB (kOr (knR D.r) fun _ => D.w) D.n = true from (allB_iff _ _).2 fun i _ => (allB_iff _ _).2 fun j _ => rfl]
   simp
 have t22 := (ofGT (knR D.r) (fun _ => D.w) D.n (by omega) (fun _ _ => by omega) hC).sim hs
 rw [if_pos e22] at t22
 change ToldOk P18 G18 22 _ (.tup [picV D.r D.w D.n (some D.w) (some D.n), .int .i64 0]) at t22
 have t16 := differ0T D.r D.r D.w D.n (some D.w) none (some D.w) (some D.n) (by omega) fun _ _ _ _ => rfl
 change ToldOk P18 G18 24 _ (.tup [.agg [ckV D.r D.w D.n], .int .i64 0]) at t24
 have hl := l8 (R := D.r) (n := D.w) (h := D.n) (rc := some D.w) (c := none) (by omega) (by omega)
 obtain ⟨p13, hp13⟩ := is_val P18 G18 13
 obtain ⟨p24, hp24⟩ := is_val P18 G18 24
 obtain ⟨p25, hp25⟩ := is_val P18 G18 25
 obtain ⟨p22, hp22⟩ := is_val P18 G18 22
 obtain ⟨p16, hp16⟩ := is_val P18 G18 16
 obtain ⟨p12, hp12⟩ := is_val P18 G18 12
 clear ok hr e25 e22 hC hs t29
 generalize D.r = R at *
 generalize D.w = n at *
 generalize D.n = h at *
 refine stepL_told hm18 hn18 (K := K8 p13 p24 p25 p22 p16 p12 R n h (some n) none) (told_add (told_add (told_add (told_add (told_add (told_add none_ok (callF_told hp13)) (callF_told hp24)) (callF_told hp25)) (callF_told hp22)) (callF_told hp16)) (callF_told hp12)) (A := A18) (m := 0) (by kernel_rfl) (loops1 hl) ?_
 rw [(show stepL P18 G18 A18 (K8 p13 p24 p25 p22 p16 p12 R n h (some n) none) 0 8 [(6, litS (v8 R n h (some n) none 0) [] (.exit 0) [.undef, picV R n h (some n) none, .reg [ckV R n h]] [])] [.agg [.int .u8 D.wd, D.rows none]] =
(
 bif decF (p13 [.agg [.int .u8 D.wd, D.rows
 none]] (.view 1 h (fun i => [.view 1 n (fun j => [.int .u8 (R i j)]) (some n)])
 none)) then
 bif decF (p24 [.view 1 h (fun i => [.view 1 n (fun j => [.int .u8 (R i j)]) (some n)])
 none] (.tup [.agg [.view 1 h (fun i => [.view 5 n (fun j => [.int .u8 1, .int .u8 (R i j), .int .i64 0, .int .i64 0, .bool false]) (some n)]) (some h)], .int .i64 0])) then
 bif decF (p25 [.agg [.view 1 h (fun i => [.view 5 n (fun j => [.int .u8 1, .int .u8 (R i j), .int .i64 0, .int .i64 0, .bool false]) (some n)]) (some h)]] (.int .i64 0)) then
 bif !decide (Int.ofNat h = Int.ofNat h) then
 some (.bool false)
 else
 bif !decide (Int.ofNat h = Int.ofNat h) then
 some (.bool false)
 else
 bif weakF (v8 R n h (some n)
 none (nat_lit 0)) [] (v8 R n h (some n)
 none (nat_lit 0)) [] then
 bif decF (p22 [.agg [.view 1 h (fun i => [.view 5 n (fun j => [.int .u8 1, .int .u8 (R i j), .int .i64 0, .int .i64 0, .bool false]) (some n)]) (some h)]] (.tup [.view 1 h (fun i => [.view 1 n (fun j => [.int .u8 (R i j)]) (some n)]) (some h), .int .i64 0])) then
 bif decF (p16 [.view 1 h (fun i => [.view 1 n (fun j => [.int .u8 (R i j)]) (some n)])
 none, .view 1 h (fun i => [.view 1 n (fun j => [.int .u8 (R i j)]) (some n)]) (some h)] (.int .i64 0)) then
 bif decF (p12 [] (.bool true)) then
 some (.bool true)
 else none else none else none else none else none else none else
 none) from by kernel_rfl)]
 refine bift (callF_yes hp13 t13) ?_
 refine bift (callF_yes hp24 t24) ?_
 refine bift (callF_yes hp25 t25) ?_
 refine BF ?_
 refine BF ?_
 refine bift (weakF_of ⟨rfl, .refl _⟩) ?_
 refine bift (callF_yes hp22 t22) ?_
 refine bift (callF_yes hp16 t16) ?_
 refine bift (callF_yes hp12 livesT) ?_
 rfl
end Go.Ab

namespace Go.Ab
open Go.Proofs
section
variable {Hp : Type}
theorem cells5_18 : P18.cellsOf 5 = 1 := by kernel_rfl
def cI (l : List T) : Int := match l with | [.int _ z] => z | _ => 0
theorem inv5_18 {ts : List T} {d : DataW Hp} (h : CT P18 5 ts d) : ∃ a : Int, ts = [.int .u8 a] /\ 0 <= a /\ a < 256 := by
 obtain ⟨a, rfl, rfl, w⟩ := h.int_inv Try.underlying5
 have w := wf_u8 w
 exact ⟨a, rfl, by omega, by omega⟩
theorem row18 {ts : List T} {d : DataW Hp} (h : CT P18 22 ts d) : ∃ (r : Nat -> Int) (n : Nat), (∀ j, 0 <= r j /\ r j < 256) /\ ∃ x, ts = [x] /\ imm0 x = true /\ Sim x (rowV r n none) := by
 rcases h.slice_inv Try.underlying22 (by rw [cells5_18]; omega) with ⟨rfl, rfl⟩ | ⟨n, c, g, elems, spare, rfl, rfl, he, hs, hn, hc, hg⟩
 ·exact ⟨fun _ => 0, 0, fun _ => ⟨Int.le_refl 0, (by decide : (0 : Int) < 256)⟩, _, rfl, rfl, .nilv _ _ (.inl rfl)⟩
 ·have key : ∀ j, j < n -> ∃ a : Int, g j = [.int .u8 a] /\ 0 <= a /\ a < 256 := fun j hj => inv5_18 (hg j elems[j] (by simp [show j < elems.length by omega]))
  refine ⟨fun j => if j < n then cI (g j) else 0, n, fun j => ?_, _, rfl, rfl, ?_⟩
  ·dsimp only
   split
   ·rename_i hj
    obtain ⟨a, q, q1, q2⟩ := key j hj
    rw [q]
    exact ⟨q1, q2⟩
   ·omega
  ·rw [cells5_18]
   refine .view (.inr rfl) fun j hj => ?_
   obtain ⟨a, q, _⟩ := key j hj
   show Sims (g j) [.int .u8 (if j < n then cI (g j) else 0)]
   rw [if_pos hj, q]
   exact .refl _
end
end Go.Ab

namespace Go.Ab
open Go.Proofs
section
variable {Hp : Type}
theorem agg31_18 : aggTy P18 31 = true := by kernel_rfl
theorem cells22_18 : P18.cellsOf 22 = 1 := by kernel_rfl
theorem rows18 {ts : List T} {d : DataW Hp} (h : CT P18 29 ts d) : ∃ (m : Nat) (ln : Nat -> Nat) (x : Nat -> Nat -> Int), (∀ i k, 0 <= x i k /\ x i k < 256) /\ ∃ y, ts = [y] /\ Sim y (.view 1 m (fun i => [rowV (x i) (ln i) none]) none) := by
 rcases h.slice_inv Try.underlying29 (by rw [cells22_18]; omega) with ⟨rfl, rfl⟩ | ⟨n, c, g, elems, spare, rfl, rfl, he, hs, hn, hc, hg⟩
 ·exact ⟨0, fun _ => 0, fun _ _ => 0, fun _ _ => ⟨Int.le_refl 0, (by decide : (0 : Int) < 256)⟩, _, rfl, .nilv _ _ (.inl rfl)⟩
 ·have key : ∀ j, ∃ (r : Nat -> Int) (l : Nat), (∀ k, 0 <= r k /\ r k < 256) /\ (j < n -> ∃ x, g j = [x] /\ Sim x (rowV r l none)) := fun j => by
   by_cases hj : j < n
   ·obtain ⟨r, l, h1, x, h2, _, h3⟩ := row18 (hg j elems[j] (by simp [show j < elems.length by omega]))
    exact ⟨r, l, h1, fun _ => ⟨x, h2, h3⟩⟩
   ·exact ⟨fun _ => 0, 0, fun _ => ⟨Int.le_refl 0, (by decide : (0 : Int) < 256)⟩, fun h => absurd h hj⟩
  refine ⟨n, fun j => (key j).choose_spec.choose, fun j => (key j).choose, fun i => (key i).choose_spec.choose_spec.1, _, rfl, ?_⟩
  ·rw [cells22_18]
   refine .view (.inr rfl) fun j hj => ?_
   obtain ⟨x, h2, h3⟩ := (key j).choose_spec.choose_spec.2 hj
   rw [h2]
   exact .cons h3 .nil
theorem inv31_18 {ts : List T} {d : DataW Hp} (h : CT P18 31 ts d) : ∃ D : IR, D.Ok /\ Sim (topT P18 31 ts) (.agg [.int .u8 D.wd, D.rows none]) := by
 obtain ⟨parts, ds, rfl, rfl, hs⟩ := CT.struct_inv Try.underlying31 h; clear h; rename _ => h
 change CTs P18 [5, 29] parts ds at h
 obtain ⟨p1, _, d1, _, rfl, rfl, h1, h⟩ := h.cons
 obtain ⟨p2, _, d2, _, rfl, rfl, h2, h⟩ := h.cons
 obtain ⟨rfl, rfl⟩ := h.nil
 obtain ⟨a, rfl, a1, a2⟩ := inv5_18 h1
 obtain ⟨m, ln, x, b2, y, rfl, b3⟩ := rows18 h2
 refine ⟨⟨a, m, ln, x⟩, ⟨⟨a1, a2⟩, b2⟩, ?_⟩
 rw [show topT P18 31 ([[T.int .u8 a], [y]].flatten) = .agg [.int .u8 a, y] by simp [topT, agg31_18]]
 exact .agg (.cons (.refl _) (.cons b3 .nil))
end
end Go.Ab

