/- A part of the proof: nothing is assumed. -/
import Derived.Test.YteoamlekamflbaaP11
set_option linter.all false
namespace Go.Ab
open Go.Proofs
def chV (C : Nat -> Nat -> Sti) (ln : Nat -> Nat) (h : Nat) : T := .view 1 h (fun i => [srV (C i) (ln i) none]) none
def v55 (C : Nat -> Nat -> Sti) (ln : Nat -> Nat) (h : Nat) (i : Int) : List T := [chV C ln h, chV C ln h, .int .i64 h, .int .i64 i]
def w55 (C : Nat -> Nat -> Sti) (ln : Nat -> Nat) (h : Nat) (i : Int) : List T := [chV C ln h, .int .i64 i]
noncomputable def K55a (p : List T -> T -> Prop) (x : Int) : Orc := noneO.add 66 (callF p fun _ => some (.int .i64 x))
def rowsE (C : Nat -> Nat -> Sti) (ln : Nat -> Nat) : Nat -> Int
 | 0 => 0
 | i + 1 => if rowsE C ln i ≠ 0 then rowsE C ln i else rE (C i) (ln i)
def linkB (C : Nat -> Nat -> Sti) (ln : Nat -> Nat) (i : Nat) : Bool := decide (nR5 (C (i + 1)) (ln (i + 1)) = mR5 (C i) (ln i))
def linksB (C : Nat -> Nat -> Sti) (ln : Nat -> Nat) : Nat -> Bool
 | 0 => true
 | i + 1 => linksB C ln i && linkB C ln i
def chE (C : Nat -> Nat -> Sti) (ln : Nat -> Nat) (h : Nat) : Int := if 31 < h then 3 else if h % 2 = 0 then 1 else if rowsE C ln h ≠ 0 then rowsE C ln h else if linksB C ln (h - 1) = true then 0 else 14
theorem i55 (C : Nat -> Nat -> Sti) (ln : Nat -> Nat) (h : Nat) (i : Nat) (x : Int) (p : List T -> T -> Prop) : iterR P18 G18 A18 (K55a p x) 0 55 [] 6 (v55 C ln h i) [] =
(
 bif decide (Int.ofNat i < Int.ofNat h) then
 bif decide (0 <= Int.ofNat i) && decide (Int.ofNat i < Int.ofNat h) then
 bif decF (p [srV (C i) (ln i)
 none] (.int .i64 x)) then
 bif !decide (x = 0) then
 some ((.ret, w55 C ln h x, []))
 else
 some ((.normal, v55 C ln h (IntKind.i64.wrap (Int.ofNat i + 1)), []))
 else none else none else
 some ((.exit 0, [chV C ln h, .undef], []))) := by kernel_rfl
theorem j55 (C : Nat -> Nat -> Sti) (ln : Nat -> Nat) (h : Nat) (i : Nat) (x y : Int) (p q : List T -> T -> Prop) : iterR P18 G18 A18 (K66 p q x y) 0 55 [] 13 (w55 C ln h (i + 1 : Nat)) [] =
(
 bif decide (Int.ofNat (i + 1) < Int.ofNat h) then
 bif decide (0 <= Int.ofNat (i + 1)) && decide (Int.ofNat (i + 1) < Int.ofNat h) then
 bif decF (p [.view 5 (ln (i + 1)) (fun j => [.int .u8 (C (i + (1 : Nat)) j).k, .int .u8 (C (i + (1 : Nat)) j).y, .int .i64 (C (i + (1 : Nat)) j).a, .int .i64 (C (i + (1 : Nat)) j).b, .bool (C (i + (1 : Nat)) j).f])
 none] (.int .i64 x)) then
 bif decide (0 <= IntKind.i64.wrap (Int.ofNat (i + 1) - (1 : Int))) && decide (IntKind.i64.wrap (Int.ofNat (i + 1) - (1 : Int)) < Int.ofNat h) then
 bif decF (q [.view 5 (ln (IntKind.i64.wrap (Int.ofNat (i + (1 : Nat)) - (1 : Int))).toNat) (fun j => [.int .u8 (C (IntKind.i64.wrap (Int.ofNat (i + (1 : Nat)) - (1 : Int))).toNat j).k, .int .u8 (C (IntKind.i64.wrap (Int.ofNat (i + (1 : Nat)) - (1 : Int))).toNat j).y, .int .i64 (C (IntKind.i64.wrap (Int.ofNat (i + (1 : Nat)) - (1 : Int))).toNat j).a, .int .i64 (C (IntKind.i64.wrap (Int.ofNat (i + (1 : Nat)) - (1 : Int))).toNat j).b, .bool (C (IntKind.i64.wrap (Int.ofNat (i + (1 : Nat)) - (1 : Int))).toNat j).f])
 none] (.int .i64 y)) then
 bif !decide (x = y) then
 some ((.ret, [.int .i64 14], []))
 else
 some ((.normal, w55 C ln h (IntKind.i64.wrap (Int.ofNat (i + 1) + (1 : Int))), []))
 else none else none else none else none else
 some ((.exit 2, [.undef], []))) := by kernel_rfl
theorem k55 (C : Nat -> Nat -> Sti) (ln : Nat -> Nat) (h : Nat) (x : Int) : stepL P18 G18 A18 noneO 0 55 [(6, litS (v55 C ln h 0) [] .ret [chV C ln h, .int .i64 x] [])] [chV C ln h] =
(
 bif decide (31 < Int.ofNat h) then
 some (.int .i64 3)
 else
 bif decide ((Int.ofNat h).tmod 2 = 0) then
 some (.int .i64 1)
 else
 bif weakF (v55 C ln h (0 : Int)) [] (v55 C ln h (0 : Int)) [] then
 some (.int .i64 x)
 else
 none) := by kernel_rfl
theorem k55b (C : Nat -> Nat -> Sti) (ln : Nat -> Nat) (h : Nat) : stepL P18 G18 A18 noneO 0 55 [(6, litS (v55 C ln h 0) [] (.exit 0) [chV C ln h, .undef] []), (13, litS (w55 C ln h 1) [] (.exit 2) [.undef] [])] [chV C ln h] =
(
 bif decide (31 < Int.ofNat h) then
 some (.int .i64 3)
 else
 bif decide ((Int.ofNat h).tmod 2 = 0) then
 some (.int .i64 1)
 else
 bif weakF (v55 C ln h (0 : Int)) [] (v55 C ln h (0 : Int)) [] then
 bif weakF (w55 C ln h (1 : Int)) [] (w55 C ln h (1 : Int)) [] then
 some (.int .i64 0)
 else none else
 none) := by kernel_rfl
theorem k55c (C : Nat -> Nat -> Sti) (ln : Nat -> Nat) (h : Nat) : stepL P18 G18 A18 noneO 0 55 [(6, litS (v55 C ln h 0) [] (.exit 0) [chV C ln h, .undef] []), (13, litS (w55 C ln h 1) [] .ret [.int .i64 14] [])] [chV C ln h] =
(
 bif decide (31 < Int.ofNat h) then
 some (.int .i64 3)
 else
 bif decide ((Int.ofNat h).tmod 2 = 0) then
 some (.int .i64 1)
 else
 bif weakF (v55 C ln h (0 : Int)) [] (v55 C ln h (0 : Int)) [] then
 bif weakF (w55 C ln h (1 : Int)) [] (w55 C ln h (1 : Int)) [] then
 some (.int .i64 14)
 else none else
 none) := by kernel_rfl
theorem rowsE_zero (C : Nat -> Nat -> Sti) (ln : Nat -> Nat) : ∀ h, (∀ i, i < h -> rE (C i) (ln i) = 0) -> rowsE C ln h = 0
 | 0, _ => rfl
 | h + 1, q => by
  unfold rowsE
  rw [if_neg (by rw [rowsE_zero C ln h fun i hi => q i (by omega)]; simp), q h (by omega)]
theorem rowsE_at (C : Nat -> Nat -> Sti) (ln : Nat -> Nat) (I : Nat) (hb : rE (C I) (ln I) ≠ 0) (hlt : ∀ i, i < I -> rE (C i) (ln i) = 0) : ∀ h, I < h -> rowsE C ln h = rE (C I) (ln I)
 | h + 1, hI => by
  unfold rowsE
  by_cases q : h = I
  ·subst q
   rw [if_neg (by rw [rowsE_zero C ln h hlt]; simp)]
  ·have ih := rowsE_at C ln I hb hlt h (by omega)
   rw [if_pos (by rw [ih]; exact hb), ih]
theorem linksB_iff (C : Nat -> Nat -> Sti) (ln : Nat -> Nat) : ∀ n, linksB C ln n = true ↔ ∀ i, i < n -> linkB C ln i = true
 | 0 => ⟨fun _ i h => by omega, fun _ => rfl⟩
 | n + 1 => by
  have ih := linksB_iff C ln n
  unfold linksB
  rw [Bool.and_eq_true, ih]
  constructor
  ·intro ⟨h1, h2⟩ i hi
   by_cases e : i = n
   ·rw [e]; exact h2
   ·exact h1 i (by omega)
  ·exact fun h => ⟨fun i hi => h i (by omega), h n (by omega)⟩
theorem s55 (C : Nat -> Nat -> Sti) (ln : Nat -> Nat) (h : Nat) (hh : h <= 1000) (p : List T -> T -> Prop) (hp : p = ToldOk P18 G18 66) (i : Nat) (hi : i < h) (t1 : ToldOk P18 G18 66 [srV (C i) (ln i) none] (.int .i64 0)) : Step P18 G18 (A18 55) 55 6 0 (v55 C ln h i) [] (v55 C ln h (i + 1 : Nat)) [] := by
 refine Step.mk0 (A := A18) (K := K55a p 0) (m := 0) (told_add none_ok (callF_told hp)) rfl rfl loops0 (h1 := []) ?_ .nil
 have ei : IntKind.i64.wrap ((i : Int) + 1) = ((i + 1 : Nat) : Int) := by rw [wr64 (by omega) (by omega)]; omega
 rw [i55, ofNatE i, ei]
 refine BT ?_
 refine BT ?_
 refine bift (callF_yes hp t1) ?_
 refine biff (by simp) ?_
 rfl
theorem tmod_two (h : Nat) : decide ((Int.ofNat h).tmod 2 = 0) = decide (h % 2 = 0) := by
 rw [ofNatE, Int.tmod_eq_emod_of_nonneg (by omega)]
 by_cases q : h % 2 = 0
 ·rw [dT q, dT (by omega)]
 ·rw [dF q, dF (by omega)]
theorem checkRowsT (C : Nat -> Nat -> Sti) (ln : Nat -> Nat) (h : Nat) (hh : h <= 1000) (hln : ∀ i, i < h -> ln i <= 1000) (hC : ∀ i j, (C i j).Ok) : ToldOk P18 G18 55 [chV C ln h] (.int .i64 (chE C ln h)) := by
 unfold chE
 obtain ⟨p, hp⟩ := is_val P18 G18 66
 rcases firstBadB (fun i => decide (rE (C i) (ln i) = 0)) h with hg | ⟨I, hI, hb, hlt⟩
 ·have hg : ∀ i, i < h -> rE (C i) (ln i) = 0 := fun i hi => by simpa using hg i hi
  rw [rowsE_zero C ln h hg]
  have hl : LoopOk P18 G18 (A18 55) 55 6 (litS (v55 C ln h 0) [] (.exit 0) [chV C ln h, .undef] []) := by
   refine loop_steps hm18 (by kernel_rfl) (fun i => v55 C ln h i) (fun _ => []) (n := h) (fun i hi => s55 C ln h hh p hp i hi (by have := checkRowT (C i) (ln i) none (hln i hi) (hC i); rw [hg i hi] at this; exact this)) ?_
   refine Last.mk0 (A := A18) (K := K55a p 0) (m := 0) (told_add none_ok (callF_told hp)) rfl rfl loops0 (h1 := []) (by simp) ?_ .nil
   rw [i55]
   refine biff (by first | assumption | (simp (disch := omega) only [numsE, List.length_cons, List.length_nil, Nat.reduceAdd]; done) | (simp (disch := omega) only [numsE, List.length_cons, List.length_nil, Nat.reduceAdd]; omega) | (simp; done) | fail) ?_
   rfl
  obtain ⟨p1, hp1⟩ := is_val P18 G18 56
  obtain ⟨p2, hp2⟩ := is_val P18 G18 57
  have hK : ∀ x y, OrcOk P18 G18 (K66 p1 p2 x y) := fun x y => told_add (told_add none_ok (callF_told hp1)) (callF_told hp2)
  have tr : ∀ i, i < h -> i + 1 < h -> ∀ vs e, (∀ q, (bif !decide (nR5 (C (i + 1)) (ln (i + 1)) = mR5 (C i) (ln i)) then some (Ex.ret, [T.int .i64 14], ([] : Heap)) else some (Ex.normal, w55 C ln h (i + 1 + 1 : Nat), [])) = q -> q = some (e, vs, [])) -> iterR P18 G18 A18 (K66 p1 p2 (nR5 (C (i + 1)) (ln (i + 1))) (mR5 (C i) (ln i))) 0 55 [] 13 (w55 C ln h (i + 1 : Nat)) [] = some (e, vs, []) := fun i hi hi2 vs e hq => by
   have t1 := rowNeedsT (C (i + 1)) (ln (i + 1)) none (hln (i + 1) hi2) (hC (i + 1))
   have t2 := rowMakesT (C i) (ln i) none (hln i hi) (hC i)
   generalize nR5 (C (i + 1)) (ln (i + 1)) = x at *
   generalize mR5 (C i) (ln i) = y at *
   have ei : IntKind.i64.wrap (((i + 1 : Nat) : Int) + 1) = ((i + 1 + 1 : Nat) : Int) := by rw [wr64 (by omega) (by omega)]; omega
   have ei2 : (IntKind.i64.wrap (((i + 1 : Nat) : Int) - 1)).toNat = i := by rw [wr64 (by omega) (by omega)]; omega
   have ei3 : IntKind.i64.wrap (((i + 1 : Nat) : Int) - 1) = (i : Int) := by rw [wr64 (by omega) (by omega)]; omega
   rw [j55, ofNatE (i + 1), ei, ei2, ei3]
   refine BT ?_
   refine BT ?_
   refine bift (callF_yes hp1 t1) ?_
   refine BT ?_
   refine bift (callF_yes hp2 t2) ?_
   exact hq _ rfl
  have st : ∀ i, i + 1 < h -> linkB C ln i = true -> Step P18 G18 (A18 55) 55 13 0 (w55 C ln h (i + 1 : Nat)) [] (w55 C ln h (i + 1 + 1 : Nat)) [] := fun i hi hk => by
   refine Step.mk0 (A := A18) (K := K66 p1 p2 (nR5 (C (i + 1)) (ln (i + 1))) (mR5 (C i) (ln i))) (m := 0) (hK _ _) rfl rfl loops0 (h1 := []) (tr i (by omega) hi _ _ fun q hq => ?_) .nil
   unfold linkB at hk
   rw [← hq, hk]
   rfl
  rcases firstBadB (linkB C ln) (h - 1) with hg2 | ⟨J, hJ, hb2, hlt2⟩
  ·rw [if_pos ((linksB_iff C ln (h - 1)).2 hg2)]
   by_cases h0 : h = 0
   ·subst h0
    refine stepL_told hm18 hn18 none_ok (A := A18) (m := 0) (by kernel_rfl) (loops1 hl) ?_
    rw [(show stepL P18 G18 A18 noneO 0 55 [(6, litS (v55 C ln 0 0) [] (.exit 0) [chV C ln 0, .undef] [])] [chV C ln 0] =
(
 some (.int .i64 1)) from by kernel_rfl)]
    rfl
   ·have hl2 : LoopOk P18 G18 (A18 55) 55 13 (litS (w55 C ln h 1) [] (.exit 2) [.undef] []) := by
     refine loop_steps hm18 (by kernel_rfl) (fun i => w55 C ln h (i + 1 : Nat)) (fun _ => []) (n := h - 1) (fun i hi => st i (by omega) (hg2 i hi)) ?_
     refine Last.mk0 (A := A18) (K := K66 p1 p2 0 0) (m := 0) (hK _ _) rfl rfl loops0 (h1 := []) (by simp) ?_ .nil
     rw [j55]
     refine biff (by first | assumption | (simp (disch := omega) only [numsE, List.length_cons, List.length_nil, Nat.reduceAdd]; done) | (simp (disch := omega) only [numsE, List.length_cons, List.length_nil, Nat.reduceAdd]; omega) | (simp; done) | fail) ?_
     rfl
    refine stepL_told hm18 hn18 none_ok (A := A18) (m := 0) (by kernel_rfl) (loopsC hl (loops1 hl2)) ?_
    rw [k55b, tmod_two]
    by_cases q1 : 31 < h
    ·rw [if_pos q1]; exact bift (by first | assumption | omega | (simp (disch := omega) only [numsE, List.length_cons, List.length_nil, Nat.reduceAdd]; done) | (simp (disch := omega) only [numsE, List.length_cons, List.length_nil, Nat.reduceAdd]; omega)) rfl
    rw [if_neg q1]
    refine biff (by first | assumption | (simp (disch := omega) only [numsE, List.length_cons, List.length_nil, Nat.reduceAdd]; done) | (simp (disch := omega) only [numsE, List.length_cons, List.length_nil, Nat.reduceAdd]; omega) | (simp; done) | fail) ?_
    by_cases q2 : h % 2 = 0
    ·rw [if_pos q2]; exact bift (dT q2) rfl
    rw [if_neg q2]
    refine biff (by simpa using q2) ?_
    refine bift (weakF_of ⟨rfl, .refl _⟩) ?_
    refine bift (weakF_of ⟨rfl, .refl _⟩) ?_
    rfl
  ·have hne : ¬ linksB C ln (h - 1) = true := fun q => by
    have := (linksB_iff C ln (h - 1)).1 q J hJ
    rw [hb2] at this
    cases this
   rw [if_neg hne]
   have hl2 : LoopOk P18 G18 (A18 55) 55 13 (litS (w55 C ln h 1) [] .ret [.int .i64 14] []) := by
    refine loop_steps hm18 (by kernel_rfl) (fun i => w55 C ln h (i + 1 : Nat)) (fun _ => []) (n := J) (fun i hi => st i (by omega) (hlt2 i hi)) ?_
    refine Last.mk0 (A := A18) (K := K66 p1 p2 (nR5 (C (J + 1)) (ln (J + 1))) (mR5 (C J) (ln J))) (m := 0) (hK _ _) rfl rfl loops0 (h1 := []) (by simp) (tr J (by omega) (by omega) _ _ fun q hq => ?_) .nil
    unfold linkB at hb2
    rw [← hq, hb2]
    rfl
   refine stepL_told hm18 hn18 none_ok (A := A18) (m := 0) (by kernel_rfl) (loopsC hl (loops1 hl2)) ?_
   rw [k55c, tmod_two]
   by_cases q1 : 31 < h
   ·rw [if_pos q1]; exact bift (by first | assumption | omega | (simp (disch := omega) only [numsE, List.length_cons, List.length_nil, Nat.reduceAdd]; done) | (simp (disch := omega) only [numsE, List.length_cons, List.length_nil, Nat.reduceAdd]; omega)) rfl
   rw [if_neg q1]
   refine biff (by first | assumption | (simp (disch := omega) only [numsE, List.length_cons, List.length_nil, Nat.reduceAdd]; done) | (simp (disch := omega) only [numsE, List.length_cons, List.length_nil, Nat.reduceAdd]; omega) | (simp; done) | fail) ?_
   by_cases q2 : h % 2 = 0
   ·rw [if_pos q2]; exact bift (dT q2) rfl
   rw [if_neg q2]
   refine biff (by simpa using q2) ?_
   refine bift (weakF_of ⟨rfl, .refl _⟩) ?_
   refine bift (weakF_of ⟨rfl, .refl _⟩) ?_
   rfl
 ·have hb : rE (C I) (ln I) ≠ 0 := by simpa using hb
  have hlt : ∀ i, i < I -> rE (C i) (ln i) = 0 := fun i hi => by simpa using hlt i hi
  rw [rowsE_at C ln I hb hlt h hI, if_pos hb]
  have hl : LoopOk P18 G18 (A18 55) 55 6 (litS (v55 C ln h 0) [] .ret [chV C ln h, .int .i64 (rE (C I) (ln I))] []) := by
   refine loop_steps hm18 (by kernel_rfl) (fun i => v55 C ln h i) (fun _ => []) (n := I) (fun i hi => s55 C ln h hh p hp i (by omega) (by have := checkRowT (C i) (ln i) none (hln i (by omega)) (hC i); rw [hlt i hi] at this; exact this)) ?_
   have t1 := checkRowT (C I) (ln I) none (hln I hI) (hC I)
   generalize rE (C I) (ln I) = x at *
   refine Last.mk0 (A := A18) (K := K55a p x) (m := 0) (told_add none_ok (callF_told hp)) rfl rfl loops0 (h1 := []) (by simp) ?_ .nil
   rw [i55]
   refine BT ?_
   refine BT ?_
   refine bift (callF_yes hp t1) ?_
   refine bift (by simp [hb]) ?_
   rfl
  generalize rE (C I) (ln I) = x at *
  refine stepL_told hm18 hn18 none_ok (A := A18) (m := 0) (by kernel_rfl) (loops1 hl) ?_
  rw [k55, tmod_two]
  by_cases q1 : 31 < h
  ·rw [if_pos q1]; exact bift (by first | assumption | omega | (simp (disch := omega) only [numsE, List.length_cons, List.length_nil, Nat.reduceAdd]; done) | (simp (disch := omega) only [numsE, List.length_cons, List.length_nil, Nat.reduceAdd]; omega)) rfl
  rw [if_neg q1]
  refine biff (by first | assumption | (simp (disch := omega) only [numsE, List.length_cons, List.length_nil, Nat.reduceAdd]; done) | (simp (disch := omega) only [numsE, List.length_cons, List.length_nil, Nat.reduceAdd]; omega) | (simp; done) | fail) ?_
  by_cases q2 : h % 2 = 0
  ·rw [if_pos q2]; exact bift (dT q2) rfl
  rw [if_neg q2]
  refine biff (by simpa using q2) ?_
  exact bift (weakF_of ⟨rfl, .refl _⟩) rfl
end Go.Ab

namespace Go.Ab
open Go.Proofs
def slV (B : Nat -> Int) (n : Nat) (c : Option Nat) : T := .view 1 n (fun j => [.int .i64 (B j)]) c
def bk59 (g : Nat -> Int) (n : Nat) : Heap := [⟨0, 1, n, fun j => [.int .i64 (g j)], true, false, none⟩]
def v59a (s : Sti) (B : Nat -> Int) (n : Nat) (c : Option Nat) (i : Int) : List T := [slV B n c, .reg s.c, slV B n c, .int .i64 n, .int .i64 i]
def v59b (s : Sti) (B : Nat -> Int) (n : Nat) (c : Option Nat) (m : Nat) (i : Int) : List T := [slV B n c, .reg s.c, .own 0 0 0 m (some m), .int .i64 m, .int .i64 i]
noncomputable def K59 (p q r : List T -> T -> Prop) (e : Bool) (x y : Int) : Orc := ((noneO.add 69 (callF p fun _ => some (.int .i64 (errE e)))).add 58 (callF q fun _ => some (.int .i64 x))).add 68 (callF r fun _ => some (.int .i64 y))
def slotB (B : Nat -> Int) (j : Nat) : Bool := decide (1 <= B j) && decide (B j <= 3)
def slotsB (B : Nat -> Int) : Nat -> Bool
 | 0 => true
 | j + 1 => slotsB B j && slotB B j
def Sti.mN (s : Sti) : Nat := s.m.toNat
def Sti.nN (s : Sti) : Nat := s.n.toNat
def ldE (s : Sti) (B : Nat -> Int) (n : Nat) : Int := if vF s = false then 1 else if n ≠ s.nN then 5 else if slotsB B n = false then 1 else if s.k = 4 ∨ s.k = 5 then (if 4 < B 0 + B 1 then 9 else 0) else if s.k = 6 then (if B 0 = 3 then 9 else 0) else 0
def ldG (s : Sti) (B : Nat -> Int) (j : Nat) : Int := if s.k = 6 /\ j = 0 then B 0 + 1 else if s.k = 7 /\ j = 0 then B 0 else 1
def ldR (s : Sti) (B : Nat -> Int) (n : Nat) : T := if ldE s B n = 0 then .tup [.fresh true 1 s.mN (fun j => [.int .i64 (ldG s B j)]) s.mN (some s.mN), .int .i64 0] else .tup [.nils, .int .i64 (ldE s B n)]
theorem i59 (s : Sti) (B : Nat -> Int) (n : Nat) (c : Option Nat) (i : Nat) : iterR P18 G18 A18 noneO 0 59 [] 6 (v59a s B n c i) [] =
(
 bif decide (Int.ofNat i < Int.ofNat n) then
 bif decide (0 <= Int.ofNat i) && decide (Int.ofNat i < Int.ofNat n) then
 bif decide (B i < 1) then
 some ((.ret, [slV B n c, .reg s.c, .nils, .int .i64 1], []))
 else
 bif decide ((3 : Int) < B i) then
 some ((.ret, [slV B n c, .reg s.c, .nils, .int .i64 1], []))
 else
 some ((.normal, v59a s B n c (IntKind.i64.wrap (Int.ofNat i + 1)), []))
 else none else
 some ((.exit 0, [slV B n c, .reg s.c, .undef, .undef], []))) := by kernel_rfl
theorem slotsB_iff (B : Nat -> Int) : ∀ n, slotsB B n = true ↔ ∀ i, i < n -> slotB B i = true
 | 0 => ⟨fun _ i h => by omega, fun _ => rfl⟩
 | n + 1 => by
  have ih := slotsB_iff B n
  unfold slotsB
  rw [Bool.and_eq_true, ih]
  constructor
  ·intro ⟨h1, h2⟩ i hi
   by_cases e : i = n
   ·rw [e]; exact h2
   ·exact h1 i (by omega)
  ·exact fun h => ⟨fun i hi => h i (by omega), h n (by omega)⟩
theorem slotB_iff (B : Nat -> Int) (j : Nat) : slotB B j = true ↔ 1 <= B j /\ B j <= 3 := by
 unfold slotB
 rw [Bool.and_eq_true, decide_eq_true_eq, decide_eq_true_eq]
theorem s59 (s : Sti) (B : Nat -> Int) (n : Nat) (c : Option Nat) (hn : n <= 1000) (i : Nat) (hi : i < n) (hb : slotB B i = true) : Step P18 G18 (A18 59) 59 6 0 (v59a s B n c i) [] (v59a s B n c (i + 1 : Nat)) [] := by
 rw [slotB_iff] at hb
 refine Step.mk0 (A := A18) (m := 0) none_ok rfl rfl loops0 (h1 := []) ?_ .nil
 have ei : IntKind.i64.wrap ((i : Int) + 1) = ((i + 1 : Nat) : Int) := by rw [wr64 (by omega) (by omega)]; omega
 rw [i59, ofNatE i, ei]
 refine BT ?_
 refine BT ?_
 refine biff (by first | assumption | (simp (disch := omega) only [numsE, List.length_cons, List.length_nil, Nat.reduceAdd]; done) | (simp (disch := omega) only [numsE, List.length_cons, List.length_nil, Nat.reduceAdd]; omega) | (simp; done) | fail) ?_
 refine biff (by first | assumption | (simp (disch := omega) only [numsE, List.length_cons, List.length_nil, Nat.reduceAdd]; done) | (simp (disch := omega) only [numsE, List.length_cons, List.length_nil, Nat.reduceAdd]; omega) | (simp; done) | fail) ?_
 rfl
theorem l59b (s : Sti) (B : Nat -> Int) (n : Nat) (c : Option Nat) (m : Nat) (hm : m <= 1000) : LoopOk P18 G18 (A18 59) 59 13 (litS (v59b s B n c m 0) (bk59 (fun _ => 0) m) (.exit 2) [slV B n c, .reg s.c, .own 0 0 0 m (some m)] (bk59 (fun _ => 1) m)) := by
 refine loop_steps hm18 (by kernel_rfl) (fun i => v59b s B n c m i) (fun i => bk59 (fun e => bif Nat.blt e i then 1 else 0) m) (n := m) (fun i hi => ?_) ?_
 ·have e : (fun e => bif Nat.blt e (i + 1) then (1 : Int) else 0) = fun e => bif e == 0 + i then 1 else bif Nat.blt e i then 1 else 0 := by
   funext e
   rw [Nat.zero_add]
   by_cases q : e = i
   ·subst q; rw [beq_self_eq_true, cond_true, bltT (by omega), cond_true]
   ·rw [show (e == i) = false by simpa using q, cond_false]
    by_cases q2 : e < i
    ·rw [bltT q2, bltT (by omega)]
    ·rw [bltF (by omega), bltF (by omega)]
  rw [e]
  clear e
  obtain ⟨g, hg⟩ : ∃ g : Nat -> Int, g = fun e => bif Nat.blt e i then (1 : Int) else 0 := ⟨_, rfl⟩
  have e2 : (fun e => bif e == 0 + i then (1 : Int) else bif Nat.blt e i then 1 else 0) = fun e => bif e == 0 + i then 1 else g e := by rw [hg]
  rw [e2, ← hg]
  clear e2 hg
  refine Step.mk0 (A := A18) (m := 0) none_ok rfl rfl loops0 (h1 := bk59 (fun e => bif e == 0 + i then 1 else g e) m) ?_ (.refl _)
  rw [(show iterR P18 G18 A18 noneO 0 59 [] 13 (v59b s B n c m i) (bk59 g m) =
(
 bif decide (Int.ofNat i < Int.ofNat m) then
 bif decide (0 <= Int.ofNat i) && decide (Int.ofNat i < Int.ofNat m) then
 bif ((0 : Nat) + i).blt m && true && true && true then
 some ((.normal, v59b s B n c m (IntKind.i64.wrap (Int.ofNat i + 1)), bk59 (fun j =>
 bif j == 0 + i then (1 : Int)
 else g j) m))
 else none else none else
 some ((.exit 2, [slV B n c, .reg s.c, .own 0 0 0 m (some m)], bk59 g m))) from by kernel_rfl)]
  have ei : IntKind.i64.wrap ((i : Int) + 1) = ((i + 1 : Nat) : Int) := by rw [wr64 (by omega) (by omega)]; omega
  rw [ofNatE i, ei]
  refine BT ?_
  refine BT ?_
  refine BT ?_
  rfl
 ·refine Last.mk0 (A := A18) (m := 0) none_ok rfl rfl loops0 (h1 := bk59 (fun e => bif Nat.blt e m then 1 else 0) m) (by simp) ?_ (.cons ⟨rfl, rfl, rfl, id, fun j hj => ?_⟩ .nil)
  ·generalize (fun e => bif Nat.blt e m then (1 : Int) else 0) = g at *
   rw [(show iterR P18 G18 A18 noneO 0 59 [] 13 (v59b s B n c m m) (bk59 g m) =
(
 bif decide (Int.ofNat m < Int.ofNat m) then
 bif decide (0 <= Int.ofNat m) && decide (Int.ofNat m < Int.ofNat m) then
 bif ((0 : Nat) + m).blt m && true && true && true then
 some ((.normal, v59b s B n c m (IntKind.i64.wrap (Int.ofNat m + 1)), bk59 (fun j =>
 bif j == 0 + m then (1 : Int)
 else g j) m))
 else none else none else
 some ((.exit 2, [slV B n c, .reg s.c, .own 0 0 0 m (some m)], bk59 g m))) from by kernel_rfl)]
   (repeat (first | refine BT ?_ | refine BG ?_))
   rfl
  ·show [T.int .i64 1] = [T.int .i64 (bif Nat.blt j m then 1 else 0)]
   rw [bltT hj, cond_true]
theorem ldE_1 {s : Sti} {B : Nat -> Int} {n : Nat} (h : vF s = false) : ldE s B n = 1 := by simp [ldE, h]
theorem ldE_5 {s : Sti} {B : Nat -> Int} {n : Nat} (h : vF s = true) (h2 : n ≠ s.nN) : ldE s B n = 5 := by simp [ldE, h, h2]
theorem ldE_s {s : Sti} {B : Nat -> Int} {n : Nat} (h : vF s = true) (h2 : n = s.nN) (h3 : slotsB B n = false) : ldE s B n = 1 := by simp [ldE, h, ← h2, h3]
theorem ldE_k {s : Sti} {B : Nat -> Int} {n : Nat} (h : vF s = true) (h2 : n = s.nN) (h3 : slotsB B n = true) : ldE s B n = if s.k = 4 ∨ s.k = 5 then (if 4 < B 0 + B 1 then 9 else 0) else if s.k = 6 then (if B 0 = 3 then 9 else 0) else 0 := by simp [ldE, h, ← h2, h3]
theorem stiLoadsT (s : Sti) (hs : s.Ok) (B : Nat -> Int) (n : Nat) (c : Option Nat) (hn : n <= 1000) : ToldOk P18 G18 59 [s.t, slV B n c] (ldR s B n) := by
 obtain ⟨p, hp⟩ := is_val P18 G18 69
 obtain ⟨q, hq⟩ := is_val P18 G18 58
 obtain ⟨r, hr⟩ := is_val P18 G18 68
 have t1 := stiCheckT s
 have t2 := stiNeedsT s
 have t3 := stiMakesT s
 have hv := s.v_iff hs
 have hnb := s.n_bd hs
 have hmb := s.m_bd hs
 have hl2 := l59b s B n c s.mN (by unfold Sti.mN; omega)
 have emN : s.m = ((s.mN : Nat) : Int) := by unfold Sti.mN; omega
 have enN : s.n = ((s.nN : Nat) : Int) := by unfold Sti.nN; omega
 have hn4 : vF s = true -> s.k = 4 ∨ s.k = 5 -> s.n = 2 := fun h1 h2 => by
  unfold Sti.n
  rw [h1, cond_true]
  rcases h2 with h2 | h2
  ·rw [dF (by omega), dT h2]; rfl
  ·rw [dF (by omega), dF (by omega), dT h2]; rfl
 have hn6 : vF s = true -> s.k = 6 ∨ s.k = 7 -> s.n = 1 /\ s.m = 1 := fun h1 h2 => by
  unfold Sti.n Sti.m
  rw [h1, cond_true, dF (by omega), dF (by omega), dF (by omega), dF (by omega)]
  exact ⟨rfl, rfl⟩
 rw [emN] at t3
 rw [enN] at t2
 unfold ldR
 have hmN : s.mN <= 4 := by unfold Sti.mN; omega
 generalize hm : s.mN = m at *
 generalize hx : s.nN = x at *
 have hok : OrcOk P18 G18 (K59 p q r (vF s) x m) := told_add (told_add (told_add none_ok (callF_told hp)) (callF_told hq)) (callF_told hr)
 rcases firstBadB (slotB B) n with hg | ⟨I, hI, hb, hlt⟩
 ·have hsl := (slotsB_iff B n).2 hg
  have hB : ∀ i, i < n -> 1 <= B i /\ B i <= 3 := fun i hi => (slotB_iff B i).1 (hg i hi)
  have hl : LoopOk P18 G18 (A18 59) 59 6 (litS (v59a s B n c 0) [] (.exit 0) [slV B n c, .reg s.c, .undef, .undef] []) := by
   refine loop_steps hm18 (by kernel_rfl) (fun i => v59a s B n c i) (fun _ => []) (n := n) (fun i hi => s59 s B n c hn i hi (hg i hi)) ?_
   refine Last.mk0 (A := A18) (m := 0) none_ok rfl rfl loops0 (h1 := []) (by simp) ?_ .nil
   rw [i59]
   refine biff (by first | assumption | (simp (disch := omega) only [numsE, List.length_cons, List.length_nil, Nat.reduceAdd]; done) | (simp (disch := omega) only [numsE, List.length_cons, List.length_nil, Nat.reduceAdd]; omega) | (simp; done) | fail) ?_
   rfl
  refine stepL_told hm18 hn18 hok (A := A18) (m := 0) (by kernel_rfl) (loopsC hl (loops1 hl2)) ?_
  rw [show vF s = vF s from rfl]
  generalize hvv : vF s = e at *
  rw [(show stepL P18 G18 A18 (K59 p q r e x m) 0 59 [(6, litS (v59a s B n c 0) [] (.exit 0) [slV B n c, .reg s.c, .undef, .undef] []), (13, litS (v59b s B n c m 0) (bk59 (fun _ => 0) m) (.exit 2) [slV B n c, .reg s.c, .own 0 0 0 m (some m)] (bk59 (fun _ => 1) m))] [s.t, slV B n c] =
(
 bif decF (p [.agg [.int .u8 s.k, .int .u8 s.y, .int .i64 s.a, .int .i64 s.b, .bool s.f]] (.int .i64 (bif e then (0 : Int)
 else (1 : Int)))) then
 bif !decide ((bif e then (0 : Int)
 else (1 : Int)) = (0 : Int)) then
 some (.tup [.nils, .int .i64 1])
 else
 bif decF (q [.agg [.int .u8 s.k, .int .u8 s.y, .int .i64 s.a, .int .i64 s.b, .bool s.f]] (.int .i64 (.ofNat x))) then
 bif !decide (Int.ofNat n = Int.ofNat x) then
 some (.tup [.nils, .int .i64 5])
 else
 bif weakF (v59a s B n c (0 : Int)) [] (v59a s B n c (0 : Int)) [] then
 bif decF (r [.agg [.int .u8 s.k, .int .u8 s.y, .int .i64 s.a, .int .i64 s.b, .bool s.f]] (.int .i64 (.ofNat m))) then
 bif decide (0 <= Int.ofNat m) && decide (Int.ofNat m <= Int.ofNat m) && decide (Int.ofNat m * 8 <= 140737488355328) && decide (Int.ofNat m <= 9223372036854775807) then
 bif weakF (v59b s B n c m (0 : Int)) (bk59 (fun j => (0 : Int)) m) (v59b s B n c m (0 : Int)) (bk59 (fun j => (0 : Int)) m) then
 bif decide (s.k = 4) then
 bif decide (0 < Int.ofNat n) then
 bif decide (1 < Int.ofNat n) then
 bif decide (4 < IntKind.i64.wrap (B (0 : Nat) + B (1 : Nat))) then
 some (.tup [.nils, .int .i64 9])
 else
 some (.tup [bif ((0 : Nat) + m).ble m then .fresh true (1 : Nat) (m - 0) (fun j => [.int .i64 1]) m (some m)
 else .undef, .int .i64 0])
 else none else none else
 bif decide (s.k = 5) then
 bif decide (0 < Int.ofNat n) then
 bif decide (1 < Int.ofNat n) then
 bif decide (4 < IntKind.i64.wrap (B (0 : Nat) + B (1 : Nat))) then
 some (.tup [.nils, .int .i64 9])
 else
 some (.tup [bif ((0 : Nat) + m).ble m then .fresh true (1 : Nat) (m - 0) (fun j => [.int .i64 1]) m (some m)
 else .undef, .int .i64 0])
 else none else none else
 bif decide (s.k = 6) then
 bif decide (0 < Int.ofNat n) then
 bif decide (B (0 : Nat) = (3 : Int)) then
 some (.tup [.nils, .int .i64 9])
 else
 bif decide (0 < Int.ofNat n) then
 bif decide (0 < Int.ofNat m) then
 bif Nat.blt 0 m && [T.int .i64 (IntKind.i64.wrap (B (0 : Nat) + (1 : Int)))].length == (1 : Nat) && true && true then
 some (.tup [bif ((0 : Nat) + m).ble m then .fresh true (1 : Nat) (m - 0) (fun j => [.int .i64 (bif 0 + j == (0 : Nat) then IntKind.i64.wrap (B (0 : Nat) + (1 : Int))
 else (1 : Int))]) m (some m)
 else .undef, .int .i64 0])
 else none else none else none else none else
 bif decide (s.k = 7) then
 bif decide (0 < Int.ofNat n) then
 bif decide (0 < Int.ofNat m) then
 bif Nat.blt 0 m && [T.int .i64 (B (0 : Nat))].length == (1 : Nat) && true && true then
 some (.tup [bif ((0 : Nat) + m).ble m then .fresh true (1 : Nat) (m - 0) (fun j => [.int .i64 (bif 0 + j == (0 : Nat) then B (0 : Nat)
 else (1 : Int))]) m (some m)
 else .undef, .int .i64 0])
 else none else none else none else
 some (.tup [bif ((0 : Nat) + m).ble m then .fresh true (1 : Nat) (m - 0) (fun j => [.int .i64 1]) m (some m)
 else .undef, .int .i64 0])
 else none else none else none else none else none else
 none) from by kernel_rfl)]
  refine bift (callF_yes hp t1) ?_
  cases e
  ·rw [ldE_1 hvv]; rfl
  refine biff (by simp) ?_
  refine bift (callF_yes hq t2) ?_
  by_cases h1 : n = x
  case neg =>
   rw [ldE_5 hvv (by omega), if_neg (by omega)]
   refine BT ?_
   rfl
  have hE := ldE_k (B := B) hvv (show n = s.nN by omega) hsl
  refine biff (by simp [h1]) ?_
  refine bift (weakF_of ⟨rfl, .refl _⟩) ?_
  refine bift (callF_yes hr t3) ?_
  refine BT ?_
  refine bift (weakF_of ⟨rfl, .refl _⟩) ?_
  simp only [Nat.zero_add, Nat.sub_zero, bleT (Nat.le_refl _), cond_true, Bool.and_true]
  have hv := hv.1 rfl
  have hn4 := hn4 rfl
  have hn6 := hn6 rfl
  by_cases k4 : s.k = 4
  ·have := hn4 (.inl k4)
   have b0 := hB 0 (by omega)
   have b1 := hB 1 (by omega)
   rw [if_pos (.inl k4)] at hE
   rw [wr64 (by omega) (by omega)]
   refine bift (dT k4) ?_
   refine BT ?_
   refine BT ?_
   by_cases h9 : 4 < B 0 + B 1
   ·rw [if_pos h9] at hE; rw [hE]; exact bift (dT h9) rfl
   ·rw [if_neg h9] at hE
    refine biff (by simpa using h9) ?_
    rw [hE, if_pos rfl, show (fun j => [T.int .i64 (ldG s B j)]) = fun j => [T.int .i64 1] by funext j; unfold ldG; rw [if_neg (by omega), if_neg (by omega)]]
  by_cases k5 : s.k = 5
  ·have := hn4 (.inr k5)
   have b0 := hB 0 (by omega)
   have b1 := hB 1 (by omega)
   rw [if_pos (.inr k5)] at hE
   rw [wr64 (by omega) (by omega)]
   refine biff (by simpa using k4) ?_
   refine bift (dT k5) ?_
   refine BT ?_
   refine BT ?_
   by_cases h9 : 4 < B 0 + B 1
   ·rw [if_pos h9] at hE; rw [hE]; exact bift (dT h9) rfl
   ·rw [if_neg h9] at hE
    refine biff (by simpa using h9) ?_
    rw [hE, if_pos rfl, show (fun j => [T.int .i64 (ldG s B j)]) = fun j => [T.int .i64 1] by funext j; unfold ldG; rw [if_neg (by omega), if_neg (by omega)]]
  rw [if_neg (by omega)] at hE
  refine biff (by simpa using k4) ?_
  refine biff (by simpa using k5) ?_
  by_cases k6 : s.k = 6
  ·have h61 := hn6 (.inl k6)
   have b0 := hB 0 (by omega)
   rw [if_pos k6] at hE
   refine bift (dT k6) ?_
   refine BT ?_
   by_cases h9 : B 0 = 3
   ·rw [if_pos h9] at hE; rw [hE]; exact bift (dT h9) rfl
   ·rw [if_neg h9] at hE
    refine biff (by simpa using h9) ?_
    refine BT ?_
    refine BT ?_
    refine bift (by rw [bltT (by omega)]; rfl) ?_
    rw [wr64 (by omega) (by omega), hE, if_pos rfl, show (fun j => [T.int .i64 (ldG s B j)]) = fun j => [T.int .i64 (bif j == 0 then B 0 + 1 else 1)] by
     funext j
     unfold ldG
     by_cases hj : j = 0
     ·rw [if_pos ⟨k6, hj⟩, hj]; rfl
     ·rw [if_neg (by omega), if_neg (by omega), show (j == 0) = false by simpa using hj]; rfl]
  rw [if_neg k6] at hE
  refine biff (by simpa using k6) ?_
  by_cases k7 : s.k = 7
  ·have h61 := hn6 (.inr k7)
   have b0 := hB 0 (by omega)
   refine bift (dT k7) ?_
   refine BT ?_
   refine BT ?_
   refine bift (by rw [bltT (by omega)]; rfl) ?_
   rw [hE, if_pos rfl, show (fun j => [T.int .i64 (ldG s B j)]) = fun j => [T.int .i64 (bif j == 0 then B 0 else 1)] by
    funext j
    unfold ldG
    by_cases hj : j = 0
    ·rw [if_neg (by omega), if_pos ⟨k7, hj⟩, hj]; rfl
    ·rw [if_neg (by omega), if_neg (by omega), show (j == 0) = false by simpa using hj]; rfl]
  refine biff (by simpa using k7) ?_
  rw [hE, if_pos rfl, show (fun j => [T.int .i64 (ldG s B j)]) = fun j => [T.int .i64 1] by funext j; unfold ldG; rw [if_neg (by omega), if_neg (by omega)]]
 ·have hsl : slotsB B n = false := by
   cases h : slotsB B n
   ·rfl
   ·have := (slotsB_iff B n).1 h I hI
    rw [hb] at this
    cases this
  have hl : LoopOk P18 G18 (A18 59) 59 6 (litS (v59a s B n c 0) [] .ret [slV B n c, .reg s.c, .nils, .int .i64 1] []) := by
   refine loop_steps hm18 (by kernel_rfl) (fun i => v59a s B n c i) (fun _ => []) (n := I) (fun i hi => s59 s B n c hn i (by omega) (hlt i hi)) ?_
   refine Last.mk0 (A := A18) (m := 0) none_ok rfl rfl loops0 (h1 := []) (by simp) ?_ .nil
   have hnb : ¬ (1 <= B I /\ B I <= 3) := fun h => by rw [(slotB_iff B I).2 h] at hb; cases hb
   rw [i59]
   refine BT ?_
   refine BT ?_
   by_cases h1 : B I < 1
   ·exact bift (dT h1) rfl
   ·refine biff (by simpa using h1) ?_
    exact bift (by first | assumption | omega | (simp (disch := omega) only [numsE, List.length_cons, List.length_nil, Nat.reduceAdd]; done) | (simp (disch := omega) only [numsE, List.length_cons, List.length_nil, Nat.reduceAdd]; omega)) rfl
  refine stepL_told hm18 hn18 hok (A := A18) (m := 0) (by kernel_rfl) (loops1 hl) ?_
  generalize hvv : vF s = e at *
  rw [(show stepL P18 G18 A18 (K59 p q r e x m) 0 59 [(6, litS (v59a s B n c 0) [] .ret [slV B n c, .reg s.c, .nils, .int .i64 1] [])] [s.t, slV B n c] =
(
 bif decF (p [.agg [.int .u8 s.k, .int .u8 s.y, .int .i64 s.a, .int .i64 s.b, .bool s.f]] (.int .i64 (bif e then (0 : Int)
 else (1 : Int)))) then
 bif !decide ((bif e then (0 : Int)
 else (1 : Int)) = (0 : Int)) then
 some (.tup [.nils, .int .i64 1])
 else
 bif decF (q [.agg [.int .u8 s.k, .int .u8 s.y, .int .i64 s.a, .int .i64 s.b, .bool s.f]] (.int .i64 (.ofNat x))) then
 bif !decide (Int.ofNat n = Int.ofNat x) then
 some (.tup [.nils, .int .i64 5])
 else
 bif weakF (v59a s B n c (0 : Int)) [] (v59a s B n c (0 : Int)) [] then
 some (.tup [.nils, .int .i64 1])
 else none else none else
 none) from by kernel_rfl)]
  refine bift (callF_yes hp t1) ?_
  cases e
  ·rw [ldE_1 hvv]; rfl
  refine biff (by simp) ?_
  refine bift (callF_yes hq t2) ?_
  by_cases h1 : n = x
  case neg =>
   rw [ldE_5 hvv (by omega), if_neg (by omega)]
   refine BT ?_
   rfl
  rw [ldE_s hvv (by omega) hsl, if_neg (by omega)]
  refine biff (by simp [h1]) ?_
  exact bift (weakF_of ⟨rfl, .refl _⟩) rfl
end Go.Ab

namespace Go.Ab
open Go.Proofs
def lB42 (L : Nat -> Nat -> Int) (W : Nat -> Nat) (h : Nat) : Blk := ⟨0, 1, 1 + h, fun e => [slV (L e) (W e) (some (W e))], false, false, none⟩
def bB42 (g : Nat -> Int) (m : Nat) : Blk := ⟨0, 1, m, fun e => [.int .i64 (g e)], true, false, none⟩
def v42a (C : Nat -> Nat -> Sti) (ln : Nat -> Nat) (h : Nat) (n : Nat) (i : Int) : List T := [.reg [chV C ln h], .own 0 0 0 n (some n), .int .i64 n, .int .i64 i]
def v42b (C : Nat -> Nat -> Sti) (ln : Nat -> Nat) (h i : Nat) : List T := [.own 0 0 0 (i + 1) (some (1 + h)), .int .i64 0, chV C ln h, .int .i64 h, .int .i64 i]
def v42c (C : Nat -> Nat -> Sti) (ln : Nat -> Nat) (h i : Nat) (B : Nat -> Int) (w : Nat) (o m : Nat) (k : Nat) : List T := [.own 0 0 0 (i + 1) (some (1 + h)), .int .i64 0, slV B w (some w), .own 1 0 0 o (some m), chV C ln h, .int .i64 h, .int .i64 i, srV (C i) (ln i) none, .int .i64 (ln i), .int .i64 k]
def x42 (C : Nat -> Nat -> Sti) (ln : Nat -> Nat) (h i m : Nat) (e : Int) (o : Nat) : List T := [.own 0 0 0 (i + 1) (some (1 + h)), .int .i64 e, .own 1 0 0 o (some m), chV C ln h, .int .i64 h, .int .i64 i]
noncomputable def K42c (p q : List T -> T -> Prop) (x : Nat) (r : T) : Orc := (noneO.add 58 (callF p fun _ => some (.int .i64 x))).add 59 (callF q fun _ => some r)
noncomputable def K42b (p : List T -> T -> Prop) (m : Nat) : Orc := noneO.add 57 (callF p fun _ => some (.int .i64 m))
noncomputable def K42 (p q : List T -> T -> Prop) (e : Int) (n : Nat) : Orc := (noneO.add 55 (callF p fun _ => some (.int .i64 e))).add 56 (callF q fun _ => some (.int .i64 n))
def offN (r : Nat -> Sti) : Nat -> Nat
 | 0 => 0
 | k + 1 => offN r k + (r k).nN
def outN (r : Nat -> Sti) : Nat -> Nat
 | 0 => 0
 | k + 1 => outN r k + (r k).mN
def conF (r : Nat -> Sti) (B : Nat -> Int) : Nat -> Nat -> Int
 | 0 => fun _ => 0
 | k + 1 => fun j => bif Nat.ble (outN r k) j && Nat.blt j (outN r k + (r k).mN) then ldG (r k) (fun t => B (offN r k + t)) (j - outN r k) else conF r B k j
def erK (r : Nat -> Sti) (B : Nat -> Int) (k : Nat) : Int := ldE (r k) (fun j => B (offN r k + j)) (r k).nN
def rowEr (r : Nat -> Sti) (B : Nat -> Int) : Nat -> Int
 | 0 => 0
 | k + 1 => if rowEr r B k ≠ 0 then rowEr r B k else erK r B k
def LD (C : Nat -> Nat -> Sti) (ln : Nat -> Nat) : Nat -> Nat -> Int
 | 0 => fun _ => 1
 | i + 1 => conF (C i) (LD C ln i) (ln i)
def WD (C : Nat -> Nat -> Sti) (ln : Nat -> Nat) : Nat -> Nat
 | 0 => offN (C 0) (ln 0)
 | i + 1 => outN (C i) (ln i)
def chEr (C : Nat -> Nat -> Sti) (ln : Nat -> Nat) : Nat -> Int
 | 0 => 0
 | i + 1 => if chEr C ln i ≠ 0 then chEr C ln i else rowEr (C i) (LD C ln i) (ln i)
def W42 (C : Nat -> Nat -> Sti) (ln : Nat -> Nat) (i e : Nat) : Nat := bif Nat.ble e i then WD C ln e else 0
theorem i42a (C : Nat -> Nat -> Sti) (ln : Nat -> Nat) (h n i : Nat) (g : Nat -> Int) : iterR P18 G18 A18 noneO 0 42 [] 6 (v42a C ln h n i) (bk59 g n) =
(
 bif decide (Int.ofNat i < Int.ofNat n) then
 bif decide (0 <= Int.ofNat i) && decide (Int.ofNat i < Int.ofNat n) then
 bif ((0 : Nat) + i).blt n && true && true && true then
 some ((.normal, v42a C ln h n (IntKind.i64.wrap (Int.ofNat i + 1)), bk59 (fun j =>
 bif j == 0 + i then (1 : Int)
 else g j) n))
 else none else none else
 some ((.exit 0, [.reg [chV C ln h], .own 0 0 0 n (some n)], bk59 g n))) := by kernel_rfl
theorem offN_eq (r : Nat -> Sti) (hr : ∀ j, (r j).Ok) : ∀ n, nR5 r n = ((offN r n : Nat) : Int) /\ mR5 r n = ((outN r n : Nat) : Int)
 | 0 => ⟨rfl, rfl⟩
 | n + 1 => by
  obtain ⟨h1, h2⟩ := offN_eq r hr n
  have a1 := (r n).n_bd (hr n)
  have a2 := (r n).m_bd (hr n)
  have e1 : nR5 r (n + 1) = nR5 r n + (r n).n := rfl
  have e2 : mR5 r (n + 1) = mR5 r n + (r n).m := rfl
  have e3 : offN r (n + 1) = offN r n + (r n).n.toNat := rfl
  have e4 : outN r (n + 1) = outN r n + (r n).m.toNat := rfl
  rw [e1, e2, e3, e4, h1, h2]
  omega
theorem offN_le (r : Nat -> Sti) {k n : Nat} (h : k <= n) : offN r k <= offN r n /\ outN r k <= outN r n := by
 induction h with
 | refl => exact ⟨Nat.le_refl _, Nat.le_refl _⟩
 | step _ ih =>
  have e3 : ∀ n, offN r (n + 1) = offN r n + (r n).nN := fun _ => rfl
  have e4 : ∀ n, outN r (n + 1) = outN r n + (r n).mN := fun _ => rfl
  rw [e3, e4]
  omega
theorem rowEr_zero (r : Nat -> Sti) (B : Nat -> Int) : ∀ n, (∀ i, i < n -> erK r B i = 0) -> rowEr r B n = 0
 | 0, _ => rfl
 | n + 1, q => by
  unfold rowEr
  rw [if_neg (by rw [rowEr_zero r B n fun i hi => q i (by omega)]; simp), q n (by omega)]
theorem rowEr_at (r : Nat -> Sti) (B : Nat -> Int) (I : Nat) (hb : erK r B I ≠ 0) (hlt : ∀ i, i < I -> erK r B i = 0) : ∀ n, I < n -> rowEr r B n = erK r B I
 | n + 1, hI => by
  unfold rowEr
  by_cases q : n = I
  ·subst q
   rw [if_neg (by rw [rowEr_zero r B n hlt]; simp)]
  ·have ih := rowEr_at r B I hb hlt n (by omega)
   rw [if_pos (by rw [ih]; exact hb), ih]
theorem chEr_zero (C : Nat -> Nat -> Sti) (ln : Nat -> Nat) : ∀ n, (∀ i, i < n -> rowEr (C i) (LD C ln i) (ln i) = 0) -> chEr C ln n = 0
 | 0, _ => rfl
 | n + 1, q => by
  unfold chEr
  rw [if_neg (by rw [chEr_zero C ln n fun i hi => q i (by omega)]; simp), q n (by omega)]
theorem chEr_at (C : Nat -> Nat -> Sti) (ln : Nat -> Nat) (I : Nat) (hb : rowEr (C I) (LD C ln I) (ln I) ≠ 0) (hlt : ∀ i, i < I -> rowEr (C i) (LD C ln i) (ln i) = 0) : ∀ n, I < n -> chEr C ln n = rowEr (C I) (LD C ln I) (ln I)
 | n + 1, hI => by
  unfold chEr
  by_cases q : n = I
  ·subst q
   rw [if_neg (by rw [chEr_zero C ln n hlt]; simp)]
  ·have ih := chEr_at C ln I hb hlt n (by omega)
   rw [if_pos (by rw [ih]; exact hb), ih]
theorem ldE_v {s : Sti} {B : Nat -> Int} {n : Nat} (h : ldE s B n = 0) : vF s = true := by
 cases q : vF s
 ·rw [ldE_1 q] at h; exact absurd h (by decide)
 ·rfl
theorem l42a (C : Nat -> Nat -> Sti) (ln : Nat -> Nat) (h n : Nat) (hn : n <= 1000) : LoopOk P18 G18 (A18 42) 42 6 (litS (v42a C ln h n 0) (bk59 (fun _ => 0) n) (.exit 0) [.reg [chV C ln h], .own 0 0 0 n (some n)] (bk59 (fun _ => 1) n)) := by
 refine loop_steps hm18 (by kernel_rfl) (fun i => v42a C ln h n i) (fun i => bk59 (fun e => bif Nat.blt e i then 1 else 0) n) (n := n) (fun i hi => ?_) ?_
 ·have e : (fun e => bif Nat.blt e (i + 1) then (1 : Int) else 0) = fun e => bif e == 0 + i then 1 else bif Nat.blt e i then 1 else 0 := by
   funext e
   rw [Nat.zero_add]
   by_cases q : e = i
   ·subst q; rw [beq_self_eq_true, cond_true, bltT (by omega), cond_true]
   ·rw [show (e == i) = false by simpa using q, cond_false]
    by_cases q2 : e < i
    ·rw [bltT q2, bltT (by omega)]
    ·rw [bltF (by omega), bltF (by omega)]
  rw [e]
  clear e
  obtain ⟨g, hg⟩ : ∃ g : Nat -> Int, g = fun e => bif Nat.blt e i then (1 : Int) else 0 := ⟨_, rfl⟩
  have e2 : (fun e => bif e == 0 + i then (1 : Int) else bif Nat.blt e i then 1 else 0) = fun e => bif e == 0 + i then 1 else g e := by rw [hg]
  rw [e2, ← hg]
  clear e2 hg
  refine Step.mk0 (A := A18) (m := 0) none_ok rfl rfl loops0 (h1 := bk59 (fun e => bif e == 0 + i then 1 else g e) n) ?_ (.refl _)
  have ei : IntKind.i64.wrap ((i : Int) + 1) = ((i + 1 : Nat) : Int) := by rw [wr64 (by omega) (by omega)]; omega
  rw [i42a, ofNatE i, ei]
  refine BT ?_
  refine BT ?_
  refine BT ?_
  rfl
 ·refine Last.mk0 (A := A18) (m := 0) none_ok rfl rfl loops0 (h1 := bk59 (fun e => bif Nat.blt e n then 1 else 0) n) (by simp) ?_ (.cons ⟨rfl, rfl, rfl, id, fun j hj => ?_⟩ .nil)
  ·rw [i42a]
   refine biff (by first | assumption | (simp (disch := omega) only [numsE, List.length_cons, List.length_nil, Nat.reduceAdd]; done) | (simp (disch := omega) only [numsE, List.length_cons, List.length_nil, Nat.reduceAdd]; omega) | (simp; done) | fail) ?_
   rfl
  ·show [T.int .i64 1] = [T.int .i64 (bif Nat.blt j n then 1 else 0)]
   rw [bltT hj, cond_true]
theorem i42c (C : Nat -> Nat -> Sti) (ln : Nat -> Nat) (h i : Nat) (B g : Nat -> Int) (w o m k x y : Nat) (G : Nat -> Int) (L : Nat -> Nat -> Int) (W : Nat -> Nat) (p q : List T -> T -> Prop) : iterR P18 G18 A18 (K42c p q x (.tup [.new (slV G y (some y)), .int .i64 0])) 0 42 [] 19 (v42c C ln h i B w o m k) [lB42 L W h, bB42 g m] =
(
 bif decide (Int.ofNat k < Int.ofNat (ln i)) then
 bif decide (0 <= Int.ofNat k) && decide (Int.ofNat k < Int.ofNat (ln i)) then
 bif decF (p [.agg [.int .u8 (C i k).k, .int .u8 (C i k).y, .int .i64 (C i k).a, .int .i64 (C i k).b, .bool (C i k).f]] (.int .i64 (.ofNat x))) then
 bif decide (0 <= Int.ofNat x) && decide (Int.ofNat x <= Int.ofNat w) then
 bif x.ble w then
 bif decF (q [.agg [.int .u8 (C i k).k, .int .u8 (C i k).y, .int .i64 (C i k).a, .int .i64 (C i k).b, .bool (C i k).f], .view 1 (x - 0) (fun j => [.int .i64 (B (0 + j))]) (some (w - 0))] (.tup [(T.view 1 y (fun j => [T.int .i64 (G j)]) (some y)).new, .int .i64 0])) then
 bif decide (0 <= Int.ofNat x) && decide (Int.ofNat x <= Int.ofNat w) && decide (Int.ofNat w <= Int.ofNat w) then
 bif w.ble w then
 bif ((0 : Nat) + o).ble m then
 bif y == (0 : Nat) then
 some ((.normal, [.own 0 0 0 (i + 1) (some (1 + h)), .int .i64 0, slV (fun j => B (x + j)) (w - x) (some (w - x)), .own 1 0 0 o (some m), chV C ln h, .int .i64 (.ofNat h), .int .i64 (.ofNat i), srV (C i) (ln i)
 none, .int .i64 (.ofNat (ln i)), .int .i64 (IntKind.i64.wrap (Int.ofNat k + 1))], lB42 L W h :: bk59 g m))
 else
 bif ((o + y) * (9 : Nat)).ble 70368744177664 then
 bif (o + y).ble m then
 bif ((0 : Nat) + o + y).ble m then
 some ((.normal, [.own 0 0 0 (i + 1) (some (1 + h)), .int .i64 0, slV (fun j => B (x + j)) (w - x) (some (w - x)), .own 1 0 0 (o + y) (some m), chV C ln h, .int .i64 (.ofNat h), .int .i64 (.ofNat i), srV (C i) (ln i)
 none, .int .i64 (.ofNat (ln i)), .int .i64 (IntKind.i64.wrap (Int.ofNat k + 1))], [lB42 L W h, .mk 0 1 m (fun j =>
 bif ((0 : Nat) + o).ble j && j.blt (0 + o + y) then [.int .i64 (G (j - (0 + o)))]
 else [.int .i64 (g j)]) true false
 none]))
 else none else
 some ((.normal, [.own 0 0 0 (i + 1) (some (1 + h)), .int .i64 0, slV (fun j => B (x + j)) (w - x) (some (w - x)), .own (lB42 L W h :: bk59 g m).length (0 : Nat) (0 : Nat) (o + y)
 none, chV C ln h, .int .i64 (.ofNat h), .int .i64 (.ofNat i), srV (C i) (ln i)
 none, .int .i64 (.ofNat (ln i)), .int .i64 (IntKind.i64.wrap (Int.ofNat k + 1))], [lB42 L W h, bB42 g m, .mk 0 1 (o + y) (fun j =>
 bif j.blt o then [.int .i64 (g (0 + j))]
 else [.int .i64 (G (j - o))]) true false
 none]))
 else none else none else none else none else none else none else none else none else none else
 some ((.exit 4, x42 C ln h i m (0 : Int) o, lB42 L W h :: bk59 g m))) := by kernel_rfl
theorem i42e (C : Nat -> Nat -> Sti) (ln : Nat -> Nat) (h i : Nat) (B g : Nat -> Int) (w o m k x : Nat) (e : Int) (L : Nat -> Nat -> Int) (W : Nat -> Nat) (p q : List T -> T -> Prop) : iterR P18 G18 A18 (K42c p q x (.tup [.nils, .int .i64 e])) 0 42 [] 19 (v42c C ln h i B w o m k) [lB42 L W h, bB42 g m] =
(
 bif decide (Int.ofNat k < Int.ofNat (ln i)) then
 bif decide (0 <= Int.ofNat k) && decide (Int.ofNat k < Int.ofNat (ln i)) then
 bif decF (p [.agg [.int .u8 (C i k).k, .int .u8 (C i k).y, .int .i64 (C i k).a, .int .i64 (C i k).b, .bool (C i k).f]] (.int .i64 (.ofNat x))) then
 bif decide (0 <= Int.ofNat x) && decide (Int.ofNat x <= Int.ofNat w) then
 bif x.ble w then
 bif decF (q [.agg [.int .u8 (C i k).k, .int .u8 (C i k).y, .int .i64 (C i k).a, .int .i64 (C i k).b, .bool (C i k).f], .view 1 (x - 0) (fun j => [.int .i64 (B (0 + j))]) (some (w - 0))] (.tup [.nils, .int .i64 e])) then
 bif !decide (e = 0) then
 some ((.exit 2, x42 C ln h i m e o, lB42 L W h :: bk59 g m))
 else
 bif decide (0 <= Int.ofNat x) && decide (Int.ofNat x <= Int.ofNat w) && decide (Int.ofNat w <= Int.ofNat w) then
 bif w.ble w then
 bif ((0 : Nat) + o).ble m then
 some ((.normal, [.own 0 0 0 (i + 1) (some (1 + h)), .int .i64 0, slV (fun j => B (x + j)) (w - x) (some (w - x)), .own 1 0 0 o (some m), chV C ln h, .int .i64 (.ofNat h), .int .i64 (.ofNat i), srV (C i) (ln i)
 none, .int .i64 (.ofNat (ln i)), .int .i64 (IntKind.i64.wrap (Int.ofNat k + 1))], lB42 L W h :: bk59 g m))
 else none else none else none else none else none else none else none else none else
 some ((.exit 4, x42 C ln h i m (0 : Int) o, lB42 L W h :: bk59 g m))) := by kernel_rfl
section
variable (C : Nat -> Nat -> Sti) (ln : Nat -> Nat) (h i : Nat) (B : Nat -> Int) (L : Nat -> Nat -> Int) (W : Nat -> Nat)
theorem s42c (hC : ∀ i j, (C i j).Ok) (hln : ln i <= 16) (hout : outN (C i) (ln i) <= 16) (k : Nat) (hk : k < ln i) (he : erK (C i) B k = 0) : Step P18 G18 (A18 42) 42 19 2 (v42c C ln h i (fun j => B (offN (C i) k + j)) (offN (C i) (ln i) - offN (C i) k) (outN (C i) k) (outN (C i) (ln i)) k) [lB42 L W h, bB42 (conF (C i) B k) (outN (C i) (ln i))]
 (v42c C ln h i (fun j => B (offN (C i) (k + 1) + j)) (offN (C i) (ln i) - offN (C i) (k + 1)) (outN (C i) (k + 1)) (outN (C i) (ln i)) (k + 1)) [lB42 L W h, bB42 (conF (C i) B (k + 1)) (outN (C i) (ln i))] := by
 obtain ⟨p, hp⟩ := is_val P18 G18 58
 obtain ⟨q, hq⟩ := is_val P18 G18 59
 have t1 := stiNeedsT (C i k)
 have hnb := (C i k).n_bd (hC i k)
 have hmb := (C i k).m_bd (hC i k)
 rw [show (C i k).n = (((C i k).nN : Nat) : Int) by unfold Sti.nN; omega] at t1
 have t2 := stiLoadsT (C i k) (hC i k) (fun j => B (offN (C i) k + j)) (C i k).nN (some (offN (C i) (ln i) - offN (C i) k)) (by unfold Sti.nN; omega)
 have he2 := he
 unfold erK at he2
 have hm1 : 1 <= (C i k).mN := by
  have hv := ldE_v he2
  have hv2 := ((C i k).v_iff (hC i k)).1 hv
  unfold Sti.mN Sti.m
  rw [hv, cond_true]
  by_cases h8 : (C i k).k = 8
  ·rw [dT h8, cond_true, wr64 (by omega) (by omega)]; omega
  ·rw [dF h8, cond_false]; decide
 unfold ldR at t2
 rw [if_pos he2] at t2
 have t2 := t2.frz
 change ToldOk P18 G18 59 _ (.tup [.new (slV (ldG (C i k) (fun j => B (offN (C i) k + j))) (C i k).mN (some (C i k).mN)), .int .i64 0]) at t2
 have l1 := (offN_le (C i) (show k + 1 <= ln i from hk)).1
 have l2 := (offN_le (C i) (show k + 1 <= ln i from hk)).2
 have e1 : offN (C i) (k + 1) = offN (C i) k + (C i k).nN := rfl
 have e2 : outN (C i) (k + 1) = outN (C i) k + (C i k).mN := rfl
 rw [e1] at l1
 rw [e2] at l2
 have ec : conF (C i) B (k + 1) = fun j => bif Nat.ble (outN (C i) k) j && Nat.blt j (outN (C i) k + (C i k).mN) then ldG (C i k) (fun t => B (offN (C i) k + t)) (j - outN (C i) k) else conF (C i) B k j := rfl
 rw [ec, e1, e2, show (fun j => B (offN (C i) k + (C i k).nN + j)) = fun j => B (offN (C i) k + ((C i k).nN + j)) by funext j; rw [Nat.add_assoc], show offN (C i) (ln i) - (offN (C i) k + (C i k).nN) = offN (C i) (ln i) - offN (C i) k - (C i k).nN by omega]
 clear ec e1 e2 he he2
 generalize ldG (C i k) (fun t => B (offN (C i) k + t)) = G at *
 generalize conF (C i) B k = g at *
 generalize (C i k).mN = y at *
 generalize (C i k).nN = x at *
 generalize outN (C i) (ln i) = m at *
 generalize outN (C i) k = o at *
 have hxw : x <= offN (C i) (ln i) - offN (C i) k := by omega
 generalize offN (C i) (ln i) - offN (C i) k = w at *
 obtain ⟨B2, hB2⟩ : ∃ B2 : Nat -> Int, B2 = fun j => B (offN (C i) k + j) := ⟨_, rfl⟩
 rw [show (fun j => B (offN (C i) k + (x + j))) = fun j => B2 (x + j) by rw [hB2], ← hB2]
 rw [← hB2] at t2
 clear hB2 l1
 refine Step.mk0 (A := A18) (K := K42c p q x (.tup [.new (slV G y (some y)), .int .i64 0])) (m := 0) (told_add (told_add none_ok (callF_told hp)) (callF_told hq)) rfl rfl loops0 (h1 := [lB42 L W h, ⟨0, 1, m, fun j => bif Nat.ble o j && Nat.blt j (o + y) then [.int .i64 (G (j - o))] else [.int .i64 (g j)], true, false, none⟩]) ?_ (.cons ⟨rfl, rfl, rfl, id, fun _ _ => rfl⟩ (.cons ⟨rfl, rfl, rfl, id, fun j hj => ?_⟩ .nil))
 ·have ek : IntKind.i64.wrap ((k : Int) + 1) = ((k + 1 : Nat) : Int) := by rw [wr64 (by omega) (by omega)]; omega
  rw [i42c, ofNatE k, ek]
  simp only [Nat.zero_add, Nat.sub_zero]
  refine BT ?_
  refine BT ?_
  refine bift (callF_yes hp t1) ?_
  refine BT ?_
  refine BT ?_
  refine bift (callF_yes hq t2) ?_
  refine BT ?_
  refine BT ?_
  refine BT ?_
  refine biff (by first | assumption | (simp (disch := omega) only [numsE, List.length_cons, List.length_nil, Nat.reduceAdd]; done) | (simp (disch := omega) only [numsE, List.length_cons, List.length_nil, Nat.reduceAdd]; omega) | (simp; done) | fail) ?_
  refine BT ?_
  refine BT ?_
  refine BT ?_
  rfl
 ·show [T.int .i64 (bif Nat.ble o j && Nat.blt j (o + y) then G (j - o) else g j)] = bif Nat.ble o j && Nat.blt j (o + y) then [.int .i64 (G (j - o))] else [.int .i64 (g j)]
  cases Nat.ble o j && Nat.blt j (o + y) <;> rfl
theorem e42c (hC : ∀ i j, (C i j).Ok) (hln : ln i <= 16) (hout : outN (C i) (ln i) <= 16) (k : Nat) (hk : k < ln i) (he : erK (C i) B k ≠ 0) : Last P18 G18 (A18 42) 42 19 2 (v42c C ln h i (fun j => B (offN (C i) k + j)) (offN (C i) (ln i) - offN (C i) k) (outN (C i) k) (outN (C i) (ln i)) k) [lB42 L W h, bB42 (conF (C i) B k) (outN (C i) (ln i))]
 (.exit 2) (x42 C ln h i (outN (C i) (ln i)) (erK (C i) B k) (outN (C i) k)) [lB42 L W h, bB42 (conF (C i) B k) (outN (C i) (ln i))] := by
 obtain ⟨p, hp⟩ := is_val P18 G18 58
 obtain ⟨q, hq⟩ := is_val P18 G18 59
 have t1 := stiNeedsT (C i k)
 have hnb := (C i k).n_bd (hC i k)
 rw [show (C i k).n = (((C i k).nN : Nat) : Int) by unfold Sti.nN; omega] at t1
 have t2 := stiLoadsT (C i k) (hC i k) (fun j => B (offN (C i) k + j)) (C i k).nN (some (offN (C i) (ln i) - offN (C i) k)) (by unfold Sti.nN; omega)
 unfold ldR at t2
 rw [if_neg (show ¬ ldE (C i k) (fun j => B (offN (C i) k + j)) (C i k).nN = 0 from he)] at t2
 change ToldOk P18 G18 59 _ (.tup [.nils, .int .i64 (erK (C i) B k)]) at t2
 generalize erK (C i) B k = e at *
 have l1 := (offN_le (C i) (show k + 1 <= ln i from hk)).1
 have e1 : offN (C i) (k + 1) = offN (C i) k + (C i k).nN := rfl
 rw [e1] at l1
 generalize conF (C i) B k = g at *
 generalize (C i k).nN = x at *
 generalize outN (C i) (ln i) = m at *
 generalize outN (C i) k = o at *
 have hxw : x <= offN (C i) (ln i) - offN (C i) k := by omega
 generalize offN (C i) (ln i) - offN (C i) k = w at *
 generalize (fun j => B (offN (C i) k + j)) = B2 at *
 clear l1 e1
 refine Last.mk0 (A := A18) (K := K42c p q x (.tup [.nils, .int .i64 e])) (m := 0) (told_add (told_add none_ok (callF_told hp)) (callF_told hq)) rfl rfl loops0 (h1 := [lB42 L W h, bB42 g m]) (by simp) ?_ (.refl _)
 rw [i42e]
 simp only [Nat.zero_add, Nat.sub_zero]
 refine BT ?_
 refine BT ?_
 refine bift (callF_yes hp t1) ?_
 refine BT ?_
 refine BT ?_
 refine bift (callF_yes hq t2) ?_
 refine bift (by simp [he]) ?_
 rfl
end
end Go.Ab

namespace Go.Ab
open Go.Proofs
def loadsR (C : Nat -> Nat -> Sti) (ln : Nat -> Nat) (h : Nat) : T := .tup [.fresh false 1 (1 + h) (fun e => [slV (LD C ln e) (WD C ln e) (some (WD C ln e))]) (1 + h) (some (1 + h)), .int .i64 0]
section
variable (C : Nat -> Nat -> Sti) (ln : Nat -> Nat) (h i : Nat) (B : Nat -> Int) (L : Nat -> Nat -> Int) (W : Nat -> Nat)
theorem l42c (hC : ∀ i j, (C i j).Ok) (hln : ln i <= 16) (hout : outN (C i) (ln i) <= 16) (hg : ∀ k, k < ln i -> erK (C i) B k = 0) : LoopOk P18 G18 (A18 42) 42 19 (litS (v42c C ln h i B (offN (C i) (ln i)) 0 (outN (C i) (ln i)) 0) [lB42 L W h, bB42 (fun _ => 0) (outN (C i) (ln i))] (.exit 4) (x42 C ln h i (outN (C i) (ln i)) 0 (outN (C i) (ln i))) [lB42 L W h, bB42 (conF (C i) B (ln i)) (outN (C i) (ln i))]) := by
 have key := loop_steps (P := P18) (Gl := G18) (f := 42) (r := 19) hm18 (by kernel_rfl) (an := A18 42) (fun k => v42c C ln h i (fun j => B (offN (C i) k + j)) (offN (C i) (ln i) - offN (C i) k) (outN (C i) k) (outN (C i) (ln i)) k) (fun k => [lB42 L W h, bB42 (conF (C i) B k) (outN (C i) (ln i))]) (n := ln i) (e1 := .exit 4) (vs1 := x42 C ln h i (outN (C i) (ln i)) 0 (outN (C i) (ln i))) (h1 := [lB42 L W h, bB42 (conF (C i) B (ln i)) (outN (C i) (ln i))]) (fun k hk => s42c C ln h i B L W hC hln hout k hk (hg k hk)) ?_
 ·rw [show (fun j => B (offN (C i) 0 + j)) = B by funext j; rw [show offN (C i) 0 = 0 from rfl, Nat.zero_add]] at key
  exact key
 ·refine Last.mk0 (A := A18) (K := K42c (ToldOk P18 G18 58) (ToldOk P18 G18 59) 0 (.tup [.nils, .int .i64 0])) (m := 0) (told_add (told_add none_ok (callF_told rfl)) (callF_told rfl)) rfl rfl loops0 (h1 := [lB42 L W h, bB42 (conF (C i) B (ln i)) (outN (C i) (ln i))]) (by simp) ?_ (.refl _)
  rw [i42e]
  refine biff (by first | assumption | (simp (disch := omega) only [numsE, List.length_cons, List.length_nil, Nat.reduceAdd]; done) | (simp (disch := omega) only [numsE, List.length_cons, List.length_nil, Nat.reduceAdd]; omega) | (simp; done) | fail) ?_
  rfl
theorem m42c (hC : ∀ i j, (C i j).Ok) (hln : ln i <= 16) (hout : outN (C i) (ln i) <= 16) (I : Nat) (hI : I < ln i) (hb : erK (C i) B I ≠ 0) (hg : ∀ k, k < I -> erK (C i) B k = 0) : LoopOk P18 G18 (A18 42) 42 19 (litS (v42c C ln h i B (offN (C i) (ln i)) 0 (outN (C i) (ln i)) 0) [lB42 L W h, bB42 (fun _ => 0) (outN (C i) (ln i))] (.exit 2) (x42 C ln h i (outN (C i) (ln i)) (erK (C i) B I) (outN (C i) I)) [lB42 L W h, bB42 (conF (C i) B I) (outN (C i) (ln i))]) := by
 have key := loop_steps (P := P18) (Gl := G18) (f := 42) (r := 19) hm18 (by kernel_rfl) (an := A18 42) (fun k => v42c C ln h i (fun j => B (offN (C i) k + j)) (offN (C i) (ln i) - offN (C i) k) (outN (C i) k) (outN (C i) (ln i)) k) (fun k => [lB42 L W h, bB42 (conF (C i) B k) (outN (C i) (ln i))]) (n := I) (e1 := .exit 2) (vs1 := x42 C ln h i (outN (C i) (ln i)) (erK (C i) B I) (outN (C i) I)) (h1 := [lB42 L W h, bB42 (conF (C i) B I) (outN (C i) (ln i))]) (fun k hk => s42c C ln h i B L W hC hln hout k (by omega) (hg k hk)) (e42c C ln h i B L W hC hln hout I hI hb)
 rw [show (fun j => B (offN (C i) 0 + j)) = B by funext j; rw [show offN (C i) 0 = 0 from rfl, Nat.zero_add]] at key
 exact key
end
theorem j42 (C : Nat -> Nat -> Sti) (ln : Nat -> Nat) (h i : Nat) (g : Nat -> Int) (m : Nat) (L : Nat -> Nat -> Int) (W : Nat -> Nat) (p : List T -> T -> Prop) : iterR P18 G18 A18 (K42b p m) 0 42 [(19, litS (v42c C ln h i (L i) (W i) 0 m 0) [lB42 L W h, bB42 (fun _ => 0) m] (.exit 4) (x42 C ln h i m 0 m) [lB42 L W h, bB42 g m])] 14 (v42b C ln h i) [lB42 L W h] =
(
 bif decide (Int.ofNat i < Int.ofNat h) then
 bif decide (0 <= Int.ofNat i) && decide (Int.ofNat i < Int.ofNat h) then
 bif decide (0 <= Int.ofNat i) && decide (Int.ofNat i < Int.ofNat (i + 1)) then
 bif ((0 : Nat) + i).blt (1 + h) then
 bif decF (p [srV (C i) (ln i)
 none] (.int .i64 (.ofNat m))) then
 bif decide (0 <= Int.ofNat m) && decide (Int.ofNat m * 8 <= 140737488355328) && decide (Int.ofNat m <= 9223372036854775807) then
 bif weakF (v42c C ln h i (L (0 + i)) (W (0 + i)) (0 : Nat) m (nat_lit 0)) (lB42 L W h :: bk59 (fun j => (0 : Int)) m) (v42c C ln h i (L i) (W i) (0 : Nat) m (nat_lit 0)) (lB42 L W h :: bk59 (fun j => (0 : Int)) m) then
 bif ((0 : Nat) + (i + (1 : Nat))).ble (1 + h) then
 bif ((i + (1 : Nat) + (1 : Nat)) * (25 : Nat)).ble 70368744177664 then
 bif (i + (1 : Nat) + (1 : Nat)).ble (1 + h) then
 bif ((0 : Nat) + (i + (1 : Nat)) + (1 : Nat)).ble (1 + h) then
 some ((.normal, [.own 0 0 0 (i + 1 + (1 : Nat)) (some (1 + h)), .int .i64 0, chV C ln h, .int .i64 (.ofNat h), .int .i64 (IntKind.i64.wrap (Int.ofNat i + 1))], [.mk 0 1 (1 + h) (fun j =>
 bif ((0 : Nat) + (i + (1 : Nat))).ble j && j.blt ((0 : Nat) + (i + 1) + (1 : Nat)) then [[T.own 1 0 0 m (some m)]].getD ((0 : Nat) + (j - ((0 : Nat) + (i + 1)))) []
 else [slV (L j) (W j) (some (W j))]) false false
 none, bB42 g m, .mk 0 1 1 (fun j => [[T.own 1 0 0 m (some m)]].getD j []) false true
 none]))
 else none else
 some ((.normal, [.own [lB42 L W h, bB42 g m, Blk.mk 0 1 1 (fun j => [[T.own 1 0 0 m (some m)]].getD j []) false true
 none].length (0 : Nat) (0 : Nat) (i + 1 + (1 : Nat))
 none, .int .i64 0, chV C ln h, .int .i64 (.ofNat h), .int .i64 (IntKind.i64.wrap (Int.ofNat i + 1))], [lB42 L W h, bB42 g m, .mk 0 1 1 (fun j => [[T.own 1 0 0 m (some m)]].getD j []) false true
 none, .mk 0 1 (i + 1 + (1 : Nat)) (fun j =>
 bif j.blt (i + 1) then [slV (L (0 + j)) (W (0 + j)) (some (W (0 + j)))]
 else [[T.own 1 0 0 m (some m)]].getD ((0 : Nat) + (j - (i + 1))) []) false false
 none]))
 else none else none else none else none else none else none else none else none else
 some ((.exit 2, [.own 0 0 0 (i + 1) (some (1 + h)), .int .i64 0], h14 (1 + h) fun e => slV (L e) (W e) (some (W e))))) := by kernel_rfl
theorem j42e (C : Nat -> Nat -> Sti) (ln : Nat -> Nat) (h i o : Nat) (e : Int) (g : Nat -> Int) (m : Nat) (L : Nat -> Nat -> Int) (W : Nat -> Nat) (p : List T -> T -> Prop) : iterR P18 G18 A18 (K42b p m) 0 42 [(19, litS (v42c C ln h i (L i) (W i) 0 m 0) [lB42 L W h, bB42 (fun _ => 0) m] (.exit 2) (x42 C ln h i m e o) [lB42 L W h, bB42 g m])] 14 (v42b C ln h i) [lB42 L W h] =
(
 bif decide (Int.ofNat i < Int.ofNat h) then
 bif decide (0 <= Int.ofNat i) && decide (Int.ofNat i < Int.ofNat h) then
 bif decide (0 <= Int.ofNat i) && decide (Int.ofNat i < Int.ofNat (i + 1)) then
 bif ((0 : Nat) + i).blt (1 + h) then
 bif decF (p [srV (C i) (ln i)
 none] (.int .i64 (.ofNat m))) then
 bif decide (0 <= Int.ofNat m) && decide (Int.ofNat m * 8 <= 140737488355328) && decide (Int.ofNat m <= 9223372036854775807) then
 bif weakF (v42c C ln h i (L (0 + i)) (W (0 + i)) (0 : Nat) m (nat_lit 0)) (lB42 L W h :: bk59 (fun j => (0 : Int)) m) (v42c C ln h i (L i) (W i) (0 : Nat) m (nat_lit 0)) (lB42 L W h :: bk59 (fun j => (0 : Int)) m) then
 some ((.exit 2, [.own 0 0 0 (i + 1) (some (1 + h)), .int .i64 e], lB42 L W h :: bk59 g m))
 else none else none else none else none else none else none else
 some ((.exit 2, [.own 0 0 0 (i + 1) (some (1 + h)), .int .i64 0], h14 (1 + h) fun e => slV (L e) (W e) (some (W e))))) := by kernel_rfl
theorem l42z (C : Nat -> Nat -> Sti) (ln : Nat -> Nat) (h : Nat) (L : Nat -> Nat -> Int) (W : Nat -> Nat) : iterR P18 G18 A18 noneO 0 42 [] 14 (v42b C ln h h) [lB42 L W h] = some (.exit 2, [.own 0 0 0 (h + 1) (some (1 + h)), .int .i64 0], [lB42 L W h]) := by
 rw [(show iterR P18 G18 A18 noneO 0 42 [] 14 (v42b C ln h h) [lB42 L W h] =
(
 bif decide (Int.ofNat h < Int.ofNat h) then
 bif decide (0 <= Int.ofNat h) && decide (Int.ofNat h < Int.ofNat h) then
 bif decide (0 <= Int.ofNat h) && decide (Int.ofNat h < Int.ofNat (h + 1)) then
 bif ((0 : Nat) + h).blt (1 + h) then none else none else none else none else
 some ((.exit 2, [.own 0 0 0 (h + 1) (some (1 + h)), .int .i64 0], h14 (1 + h) fun e => slV (L e) (W e) (some (W e))))) from by kernel_rfl)]
 refine biff (by first | assumption | (simp (disch := omega) only [numsE, List.length_cons, List.length_nil, Nat.reduceAdd]; done) | (simp (disch := omega) only [numsE, List.length_cons, List.length_nil, Nat.reduceAdd]; omega) | (simp; done) | fail) ?_
 rfl
theorem loadsT_bad (C : Nat -> Nat -> Sti) (ln : Nat -> Nat) (h : Nat) (hh : h <= 1000) (hln : ∀ i, i < h -> ln i <= 1000) (hC : ∀ i j, (C i j).Ok) (hb : chE C ln h ≠ 0) : ToldOk P18 G18 42 [.agg [chV C ln h]] (.tup [.nils, .int .i64 (chE C ln h)]) := by
 obtain ⟨p, hp⟩ := is_val P18 G18 55
 obtain ⟨q, hq⟩ := is_val P18 G18 56
 have t1 := checkRowsT C ln h hh hln hC
 generalize chE C ln h = e at *
 refine stepL_told hm18 hn18 (K := K42 p q e 0) (told_add (told_add none_ok (callF_told hp)) (callF_told hq)) (A := A18) (m := 0) (by kernel_rfl) loops0 ?_
 rw [(show stepL P18 G18 A18 (K42 p q e 0) 0 42 [] [.agg [chV C ln h]] =
(
 bif decF (p [.view 1 h (fun i => [srV (C i) (ln i)
 none])
 none] (.int .i64 e)) then
 bif !decide (e = 0) then
 some (.tup [.nils, .int .i64 e])
 else
 bif decide (0 < Int.ofNat h) then
 bif decF (q [.view 5 (ln (0 : Nat)) (fun j => [.int .u8 (C (0 : Nat) j).k, .int .u8 (C (0 : Nat) j).y, .int .i64 (C (0 : Nat) j).a, .int .i64 (C (0 : Nat) j).b, .bool (C (0 : Nat) j).f])
 none] (.int .i64 0)) then none else none else none else
 none) from by kernel_rfl)]
 refine bift (callF_yes hp t1) ?_
 exact bift (by simp [hb]) rfl
end Go.Ab

