/- A part of the proof: nothing is assumed. -/
import Derived.Test.YteoamlekamflbaaP9
set_option linter.all false
namespace Go.Ab
open Go.Proofs
def v83 (n a : Nat) (i j : Int) : List T := [.own 0 0 0 n none, .int .i64 a, .int .i64 i, .int .i64 j]
structure PInv (L : Int → Int → Prop) (x y : Nat → Int) (a b i j : Nat) (P : Int) : Prop where
  piv : y a = P
  pr : Pr x y a b
  ai : a < i
  ij : i ≤ j + 1
  jb : j < b
  left : ∀ e, a < e → e < i → L (y e) (y a)
  right : ∀ e, j < e → e < b → ¬ L (y e) (y a)
theorem swap_fun (y : Nat → Int) (i j e : Nat) : (fun e => if e = j then y i else if e = i then y j else y e) e = bif e == 0 + j then y (0 + i) else bif e == 0 + i then y (0 + j) else y e := by
  rw [Nat.zero_add, Nat.zero_add]
  show (if e = j then y i else if e = i then y j else y e) = _
  by_cases q3 : e = j
  · rw [if_pos q3, show (e == j) = true by simpa using q3, cond_true]
  · rw [if_neg q3, show (e == j) = false by simpa using q3, cond_false]
    by_cases q4 : e = i
    · rw [if_pos q4, show (e == i) = true by simpa using q4, cond_true]
    · rw [if_neg q4, show (e == i) = false by simpa using q4, cond_false]
theorem PInv.swap {L : Int → Int → Prop} {x y : Nat → Int} {a b i j : Nat} {P : Int} (h : PInv L x y a b i j P) (hij : i ≤ j) (h1 : ¬ L (y i) (y a)) (h2 : L (y j) (y a)) : PInv L x (fun e => if e = j then y i else if e = i then y j else y e) a b (i + 1) (j - 1) P := by
  have hne : i ≠ j := fun e => h1 (by rw [e]; exact h2)
  have ha := h.ai
  have hj := h.jb
  have e0 : (if a = j then y i else if a = i then y j else y a) = y a := by
    rw [if_neg (by omega), if_neg (by omega)]
  refine ⟨e0.trans h.piv, h.pr.trans (Pr.swap y (i := j) (j := i) ⟨by omega, hj⟩ ⟨by omega, by omega⟩), by omega, by omega, by omega, fun e g1 g2 => ?_, fun e g1 g2 => ?_⟩
  · show L (if e = j then y i else if e = i then y j else y e) (if a = j then y i else if a = i then y j else y a)
    rw [e0]
    rw [if_neg (by omega)]
    by_cases q : e = i
    · rw [if_pos q]; exact h2
    · rw [if_neg q]; exact h.left e g1 (by omega)
  · show ¬ L (if e = j then y i else if e = i then y j else y e) (if a = j then y i else if a = i then y j else y a)
    rw [e0]
    by_cases q : e = j
    · rw [if_pos q]; exact h1
    · rw [if_neg q, if_neg (by omega)]; exact h.right e (by omega) g2
theorem PInv.up {L : Int → Int → Prop} {x y : Nat → Int} {a b i j : Nat} {P : Int} (h : PInv L x y a b i j P) (hij : i ≤ j) (h1 : L (y i) (y a)) : PInv L x y a b (i + 1) j P :=
  ⟨h.piv, h.pr, by have := h.ai; omega, by omega, h.jb, fun e g1 g2 => by
    by_cases q : e = i
    · rw [q]; exact h1
    · exact h.left e g1 (by omega), h.right⟩
theorem PInv.down {L : Int → Int → Prop} {x y : Nat → Int} {a b i j : Nat} {P : Int} (h : PInv L x y a b i j P) (hij : i ≤ j) (h1 : ¬ L (y j) (y a)) : PInv L x y a b i (j - 1) P :=
  ⟨h.piv, h.pr, h.ai, by have := h.ai; omega, by have := h.jb; omega, h.left, fun e g1 g2 => by
    by_cases q : e = j
    · rw [q]; exact h1
    · exact h.right e (by omega) g2⟩
theorem s84_3 (n a b : Nat) (x y : Nat → Int) (i0 j0 : Nat) (P : Int) (hn : n ≤ 1000) (hb : b ≤ n) (hI0 : PInv (fun u v : Int => u < v) x y a b i0 j0 P) :
    ∃ i j, PInv (fun u v : Int => u < v) x y a b i j P ∧ (i0 ≤ i ∧ j = j0) ∧ (i ≤ j → ¬ (fun u v : Int => u < v) (y i) (y a)) ∧ LoopOk P18 G18 (A18 84) 84 3 (litS (v83 n a i0 j0) [ub 0 n y] (.exit 0) (v83 n a i j) [ub 0 n y]) := by
  refine Exists.elim (loop_exists (P := P18) (Gl := G18) (f := 84) (r := 3) (an := A18 84) (k := 1) hm18 (by kernel_rfl)
    (fun m vs h => ∃ i j : Nat, m = j + 1 - i ∧ vs = v83 n a i j ∧ h = [ub 0 n y] ∧ PInv (fun u v : Int => u < v) x y a b i j P ∧ i0 ≤ i ∧ j = j0)
    (fun e vs1 h1 => ∃ i j : Nat, e = .exit 0 ∧ vs1 = v83 n a i j ∧ h1 = [ub 0 n y] ∧ PInv (fun u v : Int => u < v) x y a b i j P ∧ i0 ≤ i ∧ j = j0 ∧ (i ≤ j → ¬ (fun u v : Int => u < v) (y i) (y a)))
    (fun m vs h ⟨i, j, hm, hv, hh, hI, hi0, hj0⟩ => ?_) (n := j0 + 1 - i0) (vs := v83 n a i0 j0) (h := [ub 0 n y]) rfl ⟨i0, j0, rfl, rfl, rfl, hI0, Nat.le_refl _, rfl⟩) ?_
  · subst hm hv hh
    have h1 := hI.ai
    have h2 := hI.jb
    have h3 := hI.ij
    have ei : IntKind.i64.wrap ((i : Int) + 1) = ((i + 1 : Nat) : Int) := by rw [wr64 (by omega) (by omega)]; omega
    by_cases q : i ≤ j
    · have ej : IntKind.i64.wrap ((j : Int) - 1) = ((j - 1 : Nat) : Int) := by rw [wr64 (by omega) (by omega)]; omega
      by_cases q2 : (fun u v : Int => u < v) (y i) (y a)
      · have q3 : y i < y a := q2
        refine .inl ⟨j + 1 - (i + 1), _, _, by omega, ?_, ⟨i + 1, j, rfl, rfl, rfl, hI.up q q2, by omega, hj0⟩⟩
        refine Step.mk0 (A := A18) (m := 0) ok82 rfl rfl loops0 (h1 := [ub 0 n y]) ?_ (.refl _)
        rw [(show iterR P18 G18 A18 K82 0 84 [] 3 (v83 n a i j) [ub 0 n y] =
(
 bif decide (Int.ofNat i ≤ Int.ofNat j) then
 bif decide ((0 : Int) ≤ Int.ofNat i) && decide (Int.ofNat i < Int.ofNat n) then
 bif ((0 : Nat) + i).blt n then
 bif decide ((0 : Int) ≤ Int.ofNat a) && decide (Int.ofNat a < Int.ofNat n) then
 bif ((0 : Nat) + a).blt n then
 bif decide (y ((0 : Nat) + i) < y ((0 : Nat) + a)) then
 some ((Ex.normal, [T.own 0 0 0 n
 none, T.int .i64 (Int.ofNat a), T.int .i64 (IntKind.i64.wrap (Int.ofNat i + (1 : Int))), T.int .i64 (Int.ofNat j)], [Blk.mk 0 1 n (fun j => [T.int .u8 (y j)]) true false
 none]))
 else
 some ((Ex.exit 0, [T.own 0 0 0 n
 none, T.int .i64 (Int.ofNat a), T.int .i64 (Int.ofNat i), T.int .i64 (Int.ofNat j)], [Blk.mk 0 1 n (fun j => [T.int .u8 (y j)]) true false
 none]))
 else none else none else none else none else
 some ((Ex.exit 0, [T.own 0 0 0 n
 none, T.int .i64 (Int.ofNat a), T.int .i64 (Int.ofNat i), T.int .i64 (Int.ofNat j)], [Blk.mk 0 1 n (fun j => [T.int .u8 (y j)]) true false
 none]))) from by kernel_rfl)]
        rw [ofNatE i, ofNatE j, ei]
        clear hI
        (repeat (first | (refine bift (by first | assumption | omega | (simp (disch := omega) only [numsE, List.length_cons, List.length_nil, Nat.reduceAdd]; done) | (simp (disch := omega) only [numsE, List.length_cons, List.length_nil, Nat.reduceAdd]; omega)) ?_) | (refine biff (by first | assumption | (simp (disch := omega) only [numsE, List.length_cons, List.length_nil, Nat.reduceAdd]; done) | (simp (disch := omega) only [numsE, List.length_cons, List.length_nil, Nat.reduceAdd]; omega)) ?_)))
        rfl
      · have q3 : ¬ y i < y a := q2
        refine .inr ⟨_, _, _, ?_, i, j, rfl, rfl, rfl, hI, hi0, hj0, fun _ => q2⟩
        refine Last.mk0 (A := A18) (m := 0) ok82 rfl rfl loops0 (h1 := [ub 0 n y]) (by simp) ?_ (.refl _)
        rw [(show iterR P18 G18 A18 K82 0 84 [] 3 (v83 n a i j) [ub 0 n y] =
(
 bif decide (Int.ofNat i ≤ Int.ofNat j) then
 bif decide ((0 : Int) ≤ Int.ofNat i) && decide (Int.ofNat i < Int.ofNat n) then
 bif ((0 : Nat) + i).blt n then
 bif decide ((0 : Int) ≤ Int.ofNat a) && decide (Int.ofNat a < Int.ofNat n) then
 bif ((0 : Nat) + a).blt n then
 bif decide (y ((0 : Nat) + i) < y ((0 : Nat) + a)) then
 some ((Ex.normal, [T.own 0 0 0 n
 none, T.int .i64 (Int.ofNat a), T.int .i64 (IntKind.i64.wrap (Int.ofNat i + (1 : Int))), T.int .i64 (Int.ofNat j)], [Blk.mk 0 1 n (fun j => [T.int .u8 (y j)]) true false
 none]))
 else
 some ((Ex.exit 0, [T.own 0 0 0 n
 none, T.int .i64 (Int.ofNat a), T.int .i64 (Int.ofNat i), T.int .i64 (Int.ofNat j)], [Blk.mk 0 1 n (fun j => [T.int .u8 (y j)]) true false
 none]))
 else none else none else none else none else
 some ((Ex.exit 0, [T.own 0 0 0 n
 none, T.int .i64 (Int.ofNat a), T.int .i64 (Int.ofNat i), T.int .i64 (Int.ofNat j)], [Blk.mk 0 1 n (fun j => [T.int .u8 (y j)]) true false
 none]))) from by kernel_rfl)]
        rw [ofNatE i, ofNatE j]
        clear hI
        (repeat (first | (refine bift (by first | assumption | omega | (simp (disch := omega) only [numsE, List.length_cons, List.length_nil, Nat.reduceAdd]; done) | (simp (disch := omega) only [numsE, List.length_cons, List.length_nil, Nat.reduceAdd]; omega)) ?_) | (refine biff (by first | assumption | (simp (disch := omega) only [numsE, List.length_cons, List.length_nil, Nat.reduceAdd]; done) | (simp (disch := omega) only [numsE, List.length_cons, List.length_nil, Nat.reduceAdd]; omega)) ?_)))
        rfl
    · refine .inr ⟨_, _, _, ?_, i, j, rfl, rfl, rfl, hI, hi0, hj0, fun h => absurd h q⟩
      refine Last.mk0 (A := A18) (m := 0) ok82 rfl rfl loops0 (h1 := [ub 0 n y]) (by simp) ?_ (.refl _)
      rw [(show iterR P18 G18 A18 K82 0 84 [] 3 (v83 n a i j) [ub 0 n y] =
(
 bif decide (Int.ofNat i ≤ Int.ofNat j) then
 bif decide ((0 : Int) ≤ Int.ofNat i) && decide (Int.ofNat i < Int.ofNat n) then
 bif ((0 : Nat) + i).blt n then
 bif decide ((0 : Int) ≤ Int.ofNat a) && decide (Int.ofNat a < Int.ofNat n) then
 bif ((0 : Nat) + a).blt n then
 bif decide (y ((0 : Nat) + i) < y ((0 : Nat) + a)) then
 some ((Ex.normal, [T.own 0 0 0 n
 none, T.int .i64 (Int.ofNat a), T.int .i64 (IntKind.i64.wrap (Int.ofNat i + (1 : Int))), T.int .i64 (Int.ofNat j)], [Blk.mk 0 1 n (fun j => [T.int .u8 (y j)]) true false
 none]))
 else
 some ((Ex.exit 0, [T.own 0 0 0 n
 none, T.int .i64 (Int.ofNat a), T.int .i64 (Int.ofNat i), T.int .i64 (Int.ofNat j)], [Blk.mk 0 1 n (fun j => [T.int .u8 (y j)]) true false
 none]))
 else none else none else none else none else
 some ((Ex.exit 0, [T.own 0 0 0 n
 none, T.int .i64 (Int.ofNat a), T.int .i64 (Int.ofNat i), T.int .i64 (Int.ofNat j)], [Blk.mk 0 1 n (fun j => [T.int .u8 (y j)]) true false
 none]))) from by kernel_rfl)]
      rw [ofNatE i, ofNatE j]
      clear hI
      (repeat (first | (refine bift (by first | assumption | omega | (simp (disch := omega) only [numsE, List.length_cons, List.length_nil, Nat.reduceAdd]; done) | (simp (disch := omega) only [numsE, List.length_cons, List.length_nil, Nat.reduceAdd]; omega)) ?_) | (refine biff (by first | assumption | (simp (disch := omega) only [numsE, List.length_cons, List.length_nil, Nat.reduceAdd]; done) | (simp (disch := omega) only [numsE, List.length_cons, List.length_nil, Nat.reduceAdd]; omega)) ?_)))
      rfl
  · rintro e ⟨vs1, h1, ⟨i, j, rfl, rfl, rfl, g1, g2, g3, g4⟩, hl⟩
    exact ⟨i, j, g1, ⟨g2, g3⟩, g4, hl⟩
theorem s84_5 (n a b : Nat) (x y : Nat → Int) (i0 j0 : Nat) (P : Int) (hn : n ≤ 1000) (hb : b ≤ n) (hI0 : PInv (fun u v : Int => u < v) x y a b i0 j0 P) :
    ∃ i j, PInv (fun u v : Int => u < v) x y a b i j P ∧ (i = i0 ∧ j ≤ j0) ∧ (i ≤ j → (fun u v : Int => u < v) (y j) (y a)) ∧ LoopOk P18 G18 (A18 84) 84 5 (litS (v83 n a i0 j0) [ub 0 n y] (.exit 2) (v83 n a i j) [ub 0 n y]) := by
  refine Exists.elim (loop_exists (P := P18) (Gl := G18) (f := 84) (r := 5) (an := A18 84) (k := 1) hm18 (by kernel_rfl)
    (fun m vs h => ∃ i j : Nat, m = j + 1 - i ∧ vs = v83 n a i j ∧ h = [ub 0 n y] ∧ PInv (fun u v : Int => u < v) x y a b i j P ∧ i = i0 ∧ j ≤ j0)
    (fun e vs1 h1 => ∃ i j : Nat, e = .exit 2 ∧ vs1 = v83 n a i j ∧ h1 = [ub 0 n y] ∧ PInv (fun u v : Int => u < v) x y a b i j P ∧ i = i0 ∧ j ≤ j0 ∧ (i ≤ j → (fun u v : Int => u < v) (y j) (y a)))
    (fun m vs h ⟨i, j, hm, hv, hh, hI, hi0, hj0⟩ => ?_) (n := j0 + 1 - i0) (vs := v83 n a i0 j0) (h := [ub 0 n y]) rfl ⟨i0, j0, rfl, rfl, rfl, hI0, rfl, Nat.le_refl _⟩) ?_
  · subst hm hv hh
    have h1 := hI.ai
    have h2 := hI.jb
    have h3 := hI.ij
    have ei : IntKind.i64.wrap ((i : Int) + 1) = ((i + 1 : Nat) : Int) := by rw [wr64 (by omega) (by omega)]; omega
    by_cases q : i ≤ j
    · have ej : IntKind.i64.wrap ((j : Int) - 1) = ((j - 1 : Nat) : Int) := by rw [wr64 (by omega) (by omega)]; omega
      by_cases q2 : ¬ (fun u v : Int => u < v) (y j) (y a)
      · have q3 : ¬ y j < y a := q2
        refine .inl ⟨j - 1 + 1 - i, _, _, by omega, ?_, ⟨i, j - 1, rfl, rfl, rfl, hI.down q q2, hi0, by omega⟩⟩
        refine Step.mk0 (A := A18) (m := 0) ok82 rfl rfl loops0 (h1 := [ub 0 n y]) ?_ (.refl _)
        rw [(show iterR P18 G18 A18 K82 0 84 [] 5 (v83 n a i j) [ub 0 n y] =
(
 bif decide (Int.ofNat i ≤ Int.ofNat j) then
 bif decide ((0 : Int) ≤ Int.ofNat j) && decide (Int.ofNat j < Int.ofNat n) then
 bif ((0 : Nat) + j).blt n then
 bif decide ((0 : Int) ≤ Int.ofNat a) && decide (Int.ofNat a < Int.ofNat n) then
 bif ((0 : Nat) + a).blt n then
 bif decide (y ((0 : Nat) + j) < y ((0 : Nat) + a)) then
 some ((Ex.exit 2, [T.own 0 0 0 n
 none, T.int .i64 (Int.ofNat a), T.int .i64 (Int.ofNat i), T.int .i64 (Int.ofNat j)], [Blk.mk 0 1 n (fun j => [T.int .u8 (y j)]) true false
 none]))
 else
 some ((Ex.normal, [T.own 0 0 0 n
 none, T.int .i64 (Int.ofNat a), T.int .i64 (Int.ofNat i), T.int .i64 (IntKind.i64.wrap (Int.ofNat j - (1 : Int)))], [Blk.mk 0 1 n (fun j => [T.int .u8 (y j)]) true false
 none]))
 else none else none else none else none else
 some ((Ex.exit 2, [T.own 0 0 0 n
 none, T.int .i64 (Int.ofNat a), T.int .i64 (Int.ofNat i), T.int .i64 (Int.ofNat j)], [Blk.mk 0 1 n (fun j => [T.int .u8 (y j)]) true false
 none]))) from by kernel_rfl)]
        rw [ofNatE i, ofNatE j, ej]
        clear hI
        (repeat (first | (refine bift (by first | assumption | omega | (simp (disch := omega) only [numsE, List.length_cons, List.length_nil, Nat.reduceAdd]; done) | (simp (disch := omega) only [numsE, List.length_cons, List.length_nil, Nat.reduceAdd]; omega)) ?_) | (refine biff (by first | assumption | (simp (disch := omega) only [numsE, List.length_cons, List.length_nil, Nat.reduceAdd]; done) | (simp (disch := omega) only [numsE, List.length_cons, List.length_nil, Nat.reduceAdd]; omega)) ?_)))
        rfl
      · have q3 : y j < y a := Decidable.not_not.1 q2
        refine .inr ⟨_, _, _, ?_, i, j, rfl, rfl, rfl, hI, hi0, hj0, fun _ => Decidable.not_not.1 q2⟩
        refine Last.mk0 (A := A18) (m := 0) ok82 rfl rfl loops0 (h1 := [ub 0 n y]) (by simp) ?_ (.refl _)
        rw [(show iterR P18 G18 A18 K82 0 84 [] 5 (v83 n a i j) [ub 0 n y] =
(
 bif decide (Int.ofNat i ≤ Int.ofNat j) then
 bif decide ((0 : Int) ≤ Int.ofNat j) && decide (Int.ofNat j < Int.ofNat n) then
 bif ((0 : Nat) + j).blt n then
 bif decide ((0 : Int) ≤ Int.ofNat a) && decide (Int.ofNat a < Int.ofNat n) then
 bif ((0 : Nat) + a).blt n then
 bif decide (y ((0 : Nat) + j) < y ((0 : Nat) + a)) then
 some ((Ex.exit 2, [T.own 0 0 0 n
 none, T.int .i64 (Int.ofNat a), T.int .i64 (Int.ofNat i), T.int .i64 (Int.ofNat j)], [Blk.mk 0 1 n (fun j => [T.int .u8 (y j)]) true false
 none]))
 else
 some ((Ex.normal, [T.own 0 0 0 n
 none, T.int .i64 (Int.ofNat a), T.int .i64 (Int.ofNat i), T.int .i64 (IntKind.i64.wrap (Int.ofNat j - (1 : Int)))], [Blk.mk 0 1 n (fun j => [T.int .u8 (y j)]) true false
 none]))
 else none else none else none else none else
 some ((Ex.exit 2, [T.own 0 0 0 n
 none, T.int .i64 (Int.ofNat a), T.int .i64 (Int.ofNat i), T.int .i64 (Int.ofNat j)], [Blk.mk 0 1 n (fun j => [T.int .u8 (y j)]) true false
 none]))) from by kernel_rfl)]
        rw [ofNatE i, ofNatE j]
        clear hI
        (repeat (first | (refine bift (by first | assumption | omega | (simp (disch := omega) only [numsE, List.length_cons, List.length_nil, Nat.reduceAdd]; done) | (simp (disch := omega) only [numsE, List.length_cons, List.length_nil, Nat.reduceAdd]; omega)) ?_) | (refine biff (by first | assumption | (simp (disch := omega) only [numsE, List.length_cons, List.length_nil, Nat.reduceAdd]; done) | (simp (disch := omega) only [numsE, List.length_cons, List.length_nil, Nat.reduceAdd]; omega)) ?_)))
        rfl
    · refine .inr ⟨_, _, _, ?_, i, j, rfl, rfl, rfl, hI, hi0, hj0, fun h => absurd h q⟩
      refine Last.mk0 (A := A18) (m := 0) ok82 rfl rfl loops0 (h1 := [ub 0 n y]) (by simp) ?_ (.refl _)
      rw [(show iterR P18 G18 A18 K82 0 84 [] 5 (v83 n a i j) [ub 0 n y] =
(
 bif decide (Int.ofNat i ≤ Int.ofNat j) then
 bif decide ((0 : Int) ≤ Int.ofNat j) && decide (Int.ofNat j < Int.ofNat n) then
 bif ((0 : Nat) + j).blt n then
 bif decide ((0 : Int) ≤ Int.ofNat a) && decide (Int.ofNat a < Int.ofNat n) then
 bif ((0 : Nat) + a).blt n then
 bif decide (y ((0 : Nat) + j) < y ((0 : Nat) + a)) then
 some ((Ex.exit 2, [T.own 0 0 0 n
 none, T.int .i64 (Int.ofNat a), T.int .i64 (Int.ofNat i), T.int .i64 (Int.ofNat j)], [Blk.mk 0 1 n (fun j => [T.int .u8 (y j)]) true false
 none]))
 else
 some ((Ex.normal, [T.own 0 0 0 n
 none, T.int .i64 (Int.ofNat a), T.int .i64 (Int.ofNat i), T.int .i64 (IntKind.i64.wrap (Int.ofNat j - (1 : Int)))], [Blk.mk 0 1 n (fun j => [T.int .u8 (y j)]) true false
 none]))
 else none else none else none else none else
 some ((Ex.exit 2, [T.own 0 0 0 n
 none, T.int .i64 (Int.ofNat a), T.int .i64 (Int.ofNat i), T.int .i64 (Int.ofNat j)], [Blk.mk 0 1 n (fun j => [T.int .u8 (y j)]) true false
 none]))) from by kernel_rfl)]
      rw [ofNatE i, ofNatE j]
      clear hI
      (repeat (first | (refine bift (by first | assumption | omega | (simp (disch := omega) only [numsE, List.length_cons, List.length_nil, Nat.reduceAdd]; done) | (simp (disch := omega) only [numsE, List.length_cons, List.length_nil, Nat.reduceAdd]; omega)) ?_) | (refine biff (by first | assumption | (simp (disch := omega) only [numsE, List.length_cons, List.length_nil, Nat.reduceAdd]; done) | (simp (disch := omega) only [numsE, List.length_cons, List.length_nil, Nat.reduceAdd]; omega)) ?_)))
      rfl
  · rintro e ⟨vs1, h1, ⟨i, j, rfl, rfl, rfl, g1, g2, g3, g4⟩, hl⟩
    exact ⟨i, j, g1, ⟨g2, g3⟩, g4, hl⟩
theorem s84_13 (n a b : Nat) (x y : Nat → Int) (i0 j0 : Nat) (P : Int) (hn : n ≤ 1000) (hb : b ≤ n) (hI0 : PInv (fun u v : Int => u < v) x y a b i0 j0 P) :
    ∃ i j, PInv (fun u v : Int => u < v) x y a b i j P ∧ (i0 ≤ i ∧ j = j0) ∧ (i ≤ j → ¬ (fun u v : Int => u < v) (y i) (y a)) ∧ LoopOk P18 G18 (A18 84) 84 13 (litS (v83 n a i0 j0) [ub 0 n y] (.exit 6) (v83 n a i j) [ub 0 n y]) := by
  refine Exists.elim (loop_exists (P := P18) (Gl := G18) (f := 84) (r := 13) (an := A18 84) (k := 1) hm18 (by kernel_rfl)
    (fun m vs h => ∃ i j : Nat, m = j + 1 - i ∧ vs = v83 n a i j ∧ h = [ub 0 n y] ∧ PInv (fun u v : Int => u < v) x y a b i j P ∧ i0 ≤ i ∧ j = j0)
    (fun e vs1 h1 => ∃ i j : Nat, e = .exit 6 ∧ vs1 = v83 n a i j ∧ h1 = [ub 0 n y] ∧ PInv (fun u v : Int => u < v) x y a b i j P ∧ i0 ≤ i ∧ j = j0 ∧ (i ≤ j → ¬ (fun u v : Int => u < v) (y i) (y a)))
    (fun m vs h ⟨i, j, hm, hv, hh, hI, hi0, hj0⟩ => ?_) (n := j0 + 1 - i0) (vs := v83 n a i0 j0) (h := [ub 0 n y]) rfl ⟨i0, j0, rfl, rfl, rfl, hI0, Nat.le_refl _, rfl⟩) ?_
  · subst hm hv hh
    have h1 := hI.ai
    have h2 := hI.jb
    have h3 := hI.ij
    have ei : IntKind.i64.wrap ((i : Int) + 1) = ((i + 1 : Nat) : Int) := by rw [wr64 (by omega) (by omega)]; omega
    by_cases q : i ≤ j
    · have ej : IntKind.i64.wrap ((j : Int) - 1) = ((j - 1 : Nat) : Int) := by rw [wr64 (by omega) (by omega)]; omega
      by_cases q2 : (fun u v : Int => u < v) (y i) (y a)
      · have q3 : y i < y a := q2
        refine .inl ⟨j + 1 - (i + 1), _, _, by omega, ?_, ⟨i + 1, j, rfl, rfl, rfl, hI.up q q2, by omega, hj0⟩⟩
        refine Step.mk0 (A := A18) (m := 0) ok82 rfl rfl loops0 (h1 := [ub 0 n y]) ?_ (.refl _)
        rw [(show iterR P18 G18 A18 K82 0 84 [] 13 (v83 n a i j) [ub 0 n y] =
(
 bif decide (Int.ofNat i ≤ Int.ofNat j) then
 bif decide ((0 : Int) ≤ Int.ofNat i) && decide (Int.ofNat i < Int.ofNat n) then
 bif ((0 : Nat) + i).blt n then
 bif decide ((0 : Int) ≤ Int.ofNat a) && decide (Int.ofNat a < Int.ofNat n) then
 bif ((0 : Nat) + a).blt n then
 bif decide (y ((0 : Nat) + i) < y ((0 : Nat) + a)) then
 some ((Ex.normal, [T.own 0 0 0 n
 none, T.int .i64 (Int.ofNat a), T.int .i64 (IntKind.i64.wrap (Int.ofNat i + (1 : Int))), T.int .i64 (Int.ofNat j)], [Blk.mk 0 1 n (fun j => [T.int .u8 (y j)]) true false
 none]))
 else
 some ((Ex.exit 6, [T.own 0 0 0 n
 none, T.int .i64 (Int.ofNat a), T.int .i64 (Int.ofNat i), T.int .i64 (Int.ofNat j)], [Blk.mk 0 1 n (fun j => [T.int .u8 (y j)]) true false
 none]))
 else none else none else none else none else
 some ((Ex.exit 6, [T.own 0 0 0 n
 none, T.int .i64 (Int.ofNat a), T.int .i64 (Int.ofNat i), T.int .i64 (Int.ofNat j)], [Blk.mk 0 1 n (fun j => [T.int .u8 (y j)]) true false
 none]))) from by kernel_rfl)]
        rw [ofNatE i, ofNatE j, ei]
        clear hI
        (repeat (first | (refine bift (by first | assumption | omega | (simp (disch := omega) only [numsE, List.length_cons, List.length_nil, Nat.reduceAdd]; done) | (simp (disch := omega) only [numsE, List.length_cons, List.length_nil, Nat.reduceAdd]; omega)) ?_) | (refine biff (by first | assumption | (simp (disch := omega) only [numsE, List.length_cons, List.length_nil, Nat.reduceAdd]; done) | (simp (disch := omega) only [numsE, List.length_cons, List.length_nil, Nat.reduceAdd]; omega)) ?_)))
        rfl
      · have q3 : ¬ y i < y a := q2
        refine .inr ⟨_, _, _, ?_, i, j, rfl, rfl, rfl, hI, hi0, hj0, fun _ => q2⟩
        refine Last.mk0 (A := A18) (m := 0) ok82 rfl rfl loops0 (h1 := [ub 0 n y]) (by simp) ?_ (.refl _)
        rw [(show iterR P18 G18 A18 K82 0 84 [] 13 (v83 n a i j) [ub 0 n y] =
(
 bif decide (Int.ofNat i ≤ Int.ofNat j) then
 bif decide ((0 : Int) ≤ Int.ofNat i) && decide (Int.ofNat i < Int.ofNat n) then
 bif ((0 : Nat) + i).blt n then
 bif decide ((0 : Int) ≤ Int.ofNat a) && decide (Int.ofNat a < Int.ofNat n) then
 bif ((0 : Nat) + a).blt n then
 bif decide (y ((0 : Nat) + i) < y ((0 : Nat) + a)) then
 some ((Ex.normal, [T.own 0 0 0 n
 none, T.int .i64 (Int.ofNat a), T.int .i64 (IntKind.i64.wrap (Int.ofNat i + (1 : Int))), T.int .i64 (Int.ofNat j)], [Blk.mk 0 1 n (fun j => [T.int .u8 (y j)]) true false
 none]))
 else
 some ((Ex.exit 6, [T.own 0 0 0 n
 none, T.int .i64 (Int.ofNat a), T.int .i64 (Int.ofNat i), T.int .i64 (Int.ofNat j)], [Blk.mk 0 1 n (fun j => [T.int .u8 (y j)]) true false
 none]))
 else none else none else none else none else
 some ((Ex.exit 6, [T.own 0 0 0 n
 none, T.int .i64 (Int.ofNat a), T.int .i64 (Int.ofNat i), T.int .i64 (Int.ofNat j)], [Blk.mk 0 1 n (fun j => [T.int .u8 (y j)]) true false
 none]))) from by kernel_rfl)]
        rw [ofNatE i, ofNatE j]
        clear hI
        (repeat (first | (refine bift (by first | assumption | omega | (simp (disch := omega) only [numsE, List.length_cons, List.length_nil, Nat.reduceAdd]; done) | (simp (disch := omega) only [numsE, List.length_cons, List.length_nil, Nat.reduceAdd]; omega)) ?_) | (refine biff (by first | assumption | (simp (disch := omega) only [numsE, List.length_cons, List.length_nil, Nat.reduceAdd]; done) | (simp (disch := omega) only [numsE, List.length_cons, List.length_nil, Nat.reduceAdd]; omega)) ?_)))
        rfl
    · refine .inr ⟨_, _, _, ?_, i, j, rfl, rfl, rfl, hI, hi0, hj0, fun h => absurd h q⟩
      refine Last.mk0 (A := A18) (m := 0) ok82 rfl rfl loops0 (h1 := [ub 0 n y]) (by simp) ?_ (.refl _)
      rw [(show iterR P18 G18 A18 K82 0 84 [] 13 (v83 n a i j) [ub 0 n y] =
(
 bif decide (Int.ofNat i ≤ Int.ofNat j) then
 bif decide ((0 : Int) ≤ Int.ofNat i) && decide (Int.ofNat i < Int.ofNat n) then
 bif ((0 : Nat) + i).blt n then
 bif decide ((0 : Int) ≤ Int.ofNat a) && decide (Int.ofNat a < Int.ofNat n) then
 bif ((0 : Nat) + a).blt n then
 bif decide (y ((0 : Nat) + i) < y ((0 : Nat) + a)) then
 some ((Ex.normal, [T.own 0 0 0 n
 none, T.int .i64 (Int.ofNat a), T.int .i64 (IntKind.i64.wrap (Int.ofNat i + (1 : Int))), T.int .i64 (Int.ofNat j)], [Blk.mk 0 1 n (fun j => [T.int .u8 (y j)]) true false
 none]))
 else
 some ((Ex.exit 6, [T.own 0 0 0 n
 none, T.int .i64 (Int.ofNat a), T.int .i64 (Int.ofNat i), T.int .i64 (Int.ofNat j)], [Blk.mk 0 1 n (fun j => [T.int .u8 (y j)]) true false
 none]))
 else none else none else none else none else
 some ((Ex.exit 6, [T.own 0 0 0 n
 none, T.int .i64 (Int.ofNat a), T.int .i64 (Int.ofNat i), T.int .i64 (Int.ofNat j)], [Blk.mk 0 1 n (fun j => [T.int .u8 (y j)]) true false
 none]))) from by kernel_rfl)]
      rw [ofNatE i, ofNatE j]
      clear hI
      (repeat (first | (refine bift (by first | assumption | omega | (simp (disch := omega) only [numsE, List.length_cons, List.length_nil, Nat.reduceAdd]; done) | (simp (disch := omega) only [numsE, List.length_cons, List.length_nil, Nat.reduceAdd]; omega)) ?_) | (refine biff (by first | assumption | (simp (disch := omega) only [numsE, List.length_cons, List.length_nil, Nat.reduceAdd]; done) | (simp (disch := omega) only [numsE, List.length_cons, List.length_nil, Nat.reduceAdd]; omega)) ?_)))
      rfl
  · rintro e ⟨vs1, h1, ⟨i, j, rfl, rfl, rfl, g1, g2, g3, g4⟩, hl⟩
    exact ⟨i, j, g1, ⟨g2, g3⟩, g4, hl⟩
theorem s84_15 (n a b : Nat) (x y : Nat → Int) (i0 j0 : Nat) (P : Int) (hn : n ≤ 1000) (hb : b ≤ n) (hI0 : PInv (fun u v : Int => u < v) x y a b i0 j0 P) :
    ∃ i j, PInv (fun u v : Int => u < v) x y a b i j P ∧ (i = i0 ∧ j ≤ j0) ∧ (i ≤ j → (fun u v : Int => u < v) (y j) (y a)) ∧ LoopOk P18 G18 (A18 84) 84 15 (litS (v83 n a i0 j0) [ub 0 n y] (.exit 8) (v83 n a i j) [ub 0 n y]) := by
  refine Exists.elim (loop_exists (P := P18) (Gl := G18) (f := 84) (r := 15) (an := A18 84) (k := 1) hm18 (by kernel_rfl)
    (fun m vs h => ∃ i j : Nat, m = j + 1 - i ∧ vs = v83 n a i j ∧ h = [ub 0 n y] ∧ PInv (fun u v : Int => u < v) x y a b i j P ∧ i = i0 ∧ j ≤ j0)
    (fun e vs1 h1 => ∃ i j : Nat, e = .exit 8 ∧ vs1 = v83 n a i j ∧ h1 = [ub 0 n y] ∧ PInv (fun u v : Int => u < v) x y a b i j P ∧ i = i0 ∧ j ≤ j0 ∧ (i ≤ j → (fun u v : Int => u < v) (y j) (y a)))
    (fun m vs h ⟨i, j, hm, hv, hh, hI, hi0, hj0⟩ => ?_) (n := j0 + 1 - i0) (vs := v83 n a i0 j0) (h := [ub 0 n y]) rfl ⟨i0, j0, rfl, rfl, rfl, hI0, rfl, Nat.le_refl _⟩) ?_
  · subst hm hv hh
    have h1 := hI.ai
    have h2 := hI.jb
    have h3 := hI.ij
    have ei : IntKind.i64.wrap ((i : Int) + 1) = ((i + 1 : Nat) : Int) := by rw [wr64 (by omega) (by omega)]; omega
    by_cases q : i ≤ j
    · have ej : IntKind.i64.wrap ((j : Int) - 1) = ((j - 1 : Nat) : Int) := by rw [wr64 (by omega) (by omega)]; omega
      by_cases q2 : ¬ (fun u v : Int => u < v) (y j) (y a)
      · have q3 : ¬ y j < y a := q2
        refine .inl ⟨j - 1 + 1 - i, _, _, by omega, ?_, ⟨i, j - 1, rfl, rfl, rfl, hI.down q q2, hi0, by omega⟩⟩
        refine Step.mk0 (A := A18) (m := 0) ok82 rfl rfl loops0 (h1 := [ub 0 n y]) ?_ (.refl _)
        rw [(show iterR P18 G18 A18 K82 0 84 [] 15 (v83 n a i j) [ub 0 n y] =
(
 bif decide (Int.ofNat i ≤ Int.ofNat j) then
 bif decide ((0 : Int) ≤ Int.ofNat j) && decide (Int.ofNat j < Int.ofNat n) then
 bif ((0 : Nat) + j).blt n then
 bif decide ((0 : Int) ≤ Int.ofNat a) && decide (Int.ofNat a < Int.ofNat n) then
 bif ((0 : Nat) + a).blt n then
 bif decide (y ((0 : Nat) + j) < y ((0 : Nat) + a)) then
 some ((Ex.exit 8, [T.own 0 0 0 n
 none, T.int .i64 (Int.ofNat a), T.int .i64 (Int.ofNat i), T.int .i64 (Int.ofNat j)], [Blk.mk 0 1 n (fun j => [T.int .u8 (y j)]) true false
 none]))
 else
 some ((Ex.normal, [T.own 0 0 0 n
 none, T.int .i64 (Int.ofNat a), T.int .i64 (Int.ofNat i), T.int .i64 (IntKind.i64.wrap (Int.ofNat j - (1 : Int)))], [Blk.mk 0 1 n (fun j => [T.int .u8 (y j)]) true false
 none]))
 else none else none else none else none else
 some ((Ex.exit 8, [T.own 0 0 0 n
 none, T.int .i64 (Int.ofNat a), T.int .i64 (Int.ofNat i), T.int .i64 (Int.ofNat j)], [Blk.mk 0 1 n (fun j => [T.int .u8 (y j)]) true false
 none]))) from by kernel_rfl)]
        rw [ofNatE i, ofNatE j, ej]
        clear hI
        (repeat (first | (refine bift (by first | assumption | omega | (simp (disch := omega) only [numsE, List.length_cons, List.length_nil, Nat.reduceAdd]; done) | (simp (disch := omega) only [numsE, List.length_cons, List.length_nil, Nat.reduceAdd]; omega)) ?_) | (refine biff (by first | assumption | (simp (disch := omega) only [numsE, List.length_cons, List.length_nil, Nat.reduceAdd]; done) | (simp (disch := omega) only [numsE, List.length_cons, List.length_nil, Nat.reduceAdd]; omega)) ?_)))
        rfl
      · have q3 : y j < y a := Decidable.not_not.1 q2
        refine .inr ⟨_, _, _, ?_, i, j, rfl, rfl, rfl, hI, hi0, hj0, fun _ => Decidable.not_not.1 q2⟩
        refine Last.mk0 (A := A18) (m := 0) ok82 rfl rfl loops0 (h1 := [ub 0 n y]) (by simp) ?_ (.refl _)
        rw [(show iterR P18 G18 A18 K82 0 84 [] 15 (v83 n a i j) [ub 0 n y] =
(
 bif decide (Int.ofNat i ≤ Int.ofNat j) then
 bif decide ((0 : Int) ≤ Int.ofNat j) && decide (Int.ofNat j < Int.ofNat n) then
 bif ((0 : Nat) + j).blt n then
 bif decide ((0 : Int) ≤ Int.ofNat a) && decide (Int.ofNat a < Int.ofNat n) then
 bif ((0 : Nat) + a).blt n then
 bif decide (y ((0 : Nat) + j) < y ((0 : Nat) + a)) then
 some ((Ex.exit 8, [T.own 0 0 0 n
 none, T.int .i64 (Int.ofNat a), T.int .i64 (Int.ofNat i), T.int .i64 (Int.ofNat j)], [Blk.mk 0 1 n (fun j => [T.int .u8 (y j)]) true false
 none]))
 else
 some ((Ex.normal, [T.own 0 0 0 n
 none, T.int .i64 (Int.ofNat a), T.int .i64 (Int.ofNat i), T.int .i64 (IntKind.i64.wrap (Int.ofNat j - (1 : Int)))], [Blk.mk 0 1 n (fun j => [T.int .u8 (y j)]) true false
 none]))
 else none else none else none else none else
 some ((Ex.exit 8, [T.own 0 0 0 n
 none, T.int .i64 (Int.ofNat a), T.int .i64 (Int.ofNat i), T.int .i64 (Int.ofNat j)], [Blk.mk 0 1 n (fun j => [T.int .u8 (y j)]) true false
 none]))) from by kernel_rfl)]
        rw [ofNatE i, ofNatE j]
        clear hI
        (repeat (first | (refine bift (by first | assumption | omega | (simp (disch := omega) only [numsE, List.length_cons, List.length_nil, Nat.reduceAdd]; done) | (simp (disch := omega) only [numsE, List.length_cons, List.length_nil, Nat.reduceAdd]; omega)) ?_) | (refine biff (by first | assumption | (simp (disch := omega) only [numsE, List.length_cons, List.length_nil, Nat.reduceAdd]; done) | (simp (disch := omega) only [numsE, List.length_cons, List.length_nil, Nat.reduceAdd]; omega)) ?_)))
        rfl
    · refine .inr ⟨_, _, _, ?_, i, j, rfl, rfl, rfl, hI, hi0, hj0, fun h => absurd h q⟩
      refine Last.mk0 (A := A18) (m := 0) ok82 rfl rfl loops0 (h1 := [ub 0 n y]) (by simp) ?_ (.refl _)
      rw [(show iterR P18 G18 A18 K82 0 84 [] 15 (v83 n a i j) [ub 0 n y] =
(
 bif decide (Int.ofNat i ≤ Int.ofNat j) then
 bif decide ((0 : Int) ≤ Int.ofNat j) && decide (Int.ofNat j < Int.ofNat n) then
 bif ((0 : Nat) + j).blt n then
 bif decide ((0 : Int) ≤ Int.ofNat a) && decide (Int.ofNat a < Int.ofNat n) then
 bif ((0 : Nat) + a).blt n then
 bif decide (y ((0 : Nat) + j) < y ((0 : Nat) + a)) then
 some ((Ex.exit 8, [T.own 0 0 0 n
 none, T.int .i64 (Int.ofNat a), T.int .i64 (Int.ofNat i), T.int .i64 (Int.ofNat j)], [Blk.mk 0 1 n (fun j => [T.int .u8 (y j)]) true false
 none]))
 else
 some ((Ex.normal, [T.own 0 0 0 n
 none, T.int .i64 (Int.ofNat a), T.int .i64 (Int.ofNat i), T.int .i64 (IntKind.i64.wrap (Int.ofNat j - (1 : Int)))], [Blk.mk 0 1 n (fun j => [T.int .u8 (y j)]) true false
 none]))
 else none else none else none else none else
 some ((Ex.exit 8, [T.own 0 0 0 n
 none, T.int .i64 (Int.ofNat a), T.int .i64 (Int.ofNat i), T.int .i64 (Int.ofNat j)], [Blk.mk 0 1 n (fun j => [T.int .u8 (y j)]) true false
 none]))) from by kernel_rfl)]
      rw [ofNatE i, ofNatE j]
      clear hI
      (repeat (first | (refine bift (by first | assumption | omega | (simp (disch := omega) only [numsE, List.length_cons, List.length_nil, Nat.reduceAdd]; done) | (simp (disch := omega) only [numsE, List.length_cons, List.length_nil, Nat.reduceAdd]; omega)) ?_) | (refine biff (by first | assumption | (simp (disch := omega) only [numsE, List.length_cons, List.length_nil, Nat.reduceAdd]; done) | (simp (disch := omega) only [numsE, List.length_cons, List.length_nil, Nat.reduceAdd]; omega)) ?_)))
      rfl
  · rintro e ⟨vs1, h1, ⟨i, j, rfl, rfl, rfl, g1, g2, g3, g4⟩, hl⟩
    exact ⟨i, j, g1, ⟨g2, g3⟩, g4, hl⟩
theorem s83_3 (n a b : Nat) (x y : Nat → Int) (i0 j0 : Nat) (P : Int) (hn : n ≤ 1000) (hb : b ≤ n) (hI0 : PInv (fun u v : Int => ¬ v < u) x y a b i0 j0 P) :
    ∃ i j, PInv (fun u v : Int => ¬ v < u) x y a b i j P ∧ (i0 ≤ i ∧ j = j0) ∧ (i ≤ j → ¬ (fun u v : Int => ¬ v < u) (y i) (y a)) ∧ LoopOk P18 G18 (A18 83) 83 3 (litS (v83 n a i0 j0) [ub 0 n y] (.exit 2) (v83 n a i j) [ub 0 n y]) := by
  refine Exists.elim (loop_exists (P := P18) (Gl := G18) (f := 83) (r := 3) (an := A18 83) (k := 1) hm18 (by kernel_rfl)
    (fun m vs h => ∃ i j : Nat, m = j + 1 - i ∧ vs = v83 n a i j ∧ h = [ub 0 n y] ∧ PInv (fun u v : Int => ¬ v < u) x y a b i j P ∧ i0 ≤ i ∧ j = j0)
    (fun e vs1 h1 => ∃ i j : Nat, e = .exit 2 ∧ vs1 = v83 n a i j ∧ h1 = [ub 0 n y] ∧ PInv (fun u v : Int => ¬ v < u) x y a b i j P ∧ i0 ≤ i ∧ j = j0 ∧ (i ≤ j → ¬ (fun u v : Int => ¬ v < u) (y i) (y a)))
    (fun m vs h ⟨i, j, hm, hv, hh, hI, hi0, hj0⟩ => ?_) (n := j0 + 1 - i0) (vs := v83 n a i0 j0) (h := [ub 0 n y]) rfl ⟨i0, j0, rfl, rfl, rfl, hI0, Nat.le_refl _, rfl⟩) ?_
  · subst hm hv hh
    have h1 := hI.ai
    have h2 := hI.jb
    have h3 := hI.ij
    have ei : IntKind.i64.wrap ((i : Int) + 1) = ((i + 1 : Nat) : Int) := by rw [wr64 (by omega) (by omega)]; omega
    by_cases q : i ≤ j
    · have ej : IntKind.i64.wrap ((j : Int) - 1) = ((j - 1 : Nat) : Int) := by rw [wr64 (by omega) (by omega)]; omega
      by_cases q2 : (fun u v : Int => ¬ v < u) (y i) (y a)
      · have q3 : ¬ y a < y i := q2
        refine .inl ⟨j + 1 - (i + 1), _, _, by omega, ?_, ⟨i + 1, j, rfl, rfl, rfl, hI.up q q2, by omega, hj0⟩⟩
        refine Step.mk0 (A := A18) (m := 0) ok82 rfl rfl loops0 (h1 := [ub 0 n y]) ?_ (.refl _)
        rw [(show iterR P18 G18 A18 K82 0 83 [] 3 (v83 n a i j) [ub 0 n y] =
(
 bif decide (Int.ofNat i ≤ Int.ofNat j) then
 bif decide ((0 : Int) ≤ Int.ofNat a) && decide (Int.ofNat a < Int.ofNat n) then
 bif ((0 : Nat) + a).blt n then
 bif decide ((0 : Int) ≤ Int.ofNat i) && decide (Int.ofNat i < Int.ofNat n) then
 bif ((0 : Nat) + i).blt n then
 bif decide (y ((0 : Nat) + a) < y ((0 : Nat) + i)) then
 some ((Ex.exit 2, [T.own 0 0 0 n
 none, T.int .i64 (Int.ofNat a), T.int .i64 (Int.ofNat i), T.int .i64 (Int.ofNat j)], [Blk.mk 0 1 n (fun j => [T.int .u8 (y j)]) true false
 none]))
 else
 some ((Ex.normal, [T.own 0 0 0 n
 none, T.int .i64 (Int.ofNat a), T.int .i64 (IntKind.i64.wrap (Int.ofNat i + (1 : Int))), T.int .i64 (Int.ofNat j)], [Blk.mk 0 1 n (fun j => [T.int .u8 (y j)]) true false
 none]))
 else none else none else none else none else
 some ((Ex.exit 2, [T.own 0 0 0 n
 none, T.int .i64 (Int.ofNat a), T.int .i64 (Int.ofNat i), T.int .i64 (Int.ofNat j)], [Blk.mk 0 1 n (fun j => [T.int .u8 (y j)]) true false
 none]))) from by kernel_rfl)]
        rw [ofNatE i, ofNatE j, ei]
        clear hI
        (repeat (first | (refine bift (by first | assumption | omega | (simp (disch := omega) only [numsE, List.length_cons, List.length_nil, Nat.reduceAdd]; done) | (simp (disch := omega) only [numsE, List.length_cons, List.length_nil, Nat.reduceAdd]; omega)) ?_) | (refine biff (by first | assumption | (simp (disch := omega) only [numsE, List.length_cons, List.length_nil, Nat.reduceAdd]; done) | (simp (disch := omega) only [numsE, List.length_cons, List.length_nil, Nat.reduceAdd]; omega)) ?_)))
        rfl
      · have q3 : y a < y i := Decidable.not_not.1 q2
        refine .inr ⟨_, _, _, ?_, i, j, rfl, rfl, rfl, hI, hi0, hj0, fun _ => q2⟩
        refine Last.mk0 (A := A18) (m := 0) ok82 rfl rfl loops0 (h1 := [ub 0 n y]) (by simp) ?_ (.refl _)
        rw [(show iterR P18 G18 A18 K82 0 83 [] 3 (v83 n a i j) [ub 0 n y] =
(
 bif decide (Int.ofNat i ≤ Int.ofNat j) then
 bif decide ((0 : Int) ≤ Int.ofNat a) && decide (Int.ofNat a < Int.ofNat n) then
 bif ((0 : Nat) + a).blt n then
 bif decide ((0 : Int) ≤ Int.ofNat i) && decide (Int.ofNat i < Int.ofNat n) then
 bif ((0 : Nat) + i).blt n then
 bif decide (y ((0 : Nat) + a) < y ((0 : Nat) + i)) then
 some ((Ex.exit 2, [T.own 0 0 0 n
 none, T.int .i64 (Int.ofNat a), T.int .i64 (Int.ofNat i), T.int .i64 (Int.ofNat j)], [Blk.mk 0 1 n (fun j => [T.int .u8 (y j)]) true false
 none]))
 else
 some ((Ex.normal, [T.own 0 0 0 n
 none, T.int .i64 (Int.ofNat a), T.int .i64 (IntKind.i64.wrap (Int.ofNat i + (1 : Int))), T.int .i64 (Int.ofNat j)], [Blk.mk 0 1 n (fun j => [T.int .u8 (y j)]) true false
 none]))
 else none else none else none else none else
 some ((Ex.exit 2, [T.own 0 0 0 n
 none, T.int .i64 (Int.ofNat a), T.int .i64 (Int.ofNat i), T.int .i64 (Int.ofNat j)], [Blk.mk 0 1 n (fun j => [T.int .u8 (y j)]) true false
 none]))) from by kernel_rfl)]
        rw [ofNatE i, ofNatE j]
        clear hI
        (repeat (first | (refine bift (by first | assumption | omega | (simp (disch := omega) only [numsE, List.length_cons, List.length_nil, Nat.reduceAdd]; done) | (simp (disch := omega) only [numsE, List.length_cons, List.length_nil, Nat.reduceAdd]; omega)) ?_) | (refine biff (by first | assumption | (simp (disch := omega) only [numsE, List.length_cons, List.length_nil, Nat.reduceAdd]; done) | (simp (disch := omega) only [numsE, List.length_cons, List.length_nil, Nat.reduceAdd]; omega)) ?_)))
        rfl
    · refine .inr ⟨_, _, _, ?_, i, j, rfl, rfl, rfl, hI, hi0, hj0, fun h => absurd h q⟩
      refine Last.mk0 (A := A18) (m := 0) ok82 rfl rfl loops0 (h1 := [ub 0 n y]) (by simp) ?_ (.refl _)
      rw [(show iterR P18 G18 A18 K82 0 83 [] 3 (v83 n a i j) [ub 0 n y] =
(
 bif decide (Int.ofNat i ≤ Int.ofNat j) then
 bif decide ((0 : Int) ≤ Int.ofNat a) && decide (Int.ofNat a < Int.ofNat n) then
 bif ((0 : Nat) + a).blt n then
 bif decide ((0 : Int) ≤ Int.ofNat i) && decide (Int.ofNat i < Int.ofNat n) then
 bif ((0 : Nat) + i).blt n then
 bif decide (y ((0 : Nat) + a) < y ((0 : Nat) + i)) then
 some ((Ex.exit 2, [T.own 0 0 0 n
 none, T.int .i64 (Int.ofNat a), T.int .i64 (Int.ofNat i), T.int .i64 (Int.ofNat j)], [Blk.mk 0 1 n (fun j => [T.int .u8 (y j)]) true false
 none]))
 else
 some ((Ex.normal, [T.own 0 0 0 n
 none, T.int .i64 (Int.ofNat a), T.int .i64 (IntKind.i64.wrap (Int.ofNat i + (1 : Int))), T.int .i64 (Int.ofNat j)], [Blk.mk 0 1 n (fun j => [T.int .u8 (y j)]) true false
 none]))
 else none else none else none else none else
 some ((Ex.exit 2, [T.own 0 0 0 n
 none, T.int .i64 (Int.ofNat a), T.int .i64 (Int.ofNat i), T.int .i64 (Int.ofNat j)], [Blk.mk 0 1 n (fun j => [T.int .u8 (y j)]) true false
 none]))) from by kernel_rfl)]
      rw [ofNatE i, ofNatE j]
      clear hI
      (repeat (first | (refine bift (by first | assumption | omega | (simp (disch := omega) only [numsE, List.length_cons, List.length_nil, Nat.reduceAdd]; done) | (simp (disch := omega) only [numsE, List.length_cons, List.length_nil, Nat.reduceAdd]; omega)) ?_) | (refine biff (by first | assumption | (simp (disch := omega) only [numsE, List.length_cons, List.length_nil, Nat.reduceAdd]; done) | (simp (disch := omega) only [numsE, List.length_cons, List.length_nil, Nat.reduceAdd]; omega)) ?_)))
      rfl
  · rintro e ⟨vs1, h1, ⟨i, j, rfl, rfl, rfl, g1, g2, g3, g4⟩, hl⟩
    exact ⟨i, j, g1, ⟨g2, g3⟩, g4, hl⟩
theorem s83_5 (n a b : Nat) (x y : Nat → Int) (i0 j0 : Nat) (P : Int) (hn : n ≤ 1000) (hb : b ≤ n) (hI0 : PInv (fun u v : Int => ¬ v < u) x y a b i0 j0 P) :
    ∃ i j, PInv (fun u v : Int => ¬ v < u) x y a b i j P ∧ (i = i0 ∧ j ≤ j0) ∧ (i ≤ j → (fun u v : Int => ¬ v < u) (y j) (y a)) ∧ LoopOk P18 G18 (A18 83) 83 5 (litS (v83 n a i0 j0) [ub 0 n y] (.exit 4) (v83 n a i j) [ub 0 n y]) := by
  refine Exists.elim (loop_exists (P := P18) (Gl := G18) (f := 83) (r := 5) (an := A18 83) (k := 1) hm18 (by kernel_rfl)
    (fun m vs h => ∃ i j : Nat, m = j + 1 - i ∧ vs = v83 n a i j ∧ h = [ub 0 n y] ∧ PInv (fun u v : Int => ¬ v < u) x y a b i j P ∧ i = i0 ∧ j ≤ j0)
    (fun e vs1 h1 => ∃ i j : Nat, e = .exit 4 ∧ vs1 = v83 n a i j ∧ h1 = [ub 0 n y] ∧ PInv (fun u v : Int => ¬ v < u) x y a b i j P ∧ i = i0 ∧ j ≤ j0 ∧ (i ≤ j → (fun u v : Int => ¬ v < u) (y j) (y a)))
    (fun m vs h ⟨i, j, hm, hv, hh, hI, hi0, hj0⟩ => ?_) (n := j0 + 1 - i0) (vs := v83 n a i0 j0) (h := [ub 0 n y]) rfl ⟨i0, j0, rfl, rfl, rfl, hI0, rfl, Nat.le_refl _⟩) ?_
  · subst hm hv hh
    have h1 := hI.ai
    have h2 := hI.jb
    have h3 := hI.ij
    have ei : IntKind.i64.wrap ((i : Int) + 1) = ((i + 1 : Nat) : Int) := by rw [wr64 (by omega) (by omega)]; omega
    by_cases q : i ≤ j
    · have ej : IntKind.i64.wrap ((j : Int) - 1) = ((j - 1 : Nat) : Int) := by rw [wr64 (by omega) (by omega)]; omega
      by_cases q2 : ¬ (fun u v : Int => ¬ v < u) (y j) (y a)
      · have q3 : y a < y j := Decidable.not_not.1 q2
        refine .inl ⟨j - 1 + 1 - i, _, _, by omega, ?_, ⟨i, j - 1, rfl, rfl, rfl, hI.down q q2, hi0, by omega⟩⟩
        refine Step.mk0 (A := A18) (m := 0) ok82 rfl rfl loops0 (h1 := [ub 0 n y]) ?_ (.refl _)
        rw [(show iterR P18 G18 A18 K82 0 83 [] 5 (v83 n a i j) [ub 0 n y] =
(
 bif decide (Int.ofNat i ≤ Int.ofNat j) then
 bif decide ((0 : Int) ≤ Int.ofNat a) && decide (Int.ofNat a < Int.ofNat n) then
 bif ((0 : Nat) + a).blt n then
 bif decide ((0 : Int) ≤ Int.ofNat j) && decide (Int.ofNat j < Int.ofNat n) then
 bif ((0 : Nat) + j).blt n then
 bif decide (y ((0 : Nat) + a) < y ((0 : Nat) + j)) then
 some ((Ex.normal, [T.own 0 0 0 n
 none, T.int .i64 (Int.ofNat a), T.int .i64 (Int.ofNat i), T.int .i64 (IntKind.i64.wrap (Int.ofNat j - (1 : Int)))], [Blk.mk 0 1 n (fun j => [T.int .u8 (y j)]) true false
 none]))
 else
 some ((Ex.exit 4, [T.own 0 0 0 n
 none, T.int .i64 (Int.ofNat a), T.int .i64 (Int.ofNat i), T.int .i64 (Int.ofNat j)], [Blk.mk 0 1 n (fun j => [T.int .u8 (y j)]) true false
 none]))
 else none else none else none else none else
 some ((Ex.exit 4, [T.own 0 0 0 n
 none, T.int .i64 (Int.ofNat a), T.int .i64 (Int.ofNat i), T.int .i64 (Int.ofNat j)], [Blk.mk 0 1 n (fun j => [T.int .u8 (y j)]) true false
 none]))) from by kernel_rfl)]
        rw [ofNatE i, ofNatE j, ej]
        clear hI
        (repeat (first | (refine bift (by first | assumption | omega | (simp (disch := omega) only [numsE, List.length_cons, List.length_nil, Nat.reduceAdd]; done) | (simp (disch := omega) only [numsE, List.length_cons, List.length_nil, Nat.reduceAdd]; omega)) ?_) | (refine biff (by first | assumption | (simp (disch := omega) only [numsE, List.length_cons, List.length_nil, Nat.reduceAdd]; done) | (simp (disch := omega) only [numsE, List.length_cons, List.length_nil, Nat.reduceAdd]; omega)) ?_)))
        rfl
      · have q3 : ¬ y a < y j := fun h => q2 fun k => k h
        refine .inr ⟨_, _, _, ?_, i, j, rfl, rfl, rfl, hI, hi0, hj0, fun _ => Decidable.not_not.1 q2⟩
        refine Last.mk0 (A := A18) (m := 0) ok82 rfl rfl loops0 (h1 := [ub 0 n y]) (by simp) ?_ (.refl _)
        rw [(show iterR P18 G18 A18 K82 0 83 [] 5 (v83 n a i j) [ub 0 n y] =
(
 bif decide (Int.ofNat i ≤ Int.ofNat j) then
 bif decide ((0 : Int) ≤ Int.ofNat a) && decide (Int.ofNat a < Int.ofNat n) then
 bif ((0 : Nat) + a).blt n then
 bif decide ((0 : Int) ≤ Int.ofNat j) && decide (Int.ofNat j < Int.ofNat n) then
 bif ((0 : Nat) + j).blt n then
 bif decide (y ((0 : Nat) + a) < y ((0 : Nat) + j)) then
 some ((Ex.normal, [T.own 0 0 0 n
 none, T.int .i64 (Int.ofNat a), T.int .i64 (Int.ofNat i), T.int .i64 (IntKind.i64.wrap (Int.ofNat j - (1 : Int)))], [Blk.mk 0 1 n (fun j => [T.int .u8 (y j)]) true false
 none]))
 else
 some ((Ex.exit 4, [T.own 0 0 0 n
 none, T.int .i64 (Int.ofNat a), T.int .i64 (Int.ofNat i), T.int .i64 (Int.ofNat j)], [Blk.mk 0 1 n (fun j => [T.int .u8 (y j)]) true false
 none]))
 else none else none else none else none else
 some ((Ex.exit 4, [T.own 0 0 0 n
 none, T.int .i64 (Int.ofNat a), T.int .i64 (Int.ofNat i), T.int .i64 (Int.ofNat j)], [Blk.mk 0 1 n (fun j => [T.int .u8 (y j)]) true false
 none]))) from by kernel_rfl)]
        rw [ofNatE i, ofNatE j]
        clear hI
        (repeat (first | (refine bift (by first | assumption | omega | (simp (disch := omega) only [numsE, List.length_cons, List.length_nil, Nat.reduceAdd]; done) | (simp (disch := omega) only [numsE, List.length_cons, List.length_nil, Nat.reduceAdd]; omega)) ?_) | (refine biff (by first | assumption | (simp (disch := omega) only [numsE, List.length_cons, List.length_nil, Nat.reduceAdd]; done) | (simp (disch := omega) only [numsE, List.length_cons, List.length_nil, Nat.reduceAdd]; omega)) ?_)))
        rfl
    · refine .inr ⟨_, _, _, ?_, i, j, rfl, rfl, rfl, hI, hi0, hj0, fun h => absurd h q⟩
      refine Last.mk0 (A := A18) (m := 0) ok82 rfl rfl loops0 (h1 := [ub 0 n y]) (by simp) ?_ (.refl _)
      rw [(show iterR P18 G18 A18 K82 0 83 [] 5 (v83 n a i j) [ub 0 n y] =
(
 bif decide (Int.ofNat i ≤ Int.ofNat j) then
 bif decide ((0 : Int) ≤ Int.ofNat a) && decide (Int.ofNat a < Int.ofNat n) then
 bif ((0 : Nat) + a).blt n then
 bif decide ((0 : Int) ≤ Int.ofNat j) && decide (Int.ofNat j < Int.ofNat n) then
 bif ((0 : Nat) + j).blt n then
 bif decide (y ((0 : Nat) + a) < y ((0 : Nat) + j)) then
 some ((Ex.normal, [T.own 0 0 0 n
 none, T.int .i64 (Int.ofNat a), T.int .i64 (Int.ofNat i), T.int .i64 (IntKind.i64.wrap (Int.ofNat j - (1 : Int)))], [Blk.mk 0 1 n (fun j => [T.int .u8 (y j)]) true false
 none]))
 else
 some ((Ex.exit 4, [T.own 0 0 0 n
 none, T.int .i64 (Int.ofNat a), T.int .i64 (Int.ofNat i), T.int .i64 (Int.ofNat j)], [Blk.mk 0 1 n (fun j => [T.int .u8 (y j)]) true false
 none]))
 else none else none else none else none else
 some ((Ex.exit 4, [T.own 0 0 0 n
 none, T.int .i64 (Int.ofNat a), T.int .i64 (Int.ofNat i), T.int .i64 (Int.ofNat j)], [Blk.mk 0 1 n (fun j => [T.int .u8 (y j)]) true false
 none]))) from by kernel_rfl)]
      rw [ofNatE i, ofNatE j]
      clear hI
      (repeat (first | (refine bift (by first | assumption | omega | (simp (disch := omega) only [numsE, List.length_cons, List.length_nil, Nat.reduceAdd]; done) | (simp (disch := omega) only [numsE, List.length_cons, List.length_nil, Nat.reduceAdd]; omega)) ?_) | (refine biff (by first | assumption | (simp (disch := omega) only [numsE, List.length_cons, List.length_nil, Nat.reduceAdd]; done) | (simp (disch := omega) only [numsE, List.length_cons, List.length_nil, Nat.reduceAdd]; omega)) ?_)))
      rfl
  · rintro e ⟨vs1, h1, ⟨i, j, rfl, rfl, rfl, g1, g2, g3, g4⟩, hl⟩
    exact ⟨i, j, g1, ⟨g2, g3⟩, g4, hl⟩
end Go.Ab

namespace Go.Ab
open Go.Proofs
theorem m84 (n a b : Nat) (x y0 : Nat → Int) (i00 j00 : Nat) (P : Int) (hn : n ≤ 1000) (hb : b ≤ n) (hI0 : PInv (fun u v : Int => u < v) x y0 a b i00 j00 P) :
    ∃ i j y, PInv (fun u v : Int => u < v) x y a b i j P ∧ i = j + 1 ∧ LoopOk P18 G18 (A18 84) 84 17 (litS (v83 n a i00 j00) [ub 0 n y0] (.exit 4) [.own 0 0 0 n none, .int .i64 a, .int .i64 j] [ub 0 n y]) := by
  refine Exists.elim (loop_exists (P := P18) (Gl := G18) (f := 84) (r := 17) (an := A18 84) (k := 1) hm18 (by kernel_rfl)
    (fun m vs h => ∃ (i j : Nat) (y : Nat → Int), m = j + 1 - i ∧ vs = v83 n a i j ∧ h = [ub 0 n y] ∧ PInv (fun u v : Int => u < v) x y a b i j P)
    (fun e vs1 h1 => ∃ (i j : Nat) (y : Nat → Int), e = .exit 4 ∧ vs1 = [.own 0 0 0 n none, .int .i64 a, .int .i64 j] ∧ h1 = [ub 0 n y] ∧ PInv (fun u v : Int => u < v) x y a b i j P ∧ i = j + 1)
    (fun m vs h ⟨i0, j0, y, hm, hv, hh, hI⟩ => ?_) (n := j00 + 1 - i00) (vs := v83 n a i00 j00) (h := [ub 0 n y0]) rfl ⟨i00, j00, y0, rfl, rfl, rfl, hI0⟩) ?_
  · subst hm hv hh
    obtain ⟨i1, j', h1, ⟨h2, rfl⟩, h3, hl1⟩ := s84_13 n a b x y i0 j0 P hn hb hI
    obtain ⟨i', j1, g1, ⟨rfl, g2⟩, g3, hl2⟩ := s84_15 n a b x y i1 j' P hn hb h1
    have k1 := g1.ai
    have k2 := g1.jb
    have k3 := g1.ij
    have k4 := h1.jb
    by_cases q : i' ≤ j1
    · have c1 := h3 (by omega)
      have c2 := g3 q
      have ei : IntKind.i64.wrap ((i' : Int) + 1) = ((i' + 1 : Nat) : Int) := by rw [wr64 (by omega) (by omega)]; omega
      have ej : IntKind.i64.wrap ((j1 : Int) - 1) = ((j1 - 1 : Nat) : Int) := by rw [wr64 (by omega) (by omega)]; omega
      refine .inl ⟨j1 - 1 + 1 - (i' + 1), _, _, by omega, ?_, ⟨i' + 1, j1 - 1, _, rfl, rfl, rfl, g1.swap q c1 c2⟩⟩
      refine Step.mk0 (A := A18) (m := 0) none_ok rfl rfl (loopsC hl1 (loops1 hl2)) (h1 := [ub 0 n fun e => bif e == 0 + j1 then y (0 + i') else bif e == 0 + i' then y (0 + j1) else y e]) ?_ (ub_congr fun e => swap_fun y i' j1 e)
      rw [(show iterR P18 G18 A18 noneO 0 84 [(13, litS (v83 n a i0 j') [ub 0 n y] (.exit 6) (v83 n a i' j') [ub 0 n y]), (15, litS (v83 n a i' j') [ub 0 n y] (.exit 8) (v83 n a i' j1) [ub 0 n y])] 17 (v83 n a i0 j') [ub 0 n y] =
(
 bif weakF [T.own 0 0 0 n
 none, T.int .i64 (Int.ofNat a), T.int .i64 (Int.ofNat i0), T.int .i64 (Int.ofNat j')] [Blk.mk 0 1 n (fun j => [T.int .u8 (y j)]) true false
 none] [T.own 0 0 0 n
 none, T.int .i64 (Int.ofNat a), T.int .i64 (Int.ofNat i0), T.int .i64 (Int.ofNat j')] [Blk.mk 0 1 n (fun j => [T.int .u8 (y j)]) true false
 none] then
 bif weakF [T.own 0 0 0 n
 none, T.int .i64 (Int.ofNat a), T.int .i64 (Int.ofNat i'), T.int .i64 (Int.ofNat j')] [Blk.mk 0 1 n (fun j => [T.int .u8 (y j)]) true false
 none] [T.own 0 0 0 n
 none, T.int .i64 (Int.ofNat a), T.int .i64 (Int.ofNat i'), T.int .i64 (Int.ofNat j')] [Blk.mk 0 1 n (fun j => [T.int .u8 (y j)]) true false
 none] then
 bif decide (Int.ofNat j1 < Int.ofNat i') then
 some ((Ex.exit 4, [T.own 0 0 0 n
 none, T.int .i64 (Int.ofNat a), T.int .i64 (Int.ofNat j1)], [Blk.mk 0 1 n (fun j => [T.int .u8 (y j)]) true false
 none]))
 else
 bif decide ((0 : Int) ≤ Int.ofNat j1) && decide (Int.ofNat j1 < Int.ofNat n) then
 bif ((0 : Nat) + j1).blt n then
 bif decide ((0 : Int) ≤ Int.ofNat i') && decide (Int.ofNat i' < Int.ofNat n) then
 bif ((0 : Nat) + i').blt n then
 bif decide ((0 : Int) ≤ Int.ofNat i') && decide (Int.ofNat i' < Int.ofNat n) then
 bif ((0 : Nat) + i').blt n && [T.int .u8 (y ((0 : Nat) + j1))].length == (1 : Nat) && true && true then
 bif decide ((0 : Int) ≤ Int.ofNat j1) && decide (Int.ofNat j1 < Int.ofNat n) then
 bif ((0 : Nat) + j1).blt n && [T.int .u8 (y ((0 : Nat) + i'))].length == (1 : Nat) && true && true then
 some ((Ex.normal, [T.own 0 0 0 n
 none, T.int .i64 (Int.ofNat a), T.int .i64 (IntKind.i64.wrap (Int.ofNat i' + (1 : Int))), T.int .i64 (IntKind.i64.wrap (Int.ofNat j1 - (1 : Int)))], [Blk.mk 0 1 n (fun e => [T.int .u8 (bif e == (0 : Nat) + j1 then y ((0 : Nat) + i')
 else
 bif e == (0 : Nat) + i' then y ((0 : Nat) + j1)
 else y e)]) true false
 none]))
 else none else none else none else none else none else none else none else none else none else
 none) from by kernel_rfl)]
      refine bift (weakF_of ⟨rfl, .refl _⟩) ?_
      refine bift (weakF_of ⟨rfl, .refl _⟩) ?_
      rw [ofNatE i', ofNatE j1, ei, ej]
      clear hI h1 g1 h3 g3 c1 c2
      (repeat (first | (refine bift (by first | assumption | omega | (simp (disch := omega) only [numsE, List.length_cons, List.length_nil, Nat.reduceAdd]; done) | (simp (disch := omega) only [numsE, List.length_cons, List.length_nil, Nat.reduceAdd]; omega)) ?_) | (refine biff (by first | assumption | (simp (disch := omega) only [numsE, List.length_cons, List.length_nil, Nat.reduceAdd]; done) | (simp (disch := omega) only [numsE, List.length_cons, List.length_nil, Nat.reduceAdd]; omega)) ?_)))
      rfl
    · refine .inr ⟨_, _, _, ?_, i', j1, y, rfl, rfl, rfl, g1, by omega⟩
      refine Last.mk0 (A := A18) (m := 0) none_ok rfl rfl (loopsC hl1 (loops1 hl2)) (h1 := [ub 0 n y]) (by simp) ?_ (.refl _)
      rw [(show iterR P18 G18 A18 noneO 0 84 [(13, litS (v83 n a i0 j') [ub 0 n y] (.exit 6) (v83 n a i' j') [ub 0 n y]), (15, litS (v83 n a i' j') [ub 0 n y] (.exit 8) (v83 n a i' j1) [ub 0 n y])] 17 (v83 n a i0 j') [ub 0 n y] =
(
 bif weakF [T.own 0 0 0 n
 none, T.int .i64 (Int.ofNat a), T.int .i64 (Int.ofNat i0), T.int .i64 (Int.ofNat j')] [Blk.mk 0 1 n (fun j => [T.int .u8 (y j)]) true false
 none] [T.own 0 0 0 n
 none, T.int .i64 (Int.ofNat a), T.int .i64 (Int.ofNat i0), T.int .i64 (Int.ofNat j')] [Blk.mk 0 1 n (fun j => [T.int .u8 (y j)]) true false
 none] then
 bif weakF [T.own 0 0 0 n
 none, T.int .i64 (Int.ofNat a), T.int .i64 (Int.ofNat i'), T.int .i64 (Int.ofNat j')] [Blk.mk 0 1 n (fun j => [T.int .u8 (y j)]) true false
 none] [T.own 0 0 0 n
 none, T.int .i64 (Int.ofNat a), T.int .i64 (Int.ofNat i'), T.int .i64 (Int.ofNat j')] [Blk.mk 0 1 n (fun j => [T.int .u8 (y j)]) true false
 none] then
 bif decide (Int.ofNat j1 < Int.ofNat i') then
 some ((Ex.exit 4, [T.own 0 0 0 n
 none, T.int .i64 (Int.ofNat a), T.int .i64 (Int.ofNat j1)], [Blk.mk 0 1 n (fun j => [T.int .u8 (y j)]) true false
 none]))
 else
 bif decide ((0 : Int) ≤ Int.ofNat j1) && decide (Int.ofNat j1 < Int.ofNat n) then
 bif ((0 : Nat) + j1).blt n then
 bif decide ((0 : Int) ≤ Int.ofNat i') && decide (Int.ofNat i' < Int.ofNat n) then
 bif ((0 : Nat) + i').blt n then
 bif decide ((0 : Int) ≤ Int.ofNat i') && decide (Int.ofNat i' < Int.ofNat n) then
 bif ((0 : Nat) + i').blt n && [T.int .u8 (y ((0 : Nat) + j1))].length == (1 : Nat) && true && true then
 bif decide ((0 : Int) ≤ Int.ofNat j1) && decide (Int.ofNat j1 < Int.ofNat n) then
 bif ((0 : Nat) + j1).blt n && [T.int .u8 (y ((0 : Nat) + i'))].length == (1 : Nat) && true && true then
 some ((Ex.normal, [T.own 0 0 0 n
 none, T.int .i64 (Int.ofNat a), T.int .i64 (IntKind.i64.wrap (Int.ofNat i' + (1 : Int))), T.int .i64 (IntKind.i64.wrap (Int.ofNat j1 - (1 : Int)))], [Blk.mk 0 1 n (fun e => [T.int .u8 (bif e == (0 : Nat) + j1 then y ((0 : Nat) + i')
 else
 bif e == (0 : Nat) + i' then y ((0 : Nat) + j1)
 else y e)]) true false
 none]))
 else none else none else none else none else none else none else none else none else none else
 none) from by kernel_rfl)]
      refine bift (weakF_of ⟨rfl, .refl _⟩) ?_
      refine bift (weakF_of ⟨rfl, .refl _⟩) ?_
      rw [ofNatE i', ofNatE j1]
      clear hI h1 g1 h3 g3
      (repeat (first | (refine bift (by first | assumption | omega | (simp (disch := omega) only [numsE, List.length_cons, List.length_nil, Nat.reduceAdd]; done) | (simp (disch := omega) only [numsE, List.length_cons, List.length_nil, Nat.reduceAdd]; omega)) ?_) | (refine biff (by first | assumption | (simp (disch := omega) only [numsE, List.length_cons, List.length_nil, Nat.reduceAdd]; done) | (simp (disch := omega) only [numsE, List.length_cons, List.length_nil, Nat.reduceAdd]; omega)) ?_)))
      rfl
  · rintro e ⟨vs1, h1, ⟨i, j, y, rfl, rfl, rfl, g1, g2⟩, hl⟩
    exact ⟨i, j, y, g1, g2, hl⟩
theorem m83 (n a b : Nat) (x y0 : Nat → Int) (i00 j00 : Nat) (P : Int) (hn : n ≤ 1000) (hb : b ≤ n) (hI0 : PInv (fun u v : Int => ¬ v < u) x y0 a b i00 j00 P) :
    ∃ i j y, PInv (fun u v : Int => ¬ v < u) x y a b i j P ∧ i = j + 1 ∧ LoopOk P18 G18 (A18 83) 83 7 (litS (v83 n a i00 j00) [ub 0 n y0] (.exit 0) [.int .i64 i] [ub 0 n y]) := by
  refine Exists.elim (loop_exists (P := P18) (Gl := G18) (f := 83) (r := 7) (an := A18 83) (k := 1) hm18 (by kernel_rfl)
    (fun m vs h => ∃ (i j : Nat) (y : Nat → Int), m = j + 1 - i ∧ vs = v83 n a i j ∧ h = [ub 0 n y] ∧ PInv (fun u v : Int => ¬ v < u) x y a b i j P)
    (fun e vs1 h1 => ∃ (i j : Nat) (y : Nat → Int), e = .exit 0 ∧ vs1 = [.int .i64 i] ∧ h1 = [ub 0 n y] ∧ PInv (fun u v : Int => ¬ v < u) x y a b i j P ∧ i = j + 1)
    (fun m vs h ⟨i0, j0, y, hm, hv, hh, hI⟩ => ?_) (n := j00 + 1 - i00) (vs := v83 n a i00 j00) (h := [ub 0 n y0]) rfl ⟨i00, j00, y0, rfl, rfl, rfl, hI0⟩) ?_
  · subst hm hv hh
    obtain ⟨i1, j', h1, ⟨h2, rfl⟩, h3, hl1⟩ := s83_3 n a b x y i0 j0 P hn hb hI
    obtain ⟨i', j1, g1, ⟨rfl, g2⟩, g3, hl2⟩ := s83_5 n a b x y i1 j' P hn hb h1
    have k1 := g1.ai
    have k2 := g1.jb
    have k3 := g1.ij
    have k4 := h1.jb
    by_cases q : i' ≤ j1
    · have c1 := h3 (by omega)
      have c2 := g3 q
      have ei : IntKind.i64.wrap ((i' : Int) + 1) = ((i' + 1 : Nat) : Int) := by rw [wr64 (by omega) (by omega)]; omega
      have ej : IntKind.i64.wrap ((j1 : Int) - 1) = ((j1 - 1 : Nat) : Int) := by rw [wr64 (by omega) (by omega)]; omega
      refine .inl ⟨j1 - 1 + 1 - (i' + 1), _, _, by omega, ?_, ⟨i' + 1, j1 - 1, _, rfl, rfl, rfl, g1.swap q c1 c2⟩⟩
      refine Step.mk0 (A := A18) (m := 0) none_ok rfl rfl (loopsC hl1 (loops1 hl2)) (h1 := [ub 0 n fun e => bif e == 0 + j1 then y (0 + i') else bif e == 0 + i' then y (0 + j1) else y e]) ?_ (ub_congr fun e => swap_fun y i' j1 e)
      rw [(show iterR P18 G18 A18 noneO 0 83 [(3, litS (v83 n a i0 j') [ub 0 n y] (.exit 2) (v83 n a i' j') [ub 0 n y]), (5, litS (v83 n a i' j') [ub 0 n y] (.exit 4) (v83 n a i' j1) [ub 0 n y])] 7 (v83 n a i0 j') [ub 0 n y] =
(
 bif weakF [T.own 0 0 0 n
 none, T.int .i64 (Int.ofNat a), T.int .i64 (Int.ofNat i0), T.int .i64 (Int.ofNat j')] [Blk.mk 0 1 n (fun j => [T.int .u8 (y j)]) true false
 none] [T.own 0 0 0 n
 none, T.int .i64 (Int.ofNat a), T.int .i64 (Int.ofNat i0), T.int .i64 (Int.ofNat j')] [Blk.mk 0 1 n (fun j => [T.int .u8 (y j)]) true false
 none] then
 bif weakF [T.own 0 0 0 n
 none, T.int .i64 (Int.ofNat a), T.int .i64 (Int.ofNat i'), T.int .i64 (Int.ofNat j')] [Blk.mk 0 1 n (fun j => [T.int .u8 (y j)]) true false
 none] [T.own 0 0 0 n
 none, T.int .i64 (Int.ofNat a), T.int .i64 (Int.ofNat i'), T.int .i64 (Int.ofNat j')] [Blk.mk 0 1 n (fun j => [T.int .u8 (y j)]) true false
 none] then
 bif decide (Int.ofNat j1 < Int.ofNat i') then
 some ((Ex.exit 0, [T.int .i64 (Int.ofNat i')], [Blk.mk 0 1 n (fun j => [T.int .u8 (y j)]) true false
 none]))
 else
 bif decide ((0 : Int) ≤ Int.ofNat j1) && decide (Int.ofNat j1 < Int.ofNat n) then
 bif ((0 : Nat) + j1).blt n then
 bif decide ((0 : Int) ≤ Int.ofNat i') && decide (Int.ofNat i' < Int.ofNat n) then
 bif ((0 : Nat) + i').blt n then
 bif decide ((0 : Int) ≤ Int.ofNat i') && decide (Int.ofNat i' < Int.ofNat n) then
 bif ((0 : Nat) + i').blt n && [T.int .u8 (y ((0 : Nat) + j1))].length == (1 : Nat) && true && true then
 bif decide ((0 : Int) ≤ Int.ofNat j1) && decide (Int.ofNat j1 < Int.ofNat n) then
 bif ((0 : Nat) + j1).blt n && [T.int .u8 (y ((0 : Nat) + i'))].length == (1 : Nat) && true && true then
 some ((Ex.normal, [T.own 0 0 0 n
 none, T.int .i64 (Int.ofNat a), T.int .i64 (IntKind.i64.wrap (Int.ofNat i' + (1 : Int))), T.int .i64 (IntKind.i64.wrap (Int.ofNat j1 - (1 : Int)))], [Blk.mk 0 1 n (fun e => [T.int .u8 (bif e == (0 : Nat) + j1 then y ((0 : Nat) + i')
 else
 bif e == (0 : Nat) + i' then y ((0 : Nat) + j1)
 else y e)]) true false
 none]))
 else none else none else none else none else none else none else none else none else none else
 none) from by kernel_rfl)]
      refine bift (weakF_of ⟨rfl, .refl _⟩) ?_
      refine bift (weakF_of ⟨rfl, .refl _⟩) ?_
      rw [ofNatE i', ofNatE j1, ei, ej]
      clear hI h1 g1 h3 g3 c1 c2
      (repeat (first | (refine bift (by first | assumption | omega | (simp (disch := omega) only [numsE, List.length_cons, List.length_nil, Nat.reduceAdd]; done) | (simp (disch := omega) only [numsE, List.length_cons, List.length_nil, Nat.reduceAdd]; omega)) ?_) | (refine biff (by first | assumption | (simp (disch := omega) only [numsE, List.length_cons, List.length_nil, Nat.reduceAdd]; done) | (simp (disch := omega) only [numsE, List.length_cons, List.length_nil, Nat.reduceAdd]; omega)) ?_)))
      rfl
    · refine .inr ⟨_, _, _, ?_, i', j1, y, rfl, rfl, rfl, g1, by omega⟩
      refine Last.mk0 (A := A18) (m := 0) none_ok rfl rfl (loopsC hl1 (loops1 hl2)) (h1 := [ub 0 n y]) (by simp) ?_ (.refl _)
      rw [(show iterR P18 G18 A18 noneO 0 83 [(3, litS (v83 n a i0 j') [ub 0 n y] (.exit 2) (v83 n a i' j') [ub 0 n y]), (5, litS (v83 n a i' j') [ub 0 n y] (.exit 4) (v83 n a i' j1) [ub 0 n y])] 7 (v83 n a i0 j') [ub 0 n y] =
(
 bif weakF [T.own 0 0 0 n
 none, T.int .i64 (Int.ofNat a), T.int .i64 (Int.ofNat i0), T.int .i64 (Int.ofNat j')] [Blk.mk 0 1 n (fun j => [T.int .u8 (y j)]) true false
 none] [T.own 0 0 0 n
 none, T.int .i64 (Int.ofNat a), T.int .i64 (Int.ofNat i0), T.int .i64 (Int.ofNat j')] [Blk.mk 0 1 n (fun j => [T.int .u8 (y j)]) true false
 none] then
 bif weakF [T.own 0 0 0 n
 none, T.int .i64 (Int.ofNat a), T.int .i64 (Int.ofNat i'), T.int .i64 (Int.ofNat j')] [Blk.mk 0 1 n (fun j => [T.int .u8 (y j)]) true false
 none] [T.own 0 0 0 n
 none, T.int .i64 (Int.ofNat a), T.int .i64 (Int.ofNat i'), T.int .i64 (Int.ofNat j')] [Blk.mk 0 1 n (fun j => [T.int .u8 (y j)]) true false
 none] then
 bif decide (Int.ofNat j1 < Int.ofNat i') then
 some ((Ex.exit 0, [T.int .i64 (Int.ofNat i')], [Blk.mk 0 1 n (fun j => [T.int .u8 (y j)]) true false
 none]))
 else
 bif decide ((0 : Int) ≤ Int.ofNat j1) && decide (Int.ofNat j1 < Int.ofNat n) then
 bif ((0 : Nat) + j1).blt n then
 bif decide ((0 : Int) ≤ Int.ofNat i') && decide (Int.ofNat i' < Int.ofNat n) then
 bif ((0 : Nat) + i').blt n then
 bif decide ((0 : Int) ≤ Int.ofNat i') && decide (Int.ofNat i' < Int.ofNat n) then
 bif ((0 : Nat) + i').blt n && [T.int .u8 (y ((0 : Nat) + j1))].length == (1 : Nat) && true && true then
 bif decide ((0 : Int) ≤ Int.ofNat j1) && decide (Int.ofNat j1 < Int.ofNat n) then
 bif ((0 : Nat) + j1).blt n && [T.int .u8 (y ((0 : Nat) + i'))].length == (1 : Nat) && true && true then
 some ((Ex.normal, [T.own 0 0 0 n
 none, T.int .i64 (Int.ofNat a), T.int .i64 (IntKind.i64.wrap (Int.ofNat i' + (1 : Int))), T.int .i64 (IntKind.i64.wrap (Int.ofNat j1 - (1 : Int)))], [Blk.mk 0 1 n (fun e => [T.int .u8 (bif e == (0 : Nat) + j1 then y ((0 : Nat) + i')
 else
 bif e == (0 : Nat) + i' then y ((0 : Nat) + j1)
 else y e)]) true false
 none]))
 else none else none else none else none else none else none else none else none else none else
 none) from by kernel_rfl)]
      refine bift (weakF_of ⟨rfl, .refl _⟩) ?_
      refine bift (weakF_of ⟨rfl, .refl _⟩) ?_
      rw [ofNatE i', ofNatE j1]
      clear hI h1 g1 h3 g3
      (repeat (first | (refine bift (by first | assumption | omega | (simp (disch := omega) only [numsE, List.length_cons, List.length_nil, Nat.reduceAdd]; done) | (simp (disch := omega) only [numsE, List.length_cons, List.length_nil, Nat.reduceAdd]; omega)) ?_) | (refine biff (by first | assumption | (simp (disch := omega) only [numsE, List.length_cons, List.length_nil, Nat.reduceAdd]; done) | (simp (disch := omega) only [numsE, List.length_cons, List.length_nil, Nat.reduceAdd]; omega)) ?_)))
      rfl
  · rintro e ⟨vs1, h1, ⟨i, j, y, rfl, rfl, rfl, g1, g2⟩, hl⟩
    exact ⟨i, j, y, g1, g2, hl⟩
end Go.Ab

namespace Go.Ab
open Go.Proofs
def Sw (y : Nat → Int) (i j : Nat) : Nat → Int := fun e => if e = j then y i else if e = i then y j else y e
def swB (y : Nat → Int) (i j : Nat) : Nat → Int := fun e => bif e == 0 + j then y (0 + i) else bif e == 0 + i then y (0 + j) else y e
theorem sw_same (n : Nat) (y : Nat → Int) (i j : Nat) : SameBlks [ub 0 n (swB y i j)] [ub 0 n (Sw y i j)] := ub_congr fun e => swap_fun y i j e
theorem PInv.start {L : Int → Int → Prop} (x : Nat → Int) {a b p : Nat} (ha : a ≤ p) (hp : p < b) (h2 : a + 1 < b) : PInv L x (Sw x a p) a b (a + 1) (b - 1) (x p) :=
  ⟨by
    show (if a = p then x a else if a = a then x p else x a) = x p
    by_cases q : a = p
    · rw [if_pos q, q]
    · rw [if_neg q, if_pos rfl], Pr.swap x (i := p) (j := a) ⟨ha, hp⟩ ⟨Nat.le_refl _, by omega⟩, by omega, by omega, by omega, fun e g1 g2 => by omega, fun e g1 g2 => by omega⟩
theorem PInv.parted {x y : Nat → Int} {a b i j : Nat} {P : Int} (h : PInv (fun u v : Int => u < v) x y a b i j P) (hij : i = j + 1) : Pr x (Sw y j a) a b ∧ Parted (Sw y j a) a b j := by
  have ha := h.ai
  have hj := h.jb
  have ej : Sw y j a j = y a := by
    show (if j = a then y j else if j = j then y a else y j) = y a
    by_cases q : j = a
    · rw [if_pos q, q]
    · rw [if_neg q, if_pos rfl]
  refine ⟨h.pr.trans (Pr.swap y (i := a) (j := j) ⟨Nat.le_refl _, by omega⟩ ⟨by omega, hj⟩), by omega, hj, fun p g1 g2 => ?_, fun p g1 g2 => ?_⟩
  · rw [ej]
    show (if p = a then y j else if p = j then y a else y p) < y a
    by_cases q : p = a
    · rw [if_pos q]; exact h.left j (by omega) (by omega)
    · rw [if_neg q, if_neg (by omega)]; exact h.left p (by omega) (by omega)
  · rw [ej]
    show y a ≤ (if p = a then y j else if p = j then y a else y p)
    rw [if_neg (by omega), if_neg (by omega)]
    exact Int.not_lt.1 (h.right p g1 g2)
theorem partT (n a b p : Nat) (x : Nat → Int) (hn : n ≤ 1000) (hb : b ≤ n) (ha : a ≤ p) (hp : p < b) (h2 : a + 1 < b) :
    ∃ z m d, Pr x z a b ∧ Parted z a b m ∧ ToldRef P18 G18 84 [.own 0 0 0 n none, .int .i64 a, .int .i64 b, .int .i64 p] [ub 0 n x] (.tup [.int .i64 (m : Nat), .bool d]) [ub 0 n z] := by
  obtain ⟨i1, j0, k1, ⟨k2, rfl⟩, k3, hl1⟩ := s84_3 n a b x (Sw x a p) (a + 1) (b - 1) (x p) hn hb (PInv.start x ha hp h2)
  obtain ⟨i', j1, g1, ⟨rfl, g2⟩, g3, hl2⟩ := s84_5 n a b x (Sw x a p) i1 (b - 1) (x p) hn hb k1
  have q1 := g1.ai
  have q2 := g1.jb
  have q3 := g1.ij
  have ea : IntKind.i64.wrap ((a : Int) + 1) = ((a + 1 : Nat) : Int) := by rw [wr64 (by omega) (by omega)]; omega
  have eb : IntKind.i64.wrap ((b : Int) - 1) = ((b - 1 : Nat) : Int) := by rw [wr64 (by omega) (by omega)]; omega
  by_cases q : i' ≤ j1
  · have c1 := k3 (by omega)
    have c2 := g3 q
    obtain ⟨i3, j3, y3, m1, m2, hl3⟩ := m84 n a b x (Sw (Sw x a p) i' j1) (i' + 1) (j1 - 1) (x p) hn hb (g1.swap q c1 c2)
    have w1 := m1.ai
    have w2 := m1.jb
    obtain ⟨z1, z2⟩ := m1.parted m2
    refine ⟨Sw y3 j3 a, j3, false, z1, z2, ?_⟩
    refine ToldRef.res ?_ (sw_same n y3 j3 a)
    have ei : IntKind.i64.wrap ((i' : Int) + 1) = ((i' + 1 : Nat) : Int) := by rw [wr64 (by omega) (by omega)]; omega
    have ej : IntKind.i64.wrap ((j1 : Int) - 1) = ((j1 - 1 : Nat) : Int) := by rw [wr64 (by omega) (by omega)]; omega
    have s1 := sw_same n x a p
    have s2 := sw_same n (Sw x a p) i' j1
    clear k1 g1 k3 g3 c1 c2 m1 z1 z2
    generalize Sw (Sw x a p) i' j1 = y2 at *
    generalize Sw x a p = y1 at *
    refine stepR_told hm18 hn18 none_ok (A := A18) (m := 0) (by kernel_rfl) (loopsC hl1 (loopsC hl2 (loops1 hl3))) ?_
    rw [(show stepR P18 G18 A18 noneO 0 84 [(3, litS (v83 n a (a + 1 : Nat) (b - 1 : Nat)) [ub 0 n y1] (.exit 0) (v83 n a i' (b - 1 : Nat)) [ub 0 n y1]), (5, litS (v83 n a i' (b - 1 : Nat)) [ub 0 n y1] (.exit 2) (v83 n a i' j1) [ub 0 n y1]), (17, litS (v83 n a (i' + 1 : Nat) (j1 - 1 : Nat)) [ub 0 n y2] (.exit 4) [.own 0 0 0 n none, .int .i64 a, .int .i64 j3] [ub 0 n y3])] [.own 0 0 0 n none, .int .i64 a, .int .i64 b, .int .i64 p] [ub 0 n x] =
(
 bif decide ((0 : Int) ≤ Int.ofNat p) && decide (Int.ofNat p < Int.ofNat n) then
 bif ((0 : Nat) + p).blt n then
 bif decide ((0 : Int) ≤ Int.ofNat a) && decide (Int.ofNat a < Int.ofNat n) then
 bif ((0 : Nat) + a).blt n then
 bif decide ((0 : Int) ≤ Int.ofNat a) && decide (Int.ofNat a < Int.ofNat n) then
 bif ((0 : Nat) + a).blt n && [T.int .u8 (x ((0 : Nat) + p))].length == (1 : Nat) && true && true then
 bif decide ((0 : Int) ≤ Int.ofNat p) && decide (Int.ofNat p < Int.ofNat n) then
 bif ((0 : Nat) + p).blt n && [T.int .u8 (x ((0 : Nat) + a))].length == (1 : Nat) && true && true then
 bif weakF [T.own 0 0 0 n
 none, T.int .i64 (Int.ofNat a), T.int .i64 (IntKind.i64.wrap (Int.ofNat a + (1 : Int))), T.int .i64 (IntKind.i64.wrap (Int.ofNat b - (1 : Int)))] [Blk.mk 0 1 n (fun e => [T.int .u8 (bif e == (0 : Nat) + p then x ((0 : Nat) + a)
 else
 bif e == (0 : Nat) + a then x ((0 : Nat) + p)
 else x e)]) true false
 none] [T.own 0 0 0 n
 none, T.int .i64 (Int.ofNat a), T.int .i64 (Int.ofNat (a + (1 : Nat))), T.int .i64 (Int.ofNat (b - (1 : Nat)))] [Blk.mk 0 1 n (fun j => [T.int .u8 (y1 j)]) true false
 none] then
 bif weakF [T.own 0 0 0 n
 none, T.int .i64 (Int.ofNat a), T.int .i64 (Int.ofNat i'), T.int .i64 (Int.ofNat (b - (1 : Nat)))] [Blk.mk 0 1 n (fun j => [T.int .u8 (y1 j)]) true false
 none] [T.own 0 0 0 n
 none, T.int .i64 (Int.ofNat a), T.int .i64 (Int.ofNat i'), T.int .i64 (Int.ofNat (b - (1 : Nat)))] [Blk.mk 0 1 n (fun j => [T.int .u8 (y1 j)]) true false
 none] then
 bif decide (Int.ofNat j1 < Int.ofNat i') then
 bif decide ((0 : Int) ≤ Int.ofNat a) && decide (Int.ofNat a < Int.ofNat n) then
 bif ((0 : Nat) + a).blt n then
 bif decide ((0 : Int) ≤ Int.ofNat j1) && decide (Int.ofNat j1 < Int.ofNat n) then
 bif ((0 : Nat) + j1).blt n then
 bif decide ((0 : Int) ≤ Int.ofNat j1) && decide (Int.ofNat j1 < Int.ofNat n) then
 bif ((0 : Nat) + j1).blt n && [T.int .u8 (y1 ((0 : Nat) + a))].length == (1 : Nat) && true && true then
 bif decide ((0 : Int) ≤ Int.ofNat a) && decide (Int.ofNat a < Int.ofNat n) then
 bif ((0 : Nat) + a).blt n && [T.int .u8 (y1 ((0 : Nat) + j1))].length == (1 : Nat) && true && true then
 some ((T.tup [T.int .i64 (Int.ofNat j1), T.bool true], [Blk.mk 0 1 n (fun e => [T.int .u8 (bif e == (0 : Nat) + a then y1 ((0 : Nat) + j1)
 else
 bif e == (0 : Nat) + j1 then y1 ((0 : Nat) + a)
 else y1 e)]) true false
 none]))
 else none else none else none else none else none else none else none else none else
 bif decide ((0 : Int) ≤ Int.ofNat j1) && decide (Int.ofNat j1 < Int.ofNat n) then
 bif ((0 : Nat) + j1).blt n then
 bif decide ((0 : Int) ≤ Int.ofNat i') && decide (Int.ofNat i' < Int.ofNat n) then
 bif ((0 : Nat) + i').blt n then
 bif decide ((0 : Int) ≤ Int.ofNat i') && decide (Int.ofNat i' < Int.ofNat n) then
 bif ((0 : Nat) + i').blt n && [T.int .u8 (y1 ((0 : Nat) + j1))].length == (1 : Nat) && true && true then
 bif decide ((0 : Int) ≤ Int.ofNat j1) && decide (Int.ofNat j1 < Int.ofNat n) then
 bif ((0 : Nat) + j1).blt n && [T.int .u8 (y1 ((0 : Nat) + i'))].length == (1 : Nat) && true && true then
 bif weakF [T.own 0 0 0 n
 none, T.int .i64 (Int.ofNat a), T.int .i64 (IntKind.i64.wrap (Int.ofNat i' + (1 : Int))), T.int .i64 (IntKind.i64.wrap (Int.ofNat j1 - (1 : Int)))] [Blk.mk 0 1 n (fun e => [T.int .u8 (bif e == (0 : Nat) + j1 then y1 ((0 : Nat) + i')
 else
 bif e == (0 : Nat) + i' then y1 ((0 : Nat) + j1)
 else y1 e)]) true false
 none] [T.own 0 0 0 n
 none, T.int .i64 (Int.ofNat a), T.int .i64 (Int.ofNat (i' + (1 : Nat))), T.int .i64 (Int.ofNat (j1 - (1 : Nat)))] [Blk.mk 0 1 n (fun j => [T.int .u8 (y2 j)]) true false
 none] then
 bif decide ((0 : Int) ≤ Int.ofNat a) && decide (Int.ofNat a < Int.ofNat n) then
 bif ((0 : Nat) + a).blt n then
 bif decide ((0 : Int) ≤ Int.ofNat j3) && decide (Int.ofNat j3 < Int.ofNat n) then
 bif ((0 : Nat) + j3).blt n then
 bif decide ((0 : Int) ≤ Int.ofNat j3) && decide (Int.ofNat j3 < Int.ofNat n) then
 bif ((0 : Nat) + j3).blt n && [T.int .u8 (y3 ((0 : Nat) + a))].length == (1 : Nat) && true && true then
 bif decide ((0 : Int) ≤ Int.ofNat a) && decide (Int.ofNat a < Int.ofNat n) then
 bif ((0 : Nat) + a).blt n && [T.int .u8 (y3 ((0 : Nat) + j3))].length == (1 : Nat) && true && true then
 some ((T.tup [T.int .i64 (Int.ofNat j3), T.bool false], [Blk.mk 0 1 n (fun e => [T.int .u8 (bif e == (0 : Nat) + a then y3 ((0 : Nat) + j3)
 else
 bif e == (0 : Nat) + j3 then y3 ((0 : Nat) + a)
 else y3 e)]) true false
 none]))
 else none else none else none else none else none else none else none else none else none else none else none else none else none else none else none else none else none else none else none else none else none else none else none else none else none else none else
 none) from by kernel_rfl)]
    rw [ofNatE a, ofNatE b, ea, eb, ofNatE i', ofNatE j1, ei, ej]
    (repeat (first | (refine bift (by first | assumption | omega | (simp (disch := omega) only [numsE, List.length_cons, List.length_nil, Nat.reduceAdd]; done) | (simp (disch := omega) only [numsE, List.length_cons, List.length_nil, Nat.reduceAdd]; omega)) ?_) | (refine biff (by first | assumption | (simp (disch := omega) only [numsE, List.length_cons, List.length_nil, Nat.reduceAdd]; done) | (simp (disch := omega) only [numsE, List.length_cons, List.length_nil, Nat.reduceAdd]; omega)) ?_)))
    refine bift (weakF_of ⟨rfl, s1⟩) ?_
    refine bift (weakF_of ⟨rfl, .refl _⟩) ?_
    (repeat (first | (refine bift (by first | assumption | omega | (simp (disch := omega) only [numsE, List.length_cons, List.length_nil, Nat.reduceAdd]; done) | (simp (disch := omega) only [numsE, List.length_cons, List.length_nil, Nat.reduceAdd]; omega)) ?_) | (refine biff (by first | assumption | (simp (disch := omega) only [numsE, List.length_cons, List.length_nil, Nat.reduceAdd]; done) | (simp (disch := omega) only [numsE, List.length_cons, List.length_nil, Nat.reduceAdd]; omega)) ?_)))
    refine bift (weakF_of ⟨rfl, s2⟩) ?_
    (repeat (first | (refine bift (by first | assumption | omega | (simp (disch := omega) only [numsE, List.length_cons, List.length_nil, Nat.reduceAdd]; done) | (simp (disch := omega) only [numsE, List.length_cons, List.length_nil, Nat.reduceAdd]; omega)) ?_) | (refine biff (by first | assumption | (simp (disch := omega) only [numsE, List.length_cons, List.length_nil, Nat.reduceAdd]; done) | (simp (disch := omega) only [numsE, List.length_cons, List.length_nil, Nat.reduceAdd]; omega)) ?_)))
    rfl
  · obtain ⟨z1, z2⟩ := g1.parted (by omega)
    refine ⟨Sw (Sw x a p) j1 a, j1, true, z1, z2, ?_⟩
    refine ToldRef.res ?_ (sw_same n (Sw x a p) j1 a)
    have s1 := sw_same n x a p
    clear k1 g1 k3 g3 z1 z2
    generalize Sw x a p = y1 at *
    refine stepR_told hm18 hn18 none_ok (A := A18) (m := 0) (by kernel_rfl) (loopsC hl1 (loops1 hl2)) ?_
    rw [(show stepR P18 G18 A18 noneO 0 84 [(3, litS (v83 n a (a + 1 : Nat) (b - 1 : Nat)) [ub 0 n y1] (.exit 0) (v83 n a i' (b - 1 : Nat)) [ub 0 n y1]), (5, litS (v83 n a i' (b - 1 : Nat)) [ub 0 n y1] (.exit 2) (v83 n a i' j1) [ub 0 n y1])] [.own 0 0 0 n none, .int .i64 a, .int .i64 b, .int .i64 p] [ub 0 n x] =
(
 bif decide ((0 : Int) ≤ Int.ofNat p) && decide (Int.ofNat p < Int.ofNat n) then
 bif ((0 : Nat) + p).blt n then
 bif decide ((0 : Int) ≤ Int.ofNat a) && decide (Int.ofNat a < Int.ofNat n) then
 bif ((0 : Nat) + a).blt n then
 bif decide ((0 : Int) ≤ Int.ofNat a) && decide (Int.ofNat a < Int.ofNat n) then
 bif ((0 : Nat) + a).blt n && [T.int .u8 (x ((0 : Nat) + p))].length == (1 : Nat) && true && true then
 bif decide ((0 : Int) ≤ Int.ofNat p) && decide (Int.ofNat p < Int.ofNat n) then
 bif ((0 : Nat) + p).blt n && [T.int .u8 (x ((0 : Nat) + a))].length == (1 : Nat) && true && true then
 bif weakF [T.own 0 0 0 n
 none, T.int .i64 (Int.ofNat a), T.int .i64 (IntKind.i64.wrap (Int.ofNat a + (1 : Int))), T.int .i64 (IntKind.i64.wrap (Int.ofNat b - (1 : Int)))] [Blk.mk 0 1 n (fun e => [T.int .u8 (bif e == (0 : Nat) + p then x ((0 : Nat) + a)
 else
 bif e == (0 : Nat) + a then x ((0 : Nat) + p)
 else x e)]) true false
 none] [T.own 0 0 0 n
 none, T.int .i64 (Int.ofNat a), T.int .i64 (Int.ofNat (a + (1 : Nat))), T.int .i64 (Int.ofNat (b - (1 : Nat)))] [Blk.mk 0 1 n (fun j => [T.int .u8 (y1 j)]) true false
 none] then
 bif weakF [T.own 0 0 0 n
 none, T.int .i64 (Int.ofNat a), T.int .i64 (Int.ofNat i'), T.int .i64 (Int.ofNat (b - (1 : Nat)))] [Blk.mk 0 1 n (fun j => [T.int .u8 (y1 j)]) true false
 none] [T.own 0 0 0 n
 none, T.int .i64 (Int.ofNat a), T.int .i64 (Int.ofNat i'), T.int .i64 (Int.ofNat (b - (1 : Nat)))] [Blk.mk 0 1 n (fun j => [T.int .u8 (y1 j)]) true false
 none] then
 bif decide (Int.ofNat j1 < Int.ofNat i') then
 bif decide ((0 : Int) ≤ Int.ofNat a) && decide (Int.ofNat a < Int.ofNat n) then
 bif ((0 : Nat) + a).blt n then
 bif decide ((0 : Int) ≤ Int.ofNat j1) && decide (Int.ofNat j1 < Int.ofNat n) then
 bif ((0 : Nat) + j1).blt n then
 bif decide ((0 : Int) ≤ Int.ofNat j1) && decide (Int.ofNat j1 < Int.ofNat n) then
 bif ((0 : Nat) + j1).blt n && [T.int .u8 (y1 ((0 : Nat) + a))].length == (1 : Nat) && true && true then
 bif decide ((0 : Int) ≤ Int.ofNat a) && decide (Int.ofNat a < Int.ofNat n) then
 bif ((0 : Nat) + a).blt n && [T.int .u8 (y1 ((0 : Nat) + j1))].length == (1 : Nat) && true && true then
 some ((T.tup [T.int .i64 (Int.ofNat j1), T.bool true], [Blk.mk 0 1 n (fun e => [T.int .u8 (bif e == (0 : Nat) + a then y1 ((0 : Nat) + j1)
 else
 bif e == (0 : Nat) + j1 then y1 ((0 : Nat) + a)
 else y1 e)]) true false
 none]))
 else none else none else none else none else none else none else none else none else
 bif decide ((0 : Int) ≤ Int.ofNat j1) && decide (Int.ofNat j1 < Int.ofNat n) then
 bif ((0 : Nat) + j1).blt n then
 bif decide ((0 : Int) ≤ Int.ofNat i') && decide (Int.ofNat i' < Int.ofNat n) then
 bif ((0 : Nat) + i').blt n then
 bif decide ((0 : Int) ≤ Int.ofNat i') && decide (Int.ofNat i' < Int.ofNat n) then
 bif ((0 : Nat) + i').blt n && [T.int .u8 (y1 ((0 : Nat) + j1))].length == (1 : Nat) && true && true then
 bif decide ((0 : Int) ≤ Int.ofNat j1) && decide (Int.ofNat j1 < Int.ofNat n) then
 bif ((0 : Nat) + j1).blt n && [T.int .u8 (y1 ((0 : Nat) + i'))].length == (1 : Nat) && true && true then none else none else none else none else none else none else none else none else none else none else none else none else none else none else none else none else none else none else
 none) from by kernel_rfl)]
    rw [ofNatE a, ofNatE b, ea, eb, ofNatE i', ofNatE j1]
    (repeat (first | (refine bift (by first | assumption | omega | (simp (disch := omega) only [numsE, List.length_cons, List.length_nil, Nat.reduceAdd]; done) | (simp (disch := omega) only [numsE, List.length_cons, List.length_nil, Nat.reduceAdd]; omega)) ?_) | (refine biff (by first | assumption | (simp (disch := omega) only [numsE, List.length_cons, List.length_nil, Nat.reduceAdd]; done) | (simp (disch := omega) only [numsE, List.length_cons, List.length_nil, Nat.reduceAdd]; omega)) ?_)))
    refine bift (weakF_of ⟨rfl, s1⟩) ?_
    refine bift (weakF_of ⟨rfl, .refl _⟩) ?_
    (repeat (first | (refine bift (by first | assumption | omega | (simp (disch := omega) only [numsE, List.length_cons, List.length_nil, Nat.reduceAdd]; done) | (simp (disch := omega) only [numsE, List.length_cons, List.length_nil, Nat.reduceAdd]; omega)) ?_) | (refine biff (by first | assumption | (simp (disch := omega) only [numsE, List.length_cons, List.length_nil, Nat.reduceAdd]; done) | (simp (disch := omega) only [numsE, List.length_cons, List.length_nil, Nat.reduceAdd]; omega)) ?_)))
    rfl
theorem peqT (n a b p : Nat) (x : Nat → Int) (hn : n ≤ 1000) (hb : b ≤ n) (ha : a ≤ p) (hp : p < b) (h2 : a + 1 < b) (hmin : ∀ e, a ≤ e → e < b → x p ≤ x e) :
    ∃ z m, Pr x z a b ∧ a < m ∧ m ≤ b ∧ (∀ e f, a ≤ e → e < m → a ≤ f → f < b → z e ≤ z f) ∧ ToldRef P18 G18 83 [.own 0 0 0 n none, .int .i64 a, .int .i64 b, .int .i64 p] [ub 0 n x] (.int .i64 (m : Nat)) [ub 0 n z] := by
  obtain ⟨i3, j3, z, m1, m2, hl3⟩ := m83 n a b x (Sw x a p) (a + 1) (b - 1) (x p) hn hb (PInv.start x ha hp h2)
  have ea : IntKind.i64.wrap ((a : Int) + 1) = ((a + 1 : Nat) : Int) := by rw [wr64 (by omega) (by omega)]; omega
  have eb : IntKind.i64.wrap ((b : Int) - 1) = ((b - 1 : Nat) : Int) := by rw [wr64 (by omega) (by omega)]; omega
  refine ⟨z, i3, m1.pr, m1.ai, by have := m1.jb; omega, fun e f g1 g2 g3 g4 => ?_, ?_⟩
  · have hall : ∀ f, a ≤ f → f < b → x p ≤ z f := fun f g3 g4 => by
      obtain ⟨e', h1, h2, h3⟩ := (m1.pr.mem (z f)).1 ⟨f, g3, g4, rfl⟩
      rw [← h3]; exact hmin e' h1 h2
    have h1 : z e ≤ z a := by
      by_cases q : e = a
      · rw [q]; exact Int.le_refl _
      · exact Int.not_lt.1 (m1.left e (by omega) g2)
    rw [m1.piv] at h1
    exact Int.le_trans h1 (hall f g3 g4)
  · have s1 := sw_same n x a p
    clear m1 hmin
    generalize Sw x a p = y1 at *
    refine stepR_told hm18 hn18 none_ok (A := A18) (m := 0) (by kernel_rfl) (loops1 hl3) ?_
    rw [(show stepR P18 G18 A18 noneO 0 83 [(7, litS (v83 n a (a + 1 : Nat) (b - 1 : Nat)) [ub 0 n y1] (.exit 0) [.int .i64 i3] [ub 0 n z])] [.own 0 0 0 n none, .int .i64 a, .int .i64 b, .int .i64 p] [ub 0 n x] =
(
 bif decide ((0 : Int) ≤ Int.ofNat p) && decide (Int.ofNat p < Int.ofNat n) then
 bif ((0 : Nat) + p).blt n then
 bif decide ((0 : Int) ≤ Int.ofNat a) && decide (Int.ofNat a < Int.ofNat n) then
 bif ((0 : Nat) + a).blt n then
 bif decide ((0 : Int) ≤ Int.ofNat a) && decide (Int.ofNat a < Int.ofNat n) then
 bif ((0 : Nat) + a).blt n && [T.int .u8 (x ((0 : Nat) + p))].length == (1 : Nat) && true && true then
 bif decide ((0 : Int) ≤ Int.ofNat p) && decide (Int.ofNat p < Int.ofNat n) then
 bif ((0 : Nat) + p).blt n && [T.int .u8 (x ((0 : Nat) + a))].length == (1 : Nat) && true && true then
 bif weakF [T.own 0 0 0 n
 none, T.int .i64 (Int.ofNat a), T.int .i64 (IntKind.i64.wrap (Int.ofNat a + (1 : Int))), T.int .i64 (IntKind.i64.wrap (Int.ofNat b - (1 : Int)))] [Blk.mk 0 1 n (fun e => [T.int .u8 (bif e == (0 : Nat) + p then x ((0 : Nat) + a)
 else
 bif e == (0 : Nat) + a then x ((0 : Nat) + p)
 else x e)]) true false
 none] [T.own 0 0 0 n
 none, T.int .i64 (Int.ofNat a), T.int .i64 (Int.ofNat (a + (1 : Nat))), T.int .i64 (Int.ofNat (b - (1 : Nat)))] [Blk.mk 0 1 n (fun j => [T.int .u8 (y1 j)]) true false
 none] then
 some ((T.int .i64 (Int.ofNat i3), [Blk.mk 0 1 n (fun j => [T.int .u8 (z j)]) true false
 none]))
 else none else none else none else none else none else none else none else none else
 none) from by kernel_rfl)]
    rw [ofNatE a, ofNatE b, ea, eb]
    (repeat (first | (refine bift (by first | assumption | omega | (simp (disch := omega) only [numsE, List.length_cons, List.length_nil, Nat.reduceAdd]; done) | (simp (disch := omega) only [numsE, List.length_cons, List.length_nil, Nat.reduceAdd]; omega)) ?_) | (refine biff (by first | assumption | (simp (disch := omega) only [numsE, List.length_cons, List.length_nil, Nat.reduceAdd]; done) | (simp (disch := omega) only [numsE, List.length_cons, List.length_nil, Nat.reduceAdd]; omega)) ?_)))
    refine bift (weakF_of ⟨rfl, s1⟩) ?_
    rfl
end Go.Ab

namespace Go.Ab
open Go.Proofs
def rb (r : Int) : Blk := ⟨0, 1, 1, fun _ => [.int .u64 r], true, false, none⟩
def v78 (n a l : Nat) (m i : Int) : List T := [.own 0 0 0 n none, .int .i64 a, .int .i64 l, .ptr 1 0 0 0, .int .u64 m, .int .i64 i]
noncomputable def K78 (p : List T → Heap → T → Heap → Prop) (n : Nat) (y : Nat → Int) (v r2 : Int) : Orc := noneO.addRef 91 (refF p fun _ _ => some (.int .u64 v, [ub 0 n y, rb r2]))
noncomputable def K90 (p : List T → T → Prop) (l : Int) : Orc := noneO.add 71 (callF p fun _ => some (.int .i64 l))
noncomputable def K78b (p : List T → T → Prop) (m : Int) : Orc := noneO.add 90 (callF p fun _ => some (.int .u64 m))
def rnd1 (r : Int) : Int := bitsOf BinOp.xor IntKind.u64 r (IntKind.u64.wrap (r * 8192))
def rnd2 (r : Int) : Int := bitsOf BinOp.xor IntKind.u64 (rnd1 r) ((rnd1 r).fdiv 128)
def rnd3 (r : Int) : Int := bitsOf BinOp.xor IntKind.u64 (rnd2 r) (IntKind.u64.wrap (rnd2 r * 131072))
theorem and_bd (v : Int) (m : Nat) (h1 : 1 ≤ m) (h2 : m ≤ 1000) : ∃ o : Nat, IntKind.i64.wrap (bitsOf BinOp.and IntKind.u64 v (IntKind.u64.wrap ((m : Int) - 1))) = (o : Int) ∧ o < m := by
  rw [wru64 (x := (m : Int) - 1) (by omega) (by omega), show (m : Int) - 1 = ((m - 1 : Nat) : Int) by omega]
  unfold bitsOf
  obtain ⟨o, ho⟩ : ∃ o : Nat, (BitVec.ofInt IntKind.u64.bits v &&& BitVec.ofInt IntKind.u64.bits ((m - 1 : Nat) : Int)).toNat = o := ⟨_, rfl⟩
  have hle : o ≤ m - 1 := by
    rw [← ho]
    show (BitVec.ofInt 64 v &&& BitVec.ofInt 64 ((m - 1 : Nat) : Int)).toNat ≤ m - 1
    rw [BitVec.toNat_and, BitVec.toNat_ofInt, BitVec.toNat_ofInt]
    refine Nat.le_trans Nat.and_le_right ?_
    omega
  refine ⟨o, ?_, by omega⟩
  show IntKind.i64.wrap (IntKind.u64.wrap ((BitVec.ofInt IntKind.u64.bits v &&& BitVec.ofInt IntKind.u64.bits ((m - 1 : Nat) : Int)).toNat : Int)) = _
  rw [ho, wru64 (by omega) (by omega), wr64 (by omega) (by omega)]
theorem rndT (n : Nat) (y : Nat → Int) (r : Int) : ∃ v r2, ToldRef P18 G18 91 [.ptr 1 0 0 0] [ub 0 n y, rb r] (.int .u64 v) [ub 0 n y, rb r2] := by
  refine ⟨rnd3 r, rnd3 r, ToldRef.res (stepR_told hm18 hn18 none_ok (A := A18) (m := 0) (by kernel_rfl) (l := []) loops0 (show stepR P18 G18 A18 noneO 0 91 [] [.ptr 1 0 0 0] [ub 0 n y, rb r] =
(
 some ((T.int .u64 (bitsOf BinOp.xor IntKind.u64 (bitsOf BinOp.xor IntKind.u64 (bitsOf BinOp.xor IntKind.u64 r (IntKind.u64.wrap (r * (8192 : Int)))) ((bitsOf BinOp.xor IntKind.u64 r (IntKind.u64.wrap (r * (8192 : Int)))).fdiv (128 : Int))) (IntKind.u64.wrap (bitsOf BinOp.xor IntKind.u64 (bitsOf BinOp.xor IntKind.u64 r (IntKind.u64.wrap (r * (8192 : Int)))) ((bitsOf BinOp.xor IntKind.u64 r (IntKind.u64.wrap (r * (8192 : Int)))).fdiv (128 : Int)) * (131072 : Int)))), [Blk.mk 0 1 n (fun j => [T.int .u8 (y j)]) true false
 none, Blk.mk 0 1 1 (fun e => [T.int .u64 (bif e == (0 : Nat) then bitsOf BinOp.xor IntKind.u64 (bitsOf BinOp.xor IntKind.u64 (bitsOf BinOp.xor IntKind.u64 r (IntKind.u64.wrap (r * (8192 : Int)))) ((bitsOf BinOp.xor IntKind.u64 r (IntKind.u64.wrap (r * (8192 : Int)))).fdiv (128 : Int))) (IntKind.u64.wrap (bitsOf BinOp.xor IntKind.u64 (bitsOf BinOp.xor IntKind.u64 r (IntKind.u64.wrap (r * (8192 : Int)))) ((bitsOf BinOp.xor IntKind.u64 r (IntKind.u64.wrap (r * (8192 : Int)))).fdiv (128 : Int)) * (131072 : Int)))
 else
 bif e == (0 : Nat) then bitsOf BinOp.xor IntKind.u64 (bitsOf BinOp.xor IntKind.u64 r (IntKind.u64.wrap (r * (8192 : Int)))) ((bitsOf BinOp.xor IntKind.u64 r (IntKind.u64.wrap (r * (8192 : Int)))).fdiv (128 : Int))
 else
 bif e == (0 : Nat) then bitsOf BinOp.xor IntKind.u64 r (IntKind.u64.wrap (r * (8192 : Int)))
 else r)]) true false
 none]))) from by kernel_rfl)) (.cons ⟨rfl, rfl, rfl, id, fun _ _ => rfl⟩ (.cons ⟨rfl, rfl, rfl, id, fun j hj => ?_⟩ .nil))⟩
  obtain rfl := one_of hj
  rfl
theorem pow2T (l : Nat) (h1 : 13 ≤ l) (h2 : l ≤ 16) : ∃ m : Nat, 1 ≤ m ∧ m ≤ 2 * l ∧ ToldOk P18 G18 90 [.int .i64 l] (.int .u64 (m : Nat)) := by
  obtain ⟨q, hq⟩ := is_val P18 G18 71
  have e : IntKind.u64.wrap (Int.ofNat l) = (l : Int) := wru64 (x := (l : Int)) (by omega) (by omega)
  have key : ∀ k : Nat, k ≤ 5 → 2 ^ k ≤ 2 * l → ToldOk P18 G18 71 [.int .u64 l] (.int .i64 (k : Nat)) → ∃ m : Nat, 1 ≤ m ∧ m ≤ 2 * l ∧ ToldOk P18 G18 90 [.int .i64 l] (.int .u64 (m : Nat)) := fun k hk hk2 t => by
    refine ⟨2 ^ k, Nat.one_le_two_pow, hk2, ?_⟩
    refine stepV_told hm18 hn18 (K := K90 q (k : Nat)) (told_add none_ok (callF_told hq)) (A := A18) (m := 0) ?_
    generalize hkk : ((k : Nat) : Int) = kk at *
    rw [(show stepV P18 G18 A18 (K90 q kk) 0 90 [.int .i64 l] =
(
 bif decF (q [T.int .u64 (IntKind.u64.wrap (Int.ofNat l))] (T.int .i64 kk)) then
 bif decide ((0 : Int) ≤ kk) then
 some (T.int .u64 (IntKind.u64.wrap ((1 : Int) * (2 : Int) ^ min kk.toNat (64 : Nat))))
 else none else
 none) from by kernel_rfl)]
    rw [e]
    refine bift (callF_yes hq t) ?_
    refine bift (by first | assumption | omega | (simp (disch := omega) only [numsE, List.length_cons, List.length_nil, Nat.reduceAdd]; done) | (simp (disch := omega) only [numsE, List.length_cons, List.length_nil, Nat.reduceAdd]; omega)) ?_
    rw [← hkk, toNatE, Nat.min_eq_left (by omega), Int.one_mul]
    have : ((2 : Int) ^ k) = ((2 ^ k : Nat) : Int) := by norm_cast
    have h32 : 2 ^ k ≤ 1000 := by omega
    rw [this]
    clear this
    generalize 2 ^ k = w at *
    rw [wru64 (x := (w : Int)) (by omega) (by omega)]
  have s : ∀ k : Nat, stepV P18 G18 A18 K86 0 71 [.int .u64 l] = some (.int .i64 (k : Nat)) → ToldOk P18 G18 71 [.int .u64 l] (.int .i64 (k : Nat)) := fun k h => stepV_told hm18 hn18 (told_inl hm18 hn18 none_ok none_ok) h
  obtain rfl | rfl | rfl | rfl : l = 13 ∨ l = 14 ∨ l = 15 ∨ l = 16 := by omega
  · exact key 4 (by omega) (by omega) (s 4 (by kernel_rfl))
  · exact key 4 (by omega) (by omega) (s 4 (by kernel_rfl))
  · exact key 4 (by omega) (by omega) (s 4 (by kernel_rfl))
  · exact key 5 (by omega) (by omega) (s 5 (by kernel_rfl))
theorem brkT (n a b : Nat) (x : Nat → Int) (hn : n ≤ 1000) (hb : b ≤ n) (h13 : a + 13 ≤ b) (h16 : b ≤ a + 16) :
    ∃ z B, Pr x z a b ∧ ToldRef P18 G18 78 [.own 0 0 0 n none, .int .i64 a, .int .i64 b] [ub 0 n x] (.tup []) [ub 0 n z, B] := by
  obtain ⟨l, hl⟩ : ∃ l, b = a + l := ⟨b - a, by omega⟩
  obtain ⟨q, hq⟩ : ∃ q : Nat, l / 4 = q := ⟨_, rfl⟩
  obtain ⟨m, hm1, hm2, t90⟩ := pow2T l (by omega) (by omega)
  obtain ⟨p91, hp91⟩ := is_ref P18 G18 91
  obtain ⟨p90, hp90⟩ := is_val P18 G18 90
  have eq0 : IntKind.i64.wrap ((Int.ofNat l).tdiv 4) = (q : Int) := by
    have : (Int.ofNat l).tdiv 4 = (q : Int) := by rw [← hq]; rfl
    rw [this, wr64 (by omega) (by omega)]
  have e2 : IntKind.i64.wrap ((q : Int) * 2) = ((2 * q : Nat) : Int) := by rw [wr64 (by omega) (by omega)]; omega
  have p2 : IntKind.i64.wrap (Int.ofNat a + ((2 * q : Nat) : Int)) = ((a + 2 * q : Nat) : Int) := by rw [ofNatE, wr64 (by omega) (by omega)]; omega
  have p3 : IntKind.i64.wrap (((a + 2 * q : Nat) : Int) + 1) = ((a + 2 * q + 1 : Nat) : Int) := by rw [wr64 (by omega) (by omega)]; omega
  have p4 : IntKind.i64.wrap (((a + 2 * q : Nat) : Int) - 1) = ((a + 2 * q - 1 : Nat) : Int) := by rw [wr64 (by omega) (by omega)]; omega
  have hL : ∃ z r2, Pr x z a b ∧ LoopOk P18 G18 (A18 78) 78 5 (litS (v78 n a l m (a + 2 * q - 1 : Nat)) [ub 0 n x, rb l] (.exit 0) [] [ub 0 n z, rb r2]) := by
    refine Exists.elim (loop_exists (P := P18) (Gl := G18) (f := 78) (r := 5) (an := A18 78) (k := 2) hm18 (by kernel_rfl)
      (fun s vs h => ∃ (i : Nat) (y : Nat → Int) (r : Int), s = a + 2 * q + 2 - i ∧ a ≤ i ∧ vs = v78 n a l m i ∧ h = [ub 0 n y, rb r] ∧ Pr x y a b)
      (fun e vs1 h1 => ∃ z r2, e = .exit 0 ∧ vs1 = [] ∧ h1 = [ub 0 n z, rb r2] ∧ Pr x z a b)
      (fun s vs h ⟨i, y, r, hs, hi, hv, hh, hI⟩ => ?_) (n := a + 2 * q + 2 - (a + 2 * q - 1)) (vs := v78 n a l m (a + 2 * q - 1 : Nat)) (h := [ub 0 n x, rb l]) rfl ⟨a + 2 * q - 1, x, l, rfl, by omega, rfl, rfl, .refl _ _ _⟩) ?_
    · subst hs hv hh
      by_cases qi : i ≤ a + 2 * q + 1
      · obtain ⟨v, r2, t91⟩ := rndT n y r
        obtain ⟨o, ho1, ho2⟩ := and_bd v m hm1 (by omega)
        have ei : IntKind.i64.wrap ((i : Int) + 1) = ((i + 1 : Nat) : Int) := by rw [wr64 (by omega) (by omega)]; omega
        have fin : ∀ w : Nat, w < l → Step P18 G18 (A18 78) 78 5 2 (v78 n a l m i) [ub 0 n y, rb r] (v78 n a l m (i + 1 : Nat)) [ub 0 n (swB y i (a + w)), rb r2] → (∃ m' vs' h', m' < a + 2 * q + 2 - i ∧ Step P18 G18 (A18 78) 78 5 2 (v78 n a l m i) [ub 0 n y, rb r] vs' h' ∧ ∃ (i : Nat) (y : Nat → Int) (r : Int), m' = a + 2 * q + 2 - i ∧ a ≤ i ∧ vs' = v78 n a l m i ∧ h' = [ub 0 n y, rb r] ∧ Pr x y a b) := fun w hw hst =>
          ⟨a + 2 * q + 2 - (i + 1), _, _, by omega, hst, i + 1, _, r2, rfl, by omega, rfl, rfl, hI.trans (by
            have e : swB y i (a + w) = Sw y i (a + w) := by funext e; exact (swap_fun y i (a + w) e).symm
            rw [e]
            exact Pr.swap y (i := a + w) (j := i) ⟨by omega, by omega⟩ ⟨hi, by omega⟩)⟩
        left
        by_cases qo : l ≤ o
        · refine fin (o - l) (by omega) ?_
          refine Step.mk0 (A := A18) (K := K78 p91 n y v r2) (m := 0) (told_addRef none_ok (refF_told hp91)) rfl rfl loops0 (h1 := [ub 0 n (swB y i (a + (o - l))), rb r2]) ?_ (.refl _)
          have ew : IntKind.i64.wrap ((o : Int) - Int.ofNat l) = ((o - l : Nat) : Int) := by rw [ofNatE, wr64 (by omega) (by omega)]; omega
          have ep : IntKind.i64.wrap (Int.ofNat a + ((o - l : Nat) : Int)) = ((a + (o - l) : Nat) : Int) := by rw [ofNatE, wr64 (by omega) (by omega)]; omega
          generalize hmm : (m : Int) = mm at *
          rw [(show iterR P18 G18 A18 (K78 p91 n y v r2) 0 78 [] 5 (v78 n a l mm i) [ub 0 n y, rb r] =
(
 bif decide (Int.ofNat i ≤ IntKind.i64.wrap (IntKind.i64.wrap (Int.ofNat a + IntKind.i64.wrap (IntKind.i64.wrap ((Int.ofNat l).tdiv (4 : Int)) * (2 : Int))) + (1 : Int))) then
 bif decF (p91 [T.ptr 1 0 0 0] [Blk.mk 0 1 n (fun j => [T.int .u8 (y j)]) true false
 none, Blk.mk 0 1 1 (fun x => [T.int .u64 r]) true false
 none] (T.int .u64 v) [Blk.mk 0 1 n (fun j => [T.int .u8 (y j)]) true false
 none, Blk.mk 0 1 1 (fun x => [T.int .u64 r2]) true false
 none]) then
 bif decide (Int.ofNat l ≤ IntKind.i64.wrap (bitsOf BinOp.and IntKind.u64 v (IntKind.u64.wrap (mm - (1 : Int))))) then
 bif decide ((0 : Int) ≤ IntKind.i64.wrap (Int.ofNat a + IntKind.i64.wrap (IntKind.i64.wrap (bitsOf BinOp.and IntKind.u64 v (IntKind.u64.wrap (mm - (1 : Int)))) - Int.ofNat l))) && decide (IntKind.i64.wrap (Int.ofNat a + IntKind.i64.wrap (IntKind.i64.wrap (bitsOf BinOp.and IntKind.u64 v (IntKind.u64.wrap (mm - (1 : Int)))) - Int.ofNat l)) < Int.ofNat n) then
 bif ((0 : Nat) + (IntKind.i64.wrap (Int.ofNat a + IntKind.i64.wrap (IntKind.i64.wrap (bitsOf BinOp.and IntKind.u64 v (IntKind.u64.wrap (mm - (1 : Int)))) - Int.ofNat l))).toNat).blt n then
 bif decide ((0 : Int) ≤ Int.ofNat i) && decide (Int.ofNat i < Int.ofNat n) then
 bif ((0 : Nat) + i).blt n then
 bif decide ((0 : Int) ≤ Int.ofNat i) && decide (Int.ofNat i < Int.ofNat n) then
 bif ((0 : Nat) + i).blt n && [T.int .u8 (y ((0 : Nat) + (IntKind.i64.wrap (Int.ofNat a + IntKind.i64.wrap (IntKind.i64.wrap (bitsOf BinOp.and IntKind.u64 v (IntKind.u64.wrap (mm - (1 : Int)))) - Int.ofNat l))).toNat))].length == (1 : Nat) && true && true then
 bif decide ((0 : Int) ≤ IntKind.i64.wrap (Int.ofNat a + IntKind.i64.wrap (IntKind.i64.wrap (bitsOf BinOp.and IntKind.u64 v (IntKind.u64.wrap (mm - (1 : Int)))) - Int.ofNat l))) && decide (IntKind.i64.wrap (Int.ofNat a + IntKind.i64.wrap (IntKind.i64.wrap (bitsOf BinOp.and IntKind.u64 v (IntKind.u64.wrap (mm - (1 : Int)))) - Int.ofNat l)) < Int.ofNat n) then
 bif ((0 : Nat) + (IntKind.i64.wrap (Int.ofNat a + IntKind.i64.wrap (IntKind.i64.wrap (bitsOf BinOp.and IntKind.u64 v (IntKind.u64.wrap (mm - (1 : Int)))) - Int.ofNat l))).toNat).blt n && [T.int .u8 (y ((0 : Nat) + i))].length == (1 : Nat) && true && true then
 some ((Ex.normal, [T.own 0 0 0 n
 none, T.int .i64 (Int.ofNat a), T.int .i64 (Int.ofNat l), T.ptr 1 0 0 0, T.int .u64 mm, T.int .i64 (IntKind.i64.wrap (Int.ofNat i + (1 : Int)))], [Blk.mk 0 1 n (fun e => [T.int .u8 (bif e == (0 : Nat) + (IntKind.i64.wrap (Int.ofNat a + IntKind.i64.wrap (IntKind.i64.wrap (bitsOf BinOp.and IntKind.u64 v (IntKind.u64.wrap (mm - (1 : Int)))) - Int.ofNat l))).toNat then y ((0 : Nat) + i)
 else
 bif e == (0 : Nat) + i then y ((0 : Nat) + (IntKind.i64.wrap (Int.ofNat a + IntKind.i64.wrap (IntKind.i64.wrap (bitsOf BinOp.and IntKind.u64 v (IntKind.u64.wrap (mm - (1 : Int)))) - Int.ofNat l))).toNat)
 else y e)]) true false
 none, Blk.mk 0 1 1 (fun x => [T.int .u64 r2]) true false
 none]))
 else none else none else none else none else none else none else none else none else
 bif decide ((0 : Int) ≤ IntKind.i64.wrap (Int.ofNat a + IntKind.i64.wrap (bitsOf BinOp.and IntKind.u64 v (IntKind.u64.wrap (mm - (1 : Int)))))) && decide (IntKind.i64.wrap (Int.ofNat a + IntKind.i64.wrap (bitsOf BinOp.and IntKind.u64 v (IntKind.u64.wrap (mm - (1 : Int))))) < Int.ofNat n) then
 bif ((0 : Nat) + (IntKind.i64.wrap (Int.ofNat a + IntKind.i64.wrap (bitsOf BinOp.and IntKind.u64 v (IntKind.u64.wrap (mm - (1 : Int)))))).toNat).blt n then
 bif decide ((0 : Int) ≤ Int.ofNat i) && decide (Int.ofNat i < Int.ofNat n) then
 bif ((0 : Nat) + i).blt n then
 bif decide ((0 : Int) ≤ Int.ofNat i) && decide (Int.ofNat i < Int.ofNat n) then
 bif ((0 : Nat) + i).blt n && [T.int .u8 (y ((0 : Nat) + (IntKind.i64.wrap (Int.ofNat a + IntKind.i64.wrap (bitsOf BinOp.and IntKind.u64 v (IntKind.u64.wrap (mm - (1 : Int)))))).toNat))].length == (1 : Nat) && true && true then
 bif decide ((0 : Int) ≤ IntKind.i64.wrap (Int.ofNat a + IntKind.i64.wrap (bitsOf BinOp.and IntKind.u64 v (IntKind.u64.wrap (mm - (1 : Int)))))) && decide (IntKind.i64.wrap (Int.ofNat a + IntKind.i64.wrap (bitsOf BinOp.and IntKind.u64 v (IntKind.u64.wrap (mm - (1 : Int))))) < Int.ofNat n) then
 bif ((0 : Nat) + (IntKind.i64.wrap (Int.ofNat a + IntKind.i64.wrap (bitsOf BinOp.and IntKind.u64 v (IntKind.u64.wrap (mm - (1 : Int)))))).toNat).blt n && [T.int .u8 (y ((0 : Nat) + i))].length == (1 : Nat) && true && true then
 some ((Ex.normal, [T.own 0 0 0 n
 none, T.int .i64 (Int.ofNat a), T.int .i64 (Int.ofNat l), T.ptr 1 0 0 0, T.int .u64 mm, T.int .i64 (IntKind.i64.wrap (Int.ofNat i + (1 : Int)))], [Blk.mk 0 1 n (fun e => [T.int .u8 (bif e == (0 : Nat) + (IntKind.i64.wrap (Int.ofNat a + IntKind.i64.wrap (bitsOf BinOp.and IntKind.u64 v (IntKind.u64.wrap (mm - (1 : Int)))))).toNat then y ((0 : Nat) + i)
 else
 bif e == (0 : Nat) + i then y ((0 : Nat) + (IntKind.i64.wrap (Int.ofNat a + IntKind.i64.wrap (bitsOf BinOp.and IntKind.u64 v (IntKind.u64.wrap (mm - (1 : Int)))))).toNat)
 else y e)]) true false
 none, Blk.mk 0 1 1 (fun x => [T.int .u64 r2]) true false
 none]))
 else none else none else none else none else none else none else none else none else none else
 some ((Ex.exit 0, [], [Blk.mk 0 1 n (fun j => [T.int .u8 (y j)]) true false
 none, Blk.mk 0 1 1 (fun x => [T.int .u64 r]) true false
 none]))) from by kernel_rfl)]
          rw [eq0, e2, p2, p3, ho1, ew, ep, ofNatE i, ei, toNatE]
          refine bift (by first | assumption | omega | (simp (disch := omega) only [numsE, List.length_cons, List.length_nil, Nat.reduceAdd]; done) | (simp (disch := omega) only [numsE, List.length_cons, List.length_nil, Nat.reduceAdd]; omega)) ?_
          refine bift (refF_yes hp91 t91) ?_
          clear hI t91
          (repeat (first | (refine bift (by first | assumption | omega | (simp (disch := omega) only [numsE, List.length_cons, List.length_nil, Nat.reduceAdd]; done) | (simp (disch := omega) only [numsE, List.length_cons, List.length_nil, Nat.reduceAdd]; omega)) ?_) | (refine biff (by first | assumption | (simp (disch := omega) only [numsE, List.length_cons, List.length_nil, Nat.reduceAdd]; done) | (simp (disch := omega) only [numsE, List.length_cons, List.length_nil, Nat.reduceAdd]; omega)) ?_)))
          rfl
        · refine fin o (by omega) ?_
          refine Step.mk0 (A := A18) (K := K78 p91 n y v r2) (m := 0) (told_addRef none_ok (refF_told hp91)) rfl rfl loops0 (h1 := [ub 0 n (swB y i (a + o)), rb r2]) ?_ (.refl _)
          have ep : IntKind.i64.wrap (Int.ofNat a + (o : Int)) = ((a + o : Nat) : Int) := by rw [ofNatE, wr64 (by omega) (by omega)]; omega
          generalize hmm : (m : Int) = mm at *
          rw [(show iterR P18 G18 A18 (K78 p91 n y v r2) 0 78 [] 5 (v78 n a l mm i) [ub 0 n y, rb r] =
(
 bif decide (Int.ofNat i ≤ IntKind.i64.wrap (IntKind.i64.wrap (Int.ofNat a + IntKind.i64.wrap (IntKind.i64.wrap ((Int.ofNat l).tdiv (4 : Int)) * (2 : Int))) + (1 : Int))) then
 bif decF (p91 [T.ptr 1 0 0 0] [Blk.mk 0 1 n (fun j => [T.int .u8 (y j)]) true false
 none, Blk.mk 0 1 1 (fun x => [T.int .u64 r]) true false
 none] (T.int .u64 v) [Blk.mk 0 1 n (fun j => [T.int .u8 (y j)]) true false
 none, Blk.mk 0 1 1 (fun x => [T.int .u64 r2]) true false
 none]) then
 bif decide (Int.ofNat l ≤ IntKind.i64.wrap (bitsOf BinOp.and IntKind.u64 v (IntKind.u64.wrap (mm - (1 : Int))))) then
 bif decide ((0 : Int) ≤ IntKind.i64.wrap (Int.ofNat a + IntKind.i64.wrap (IntKind.i64.wrap (bitsOf BinOp.and IntKind.u64 v (IntKind.u64.wrap (mm - (1 : Int)))) - Int.ofNat l))) && decide (IntKind.i64.wrap (Int.ofNat a + IntKind.i64.wrap (IntKind.i64.wrap (bitsOf BinOp.and IntKind.u64 v (IntKind.u64.wrap (mm - (1 : Int)))) - Int.ofNat l)) < Int.ofNat n) then
 bif ((0 : Nat) + (IntKind.i64.wrap (Int.ofNat a + IntKind.i64.wrap (IntKind.i64.wrap (bitsOf BinOp.and IntKind.u64 v (IntKind.u64.wrap (mm - (1 : Int)))) - Int.ofNat l))).toNat).blt n then
 bif decide ((0 : Int) ≤ Int.ofNat i) && decide (Int.ofNat i < Int.ofNat n) then
 bif ((0 : Nat) + i).blt n then
 bif decide ((0 : Int) ≤ Int.ofNat i) && decide (Int.ofNat i < Int.ofNat n) then
 bif ((0 : Nat) + i).blt n && [T.int .u8 (y ((0 : Nat) + (IntKind.i64.wrap (Int.ofNat a + IntKind.i64.wrap (IntKind.i64.wrap (bitsOf BinOp.and IntKind.u64 v (IntKind.u64.wrap (mm - (1 : Int)))) - Int.ofNat l))).toNat))].length == (1 : Nat) && true && true then
 bif decide ((0 : Int) ≤ IntKind.i64.wrap (Int.ofNat a + IntKind.i64.wrap (IntKind.i64.wrap (bitsOf BinOp.and IntKind.u64 v (IntKind.u64.wrap (mm - (1 : Int)))) - Int.ofNat l))) && decide (IntKind.i64.wrap (Int.ofNat a + IntKind.i64.wrap (IntKind.i64.wrap (bitsOf BinOp.and IntKind.u64 v (IntKind.u64.wrap (mm - (1 : Int)))) - Int.ofNat l)) < Int.ofNat n) then
 bif ((0 : Nat) + (IntKind.i64.wrap (Int.ofNat a + IntKind.i64.wrap (IntKind.i64.wrap (bitsOf BinOp.and IntKind.u64 v (IntKind.u64.wrap (mm - (1 : Int)))) - Int.ofNat l))).toNat).blt n && [T.int .u8 (y ((0 : Nat) + i))].length == (1 : Nat) && true && true then
 some ((Ex.normal, [T.own 0 0 0 n
 none, T.int .i64 (Int.ofNat a), T.int .i64 (Int.ofNat l), T.ptr 1 0 0 0, T.int .u64 mm, T.int .i64 (IntKind.i64.wrap (Int.ofNat i + (1 : Int)))], [Blk.mk 0 1 n (fun e => [T.int .u8 (bif e == (0 : Nat) + (IntKind.i64.wrap (Int.ofNat a + IntKind.i64.wrap (IntKind.i64.wrap (bitsOf BinOp.and IntKind.u64 v (IntKind.u64.wrap (mm - (1 : Int)))) - Int.ofNat l))).toNat then y ((0 : Nat) + i)
 else
 bif e == (0 : Nat) + i then y ((0 : Nat) + (IntKind.i64.wrap (Int.ofNat a + IntKind.i64.wrap (IntKind.i64.wrap (bitsOf BinOp.and IntKind.u64 v (IntKind.u64.wrap (mm - (1 : Int)))) - Int.ofNat l))).toNat)
 else y e)]) true false
 none, Blk.mk 0 1 1 (fun x => [T.int .u64 r2]) true false
 none]))
 else none else none else none else none else none else none else none else none else
 bif decide ((0 : Int) ≤ IntKind.i64.wrap (Int.ofNat a + IntKind.i64.wrap (bitsOf BinOp.and IntKind.u64 v (IntKind.u64.wrap (mm - (1 : Int)))))) && decide (IntKind.i64.wrap (Int.ofNat a + IntKind.i64.wrap (bitsOf BinOp.and IntKind.u64 v (IntKind.u64.wrap (mm - (1 : Int))))) < Int.ofNat n) then
 bif ((0 : Nat) + (IntKind.i64.wrap (Int.ofNat a + IntKind.i64.wrap (bitsOf BinOp.and IntKind.u64 v (IntKind.u64.wrap (mm - (1 : Int)))))).toNat).blt n then
 bif decide ((0 : Int) ≤ Int.ofNat i) && decide (Int.ofNat i < Int.ofNat n) then
 bif ((0 : Nat) + i).blt n then
 bif decide ((0 : Int) ≤ Int.ofNat i) && decide (Int.ofNat i < Int.ofNat n) then
 bif ((0 : Nat) + i).blt n && [T.int .u8 (y ((0 : Nat) + (IntKind.i64.wrap (Int.ofNat a + IntKind.i64.wrap (bitsOf BinOp.and IntKind.u64 v (IntKind.u64.wrap (mm - (1 : Int)))))).toNat))].length == (1 : Nat) && true && true then
 bif decide ((0 : Int) ≤ IntKind.i64.wrap (Int.ofNat a + IntKind.i64.wrap (bitsOf BinOp.and IntKind.u64 v (IntKind.u64.wrap (mm - (1 : Int)))))) && decide (IntKind.i64.wrap (Int.ofNat a + IntKind.i64.wrap (bitsOf BinOp.and IntKind.u64 v (IntKind.u64.wrap (mm - (1 : Int))))) < Int.ofNat n) then
 bif ((0 : Nat) + (IntKind.i64.wrap (Int.ofNat a + IntKind.i64.wrap (bitsOf BinOp.and IntKind.u64 v (IntKind.u64.wrap (mm - (1 : Int)))))).toNat).blt n && [T.int .u8 (y ((0 : Nat) + i))].length == (1 : Nat) && true && true then
 some ((Ex.normal, [T.own 0 0 0 n
 none, T.int .i64 (Int.ofNat a), T.int .i64 (Int.ofNat l), T.ptr 1 0 0 0, T.int .u64 mm, T.int .i64 (IntKind.i64.wrap (Int.ofNat i + (1 : Int)))], [Blk.mk 0 1 n (fun e => [T.int .u8 (bif e == (0 : Nat) + (IntKind.i64.wrap (Int.ofNat a + IntKind.i64.wrap (bitsOf BinOp.and IntKind.u64 v (IntKind.u64.wrap (mm - (1 : Int)))))).toNat then y ((0 : Nat) + i)
 else
 bif e == (0 : Nat) + i then y ((0 : Nat) + (IntKind.i64.wrap (Int.ofNat a + IntKind.i64.wrap (bitsOf BinOp.and IntKind.u64 v (IntKind.u64.wrap (mm - (1 : Int)))))).toNat)
 else y e)]) true false
 none, Blk.mk 0 1 1 (fun x => [T.int .u64 r2]) true false
 none]))
 else none else none else none else none else none else none else none else none else none else
 some ((Ex.exit 0, [], [Blk.mk 0 1 n (fun j => [T.int .u8 (y j)]) true false
 none, Blk.mk 0 1 1 (fun x => [T.int .u64 r]) true false
 none]))) from by kernel_rfl)]
          rw [eq0, e2, p2, p3, ho1, ep, ofNatE i, ei, toNatE]
          refine bift (by first | assumption | omega | (simp (disch := omega) only [numsE, List.length_cons, List.length_nil, Nat.reduceAdd]; done) | (simp (disch := omega) only [numsE, List.length_cons, List.length_nil, Nat.reduceAdd]; omega)) ?_
          refine bift (refF_yes hp91 t91) ?_
          clear hI t91
          (repeat (first | (refine bift (by first | assumption | omega | (simp (disch := omega) only [numsE, List.length_cons, List.length_nil, Nat.reduceAdd]; done) | (simp (disch := omega) only [numsE, List.length_cons, List.length_nil, Nat.reduceAdd]; omega)) ?_) | (refine biff (by first | assumption | (simp (disch := omega) only [numsE, List.length_cons, List.length_nil, Nat.reduceAdd]; done) | (simp (disch := omega) only [numsE, List.length_cons, List.length_nil, Nat.reduceAdd]; omega)) ?_)))
          rfl
      · refine .inr ⟨_, _, _, ?_, y, r, rfl, rfl, rfl, hI⟩
        refine Last.mk0 (A := A18) (m := 0) none_ok rfl rfl loops0 (h1 := [ub 0 n y, rb r]) (by simp) ?_ (.refl _)
        generalize (m : Int) = mm at *
        rw [(show iterR P18 G18 A18 noneO 0 78 [] 5 (v78 n a l mm i) [ub 0 n y, rb r] =
(
 bif decide (Int.ofNat i ≤ IntKind.i64.wrap (IntKind.i64.wrap (Int.ofNat a + IntKind.i64.wrap (IntKind.i64.wrap ((Int.ofNat l).tdiv (4 : Int)) * (2 : Int))) + (1 : Int))) then none else
 some ((Ex.exit 0, [], [Blk.mk 0 1 n (fun j => [T.int .u8 (y j)]) true false
 none, Blk.mk 0 1 1 (fun x => [T.int .u64 r]) true false
 none]))) from by kernel_rfl)]
        rw [eq0, e2, p2, p3]
        refine biff (by first | assumption | (simp (disch := omega) only [numsE, List.length_cons, List.length_nil, Nat.reduceAdd]; done) | (simp (disch := omega) only [numsE, List.length_cons, List.length_nil, Nat.reduceAdd]; omega)) ?_
        rfl
    · rintro e ⟨vs1, h1, ⟨z, r2, rfl, rfl, rfl, hz⟩, hl⟩
      exact ⟨z, r2, hz, hl⟩
  obtain ⟨z, r2, hz, hl5⟩ := hL
  refine ⟨z, rb r2, hz, ?_⟩
  have eL : IntKind.i64.wrap (Int.ofNat b - Int.ofNat a) = (l : Int) := by rw [ofNatE, ofNatE, wr64 (by omega) (by omega)]; omega
  generalize hmm : (m : Int) = mm at *
  generalize hii : a + 2 * q - 1 = i at *
  refine stepR_told hm18 hn18 (K := K78b p90 mm) (told_add none_ok (callF_told hp90)) (A := A18) (m := 0) (by kernel_rfl) (loops1 hl5) ?_
  rw [(show stepR P18 G18 A18 (K78b p90 mm) 0 78 [(5, litS (v78 n a l mm i) [ub 0 n x, rb l] (.exit 0) [] [ub 0 n z, rb r2])] [.own 0 0 0 n none, .int .i64 a, .int .i64 b] [ub 0 n x] =
(
 bif decide ((8 : Int) ≤ IntKind.i64.wrap (Int.ofNat b - Int.ofNat a)) then
 bif decF (p90 [T.int .i64 (IntKind.i64.wrap (Int.ofNat b - Int.ofNat a))] (T.int .u64 mm)) then
 bif weakF [T.own 0 0 0 n
 none, T.int .i64 (Int.ofNat a), T.int .i64 (IntKind.i64.wrap (Int.ofNat b - Int.ofNat a)), T.ptr [Blk.mk 0 1 n (fun j => [T.int .u8 (x j)]) true false
 none].length (0 : Nat) (0 : Nat) (0 : Nat), T.int .u64 mm, T.int .i64 (IntKind.i64.wrap (IntKind.i64.wrap (Int.ofNat a + IntKind.i64.wrap (IntKind.i64.wrap ((IntKind.i64.wrap (Int.ofNat b - Int.ofNat a)).tdiv (4 : Int)) * (2 : Int))) - (1 : Int)))] [Blk.mk 0 1 n (fun j => [T.int .u8 (x j)]) true false
 none, Blk.mk 0 1 1 (fun e => [T.int .u64 (bif e == (0 : Nat) then IntKind.u64.wrap (IntKind.i64.wrap (Int.ofNat b - Int.ofNat a))
 else (0 : Int))]) true false
 none] [T.own 0 0 0 n
 none, T.int .i64 (Int.ofNat a), T.int .i64 (Int.ofNat l), T.ptr 1 0 0 0, T.int .u64 mm, T.int .i64 (Int.ofNat i)] [Blk.mk 0 1 n (fun j => [T.int .u8 (x j)]) true false
 none, Blk.mk 0 1 1 (fun x => [T.int .u64 (Int.ofNat l)]) true false
 none] then
 some ((T.tup [], [Blk.mk 0 1 n (fun j => [T.int .u8 (z j)]) true false
 none, Blk.mk 0 1 1 (fun x => [T.int .u64 r2]) true false
 none]))
 else none else none else
 some ((T.tup [], [Blk.mk 0 1 n (fun j => [T.int .u8 (x j)]) true false
 none]))) from by kernel_rfl)]
  rw [eL]
  refine bift (by first | assumption | omega | (simp (disch := omega) only [numsE, List.length_cons, List.length_nil, Nat.reduceAdd]; done) | (simp (disch := omega) only [numsE, List.length_cons, List.length_nil, Nat.reduceAdd]; omega)) ?_
  refine bift (callF_yes hp90 t90) ?_
  rw [← ofNatE l, eq0, e2, p2, p4]
  refine bift (weakF_of ⟨rfl, .cons ⟨rfl, rfl, rfl, id, fun _ _ => rfl⟩ (.cons ⟨rfl, rfl, rfl, id, fun j hj => ?_⟩ .nil)⟩) ?_
  · obtain rfl := one_of hj
    show [T.int .u64 (l : Int)] = [T.int .u64 (IntKind.u64.wrap (Int.ofNat l))]
    rw [ofNatE, wru64 (by omega) (by omega)]
  · rfl
end Go.Ab

