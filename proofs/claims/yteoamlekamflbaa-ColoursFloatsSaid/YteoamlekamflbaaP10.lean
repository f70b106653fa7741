/- A part of the proof: nothing is assumed. -/
import Derived.Test.YteoamlekamflbaaP9
import Derived.Test.YteoamlekamflbaaP4
set_option linter.all false
namespace Go.Ab
open Go.Proofs
noncomputable def K47 (p60 : List T → T → Prop) (p61 p62 : List T → Heap → T → Heap → Prop) (n : Nat) (x y z : Nat → Int) (k : Nat) : Orc :=
  ((noneO.add 60 (callF p60 fun _ => some (.fresh true 1 n (fun j => [.int .u8 (x j)]) n none))).addRef 61 (refF p61 fun _ _ => some (.tup [], [ub 0 n y]))).addRef 62 (refF p62 fun _ _ => some (.own 0 0 0 k none, [ub 0 n z]))
/-- The colours of a row, ascending. -/
def kindL (x : Nat → Int) (n : Nat) : List Int := ((List.range 256).map Int.ofNat).filter fun v => (List.range n).any fun j => decide (x j = v)
def csK (x : Nat → Int) (n j : Nat) : Int := (kindL x n).getD j 0
def kK (x : Nat → Int) (n : Nat) : Nat := (kindL x n).length
theorem kindL_mem {x : Nat → Int} {n : Nat} (hx : ∀ j, j < n → 0 ≤ x j ∧ x j < 256) (v : Int) : v ∈ kindL x n ↔ Mem x 0 n v := by
  unfold kindL Mem
  simp only [List.mem_filter, List.mem_map, List.mem_range, List.any_eq_true, decide_eq_true_eq]
  constructor
  · rintro ⟨_, j, h1, h2⟩; exact ⟨j, Nat.zero_le _, h1, h2⟩
  · rintro ⟨j, _, h1, h2⟩
    have := hx j h1
    exact ⟨⟨v.toNat, by omega, by show ((v.toNat : Nat) : Int) = v; omega⟩, j, h1, h2⟩
theorem kindL_asc (x : Nat → Int) (n : Nat) : (kindL x n).Pairwise (· < ·) := by
  unfold kindL
  refine List.Pairwise.filter _ ?_
  rw [List.pairwise_map]
  exact List.pairwise_lt_range.imp (fun {a b} h => by show (a : Int) < (b : Int); omega)
theorem csK_mem {x : Nat → Int} {n : Nat} (hx : ∀ j, j < n → 0 ≤ x j ∧ x j < 256) (v : Int) : Mem (csK x n) 0 (kK x n) v ↔ Mem x 0 n v := by
  rw [← kindL_mem hx, List.mem_iff_getElem]
  unfold Mem csK kK
  constructor
  · rintro ⟨j, _, h1, h2⟩
    refine ⟨j, h1, ?_⟩
    rw [List.getD_eq_getElem?_getD, List.getElem?_eq_getElem h1] at h2
    exact h2
  · rintro ⟨j, h1, h2⟩
    exact ⟨j, Nat.zero_le _, h1, by rw [List.getD_eq_getElem?_getD, List.getElem?_eq_getElem h1]; exact h2⟩
theorem csK_asc (x : Nat → Int) (n : Nat) : SAsc (csK x n) (kK x n) := by
  intro p q h1 h2
  unfold kK at h2
  have := List.pairwise_iff_getElem.1 (kindL_asc x n) p q (by omega) h2 h1
  unfold csK
  rw [List.getD_eq_getElem?_getD, List.getElem?_eq_getElem (by omega), List.getD_eq_getElem?_getD, List.getElem?_eq_getElem h2]
  exact this
theorem cloneT (x : Nat → Int) (n : Nat) (c : Option Nat) (h1 : 1 ≤ n) (hn : n ≤ 1000) : ToldOk P18 G18 60 [rowV x n c] (.fresh true 1 n (fun j => [.int .u8 (x j)]) n none) := by
  refine stepV_told hm18 hn18 none_ok (K := noneO) (A := A18) (m := 0) ?_
  refine Eq.trans (show stepV P18 G18 A18 noneO 0 60 [rowV x n c] =
(
 bif Nat.blt 0 (match c with | some x => x | none => (0 : Nat)) || Nat.blt 0 n then
 bif n == (0 : Nat) then
 some (T.fresh true (1 : Nat) (0 : Nat) (fun j => []) (0 : Nat) (some 0))
 else
 bif (((0 : Nat) + n) * (2 : Nat)).ble 70368744177664 then
 bif ((0 : Nat) + n).ble 0 then
 bif ((0 : Nat) + n).ble 0 then
 some (bif ((0 : Nat) + ((0 : Nat) + n)).ble 0 then T.fresh true (1 : Nat) (0 : Nat) (fun j =>
 bif Nat.ble 0 ((0 : Nat) + j) && ((0 : Nat) + j).blt ((0 : Nat) + n) then [T.int .u8 (x ((0 : Nat) + j - (0 : Nat)))]
 else []) ((0 : Nat) + n) (some 0)
 else T.undef)
 else none else
 some (bif ((0 : Nat) + ((0 : Nat) + n)).ble ((0 : Nat) + n) then T.fresh true (1 : Nat) ((0 : Nat) + n - (0 : Nat)) (fun j => [T.int .u8 (x ((0 : Nat) + j - (0 : Nat)))]) ((0 : Nat) + n) none else T.undef)
 else none else
 none) from by kernel_rfl) ?_
  refine bift (by rw [Bool.or_eq_true]; exact .inr (bltT (by omega))) ?_
  simp only [Nat.zero_add, Nat.sub_zero]
  refine biff (by simp; omega) ?_
  refine bift (bleT (by omega)) ?_
  rw [bleF (show 0 < n by omega), cond_false, bleT (Nat.le_refl _), cond_true]
theorem kindsT (x : Nat → Int) (n : Nat) (c : Option Nat) (h1 : 1 ≤ n) (hn : n ≤ nmax) (hx : ∀ j, j < n → 0 ≤ x j ∧ x j < 256) : ToldOk P18 G18 47 [rowV x n c] (.new (rowV (csK x n) (kK x n) none)) := by
  have hn2 := hn
  unfold nmax at hn2
  have h60 := cloneT x n c h1 (by omega)
  obtain ⟨y, ⟨hy1, hy2⟩, h61⟩ := sortT n x hn
  obtain ⟨z, k, hz, h62⟩ := compT n y (by omega) h1 hy2
  obtain ⟨p60, hp60⟩ := is_val P18 G18 60
  obtain ⟨p61, hp61⟩ := is_ref P18 G18 61
  obtain ⟨p62, hp62⟩ := is_ref P18 G18 62
  have hu := SAsc.unique hz.asc (csK_asc x n) fun v => (hz.mem v).trans ((hy1.mem v).trans (csK_mem hx v).symm)
  refine ToldOk.resTo (r := .new (.view 1 k (fun j => [.int .u8 (z j)]) none)) ?_ (.new (by
    rw [← hu.1]
    refine .view (.inl rfl) fun j hj => ?_
    show Sims [T.int .u8 (z j)] [.int .u8 (csK x n j)]
    rw [hu.2 j hj]
    exact Sims.refl _))
  refine ToldOk.frz (r := .fresh true 1 n (fun j => [.int .u8 (z j)]) k none) ?_
  refine stepV_told hm18 hn18 (K := K47 p60 p61 p62 n x y z k) (told_addRef (told_addRef (told_add none_ok (callF_told hp60)) (refF_told hp61)) (refF_told hp62)) (A := A18) (m := 0) ?_
  have hk := hz.kn
  refine Eq.trans (show stepV P18 G18 A18 (K47 p60 p61 p62 n x y z k) 0 47 [rowV x n c] =
(
 bif decF (p60 [T.view 1 n (fun j => [T.int .u8 (x j)]) c] (T.fresh true (1 : Nat) n (fun j => [T.int .u8 (x j)]) n
 none)) then
 bif decF (p61 [T.own 0 0 0 n
 none] [Blk.mk 0 1 n (fun j => [T.int .u8 (x j)]) true false
 none] (T.tup []) [Blk.mk 0 1 n (fun j => [T.int .u8 (y j)]) true false
 none]) then
 bif decF (p62 [T.own 0 0 0 n
 none] [Blk.mk 0 1 n (fun j => [T.int .u8 (y j)]) true false
 none] (T.own 0 0 0 k
 none) [Blk.mk 0 1 n (fun j => [T.int .u8 (z j)]) true false
 none]) then
 some (bif ((0 : Nat) + k).ble n then T.fresh true (1 : Nat) (n - (0 : Nat)) (fun j => [T.int .u8 (z ((0 : Nat) + j))]) k none else T.undef)
 else none else none else
 none) from by kernel_rfl) ?_
  refine bift (callF_yes hp60 h60) ?_
  refine bift (refF_yes hp61 h61) ?_
  refine bift (refF_yes hp62 h62) ?_
  simp only [Nat.zero_add, Nat.sub_zero]
  rw [bleT hk, cond_true]
end Go.Ab

namespace Go.Ab
open Go.Proofs
def mnF (r : Nat → Int) : Nat → Int
  | 0 => r 0
  | i + 1 => bif decide (r (i + 1) < mnF r i) then r (i + 1) else mnF r i
def mxF (r : Nat → Int) : Nat → Int
  | 0 => r 0
  | i + 1 => bif decide (mxF r i < r (i + 1)) then r (i + 1) else mxF r i
def v45 (r : Nat → Int) (n : Nat) (c : Option Nat) (a : Int) (i : Int) : List T := [rowV r n c, .int .u8 a, .int .i64 i]
/-- A picture. -/
def picV (R : Nat → Nat → Int) (n h : Nat) (rc c : Option Nat) : T := .view 1 h (fun i => [rowV (R i) n rc]) c
def v29 (R : Nat → Nat → Int) (n h : Nat) (rc c : Option Nat) (i : Int) : List T := [picV R n h rc c, picV R n h rc c, .int .i64 h, .int .i64 i]
def v29d (R : Nat → Nat → Int) (n h : Nat) (rc c : Option Nat) (i : Int) : List T := [picV R n h rc c, .int .i64 h, .int .i64 i]
/-- A valid picture. -/
structure PicOk (R : Nat → Nat → Int) (n h : Nat) : Prop where
  n1 : 1 ≤ n
  nm : n ≤ nmax
  h1 : h ≤ 31
  odd : h % 2 = 1
  col : ∀ i, i < h → ∀ j, j < n → 1 ≤ R i j ∧ R i j ≤ 6
  two : ∀ i, i < h → kK (R i) n ≤ 2
noncomputable def K29 (p q : List T → T → Prop) (a b : Int) : Orc := (noneO.add 45 (callF p fun _ => some (.int .u8 a))).add 46 (callF q fun _ => some (.int .u8 b))
noncomputable def K29k (p : List T → T → Prop) (r : T) : Orc := noneO.add 47 (callF p fun _ => some r)
theorem mnF_ge (r : Nat → Int) (lo : Int) : ∀ i, (∀ j, j ≤ i → lo ≤ r j) → lo ≤ mnF r i
  | 0, h => h 0 (Nat.le_refl _)
  | i + 1, h => by
    have h1 := mnF_ge r lo i (fun j hj => h j (by omega))
    have h2 := h (i + 1) (Nat.le_refl _)
    unfold mnF
    cases decide (r (i + 1) < mnF r i)
    · exact h1
    · exact h2
theorem mxF_le (r : Nat → Int) (hi : Int) : ∀ i, (∀ j, j ≤ i → r j ≤ hi) → mxF r i ≤ hi
  | 0, h => h 0 (Nat.le_refl _)
  | i + 1, h => by
    have h1 := mxF_le r hi i (fun j hj => h j (by omega))
    have h2 := h (i + 1) (Nat.le_refl _)
    unfold mxF
    cases decide (mxF r i < r (i + 1))
    · exact h1
    · exact h2
theorem minT (r : Nat → Int) (n : Nat) (c : Option Nat) (h1 : 1 ≤ n) (hn : n ≤ 1000) : ToldOk P18 G18 45 [rowV r n c] (.int .u8 (mnF r (n - 1))) := by
  have hl : LoopOk P18 G18 (A18 45) 45 5 (litS (v45 r n c (r 0) 1) [] (.exit 0) [.int .u8 (mnF r (n - 1))] []) := by
    refine loop_steps hm18 (by kernel_rfl) (fun i => v45 r n c (mnF r i) (i + 1 : Nat)) (fun _ => []) (n := n - 1) (fun i hi => ?_) ?_
    · refine Step.mk0 (A := A18) (m := 0) none_ok rfl rfl loops0 (h1 := []) ?_ .nil
      have e : mnF r (i + 1) = bif decide (r (i + 1) < mnF r i) then r (i + 1) else mnF r i := rfl
      rw [e]
      generalize mnF r i = a
      refine Eq.trans (show iterR P18 G18 A18 noneO 0 45 [] 5 (v45 r n c a (i + 1 : Nat)) [] =
(
 bif decide (Int.ofNat (i + (1 : Nat)) < Int.ofNat n) then
 bif decide ((0 : Int) ≤ Int.ofNat (i + (1 : Nat))) && decide (Int.ofNat (i + (1 : Nat)) < Int.ofNat n) then
 some ((Ex.normal, [T.view 1 n (fun j => [T.int .u8 (r j)]) c, T.int .u8 (bif decide (r (i + (1 : Nat)) < a) then r (i + (1 : Nat))
 else a), T.int .i64 (IntKind.i64.wrap (Int.ofNat (i + (1 : Nat)) + (1 : Int)))], []))
 else none else
 some ((Ex.exit 0, [T.int .u8 a], []))) from by kernel_rfl) ?_
      (repeat (first | (refine bift (by first | assumption | omega | (simp (disch := omega) only [wr64, wr8, wr16, wr32, ofNatE, toNatE, toNatE1, Bool.and_eq_true, Bool.or_eq_true, Bool.not_eq_true', decide_eq_true_eq, decide_eq_false_iff_not, nble, nblt, nbeq, Nat.zero_add, Nat.add_zero, Int.zero_add, Int.add_zero, List.length_cons, List.length_nil, true_and, and_true, Nat.reduceAdd, and_self]; done) | (simp (disch := omega) only [wr64, wr8, wr16, wr32, ofNatE, toNatE, toNatE1, Bool.and_eq_true, Bool.or_eq_true, Bool.not_eq_true', decide_eq_true_eq, decide_eq_false_iff_not, nble, nblt, nbeq, Nat.zero_add, Nat.add_zero, Int.zero_add, Int.add_zero, List.length_cons, List.length_nil, true_and, and_true, Nat.reduceAdd, and_self]; omega)) ?_) | (refine biff (by first | assumption | (simp (disch := omega) only [wr64, wr8, wr16, wr32, ofNatE, toNatE, toNatE1, Bool.and_eq_true, Bool.or_eq_true, Bool.not_eq_true', decide_eq_true_eq, decide_eq_false_iff_not, nble, nblt, nbeq, Nat.zero_add, Nat.add_zero, Int.zero_add, Int.add_zero, List.length_cons, List.length_nil, true_and, and_true, Nat.reduceAdd, and_self]; done) | (simp (disch := omega) only [wr64, wr8, wr16, wr32, ofNatE, toNatE, toNatE1, Bool.and_eq_true, Bool.or_eq_true, Bool.not_eq_true', decide_eq_true_eq, decide_eq_false_iff_not, nble, nblt, nbeq, Nat.zero_add, Nat.add_zero, Int.zero_add, Int.add_zero, List.length_cons, List.length_nil, true_and, and_true, Nat.reduceAdd, and_self]; omega)) ?_)))
      rw [ofNatE (i + 1), wr64 (x := ((i + 1 : Nat) : Int) + 1) (by omega) (by omega)]
      rfl
    · generalize mnF r (n - 1) = a
      rw [show n - 1 + 1 = n by omega]
      refine Last.mk0 (A := A18) (m := 0) none_ok rfl rfl loops0 (h1 := []) (by simp) ?_ .nil
      refine Eq.trans (show iterR P18 G18 A18 noneO 0 45 [] 5 (v45 r n c a (n : Nat)) [] =
(
 bif decide (Int.ofNat n < Int.ofNat n) then
 bif decide ((0 : Int) ≤ Int.ofNat n) && decide (Int.ofNat n < Int.ofNat n) then
 some ((Ex.normal, [T.view 1 n (fun j => [T.int .u8 (r j)]) c, T.int .u8 (bif decide (r n < a) then r n
 else a), T.int .i64 (IntKind.i64.wrap (Int.ofNat n + (1 : Int)))], []))
 else none else
 some ((Ex.exit 0, [T.int .u8 a], []))) from by kernel_rfl) ?_
      (repeat (first | (refine bift (by first | assumption | omega | (simp (disch := omega) only [wr64, wr8, wr16, wr32, ofNatE, toNatE, toNatE1, Bool.and_eq_true, Bool.or_eq_true, Bool.not_eq_true', decide_eq_true_eq, decide_eq_false_iff_not, nble, nblt, nbeq, Nat.zero_add, Nat.add_zero, Int.zero_add, Int.add_zero, List.length_cons, List.length_nil, true_and, and_true, Nat.reduceAdd, and_self]; done) | (simp (disch := omega) only [wr64, wr8, wr16, wr32, ofNatE, toNatE, toNatE1, Bool.and_eq_true, Bool.or_eq_true, Bool.not_eq_true', decide_eq_true_eq, decide_eq_false_iff_not, nble, nblt, nbeq, Nat.zero_add, Nat.add_zero, Int.zero_add, Int.add_zero, List.length_cons, List.length_nil, true_and, and_true, Nat.reduceAdd, and_self]; omega)) ?_) | (refine biff (by first | assumption | (simp (disch := omega) only [wr64, wr8, wr16, wr32, ofNatE, toNatE, toNatE1, Bool.and_eq_true, Bool.or_eq_true, Bool.not_eq_true', decide_eq_true_eq, decide_eq_false_iff_not, nble, nblt, nbeq, Nat.zero_add, Nat.add_zero, Int.zero_add, Int.add_zero, List.length_cons, List.length_nil, true_and, and_true, Nat.reduceAdd, and_self]; done) | (simp (disch := omega) only [wr64, wr8, wr16, wr32, ofNatE, toNatE, toNatE1, Bool.and_eq_true, Bool.or_eq_true, Bool.not_eq_true', decide_eq_true_eq, decide_eq_false_iff_not, nble, nblt, nbeq, Nat.zero_add, Nat.add_zero, Int.zero_add, Int.add_zero, List.length_cons, List.length_nil, true_and, and_true, Nat.reduceAdd, and_self]; omega)) ?_)))
      rfl
  generalize mnF r (n - 1) = a at *
  refine stepL_told hm18 hn18 none_ok (A := A18) (m := 0) (by kernel_rfl) (loops1 hl) ?_
  refine Eq.trans (show stepL P18 G18 A18 noneO 0 45 [(5, litS (v45 r n c (r 0) 1) [] (.exit 0) [.int .u8 a] [])] [rowV r n c] =
(
 bif decide (Int.ofNat n < (1 : Int)) then none else
 bif decide ((0 : Int) < Int.ofNat n) then
 bif weakF [T.view 1 n (fun j => [T.int .u8 (r j)]) c, T.int .u8 (r (0 : Nat)), T.int .i64 (1 : Int)] [] [T.view 1 n (fun j => [T.int .u8 (r j)]) c, T.int .u8 (r (0 : Nat)), T.int .i64 (1 : Int)] [] then
 some (T.int .u8 a)
 else none else
 none) from by kernel_rfl) ?_
  (repeat (first | (refine bift (by first | assumption | omega | (simp (disch := omega) only [wr64, wr8, wr16, wr32, ofNatE, toNatE, toNatE1, Bool.and_eq_true, Bool.or_eq_true, Bool.not_eq_true', decide_eq_true_eq, decide_eq_false_iff_not, nble, nblt, nbeq, Nat.zero_add, Nat.add_zero, Int.zero_add, Int.add_zero, List.length_cons, List.length_nil, true_and, and_true, Nat.reduceAdd, and_self]; done) | (simp (disch := omega) only [wr64, wr8, wr16, wr32, ofNatE, toNatE, toNatE1, Bool.and_eq_true, Bool.or_eq_true, Bool.not_eq_true', decide_eq_true_eq, decide_eq_false_iff_not, nble, nblt, nbeq, Nat.zero_add, Nat.add_zero, Int.zero_add, Int.add_zero, List.length_cons, List.length_nil, true_and, and_true, Nat.reduceAdd, and_self]; omega)) ?_) | (refine biff (by first | assumption | (simp (disch := omega) only [wr64, wr8, wr16, wr32, ofNatE, toNatE, toNatE1, Bool.and_eq_true, Bool.or_eq_true, Bool.not_eq_true', decide_eq_true_eq, decide_eq_false_iff_not, nble, nblt, nbeq, Nat.zero_add, Nat.add_zero, Int.zero_add, Int.add_zero, List.length_cons, List.length_nil, true_and, and_true, Nat.reduceAdd, and_self]; done) | (simp (disch := omega) only [wr64, wr8, wr16, wr32, ofNatE, toNatE, toNatE1, Bool.and_eq_true, Bool.or_eq_true, Bool.not_eq_true', decide_eq_true_eq, decide_eq_false_iff_not, nble, nblt, nbeq, Nat.zero_add, Nat.add_zero, Int.zero_add, Int.add_zero, List.length_cons, List.length_nil, true_and, and_true, Nat.reduceAdd, and_self]; omega)) ?_)))
  exact bift (weakF_of ⟨rfl, .refl _⟩) rfl
theorem maxT (r : Nat → Int) (n : Nat) (c : Option Nat) (h1 : 1 ≤ n) (hn : n ≤ 1000) : ToldOk P18 G18 46 [rowV r n c] (.int .u8 (mxF r (n - 1))) := by
  have hl : LoopOk P18 G18 (A18 46) 46 5 (litS (v45 r n c (r 0) 1) [] (.exit 0) [.int .u8 (mxF r (n - 1))] []) := by
    refine loop_steps hm18 (by kernel_rfl) (fun i => v45 r n c (mxF r i) (i + 1 : Nat)) (fun _ => []) (n := n - 1) (fun i hi => ?_) ?_
    · refine Step.mk0 (A := A18) (m := 0) none_ok rfl rfl loops0 (h1 := []) ?_ .nil
      have e : mxF r (i + 1) = bif decide (mxF r i < r (i + 1)) then r (i + 1) else mxF r i := rfl
      rw [e]
      generalize mxF r i = a
      refine Eq.trans (show iterR P18 G18 A18 noneO 0 46 [] 5 (v45 r n c a (i + 1 : Nat)) [] =
(
 bif decide (Int.ofNat (i + (1 : Nat)) < Int.ofNat n) then
 bif decide ((0 : Int) ≤ Int.ofNat (i + (1 : Nat))) && decide (Int.ofNat (i + (1 : Nat)) < Int.ofNat n) then
 some ((Ex.normal, [T.view 1 n (fun j => [T.int .u8 (r j)]) c, T.int .u8 (bif decide (a < r (i + (1 : Nat))) then r (i + (1 : Nat))
 else a), T.int .i64 (IntKind.i64.wrap (Int.ofNat (i + (1 : Nat)) + (1 : Int)))], []))
 else none else
 some ((Ex.exit 0, [T.int .u8 a], []))) from by kernel_rfl) ?_
      (repeat (first | (refine bift (by first | assumption | omega | (simp (disch := omega) only [wr64, wr8, wr16, wr32, ofNatE, toNatE, toNatE1, Bool.and_eq_true, Bool.or_eq_true, Bool.not_eq_true', decide_eq_true_eq, decide_eq_false_iff_not, nble, nblt, nbeq, Nat.zero_add, Nat.add_zero, Int.zero_add, Int.add_zero, List.length_cons, List.length_nil, true_and, and_true, Nat.reduceAdd, and_self]; done) | (simp (disch := omega) only [wr64, wr8, wr16, wr32, ofNatE, toNatE, toNatE1, Bool.and_eq_true, Bool.or_eq_true, Bool.not_eq_true', decide_eq_true_eq, decide_eq_false_iff_not, nble, nblt, nbeq, Nat.zero_add, Nat.add_zero, Int.zero_add, Int.add_zero, List.length_cons, List.length_nil, true_and, and_true, Nat.reduceAdd, and_self]; omega)) ?_) | (refine biff (by first | assumption | (simp (disch := omega) only [wr64, wr8, wr16, wr32, ofNatE, toNatE, toNatE1, Bool.and_eq_true, Bool.or_eq_true, Bool.not_eq_true', decide_eq_true_eq, decide_eq_false_iff_not, nble, nblt, nbeq, Nat.zero_add, Nat.add_zero, Int.zero_add, Int.add_zero, List.length_cons, List.length_nil, true_and, and_true, Nat.reduceAdd, and_self]; done) | (simp (disch := omega) only [wr64, wr8, wr16, wr32, ofNatE, toNatE, toNatE1, Bool.and_eq_true, Bool.or_eq_true, Bool.not_eq_true', decide_eq_true_eq, decide_eq_false_iff_not, nble, nblt, nbeq, Nat.zero_add, Nat.add_zero, Int.zero_add, Int.add_zero, List.length_cons, List.length_nil, true_and, and_true, Nat.reduceAdd, and_self]; omega)) ?_)))
      rw [ofNatE (i + 1), wr64 (x := ((i + 1 : Nat) : Int) + 1) (by omega) (by omega)]
      rfl
    · generalize mxF r (n - 1) = a
      rw [show n - 1 + 1 = n by omega]
      refine Last.mk0 (A := A18) (m := 0) none_ok rfl rfl loops0 (h1 := []) (by simp) ?_ .nil
      refine Eq.trans (show iterR P18 G18 A18 noneO 0 46 [] 5 (v45 r n c a (n : Nat)) [] =
(
 bif decide (Int.ofNat n < Int.ofNat n) then
 bif decide ((0 : Int) ≤ Int.ofNat n) && decide (Int.ofNat n < Int.ofNat n) then
 some ((Ex.normal, [T.view 1 n (fun j => [T.int .u8 (r j)]) c, T.int .u8 (bif decide (a < r n) then r n
 else a), T.int .i64 (IntKind.i64.wrap (Int.ofNat n + (1 : Int)))], []))
 else none else
 some ((Ex.exit 0, [T.int .u8 a], []))) from by kernel_rfl) ?_
      (repeat (first | (refine bift (by first | assumption | omega | (simp (disch := omega) only [wr64, wr8, wr16, wr32, ofNatE, toNatE, toNatE1, Bool.and_eq_true, Bool.or_eq_true, Bool.not_eq_true', decide_eq_true_eq, decide_eq_false_iff_not, nble, nblt, nbeq, Nat.zero_add, Nat.add_zero, Int.zero_add, Int.add_zero, List.length_cons, List.length_nil, true_and, and_true, Nat.reduceAdd, and_self]; done) | (simp (disch := omega) only [wr64, wr8, wr16, wr32, ofNatE, toNatE, toNatE1, Bool.and_eq_true, Bool.or_eq_true, Bool.not_eq_true', decide_eq_true_eq, decide_eq_false_iff_not, nble, nblt, nbeq, Nat.zero_add, Nat.add_zero, Int.zero_add, Int.add_zero, List.length_cons, List.length_nil, true_and, and_true, Nat.reduceAdd, and_self]; omega)) ?_) | (refine biff (by first | assumption | (simp (disch := omega) only [wr64, wr8, wr16, wr32, ofNatE, toNatE, toNatE1, Bool.and_eq_true, Bool.or_eq_true, Bool.not_eq_true', decide_eq_true_eq, decide_eq_false_iff_not, nble, nblt, nbeq, Nat.zero_add, Nat.add_zero, Int.zero_add, Int.add_zero, List.length_cons, List.length_nil, true_and, and_true, Nat.reduceAdd, and_self]; done) | (simp (disch := omega) only [wr64, wr8, wr16, wr32, ofNatE, toNatE, toNatE1, Bool.and_eq_true, Bool.or_eq_true, Bool.not_eq_true', decide_eq_true_eq, decide_eq_false_iff_not, nble, nblt, nbeq, Nat.zero_add, Nat.add_zero, Int.zero_add, Int.add_zero, List.length_cons, List.length_nil, true_and, and_true, Nat.reduceAdd, and_self]; omega)) ?_)))
      rfl
  generalize mxF r (n - 1) = a at *
  refine stepL_told hm18 hn18 none_ok (A := A18) (m := 0) (by kernel_rfl) (loops1 hl) ?_
  refine Eq.trans (show stepL P18 G18 A18 noneO 0 46 [(5, litS (v45 r n c (r 0) 1) [] (.exit 0) [.int .u8 a] [])] [rowV r n c] =
(
 bif decide (Int.ofNat n < (1 : Int)) then none else
 bif decide ((0 : Int) < Int.ofNat n) then
 bif weakF [T.view 1 n (fun j => [T.int .u8 (r j)]) c, T.int .u8 (r (0 : Nat)), T.int .i64 (1 : Int)] [] [T.view 1 n (fun j => [T.int .u8 (r j)]) c, T.int .u8 (r (0 : Nat)), T.int .i64 (1 : Int)] [] then
 some (T.int .u8 a)
 else none else
 none) from by kernel_rfl) ?_
  (repeat (first | (refine bift (by first | assumption | omega | (simp (disch := omega) only [wr64, wr8, wr16, wr32, ofNatE, toNatE, toNatE1, Bool.and_eq_true, Bool.or_eq_true, Bool.not_eq_true', decide_eq_true_eq, decide_eq_false_iff_not, nble, nblt, nbeq, Nat.zero_add, Nat.add_zero, Int.zero_add, Int.add_zero, List.length_cons, List.length_nil, true_and, and_true, Nat.reduceAdd, and_self]; done) | (simp (disch := omega) only [wr64, wr8, wr16, wr32, ofNatE, toNatE, toNatE1, Bool.and_eq_true, Bool.or_eq_true, Bool.not_eq_true', decide_eq_true_eq, decide_eq_false_iff_not, nble, nblt, nbeq, Nat.zero_add, Nat.add_zero, Int.zero_add, Int.add_zero, List.length_cons, List.length_nil, true_and, and_true, Nat.reduceAdd, and_self]; omega)) ?_) | (refine biff (by first | assumption | (simp (disch := omega) only [wr64, wr8, wr16, wr32, ofNatE, toNatE, toNatE1, Bool.and_eq_true, Bool.or_eq_true, Bool.not_eq_true', decide_eq_true_eq, decide_eq_false_iff_not, nble, nblt, nbeq, Nat.zero_add, Nat.add_zero, Int.zero_add, Int.add_zero, List.length_cons, List.length_nil, true_and, and_true, Nat.reduceAdd, and_self]; done) | (simp (disch := omega) only [wr64, wr8, wr16, wr32, ofNatE, toNatE, toNatE1, Bool.and_eq_true, Bool.or_eq_true, Bool.not_eq_true', decide_eq_true_eq, decide_eq_false_iff_not, nble, nblt, nbeq, Nat.zero_add, Nat.add_zero, Int.zero_add, Int.add_zero, List.length_cons, List.length_nil, true_and, and_true, Nat.reduceAdd, and_self]; omega)) ?_)))
  exact bift (weakF_of ⟨rfl, .refl _⟩) rfl
section
variable (R : Nat → Nat → Int) (n h : Nat) (rc c : Option Nat)
theorem l29a (hn : n ≤ 16) (hh : h ≤ 31) : LoopOk P18 G18 (A18 29) 29 4 (litS (v29 R n h rc c 0) [] (.exit 0) [picV R n h rc c, .undef] []) := by
  refine loop_steps hm18 (by kernel_rfl) (fun i => v29 R n h rc c (i : Nat)) (fun _ => []) (n := h) (fun i hi => ?_) ?_
  · refine Step.mk0 (A := A18) (m := 0) none_ok rfl rfl loops0 (h1 := []) ?_ .nil
    refine Eq.trans (show iterR P18 G18 A18 noneO 0 29 [] 4 (v29 R n h rc c i) [] =
(
 bif decide (Int.ofNat i < Int.ofNat h) then
 bif decide ((0 : Int) ≤ Int.ofNat i) && decide (Int.ofNat i < Int.ofNat h) then
 bif decide ((16 : Int) < Int.ofNat n) then
 some ((Ex.ret, [T.view 1 h (fun i => [T.view 1 n (fun j => [T.int .u8 (R i j)]) rc]) c, T.int .i64 (3 : Int)], []))
 else
 some ((Ex.normal, [T.view 1 h (fun i => [T.view 1 n (fun j => [T.int .u8 (R i j)]) rc]) c, T.view 1 h (fun i => [T.view 1 n (fun j => [T.int .u8 (R i j)]) rc]) c, T.int .i64 (Int.ofNat h), T.int .i64 (IntKind.i64.wrap (Int.ofNat i + (1 : Int)))], []))
 else none else
 some ((Ex.exit 0, [T.view 1 h (fun i => [T.view 1 n (fun j => [T.int .u8 (R i j)]) rc]) c, T.undef], []))) from by kernel_rfl) ?_
    (repeat (first | (refine bift (by first | assumption | omega | (simp (disch := omega) only [wr64, wr8, wr16, wr32, ofNatE, toNatE, toNatE1, Bool.and_eq_true, Bool.or_eq_true, Bool.not_eq_true', decide_eq_true_eq, decide_eq_false_iff_not, nble, nblt, nbeq, Nat.zero_add, Nat.add_zero, Int.zero_add, Int.add_zero, List.length_cons, List.length_nil, true_and, and_true, Nat.reduceAdd, and_self]; done) | (simp (disch := omega) only [wr64, wr8, wr16, wr32, ofNatE, toNatE, toNatE1, Bool.and_eq_true, Bool.or_eq_true, Bool.not_eq_true', decide_eq_true_eq, decide_eq_false_iff_not, nble, nblt, nbeq, Nat.zero_add, Nat.add_zero, Int.zero_add, Int.add_zero, List.length_cons, List.length_nil, true_and, and_true, Nat.reduceAdd, and_self]; omega)) ?_) | (refine biff (by first | assumption | (simp (disch := omega) only [wr64, wr8, wr16, wr32, ofNatE, toNatE, toNatE1, Bool.and_eq_true, Bool.or_eq_true, Bool.not_eq_true', decide_eq_true_eq, decide_eq_false_iff_not, nble, nblt, nbeq, Nat.zero_add, Nat.add_zero, Int.zero_add, Int.add_zero, List.length_cons, List.length_nil, true_and, and_true, Nat.reduceAdd, and_self]; done) | (simp (disch := omega) only [wr64, wr8, wr16, wr32, ofNatE, toNatE, toNatE1, Bool.and_eq_true, Bool.or_eq_true, Bool.not_eq_true', decide_eq_true_eq, decide_eq_false_iff_not, nble, nblt, nbeq, Nat.zero_add, Nat.add_zero, Int.zero_add, Int.add_zero, List.length_cons, List.length_nil, true_and, and_true, Nat.reduceAdd, and_self]; omega)) ?_)))
    rw [ofNatE i, wr64 (x := (i : Int) + 1) (by omega) (by omega)]
    rfl
  · refine Last.mk0 (A := A18) (m := 0) none_ok rfl rfl loops0 (h1 := []) (by simp) ?_ .nil
    refine Eq.trans (show iterR P18 G18 A18 noneO 0 29 [] 4 (v29 R n h rc c h) [] =
(
 bif decide (Int.ofNat h < Int.ofNat h) then
 bif decide ((0 : Int) ≤ Int.ofNat h) && decide (Int.ofNat h < Int.ofNat h) then
 bif decide ((16 : Int) < Int.ofNat n) then
 some ((Ex.ret, [T.view 1 h (fun i => [T.view 1 n (fun j => [T.int .u8 (R i j)]) rc]) c, T.int .i64 (3 : Int)], []))
 else
 some ((Ex.normal, [T.view 1 h (fun i => [T.view 1 n (fun j => [T.int .u8 (R i j)]) rc]) c, T.view 1 h (fun i => [T.view 1 n (fun j => [T.int .u8 (R i j)]) rc]) c, T.int .i64 (Int.ofNat h), T.int .i64 (IntKind.i64.wrap (Int.ofNat h + (1 : Int)))], []))
 else none else
 some ((Ex.exit 0, [T.view 1 h (fun i => [T.view 1 n (fun j => [T.int .u8 (R i j)]) rc]) c, T.undef], []))) from by kernel_rfl) ?_
    (repeat (first | (refine bift (by first | assumption | omega | (simp (disch := omega) only [wr64, wr8, wr16, wr32, ofNatE, toNatE, toNatE1, Bool.and_eq_true, Bool.or_eq_true, Bool.not_eq_true', decide_eq_true_eq, decide_eq_false_iff_not, nble, nblt, nbeq, Nat.zero_add, Nat.add_zero, Int.zero_add, Int.add_zero, List.length_cons, List.length_nil, true_and, and_true, Nat.reduceAdd, and_self]; done) | (simp (disch := omega) only [wr64, wr8, wr16, wr32, ofNatE, toNatE, toNatE1, Bool.and_eq_true, Bool.or_eq_true, Bool.not_eq_true', decide_eq_true_eq, decide_eq_false_iff_not, nble, nblt, nbeq, Nat.zero_add, Nat.add_zero, Int.zero_add, Int.add_zero, List.length_cons, List.length_nil, true_and, and_true, Nat.reduceAdd, and_self]; omega)) ?_) | (refine biff (by first | assumption | (simp (disch := omega) only [wr64, wr8, wr16, wr32, ofNatE, toNatE, toNatE1, Bool.and_eq_true, Bool.or_eq_true, Bool.not_eq_true', decide_eq_true_eq, decide_eq_false_iff_not, nble, nblt, nbeq, Nat.zero_add, Nat.add_zero, Int.zero_add, Int.add_zero, List.length_cons, List.length_nil, true_and, and_true, Nat.reduceAdd, and_self]; done) | (simp (disch := omega) only [wr64, wr8, wr16, wr32, ofNatE, toNatE, toNatE1, Bool.and_eq_true, Bool.or_eq_true, Bool.not_eq_true', decide_eq_true_eq, decide_eq_false_iff_not, nble, nblt, nbeq, Nat.zero_add, Nat.add_zero, Int.zero_add, Int.add_zero, List.length_cons, List.length_nil, true_and, and_true, Nat.reduceAdd, and_self]; omega)) ?_)))
    rfl
theorem l29b (hn1 : 1 ≤ n) (hn : n ≤ 16) (hh : h ≤ 31) (hc : ∀ i, i < h → ∀ j, j < n → 1 ≤ R i j ∧ R i j ≤ 6) : LoopOk P18 G18 (A18 29) 29 12 (litS (v29 R n h rc c 0) [] (.exit 2) [picV R n h rc c, .undef] []) := by
  obtain ⟨p, hp⟩ := is_val P18 G18 45
  obtain ⟨q, hq⟩ := is_val P18 G18 46
  refine loop_steps hm18 (by kernel_rfl) (fun i => v29 R n h rc c (i : Nat)) (fun _ => []) (n := h) (fun i hi => ?_) ?_
  · have t1 := minT (R i) n rc hn1 (by omega)
    have t2 := maxT (R i) n rc hn1 (by omega)
    have g1 := mnF_ge (R i) 1 (n - 1) fun j hj => (hc i hi j (by omega)).1
    have g2 := mxF_le (R i) 6 (n - 1) fun j hj => (hc i hi j (by omega)).2
    clear hc
    generalize mnF (R i) (n - 1) = a at *
    generalize mxF (R i) (n - 1) = b at *
    refine Step.mk0 (A := A18) (K := K29 p q a b) (m := 0) (told_add (told_add none_ok (callF_told hp)) (callF_told hq)) rfl rfl loops0 (h1 := []) ?_ .nil
    refine Eq.trans (show iterR P18 G18 A18 (K29 p q a b) 0 29 [] 12 (v29 R n h rc c i) [] =
(
 bif decide (Int.ofNat i < Int.ofNat h) then
 bif decide ((0 : Int) ≤ Int.ofNat i) && decide (Int.ofNat i < Int.ofNat h) then
 bif decide (Int.ofNat n = (0 : Int)) then
 some ((Ex.ret, [T.view 1 h (fun i => [T.view 1 n (fun j => [T.int .u8 (R i j)]) rc]) c, T.int .i64 (1 : Int)], []))
 else
 bif decF (p [T.view 1 n (fun j => [T.int .u8 (R i j)]) rc] (T.int .u8 a)) then
 bif decide (a < (1 : Int)) then
 some ((Ex.ret, [T.view 1 h (fun i => [T.view 1 n (fun j => [T.int .u8 (R i j)]) rc]) c, T.int .i64 (1 : Int)], []))
 else
 bif decF (q [T.view 1 n (fun j => [T.int .u8 (R i j)]) rc] (T.int .u8 b)) then
 bif decide ((6 : Int) < b) then
 some ((Ex.ret, [T.view 1 h (fun i => [T.view 1 n (fun j => [T.int .u8 (R i j)]) rc]) c, T.int .i64 (1 : Int)], []))
 else
 some ((Ex.normal, [T.view 1 h (fun i => [T.view 1 n (fun j => [T.int .u8 (R i j)]) rc]) c, T.view 1 h (fun i => [T.view 1 n (fun j => [T.int .u8 (R i j)]) rc]) c, T.int .i64 (Int.ofNat h), T.int .i64 (IntKind.i64.wrap (Int.ofNat i + (1 : Int)))], []))
 else none else none else none else
 some ((Ex.exit 2, [T.view 1 h (fun i => [T.view 1 n (fun j => [T.int .u8 (R i j)]) rc]) c, T.undef], []))) from by kernel_rfl) ?_
    refine bift (by first | assumption | omega | (simp (disch := omega) only [wr64, wr8, wr16, wr32, ofNatE, toNatE, toNatE1, Bool.and_eq_true, Bool.or_eq_true, Bool.not_eq_true', decide_eq_true_eq, decide_eq_false_iff_not, nble, nblt, nbeq, Nat.zero_add, Nat.add_zero, Int.zero_add, Int.add_zero, List.length_cons, List.length_nil, true_and, and_true, Nat.reduceAdd, and_self]; done) | (simp (disch := omega) only [wr64, wr8, wr16, wr32, ofNatE, toNatE, toNatE1, Bool.and_eq_true, Bool.or_eq_true, Bool.not_eq_true', decide_eq_true_eq, decide_eq_false_iff_not, nble, nblt, nbeq, Nat.zero_add, Nat.add_zero, Int.zero_add, Int.add_zero, List.length_cons, List.length_nil, true_and, and_true, Nat.reduceAdd, and_self]; omega)) ?_
    refine bift (by first | assumption | omega | (simp (disch := omega) only [wr64, wr8, wr16, wr32, ofNatE, toNatE, toNatE1, Bool.and_eq_true, Bool.or_eq_true, Bool.not_eq_true', decide_eq_true_eq, decide_eq_false_iff_not, nble, nblt, nbeq, Nat.zero_add, Nat.add_zero, Int.zero_add, Int.add_zero, List.length_cons, List.length_nil, true_and, and_true, Nat.reduceAdd, and_self]; done) | (simp (disch := omega) only [wr64, wr8, wr16, wr32, ofNatE, toNatE, toNatE1, Bool.and_eq_true, Bool.or_eq_true, Bool.not_eq_true', decide_eq_true_eq, decide_eq_false_iff_not, nble, nblt, nbeq, Nat.zero_add, Nat.add_zero, Int.zero_add, Int.add_zero, List.length_cons, List.length_nil, true_and, and_true, Nat.reduceAdd, and_self]; omega)) ?_
    refine biff (by first | assumption | (simp (disch := omega) only [wr64, wr8, wr16, wr32, ofNatE, toNatE, toNatE1, Bool.and_eq_true, Bool.or_eq_true, Bool.not_eq_true', decide_eq_true_eq, decide_eq_false_iff_not, nble, nblt, nbeq, Nat.zero_add, Nat.add_zero, Int.zero_add, Int.add_zero, List.length_cons, List.length_nil, true_and, and_true, Nat.reduceAdd, and_self]; done) | (simp (disch := omega) only [wr64, wr8, wr16, wr32, ofNatE, toNatE, toNatE1, Bool.and_eq_true, Bool.or_eq_true, Bool.not_eq_true', decide_eq_true_eq, decide_eq_false_iff_not, nble, nblt, nbeq, Nat.zero_add, Nat.add_zero, Int.zero_add, Int.add_zero, List.length_cons, List.length_nil, true_and, and_true, Nat.reduceAdd, and_self]; omega)) ?_
    refine bift (callF_yes hp t1) ?_
    refine biff (by first | assumption | (simp (disch := omega) only [wr64, wr8, wr16, wr32, ofNatE, toNatE, toNatE1, Bool.and_eq_true, Bool.or_eq_true, Bool.not_eq_true', decide_eq_true_eq, decide_eq_false_iff_not, nble, nblt, nbeq, Nat.zero_add, Nat.add_zero, Int.zero_add, Int.add_zero, List.length_cons, List.length_nil, true_and, and_true, Nat.reduceAdd, and_self]; done) | (simp (disch := omega) only [wr64, wr8, wr16, wr32, ofNatE, toNatE, toNatE1, Bool.and_eq_true, Bool.or_eq_true, Bool.not_eq_true', decide_eq_true_eq, decide_eq_false_iff_not, nble, nblt, nbeq, Nat.zero_add, Nat.add_zero, Int.zero_add, Int.add_zero, List.length_cons, List.length_nil, true_and, and_true, Nat.reduceAdd, and_self]; omega)) ?_
    refine bift (callF_yes hq t2) ?_
    refine biff (by first | assumption | (simp (disch := omega) only [wr64, wr8, wr16, wr32, ofNatE, toNatE, toNatE1, Bool.and_eq_true, Bool.or_eq_true, Bool.not_eq_true', decide_eq_true_eq, decide_eq_false_iff_not, nble, nblt, nbeq, Nat.zero_add, Nat.add_zero, Int.zero_add, Int.add_zero, List.length_cons, List.length_nil, true_and, and_true, Nat.reduceAdd, and_self]; done) | (simp (disch := omega) only [wr64, wr8, wr16, wr32, ofNatE, toNatE, toNatE1, Bool.and_eq_true, Bool.or_eq_true, Bool.not_eq_true', decide_eq_true_eq, decide_eq_false_iff_not, nble, nblt, nbeq, Nat.zero_add, Nat.add_zero, Int.zero_add, Int.add_zero, List.length_cons, List.length_nil, true_and, and_true, Nat.reduceAdd, and_self]; omega)) ?_
    rw [ofNatE i, wr64 (x := (i : Int) + 1) (by omega) (by omega)]
    rfl
  · clear hc
    refine Last.mk0 (A := A18) (m := 0) none_ok rfl rfl loops0 (h1 := []) (by simp) ?_ .nil
    refine Eq.trans (show iterR P18 G18 A18 noneO 0 29 [] 12 (v29 R n h rc c h) [] =
(
 bif decide (Int.ofNat h < Int.ofNat h) then
 bif decide ((0 : Int) ≤ Int.ofNat h) && decide (Int.ofNat h < Int.ofNat h) then
 bif decide (Int.ofNat n = (0 : Int)) then
 some ((Ex.ret, [T.view 1 h (fun i => [T.view 1 n (fun j => [T.int .u8 (R i j)]) rc]) c, T.int .i64 (1 : Int)], []))
 else none else none else
 some ((Ex.exit 2, [T.view 1 h (fun i => [T.view 1 n (fun j => [T.int .u8 (R i j)]) rc]) c, T.undef], []))) from by kernel_rfl) ?_
    (repeat (first | (refine bift (by first | assumption | omega | (simp (disch := omega) only [wr64, wr8, wr16, wr32, ofNatE, toNatE, toNatE1, Bool.and_eq_true, Bool.or_eq_true, Bool.not_eq_true', decide_eq_true_eq, decide_eq_false_iff_not, nble, nblt, nbeq, Nat.zero_add, Nat.add_zero, Int.zero_add, Int.add_zero, List.length_cons, List.length_nil, true_and, and_true, Nat.reduceAdd, and_self]; done) | (simp (disch := omega) only [wr64, wr8, wr16, wr32, ofNatE, toNatE, toNatE1, Bool.and_eq_true, Bool.or_eq_true, Bool.not_eq_true', decide_eq_true_eq, decide_eq_false_iff_not, nble, nblt, nbeq, Nat.zero_add, Nat.add_zero, Int.zero_add, Int.add_zero, List.length_cons, List.length_nil, true_and, and_true, Nat.reduceAdd, and_self]; omega)) ?_) | (refine biff (by first | assumption | (simp (disch := omega) only [wr64, wr8, wr16, wr32, ofNatE, toNatE, toNatE1, Bool.and_eq_true, Bool.or_eq_true, Bool.not_eq_true', decide_eq_true_eq, decide_eq_false_iff_not, nble, nblt, nbeq, Nat.zero_add, Nat.add_zero, Int.zero_add, Int.add_zero, List.length_cons, List.length_nil, true_and, and_true, Nat.reduceAdd, and_self]; done) | (simp (disch := omega) only [wr64, wr8, wr16, wr32, ofNatE, toNatE, toNatE1, Bool.and_eq_true, Bool.or_eq_true, Bool.not_eq_true', decide_eq_true_eq, decide_eq_false_iff_not, nble, nblt, nbeq, Nat.zero_add, Nat.add_zero, Int.zero_add, Int.add_zero, List.length_cons, List.length_nil, true_and, and_true, Nat.reduceAdd, and_self]; omega)) ?_)))
    rfl
theorem l29c (hh : h ≤ 31) : LoopOk P18 G18 (A18 29) 29 18 (litS (v29 R n h rc c 0) [] (.exit 4) [picV R n h rc c, .undef] []) := by
  refine loop_steps hm18 (by kernel_rfl) (fun i => v29 R n h rc c (i : Nat)) (fun _ => []) (n := h) (fun i hi => ?_) ?_
  · refine Step.mk0 (A := A18) (m := 0) none_ok rfl rfl loops0 (h1 := []) ?_ .nil
    refine Eq.trans (show iterR P18 G18 A18 noneO 0 29 [] 18 (v29 R n h rc c i) [] =
(
 bif decide (Int.ofNat i < Int.ofNat h) then
 bif decide ((0 : Int) ≤ Int.ofNat i) && decide (Int.ofNat i < Int.ofNat h) then
 bif decide ((0 : Int) < Int.ofNat h) then
 bif !decide (Int.ofNat n = Int.ofNat n) then
 some ((Ex.ret, [T.view 1 h (fun i => [T.view 1 n (fun j => [T.int .u8 (R i j)]) rc]) c, T.int .i64 (5 : Int)], []))
 else
 some ((Ex.normal, [T.view 1 h (fun i => [T.view 1 n (fun j => [T.int .u8 (R i j)]) rc]) c, T.view 1 h (fun i => [T.view 1 n (fun j => [T.int .u8 (R i j)]) rc]) c, T.int .i64 (Int.ofNat h), T.int .i64 (IntKind.i64.wrap (Int.ofNat i + (1 : Int)))], []))
 else none else none else
 some ((Ex.exit 4, [T.view 1 h (fun i => [T.view 1 n (fun j => [T.int .u8 (R i j)]) rc]) c, T.undef], []))) from by kernel_rfl) ?_
    (repeat (first | (refine bift (by first | assumption | omega | (simp (disch := omega) only [wr64, wr8, wr16, wr32, ofNatE, toNatE, toNatE1, Bool.and_eq_true, Bool.or_eq_true, Bool.not_eq_true', decide_eq_true_eq, decide_eq_false_iff_not, nble, nblt, nbeq, Nat.zero_add, Nat.add_zero, Int.zero_add, Int.add_zero, List.length_cons, List.length_nil, true_and, and_true, Nat.reduceAdd, and_self]; done) | (simp (disch := omega) only [wr64, wr8, wr16, wr32, ofNatE, toNatE, toNatE1, Bool.and_eq_true, Bool.or_eq_true, Bool.not_eq_true', decide_eq_true_eq, decide_eq_false_iff_not, nble, nblt, nbeq, Nat.zero_add, Nat.add_zero, Int.zero_add, Int.add_zero, List.length_cons, List.length_nil, true_and, and_true, Nat.reduceAdd, and_self]; omega)) ?_) | (refine biff (by first | assumption | (simp (disch := omega) only [wr64, wr8, wr16, wr32, ofNatE, toNatE, toNatE1, Bool.and_eq_true, Bool.or_eq_true, Bool.not_eq_true', decide_eq_true_eq, decide_eq_false_iff_not, nble, nblt, nbeq, Nat.zero_add, Nat.add_zero, Int.zero_add, Int.add_zero, List.length_cons, List.length_nil, true_and, and_true, Nat.reduceAdd, and_self]; done) | (simp (disch := omega) only [wr64, wr8, wr16, wr32, ofNatE, toNatE, toNatE1, Bool.and_eq_true, Bool.or_eq_true, Bool.not_eq_true', decide_eq_true_eq, decide_eq_false_iff_not, nble, nblt, nbeq, Nat.zero_add, Nat.add_zero, Int.zero_add, Int.add_zero, List.length_cons, List.length_nil, true_and, and_true, Nat.reduceAdd, and_self]; omega)) ?_)))
    refine biff (by simp) ?_
    rw [ofNatE i, wr64 (x := (i : Int) + 1) (by omega) (by omega)]
    rfl
  · refine Last.mk0 (A := A18) (m := 0) none_ok rfl rfl loops0 (h1 := []) (by simp) ?_ .nil
    refine Eq.trans (show iterR P18 G18 A18 noneO 0 29 [] 18 (v29 R n h rc c h) [] =
(
 bif decide (Int.ofNat h < Int.ofNat h) then
 bif decide ((0 : Int) ≤ Int.ofNat h) && decide (Int.ofNat h < Int.ofNat h) then
 bif decide ((0 : Int) < Int.ofNat h) then
 bif !decide (Int.ofNat n = Int.ofNat n) then
 some ((Ex.ret, [T.view 1 h (fun i => [T.view 1 n (fun j => [T.int .u8 (R i j)]) rc]) c, T.int .i64 (5 : Int)], []))
 else
 some ((Ex.normal, [T.view 1 h (fun i => [T.view 1 n (fun j => [T.int .u8 (R i j)]) rc]) c, T.view 1 h (fun i => [T.view 1 n (fun j => [T.int .u8 (R i j)]) rc]) c, T.int .i64 (Int.ofNat h), T.int .i64 (IntKind.i64.wrap (Int.ofNat h + (1 : Int)))], []))
 else none else none else
 some ((Ex.exit 4, [T.view 1 h (fun i => [T.view 1 n (fun j => [T.int .u8 (R i j)]) rc]) c, T.undef], []))) from by kernel_rfl) ?_
    (repeat (first | (refine bift (by first | assumption | omega | (simp (disch := omega) only [wr64, wr8, wr16, wr32, ofNatE, toNatE, toNatE1, Bool.and_eq_true, Bool.or_eq_true, Bool.not_eq_true', decide_eq_true_eq, decide_eq_false_iff_not, nble, nblt, nbeq, Nat.zero_add, Nat.add_zero, Int.zero_add, Int.add_zero, List.length_cons, List.length_nil, true_and, and_true, Nat.reduceAdd, and_self]; done) | (simp (disch := omega) only [wr64, wr8, wr16, wr32, ofNatE, toNatE, toNatE1, Bool.and_eq_true, Bool.or_eq_true, Bool.not_eq_true', decide_eq_true_eq, decide_eq_false_iff_not, nble, nblt, nbeq, Nat.zero_add, Nat.add_zero, Int.zero_add, Int.add_zero, List.length_cons, List.length_nil, true_and, and_true, Nat.reduceAdd, and_self]; omega)) ?_) | (refine biff (by first | assumption | (simp (disch := omega) only [wr64, wr8, wr16, wr32, ofNatE, toNatE, toNatE1, Bool.and_eq_true, Bool.or_eq_true, Bool.not_eq_true', decide_eq_true_eq, decide_eq_false_iff_not, nble, nblt, nbeq, Nat.zero_add, Nat.add_zero, Int.zero_add, Int.add_zero, List.length_cons, List.length_nil, true_and, and_true, Nat.reduceAdd, and_self]; done) | (simp (disch := omega) only [wr64, wr8, wr16, wr32, ofNatE, toNatE, toNatE1, Bool.and_eq_true, Bool.or_eq_true, Bool.not_eq_true', decide_eq_true_eq, decide_eq_false_iff_not, nble, nblt, nbeq, Nat.zero_add, Nat.add_zero, Int.zero_add, Int.add_zero, List.length_cons, List.length_nil, true_and, and_true, Nat.reduceAdd, and_self]; omega)) ?_)))
    rfl
theorem l29d (hn1 : 1 ≤ n) (hn : n ≤ nmax) (hh : h ≤ 31) (hc : ∀ i, i < h → ∀ j, j < n → 1 ≤ R i j ∧ R i j ≤ 6) (h2 : ∀ i, i < h → kK (R i) n ≤ 2) : LoopOk P18 G18 (A18 29) 29 24 (litS (v29d R n h rc c 0) [] (.exit 6) [.undef] []) := by
  obtain ⟨p, hp⟩ := is_val P18 G18 47
  refine loop_steps hm18 (by kernel_rfl) (fun i => v29d R n h rc c (i : Nat)) (fun _ => []) (n := h) (fun i hi => ?_) ?_
  · have t1 := kindsT (R i) n rc hn1 hn fun j hj => by have := hc i hi j hj; omega
    have g1 := h2 i hi
    clear hc h2
    generalize kK (R i) n = k at *
    generalize csK (R i) n = cs at *
    refine Step.mk0 (A := A18) (K := K29k p (.new (rowV cs k none))) (m := 0) (told_add none_ok (callF_told hp)) rfl rfl loops0 (h1 := []) ?_ .nil
    refine Eq.trans (show iterR P18 G18 A18 (K29k p (.new (rowV cs k none))) 0 29 [] 24 (v29d R n h rc c i) [] =
(
 bif decide (Int.ofNat i < Int.ofNat h) then
 bif decide ((0 : Int) ≤ Int.ofNat i) && decide (Int.ofNat i < Int.ofNat h) then
 bif decF (p [T.view 1 n (fun j => [T.int .u8 (R i j)]) rc] (T.view 1 k (fun j => [T.int .u8 (cs j)])
 none).new) then
 bif decide ((2 : Int) < Int.ofNat k) then
 some ((Ex.ret, [T.int .i64 (14 : Int)], []))
 else
 some ((Ex.normal, [T.view 1 h (fun i => [T.view 1 n (fun j => [T.int .u8 (R i j)]) rc]) c, T.int .i64 (Int.ofNat h), T.int .i64 (IntKind.i64.wrap (Int.ofNat i + (1 : Int)))], []))
 else none else none else
 some ((Ex.exit 6, [T.undef], []))) from by kernel_rfl) ?_
    refine bift (by first | assumption | omega | (simp (disch := omega) only [wr64, wr8, wr16, wr32, ofNatE, toNatE, toNatE1, Bool.and_eq_true, Bool.or_eq_true, Bool.not_eq_true', decide_eq_true_eq, decide_eq_false_iff_not, nble, nblt, nbeq, Nat.zero_add, Nat.add_zero, Int.zero_add, Int.add_zero, List.length_cons, List.length_nil, true_and, and_true, Nat.reduceAdd, and_self]; done) | (simp (disch := omega) only [wr64, wr8, wr16, wr32, ofNatE, toNatE, toNatE1, Bool.and_eq_true, Bool.or_eq_true, Bool.not_eq_true', decide_eq_true_eq, decide_eq_false_iff_not, nble, nblt, nbeq, Nat.zero_add, Nat.add_zero, Int.zero_add, Int.add_zero, List.length_cons, List.length_nil, true_and, and_true, Nat.reduceAdd, and_self]; omega)) ?_
    refine bift (by first | assumption | omega | (simp (disch := omega) only [wr64, wr8, wr16, wr32, ofNatE, toNatE, toNatE1, Bool.and_eq_true, Bool.or_eq_true, Bool.not_eq_true', decide_eq_true_eq, decide_eq_false_iff_not, nble, nblt, nbeq, Nat.zero_add, Nat.add_zero, Int.zero_add, Int.add_zero, List.length_cons, List.length_nil, true_and, and_true, Nat.reduceAdd, and_self]; done) | (simp (disch := omega) only [wr64, wr8, wr16, wr32, ofNatE, toNatE, toNatE1, Bool.and_eq_true, Bool.or_eq_true, Bool.not_eq_true', decide_eq_true_eq, decide_eq_false_iff_not, nble, nblt, nbeq, Nat.zero_add, Nat.add_zero, Int.zero_add, Int.add_zero, List.length_cons, List.length_nil, true_and, and_true, Nat.reduceAdd, and_self]; omega)) ?_
    refine bift (callF_yes hp t1) ?_
    refine biff (by first | assumption | (simp (disch := omega) only [wr64, wr8, wr16, wr32, ofNatE, toNatE, toNatE1, Bool.and_eq_true, Bool.or_eq_true, Bool.not_eq_true', decide_eq_true_eq, decide_eq_false_iff_not, nble, nblt, nbeq, Nat.zero_add, Nat.add_zero, Int.zero_add, Int.add_zero, List.length_cons, List.length_nil, true_and, and_true, Nat.reduceAdd, and_self]; done) | (simp (disch := omega) only [wr64, wr8, wr16, wr32, ofNatE, toNatE, toNatE1, Bool.and_eq_true, Bool.or_eq_true, Bool.not_eq_true', decide_eq_true_eq, decide_eq_false_iff_not, nble, nblt, nbeq, Nat.zero_add, Nat.add_zero, Int.zero_add, Int.add_zero, List.length_cons, List.length_nil, true_and, and_true, Nat.reduceAdd, and_self]; omega)) ?_
    rw [ofNatE i, wr64 (x := (i : Int) + 1) (by omega) (by omega)]
    rfl
  · clear hc h2
    refine Last.mk0 (A := A18) (m := 0) none_ok rfl rfl loops0 (h1 := []) (by simp) ?_ .nil
    refine Eq.trans (show iterR P18 G18 A18 noneO 0 29 [] 24 (v29d R n h rc c h) [] =
(
 bif decide (Int.ofNat h < Int.ofNat h) then
 bif decide ((0 : Int) ≤ Int.ofNat h) && decide (Int.ofNat h < Int.ofNat h) then none else none else
 some ((Ex.exit 6, [T.undef], []))) from by kernel_rfl) ?_
    (repeat (first | (refine bift (by first | assumption | omega | (simp (disch := omega) only [wr64, wr8, wr16, wr32, ofNatE, toNatE, toNatE1, Bool.and_eq_true, Bool.or_eq_true, Bool.not_eq_true', decide_eq_true_eq, decide_eq_false_iff_not, nble, nblt, nbeq, Nat.zero_add, Nat.add_zero, Int.zero_add, Int.add_zero, List.length_cons, List.length_nil, true_and, and_true, Nat.reduceAdd, and_self]; done) | (simp (disch := omega) only [wr64, wr8, wr16, wr32, ofNatE, toNatE, toNatE1, Bool.and_eq_true, Bool.or_eq_true, Bool.not_eq_true', decide_eq_true_eq, decide_eq_false_iff_not, nble, nblt, nbeq, Nat.zero_add, Nat.add_zero, Int.zero_add, Int.add_zero, List.length_cons, List.length_nil, true_and, and_true, Nat.reduceAdd, and_self]; omega)) ?_) | (refine biff (by first | assumption | (simp (disch := omega) only [wr64, wr8, wr16, wr32, ofNatE, toNatE, toNatE1, Bool.and_eq_true, Bool.or_eq_true, Bool.not_eq_true', decide_eq_true_eq, decide_eq_false_iff_not, nble, nblt, nbeq, Nat.zero_add, Nat.add_zero, Int.zero_add, Int.add_zero, List.length_cons, List.length_nil, true_and, and_true, Nat.reduceAdd, and_self]; done) | (simp (disch := omega) only [wr64, wr8, wr16, wr32, ofNatE, toNatE, toNatE1, Bool.and_eq_true, Bool.or_eq_true, Bool.not_eq_true', decide_eq_true_eq, decide_eq_false_iff_not, nble, nblt, nbeq, Nat.zero_add, Nat.add_zero, Int.zero_add, Int.add_zero, List.length_cons, List.length_nil, true_and, and_true, Nat.reduceAdd, and_self]; omega)) ?_)))
    rfl
theorem checkT (ok : PicOk R n h) : ToldOk P18 G18 29 [picV R n h rc c] (.int .i64 0) := by
  have hn2 := ok.nm
  unfold nmax at hn2
  have h1 := ok.h1
  have h2 := ok.odd
  refine stepL_told hm18 hn18 none_ok (A := A18) (m := 0) (by kernel_rfl) (loopsC (l29a R n h rc c (by omega) h1) (loopsC (l29b R n h rc c ok.n1 (by omega) h1 ok.col) (loopsC (l29c R n h rc c h1) (loops1 (l29d R n h rc c ok.n1 ok.nm h1 ok.col ok.two))))) ?_
  refine Eq.trans (show stepL P18 G18 A18 noneO 0 29 [(4, litS (v29 R n h rc c 0) [] (.exit 0) [picV R n h rc c, .undef] []), (12, litS (v29 R n h rc c 0) [] (.exit 2) [picV R n h rc c, .undef] []), (18, litS (v29 R n h rc c 0) [] (.exit 4) [picV R n h rc c, .undef] []), (24, litS (v29d R n h rc c 0) [] (.exit 6) [.undef] [])] [picV R n h rc c] =
(
 bif decide ((31 : Int) < Int.ofNat h) then
 some (T.int .i64 (3 : Int))
 else
 bif weakF [T.view 1 h (fun i => [T.view 1 n (fun j => [T.int .u8 (R i j)]) rc]) c, T.view 1 h (fun i => [T.view 1 n (fun j => [T.int .u8 (R i j)]) rc]) c, T.int .i64 (Int.ofNat h), T.int .i64 (0 : Int)] [] [T.view 1 h (fun i => [T.view 1 n (fun j => [T.int .u8 (R i j)]) rc]) c, T.view 1 h (fun i => [T.view 1 n (fun j => [T.int .u8 (R i j)]) rc]) c, T.int .i64 (Int.ofNat h), T.int .i64 (0 : Int)] [] then
 bif decide ((Int.ofNat h).tmod (2 : Int) = (0 : Int)) then
 some (T.int .i64 (1 : Int))
 else
 bif weakF [T.view 1 h (fun i => [T.view 1 n (fun j => [T.int .u8 (R i j)]) rc]) c, T.view 1 h (fun i => [T.view 1 n (fun j => [T.int .u8 (R i j)]) rc]) c, T.int .i64 (Int.ofNat h), T.int .i64 (0 : Int)] [] [T.view 1 h (fun i => [T.view 1 n (fun j => [T.int .u8 (R i j)]) rc]) c, T.view 1 h (fun i => [T.view 1 n (fun j => [T.int .u8 (R i j)]) rc]) c, T.int .i64 (Int.ofNat h), T.int .i64 (0 : Int)] [] then
 bif weakF [T.view 1 h (fun i => [T.view 1 n (fun j => [T.int .u8 (R i j)]) rc]) c, T.view 1 h (fun i => [T.view 1 n (fun j => [T.int .u8 (R i j)]) rc]) c, T.int .i64 (Int.ofNat h), T.int .i64 (0 : Int)] [] [T.view 1 h (fun i => [T.view 1 n (fun j => [T.int .u8 (R i j)]) rc]) c, T.view 1 h (fun i => [T.view 1 n (fun j => [T.int .u8 (R i j)]) rc]) c, T.int .i64 (Int.ofNat h), T.int .i64 (0 : Int)] [] then
 bif weakF [T.view 1 h (fun i => [T.view 1 n (fun j => [T.int .u8 (R i j)]) rc]) c, T.int .i64 (Int.ofNat h), T.int .i64 (0 : Int)] [] [T.view 1 h (fun i => [T.view 1 n (fun j => [T.int .u8 (R i j)]) rc]) c, T.int .i64 (Int.ofNat h), T.int .i64 (0 : Int)] [] then
 some (T.int .i64 (0 : Int))
 else none else none else none else
 none) from by kernel_rfl) ?_
  refine biff (by first | assumption | (simp (disch := omega) only [wr64, wr8, wr16, wr32, ofNatE, toNatE, toNatE1, Bool.and_eq_true, Bool.or_eq_true, Bool.not_eq_true', decide_eq_true_eq, decide_eq_false_iff_not, nble, nblt, nbeq, Nat.zero_add, Nat.add_zero, Int.zero_add, Int.add_zero, List.length_cons, List.length_nil, true_and, and_true, Nat.reduceAdd, and_self]; done) | (simp (disch := omega) only [wr64, wr8, wr16, wr32, ofNatE, toNatE, toNatE1, Bool.and_eq_true, Bool.or_eq_true, Bool.not_eq_true', decide_eq_true_eq, decide_eq_false_iff_not, nble, nblt, nbeq, Nat.zero_add, Nat.add_zero, Int.zero_add, Int.add_zero, List.length_cons, List.length_nil, true_and, and_true, Nat.reduceAdd, and_self]; omega)) ?_
  refine bift (weakF_of ⟨rfl, .refl _⟩) ?_
  refine biff (by
    have e : (Int.ofNat h).tmod 2 = ((h % 2 : Nat) : Int) := rfl
    rw [e, h2]
    simp) ?_
  refine bift (weakF_of ⟨rfl, .refl _⟩) ?_
  refine bift (weakF_of ⟨rfl, .refl _⟩) ?_
  exact bift (weakF_of ⟨rfl, .refl _⟩) rfl
end
end Go.Ab

namespace Go.Ab
open Go.Proofs
def sumN (N : Nat → Int) : Nat → Int
  | 0 => 0
  | i + 1 => sumN N i + N i
def h14 (h : Nat) (w : Nat → T) : Heap := [⟨0, 1, h, fun e => [w e], false, false, none⟩]
def v14 (R : Nat → Nat → Int) (n h : Nat) (rc c : Option Nat) (most tot i : Int) : List T := [.int .i64 most, .own 0 0 0 h (some h), .int .i64 tot, picV R n h rc c, .int .i64 h, .int .i64 i]
def wrow (n : Nat) (W : Nat → Int) : T := .view 1 n (fun j => [.int .u8 (W j)]) (some n)
noncomputable def K14 (p : List T → T → Prop) (r : T) : Orc := noneO.add 30 (callF p fun _ => some r)
noncomputable def K14c (p : List T → T → Prop) : Orc := noneO.add 29 (callF p fun _ => some (.int .i64 0))
theorem sumN_bd {N : Nat → Int} {h : Nat} (hN : ∀ i, i < h → 0 ≤ N i ∧ N i ≤ 1001) : ∀ i, i ≤ h → 0 ≤ sumN N i ∧ sumN N i ≤ 1001 * i
  | 0, _ => by unfold sumN; omega
  | i + 1, hi => by
    have h1 := sumN_bd hN i (by omega)
    have h2 := hN i (by omega)
    unfold sumN
    omega
theorem l14 (R : Nat → Nat → Int) (n h : Nat) (rc c : Option Nat) (most : Int) (W : Nat → Nat → Int) (N : Nat → Int) (hh : h ≤ 31) (hN : ∀ i, i < h → 0 ≤ N i ∧ N i ≤ 1001)
    (hW : ∀ i, i < h → ToldOk P18 G18 30 [rowV (R i) n rc, .int .i64 most] (.tup [.new (wrow n (W i)), .int .i64 (N i)])) :
    LoopOk P18 G18 (A18 14) 14 9 (litS (v14 R n h rc c most 0 0) (h14 h fun _ => .nils) (.exit 0) [.own 0 0 0 h (some h), .int .i64 (sumN N h)] (h14 h fun e => wrow n (W e))) := by
  obtain ⟨p, hp⟩ := is_val P18 G18 30
  refine loop_steps hm18 (by kernel_rfl) (fun i => v14 R n h rc c most (sumN N i) (i : Nat)) (fun i => h14 h fun e => bif Nat.blt e i then wrow n (W e) else .nils) (n := h) (fun i hi => ?_) ?_
  · have t1 := hW i hi
    have hb := sumN_bd hN i (by omega)
    have hb2 := hN i hi
    have e : sumN N (i + 1) = sumN N i + N i := rfl
    rw [e]
    obtain ⟨w, hw⟩ : ∃ w : Nat → T, w = fun e => bif Nat.blt e i then wrow n (W e) else .nils := ⟨_, rfl⟩
    have ew : (fun e => bif Nat.blt e (i + 1) then wrow n (W e) else .nils) = fun e => bif e == 0 + i then wrow n (W i) else w e := by
      subst hw
      funext e
      show _ = bif e == 0 + i then wrow n (W i) else (bif Nat.blt e i then wrow n (W e) else .nils)
      rw [Nat.zero_add]
      by_cases q : e = i
      · subst q; rw [beq_self_eq_true, cond_true, bltT (by omega), cond_true]
      · rw [show (e == i) = false by simpa using q, cond_false]
        by_cases q2 : e < i
        · rw [bltT q2, bltT (by omega)]
        · rw [bltF (by omega), bltF (by omega)]
    rw [ew, ← hw]
    clear hN hW ew hw
    generalize W i = Wi at *
    generalize sumN N i = tot at *
    generalize N i = a at *
    refine Step.mk0 (A := A18) (K := K14 p (.tup [.new (wrow n Wi), .int .i64 a])) (m := 0) (told_add none_ok (callF_told hp)) rfl rfl loops0 (h1 := h14 h fun e => bif e == 0 + i then wrow n Wi else w e) ?_ (.refl _)
    refine Eq.trans (show iterR P18 G18 A18 (K14 p (.tup [.new (wrow n Wi), .int .i64 a])) 0 14 [] 9 (v14 R n h rc c most tot i) (h14 h w) =
(
 bif decide (Int.ofNat i < Int.ofNat h) then
 bif decide ((0 : Int) ≤ Int.ofNat i) && decide (Int.ofNat i < Int.ofNat h) then
 bif decF (p [T.view 1 n (fun j => [T.int .u8 (R i j)]) rc, T.int .i64 most] (T.tup [(T.view 1 n (fun j => [T.int .u8 (Wi j)]) (some n)).new, T.int .i64 a])) then
 bif decide ((0 : Int) ≤ Int.ofNat i) && decide (Int.ofNat i < Int.ofNat h) then
 bif ((0 : Nat) + i).blt h && [T.view 1 n (fun j => [T.int .u8 (Wi j)]) (some n)].length == (1 : Nat) && true && true then
 some ((Ex.normal, [T.int .i64 most, T.own 0 0 0 h (some h), T.int .i64 (IntKind.i64.wrap (tot + a)), T.view 1 h (fun i => [T.view 1 n (fun j => [T.int .u8 (R i j)]) rc]) c, T.int .i64 (Int.ofNat h), T.int .i64 (IntKind.i64.wrap (Int.ofNat i + (1 : Int)))], [Blk.mk 0 1 h (fun e => [bif e == (0 : Nat) + i then T.view 1 n (fun j => [T.int .u8 (Wi j)]) (some n)
 else w e]) false false
 none]))
 else none else none else none else none else
 some ((Ex.exit 0, [T.own 0 0 0 h (some h), T.int .i64 tot], [Blk.mk 0 1 h (fun e => [w e]) false false
 none]))) from by kernel_rfl) ?_
    refine bift (by first | assumption | omega | (simp (disch := omega) only [wr64, wr8, wr16, wr32, ofNatE, toNatE, toNatE1, Bool.and_eq_true, Bool.or_eq_true, Bool.not_eq_true', decide_eq_true_eq, decide_eq_false_iff_not, nble, nblt, nbeq, Nat.zero_add, Nat.add_zero, Int.zero_add, Int.add_zero, List.length_cons, List.length_nil, true_and, and_true, Nat.reduceAdd, and_self]; done) | (simp (disch := omega) only [wr64, wr8, wr16, wr32, ofNatE, toNatE, toNatE1, Bool.and_eq_true, Bool.or_eq_true, Bool.not_eq_true', decide_eq_true_eq, decide_eq_false_iff_not, nble, nblt, nbeq, Nat.zero_add, Nat.add_zero, Int.zero_add, Int.add_zero, List.length_cons, List.length_nil, true_and, and_true, Nat.reduceAdd, and_self]; omega)) ?_
    refine bift (by first | assumption | omega | (simp (disch := omega) only [wr64, wr8, wr16, wr32, ofNatE, toNatE, toNatE1, Bool.and_eq_true, Bool.or_eq_true, Bool.not_eq_true', decide_eq_true_eq, decide_eq_false_iff_not, nble, nblt, nbeq, Nat.zero_add, Nat.add_zero, Int.zero_add, Int.add_zero, List.length_cons, List.length_nil, true_and, and_true, Nat.reduceAdd, and_self]; done) | (simp (disch := omega) only [wr64, wr8, wr16, wr32, ofNatE, toNatE, toNatE1, Bool.and_eq_true, Bool.or_eq_true, Bool.not_eq_true', decide_eq_true_eq, decide_eq_false_iff_not, nble, nblt, nbeq, Nat.zero_add, Nat.add_zero, Int.zero_add, Int.add_zero, List.length_cons, List.length_nil, true_and, and_true, Nat.reduceAdd, and_self]; omega)) ?_
    refine bift (callF_yes hp t1) ?_
    refine bift (by first | assumption | omega | (simp (disch := omega) only [wr64, wr8, wr16, wr32, ofNatE, toNatE, toNatE1, Bool.and_eq_true, Bool.or_eq_true, Bool.not_eq_true', decide_eq_true_eq, decide_eq_false_iff_not, nble, nblt, nbeq, Nat.zero_add, Nat.add_zero, Int.zero_add, Int.add_zero, List.length_cons, List.length_nil, true_and, and_true, Nat.reduceAdd, and_self]; done) | (simp (disch := omega) only [wr64, wr8, wr16, wr32, ofNatE, toNatE, toNatE1, Bool.and_eq_true, Bool.or_eq_true, Bool.not_eq_true', decide_eq_true_eq, decide_eq_false_iff_not, nble, nblt, nbeq, Nat.zero_add, Nat.add_zero, Int.zero_add, Int.add_zero, List.length_cons, List.length_nil, true_and, and_true, Nat.reduceAdd, and_self]; omega)) ?_
    refine bift (by first | assumption | omega | (simp (disch := omega) only [wr64, wr8, wr16, wr32, ofNatE, toNatE, toNatE1, Bool.and_eq_true, Bool.or_eq_true, Bool.not_eq_true', decide_eq_true_eq, decide_eq_false_iff_not, nble, nblt, nbeq, Nat.zero_add, Nat.add_zero, Int.zero_add, Int.add_zero, List.length_cons, List.length_nil, true_and, and_true, Nat.reduceAdd, and_self]; done) | (simp (disch := omega) only [wr64, wr8, wr16, wr32, ofNatE, toNatE, toNatE1, Bool.and_eq_true, Bool.or_eq_true, Bool.not_eq_true', decide_eq_true_eq, decide_eq_false_iff_not, nble, nblt, nbeq, Nat.zero_add, Nat.add_zero, Int.zero_add, Int.add_zero, List.length_cons, List.length_nil, true_and, and_true, Nat.reduceAdd, and_self]; omega)) ?_
    rw [ofNatE i, wr64 (x := (i : Int) + 1) (by omega) (by omega), wr64 (x := tot + a) (by omega) (by omega)]
    rfl
  · generalize sumN N h = tot at *
    refine Last.mk0 (A := A18) (m := 0) none_ok rfl rfl loops0 (h1 := h14 h fun e => bif Nat.blt e h then wrow n (W e) else .nils) (by simp) ?_ (.cons ⟨rfl, rfl, rfl, id, fun j hj => ?_⟩ .nil)
    · generalize (fun e => bif Nat.blt e h then wrow n (W e) else .nils) = w at *
      refine Eq.trans (show iterR P18 G18 A18 noneO 0 14 [] 9 (v14 R n h rc c most tot h) (h14 h w) =
(
 bif decide (Int.ofNat h < Int.ofNat h) then
 bif decide ((0 : Int) ≤ Int.ofNat h) && decide (Int.ofNat h < Int.ofNat h) then none else none else
 some ((Ex.exit 0, [T.own 0 0 0 h (some h), T.int .i64 tot], [Blk.mk 0 1 h (fun e => [w e]) false false
 none]))) from by kernel_rfl) ?_
      (repeat (first | (refine bift (by first | assumption | omega | (simp (disch := omega) only [wr64, wr8, wr16, wr32, ofNatE, toNatE, toNatE1, Bool.and_eq_true, Bool.or_eq_true, Bool.not_eq_true', decide_eq_true_eq, decide_eq_false_iff_not, nble, nblt, nbeq, Nat.zero_add, Nat.add_zero, Int.zero_add, Int.add_zero, List.length_cons, List.length_nil, true_and, and_true, Nat.reduceAdd, and_self]; done) | (simp (disch := omega) only [wr64, wr8, wr16, wr32, ofNatE, toNatE, toNatE1, Bool.and_eq_true, Bool.or_eq_true, Bool.not_eq_true', decide_eq_true_eq, decide_eq_false_iff_not, nble, nblt, nbeq, Nat.zero_add, Nat.add_zero, Int.zero_add, Int.add_zero, List.length_cons, List.length_nil, true_and, and_true, Nat.reduceAdd, and_self]; omega)) ?_) | (refine biff (by first | assumption | (simp (disch := omega) only [wr64, wr8, wr16, wr32, ofNatE, toNatE, toNatE1, Bool.and_eq_true, Bool.or_eq_true, Bool.not_eq_true', decide_eq_true_eq, decide_eq_false_iff_not, nble, nblt, nbeq, Nat.zero_add, Nat.add_zero, Int.zero_add, Int.add_zero, List.length_cons, List.length_nil, true_and, and_true, Nat.reduceAdd, and_self]; done) | (simp (disch := omega) only [wr64, wr8, wr16, wr32, ofNatE, toNatE, toNatE1, Bool.and_eq_true, Bool.or_eq_true, Bool.not_eq_true', decide_eq_true_eq, decide_eq_false_iff_not, nble, nblt, nbeq, Nat.zero_add, Nat.add_zero, Int.zero_add, Int.add_zero, List.length_cons, List.length_nil, true_and, and_true, Nat.reduceAdd, and_self]; omega)) ?_)))
      rfl
    · show [wrow n (W j)] = [bif Nat.blt j h then wrow n (W j) else .nils]
      rw [bltT hj, cond_true]
/-- Weave, if its rows are woven. -/
theorem WeaveT (R : Nat → Nat → Int) (n h : Nat) (rc c : Option Nat) (most : Int) (W : Nat → Nat → Int) (N : Nat → Int) (ok : PicOk R n h) (hm : 1 ≤ most ∧ most ≤ 16) (hN : ∀ i, i < h → 0 ≤ N i ∧ N i ≤ 1001)
    (hW : ∀ i, i < h → ToldOk P18 G18 30 [rowV (R i) n rc, .int .i64 most] (.tup [.new (wrow n (W i)), .int .i64 (N i)])) :
    ToldOk P18 G18 14 [picV R n h rc c, .int .i64 most] (.tup [.fresh false 1 h (fun i => [wrow n (W i)]) h (some h), .int .i64 (sumN N h), .int .i64 0]) := by
  obtain ⟨p, hp⟩ := is_val P18 G18 29
  have h1 := ok.h1
  have t1 := checkT R n h rc c ok
  have hl := l14 R n h rc c most W N h1 hN hW
  generalize sumN N h = tot at *
  clear hW hN
  refine stepL_told hm18 hn18 (K := K14c p) (told_add none_ok (callF_told hp)) (A := A18) (m := 0) (by kernel_rfl) (loops1 hl) ?_
  refine Eq.trans (show stepL P18 G18 A18 (K14c p) 0 14 [(9, litS (v14 R n h rc c most 0 0) (h14 h fun _ => .nils) (.exit 0) [.own 0 0 0 h (some h), .int .i64 tot] (h14 h fun e => wrow n (W e)))] [picV R n h rc c, .int .i64 most] =
(
 bif decF (p [T.view 1 h (fun i => [T.view 1 n (fun j => [T.int .u8 (R i j)]) rc]) c] (T.int .i64 (0 : Int))) then
 bif decide (most < (1 : Int)) then
 some (T.tup [T.nils, T.int .i64 (0 : Int), T.int .i64 (1 : Int)])
 else
 bif decide ((16 : Int) < most) then
 some (T.tup [T.nils, T.int .i64 (0 : Int), T.int .i64 (1 : Int)])
 else
 bif decide ((0 : Int) ≤ Int.ofNat h) && decide (Int.ofNat h ≤ Int.ofNat h) && decide (Int.ofNat h * (24 : Int) ≤ (140737488355328 : Int)) && decide (Int.ofNat h ≤ (9223372036854775807 : Int)) then
 bif weakF [T.int .i64 most, T.own 0 0 0 h (some h), T.int .i64 (0 : Int), T.view 1 h (fun i => [T.view 1 n (fun j => [T.int .u8 (R i j)]) rc]) c, T.int .i64 (Int.ofNat h), T.int .i64 (0 : Int)] [Blk.mk 0 1 h (fun x => [T.nils]) false false
 none] [T.int .i64 most, T.own 0 0 0 h (some h), T.int .i64 (0 : Int), T.view 1 h (fun i => [T.view 1 n (fun j => [T.int .u8 (R i j)]) rc]) c, T.int .i64 (Int.ofNat h), T.int .i64 (0 : Int)] [Blk.mk 0 1 h (fun e => [T.nils]) false false
 none] then
 some (T.tup [bif ((0 : Nat) + h).ble h then T.fresh false (1 : Nat) (h - (0 : Nat)) (fun j => [T.view 1 n (fun j_1 => [T.int .u8 (W ((0 : Nat) + j) j_1)]) (some n)]) h (some h)
 else T.undef, T.int .i64 tot, T.int .i64 (0 : Int)])
 else none else none else
 none) from by kernel_rfl) ?_
  refine bift (callF_yes hp t1) ?_
  refine biff (by first | assumption | (simp (disch := omega) only [wr64, wr8, wr16, wr32, ofNatE, toNatE, toNatE1, Bool.and_eq_true, Bool.or_eq_true, Bool.not_eq_true', decide_eq_true_eq, decide_eq_false_iff_not, nble, nblt, nbeq, Nat.zero_add, Nat.add_zero, Int.zero_add, Int.add_zero, List.length_cons, List.length_nil, true_and, and_true, Nat.reduceAdd, and_self]; done) | (simp (disch := omega) only [wr64, wr8, wr16, wr32, ofNatE, toNatE, toNatE1, Bool.and_eq_true, Bool.or_eq_true, Bool.not_eq_true', decide_eq_true_eq, decide_eq_false_iff_not, nble, nblt, nbeq, Nat.zero_add, Nat.add_zero, Int.zero_add, Int.add_zero, List.length_cons, List.length_nil, true_and, and_true, Nat.reduceAdd, and_self]; omega)) ?_
  refine biff (by first | assumption | (simp (disch := omega) only [wr64, wr8, wr16, wr32, ofNatE, toNatE, toNatE1, Bool.and_eq_true, Bool.or_eq_true, Bool.not_eq_true', decide_eq_true_eq, decide_eq_false_iff_not, nble, nblt, nbeq, Nat.zero_add, Nat.add_zero, Int.zero_add, Int.add_zero, List.length_cons, List.length_nil, true_and, and_true, Nat.reduceAdd, and_self]; done) | (simp (disch := omega) only [wr64, wr8, wr16, wr32, ofNatE, toNatE, toNatE1, Bool.and_eq_true, Bool.or_eq_true, Bool.not_eq_true', decide_eq_true_eq, decide_eq_false_iff_not, nble, nblt, nbeq, Nat.zero_add, Nat.add_zero, Int.zero_add, Int.add_zero, List.length_cons, List.length_nil, true_and, and_true, Nat.reduceAdd, and_self]; omega)) ?_
  refine bift (by first | assumption | omega | (simp (disch := omega) only [wr64, wr8, wr16, wr32, ofNatE, toNatE, toNatE1, Bool.and_eq_true, Bool.or_eq_true, Bool.not_eq_true', decide_eq_true_eq, decide_eq_false_iff_not, nble, nblt, nbeq, Nat.zero_add, Nat.add_zero, Int.zero_add, Int.add_zero, List.length_cons, List.length_nil, true_and, and_true, Nat.reduceAdd, and_self]; done) | (simp (disch := omega) only [wr64, wr8, wr16, wr32, ofNatE, toNatE, toNatE1, Bool.and_eq_true, Bool.or_eq_true, Bool.not_eq_true', decide_eq_true_eq, decide_eq_false_iff_not, nble, nblt, nbeq, Nat.zero_add, Nat.add_zero, Int.zero_add, Int.add_zero, List.length_cons, List.length_nil, true_and, and_true, Nat.reduceAdd, and_self]; omega)) ?_
  refine bift (weakF_of ⟨rfl, .refl _⟩) ?_
  simp only [Nat.zero_add, Nat.sub_zero, bleT (Nat.le_refl _), cond_true]
  rfl
end Go.Ab

/- Weaving, plainly: what the map of least changes holds, and that the row that is read off it is the first with the fewest changes. -/
namespace Go.Ab
open Go.Proofs
section
variable (r : Nat → Int) (n : Nat) (cs : Nat → Int) (k : Nat) (most : Int)
/-- The least number of changes of the last m stitches behind s. -/
def lkB (f : PS → Int) (a : Nat) (s : PS) : Nat → Int
  | 0 => (n : Int) + 1
  | i + 1 => bif s.ok most (cs i) then (bif decide (f (s.nx (cs i)) + chg (r a) (cs i) < lkB f a s i) then f (s.nx (cs i)) + chg (r a) (cs i) else lkB f a s i) else lkB f a s i
def lk : Nat → PS → Int
  | 0, _ => 0
  | m + 1, s => lkB r n cs most (lk m) (n - (m + 1)) s k
end
def Good (r : Nat → Int) (n : Nat) (cs : Nat → Int) (k : Nat) (most : Int) (m : MapD) (a : Nat) (s : PS) : Prop := m.val (s.key a) = lk r n cs k most (n - a) s
theorem b2i_inj {a b : Bool} (h : b2i a = b2i b) : a = b := by
  cases a <;> cases b <;> first | rfl | (simp [b2i] at h)
theorem key_inj {s t : PS} {a b : Int} (h : s.key a = t.key b) : a = b ∧ s = t := by
  obtain ⟨c, ru, i⟩ := s
  obtain ⟨c2, ru2, i2⟩ := t
  simp only [PS.key, List.cons.injEq, and_true] at h
  obtain ⟨h1, h2, h3, h4⟩ := h
  obtain rfl := b2i_inj h4
  subst h1 h2 h3
  exact ⟨rfl, rfl⟩
section
variable {r : Nat → Int} {n : Nat} {cs : Nat → Int} {k : Nat} {most : Int}
theorem bestF_lk (val : List Int → Int) (f : PS → Int) (a : Nat) (s : PS) : ∀ i, (∀ j, j < i → val ((s.nx (cs j)).key ((a : Int) + 1)) = f (s.nx (cs j))) → bestF r n cs most val a s.c s.run s.inn i = lkB r n cs most f a s i
  | 0, _ => rfl
  | i + 1, h => by
    have ih := bestF_lk val f a s i fun j hj => h j (by omega)
    have hi := h i (by omega)
    unfold bestF lkB
    rw [ih]
    have e : tryF r most val a s.c s.run s.inn (cs i) = f (s.nx (cs i)) + chg (r a) (cs i) := by
      rw [← hi]; rfl
    rw [e]
    rfl
theorem lkB_congr (f g : PS → Int) (a : Nat) (s : PS) : ∀ i, (∀ j, j < i → f (s.nx (cs j)) = g (s.nx (cs j))) → lkB r n cs most f a s i = lkB r n cs most g a s i
  | 0, _ => rfl
  | i + 1, h => by
    unfold lkB
    rw [lkB_congr f g a s i fun j hj => h j (by omega), h i (by omega)]
theorem fillM_val (a : Nat) (s : PS) (m : MapD) (l : List Int) : (fillM r n cs k most a s.c s.run s.inn m).val l = if l = s.key a then fillZ r n cs k most m.val a s.c s.run s.inn else m.val l := by
  show (bif keq l [(a : Int), s.c, s.run, b2i s.inn] then fillZ r n cs k most m.val ((a : Int)).toNat s.c s.run s.inn else m.val l) = _
  by_cases q : l = s.key a
  · rw [if_pos q, q]
    show (bif keq [(a : Int), s.c, s.run, b2i s.inn] [(a : Int), s.c, s.run, b2i s.inn] then _ else _) = _
    rw [keq_self, cond_true]
    rfl
  · rw [if_neg q, show keq l [(a : Int), s.c, s.run, b2i s.inn] = false from keq_ne q, cond_false]
/-- A fill keeps what is right, and makes its own place right. -/
theorem Good.fill {m : MapD} {a b : Nat} {s t : PS} (ha : a ≤ n) (h : Good r n cs k most m b t ∨ (b = a ∧ t = s)) (hs : a < n → ∀ j, j < k → Good r n cs k most m (a + 1) (s.nx (cs j))) : Good r n cs k most (fillM r n cs k most a s.c s.run s.inn m) b t := by
  unfold Good
  rw [fillM_val]
  by_cases q : t.key b = s.key a
  · rw [if_pos q]
    obtain ⟨q1, rfl⟩ := key_inj q
    obtain rfl : b = a := by omega
    unfold fillZ
    by_cases q2 : b = n
    · subst q2
      rw [if_pos rfl, Nat.sub_self]
      rfl
    · rw [if_neg q2]
      obtain ⟨m', hm'⟩ : ∃ m', n - b = m' + 1 := ⟨n - b - 1, by omega⟩
      rw [hm', bestF_lk (f := lk r n cs k most m') m.val b t k fun j hj => ?_]
      · show _ = lkB r n cs most (lk r n cs k most m') (n - (m' + 1)) t k
        rw [show n - (m' + 1) = b by omega]
      · have := hs (by omega) j hj
        unfold Good at this
        rw [show n - (b + 1) = m' by omega] at this
        rw [← this]
        rfl
  · rw [if_neg q]
    rcases h with h | ⟨rfl, rfl⟩
    · exact h
    · exact absurd rfl q
/-- The places of at. -/
def Pl (cs : Nat → Int) (k a : Nat) (s : PS) : Prop := ∃ i j, i < k ∧ 1 ≤ j ∧ j ≤ a ∧ s.c = cs i ∧ s.run = ((j : Nat) : Int)
theorem fold1_good {m : MapD} {a j : Nat} (ha : a ≤ n) (hs : a < n → ∀ i b, i < k → ∀ e, e < k → Good r n cs k most m (a + 1) (PS.nx ⟨cs i, (j : Nat), b⟩ (cs e))) : ∀ i, i ≤ k → (∀ b t, Good r n cs k most m b t → Good r n cs k most (fold1 (fillM r n cs k most) cs a j m i) b t) ∧ ∀ i', i' < i → ∀ b, Good r n cs k most (fold1 (fillM r n cs k most) cs a j m i) a ⟨cs i', (j : Nat), b⟩
  | 0, _ => ⟨fun _ _ h => h, fun i' h => by omega⟩
  | i + 1, hi => by
    obtain ⟨h1, h2⟩ := fold1_good ha hs i (by omega)
    have s1 : a < n → ∀ e, e < k → Good r n cs k most (fold1 (fillM r n cs k most) cs a j m i) (a + 1) (PS.nx ⟨cs i, (j : Nat), false⟩ (cs e)) := fun q e he => h1 _ _ (hs q i false (by omega) e he)
    have f1 : ∀ b t, (Good r n cs k most (fold1 (fillM r n cs k most) cs a j m i) b t ∨ (b = a ∧ t = ⟨cs i, (j : Nat), false⟩)) → Good r n cs k most (fillM r n cs k most a (cs i) (j : Nat) false (fold1 (fillM r n cs k most) cs a j m i)) b t := fun b t h => Good.fill (s := ⟨cs i, (j : Nat), false⟩) ha h s1
    have s2 : a < n → ∀ e, e < k → Good r n cs k most (fillM r n cs k most a (cs i) (j : Nat) false (fold1 (fillM r n cs k most) cs a j m i)) (a + 1) (PS.nx ⟨cs i, (j : Nat), true⟩ (cs e)) := fun q e he => f1 _ _ (.inl (h1 _ _ (hs q i true (by omega) e he)))
    have f2 : ∀ b t, (Good r n cs k most (fold1 (fillM r n cs k most) cs a j m i) b t ∨ (b = a ∧ t = ⟨cs i, (j : Nat), false⟩) ∨ (b = a ∧ t = ⟨cs i, (j : Nat), true⟩)) → Good r n cs k most (fold1 (fillM r n cs k most) cs a j m (i + 1)) b t := fun b t h =>
      Good.fill (s := ⟨cs i, (j : Nat), true⟩) ha (h.elim (fun h => .inl (f1 b t (.inl h))) fun h => h.elim (fun h => .inl (f1 b t (.inr h))) .inr) s2
    refine ⟨fun b t h => f2 b t (.inl (h1 b t h)), fun i' hi' b => ?_⟩
    by_cases q : i' = i
    · subst q
      cases b
      · exact f2 _ _ (.inr (.inl ⟨rfl, rfl⟩))
      · exact f2 _ _ (.inr (.inr ⟨rfl, rfl⟩))
    · exact f2 _ _ (.inl (h2 i' (by omega) b))
theorem nx_pl {a i j e : Nat} (hi : i < k) (he : e < k) (h1 : 1 ≤ j) (hj : j ≤ a) (b : Bool) : Pl cs k (a + 1) (PS.nx ⟨cs i, (j : Nat), b⟩ (cs e)) := by
  unfold PS.nx
  dsimp only
  unfold nK
  rw [decide_eq_false (show ¬ ((j : Int) = 0) by omega), cond_false]
  by_cases q : cs i = cs e
  · rw [decide_eq_true q, cond_true]
    exact ⟨e, j + 1, he, by omega, by omega, rfl, by show (j : Int) + 1 = ((j + 1 : Nat) : Int); omega⟩
  · rw [decide_eq_false q, cond_false]
    exact ⟨e, 1, he, by omega, by omega, rfl, rfl⟩
theorem fold2_good {m : MapD} {a : Nat} (ha : a ≤ n) (hs : a < n → ∀ s, Pl cs k (a + 1) s → Good r n cs k most m (a + 1) s) : ∀ j, j ≤ a → (∀ b t, Good r n cs k most m b t → Good r n cs k most (fold2 (fillM r n cs k most) cs k a m j) b t) ∧ ∀ j', 1 ≤ j' → j' ≤ j → ∀ i, i < k → ∀ b, Good r n cs k most (fold2 (fillM r n cs k most) cs k a m j) a ⟨cs i, (j' : Nat), b⟩
  | 0, _ => ⟨fun _ _ h => h, fun j' h1 h2 => by omega⟩
  | j + 1, hj => by
    obtain ⟨h1, h2⟩ := fold2_good ha hs j (by omega)
    obtain ⟨g1, g2⟩ := fold1_good (m := fold2 (fillM r n cs k most) cs k a m j) (j := j + 1) ha (fun q i b hi e he => h1 _ _ (hs q _ (nx_pl hi he (by omega) (by omega) b))) k (Nat.le_refl _)
    refine ⟨fun b t h => g1 b t (h1 b t h), fun j' q1 q2 i hi b => ?_⟩
    by_cases q : j' = j + 1
    · subst q; exact g2 i hi b
    · exact g1 _ _ (h2 j' q1 (by omega) i hi b)
theorem fold3_good : ∀ i, i ≤ n → ∀ a, n - i < a → a ≤ n → ∀ s, Pl cs k a s → Good r n cs k most (fold3 (fillM r n cs k most) cs k n i) a s
  | 0, _, a, h1, h2, s, _ => by omega
  | i + 1, hi, a, h1, h2, s, hp => by
    have ih := fold3_good i (by omega)
    obtain ⟨g1, g2⟩ := fold2_good (m := fold3 (fillM r n cs k most) cs k n i) (a := n - i) (by omega) (fun q s hp => ih (n - i + 1) (by omega) (by omega) s hp) (n - i) (Nat.le_refl _)
    by_cases q : a = n - i
    · obtain ⟨c, j, hc, hj1, hj2, e1, e2⟩ := hp
      obtain ⟨sc, sr, sb⟩ := s
      dsimp only at e1 e2
      subst e1 e2
      rw [q]
      exact g2 j hj1 (by omega) c hc sb
    · exact g1 _ _ (ih a (by omega) h2 s hp)
/-- What the map holds. -/
theorem least_good {a : Nat} {s : PS} (h1 : 1 ≤ n) (ha : a ≤ n) (h : Pl cs k a s ∨ (a = 0 ∧ s = ⟨0, 0, false⟩)) : Good r n cs k most (leastM r n cs k most) a s := by
  have g := fold3_good (r := r) (n := n) (cs := cs) (k := k) (most := most) n (Nat.le_refl _)
  refine Good.fill (a := 0) (s := ⟨0, 0, false⟩) (Nat.zero_le _) ?_ fun _ j hj => ?_
  · rcases h with h | h
    · obtain ⟨c, j, hc, hj1, hj2, e1, e2⟩ := h
      exact .inl (g a (by omega) ha s ⟨c, j, hc, hj1, hj2, e1, e2⟩)
    · exact .inr h
  · refine g 1 (by omega) h1 _ ⟨j, 1, hj, Nat.le_refl _, Nat.le_refl _, rfl, ?_⟩
    rfl
end
end Go.Ab

/- Weaving, plainly: the row that is read off the map. -/
namespace Go.Ab
open Go.Proofs
/-- A place that is reached. -/
def PlS (cs : Nat → Int) (k a : Nat) (s : PS) : Prop := Pl cs k a s ∨ (a = 0 ∧ s = ⟨0, 0, false⟩)
section
variable (r : Nat → Int) (n : Nat) (cs : Nat → Int) (k : Nat) (most : Int)
def tstL (i : Nat) (s : PS) (d : Int) : Bool := s.ok most d && decide (lk r n cs k most (n - (i + 1)) (s.nx d) + chg (r i) d = lk r n cs k most (n - i) s)
def psCL (i : Nat) (s : PS) : Nat := fnd (fun j => tstL r n cs k most i s (cs j)) k 0
def psL : Nat → PS
  | 0 => ⟨0, 0, false⟩
  | i + 1 => (psL i).nx (cs (psCL r n cs k most i (psL i)))
def wvL (i : Nat) : Int := (psL r n cs k most (i + 1)).c
end
section
variable {r : Nat → Int} {n : Nat} {cs : Nat → Int} {k : Nat} {most : Int}
theorem PlS.ok {a : Nat} {s : PS} (hk : 1 ≤ k) (h : PlS cs k a s) : ∃ j, j < k ∧ s.ok most (cs j) = true := by
  rcases h with ⟨i, j, hi, hj1, hj2, e1, e2⟩ | ⟨rfl, rfl⟩
  · refine ⟨i, hi, ?_⟩
    unfold PS.ok nO
    rw [e2, decide_eq_false (show ¬ ((j : Int) = 0) by omega), cond_false, decide_eq_true e1, cond_true]
  · exact ⟨0, hk, rfl⟩
theorem PlS.nx {a e : Nat} {s : PS} (he : e < k) (h : PlS cs k a s) : Pl cs k (a + 1) (s.nx (cs e)) := by
  rcases h with ⟨i, j, hi, hj1, hj2, e1, e2⟩ | ⟨rfl, rfl⟩
  · obtain ⟨c, ru, b⟩ := s
    dsimp only at e1 e2
    subst e1 e2
    exact nx_pl hi he hj1 hj2 b
  · exact ⟨e, 1, he, Nat.le_refl _, Nat.le_refl _, rfl, rfl⟩
theorem lkB_le (f : PS → Int) (a : Nat) (s : PS) : ∀ i j, j < i → s.ok most (cs j) = true → lkB r n cs most f a s i ≤ f (s.nx (cs j)) + chg (r a) (cs j)
  | i + 1, j, hj, ho => by
    unfold lkB
    have ih := lkB_le f a s i
    by_cases q : j = i
    · subst q
      rw [ho, cond_true]
      by_cases q2 : f (s.nx (cs j)) + chg (r a) (cs j) < lkB r n cs most f a s j
      · rw [decide_eq_true q2, cond_true]; exact Int.le_refl _
      · rw [decide_eq_false q2, cond_false]; omega
    · have := ih j (by omega) ho
      cases s.ok most (cs i)
      · exact this
      · rw [cond_true]
        by_cases q2 : f (s.nx (cs i)) + chg (r a) (cs i) < lkB r n cs most f a s i
        · rw [decide_eq_true q2, cond_true]; omega
        · rw [decide_eq_false q2, cond_false]; exact this
theorem lkB_at (f : PS → Int) (a : Nat) (s : PS) : ∀ i, lkB r n cs most f a s i = (n : Int) + 1 ∨ ∃ j, j < i ∧ s.ok most (cs j) = true ∧ f (s.nx (cs j)) + chg (r a) (cs j) = lkB r n cs most f a s i
  | 0 => .inl rfl
  | i + 1 => by
    have ih := lkB_at f a s i
    have key : lkB r n cs most f a s i = (n : Int) + 1 ∨ ∃ j, j < i + 1 ∧ s.ok most (cs j) = true ∧ f (s.nx (cs j)) + chg (r a) (cs j) = lkB r n cs most f a s i := by
      rcases ih with h | ⟨j, h1, h2, h3⟩
      · exact .inl h
      · exact .inr ⟨j, by omega, h2, h3⟩
    unfold lkB
    cases q : s.ok most (cs i)
    · exact key
    · rw [cond_true]
      by_cases q2 : f (s.nx (cs i)) + chg (r a) (cs i) < lkB r n cs most f a s i
      · rw [decide_eq_true q2, cond_true]; exact .inr ⟨i, by omega, q, rfl⟩
      · rw [decide_eq_false q2, cond_false]; exact key
theorem lk_le (hk : 1 ≤ k) : ∀ m a s, a + m = n → PlS cs k a s → lk r n cs k most m s ≤ m
  | 0, _, _, _, _ => Int.le_refl _
  | m + 1, a, s, ha, h => by
    obtain ⟨j, hj, ho⟩ := h.ok (most := most) hk
    have h1 := lk_le hk m (a + 1) (s.nx (cs j)) (by omega) (.inl (h.nx hj))
    have h2 := lkB_le (r := r) (n := n) (lk r n cs k most m) (n - (m + 1)) s k j hj ho
    have h3 := chg_bd (r (n - (m + 1))) (cs j)
    show lkB r n cs most (lk r n cs k most m) (n - (m + 1)) s k ≤ _
    omega
theorem lk_at (hk : 1 ≤ k) {m a : Nat} {s : PS} (ha : a + (m + 1) = n) (h : PlS cs k a s) : ∃ j, j < k ∧ s.ok most (cs j) = true ∧ lk r n cs k most m (s.nx (cs j)) + chg (r a) (cs j) = lk r n cs k most (m + 1) s := by
  have h1 := lk_le (r := r) (most := most) hk (m + 1) a s ha h
  have h2 := lkB_at (r := r) (n := n) (cs := cs) (most := most) (lk r n cs k most m) a s k
  have e : n - (m + 1) = a := by omega
  show ∃ j, j < k ∧ s.ok most (cs j) = true ∧ lk r n cs k most m (s.nx (cs j)) + chg (r a) (cs j) = lkB r n cs most (lk r n cs k most m) (n - (m + 1)) s k
  rw [e]
  rcases h2 with h2 | h2
  · exfalso
    change lkB r n cs most (lk r n cs k most m) (n - (m + 1)) s k ≤ _ at h1
    rw [e, h2] at h1
    omega
  · exact h2
theorem fnd_lt {t : Nat → Bool} {m j : Nat} (h : ∃ i, j ≤ i ∧ i < j + m ∧ t i = true) : fnd t m j < j + m := by
  obtain ⟨i, h1, h2, h3⟩ := h
  have := fnd_ge t m j
  rcases Nat.lt_or_ge (fnd t m j) (j + m) with q | q
  · exact q
  · have := fnd_ne t m j i h1 (by omega)
    rw [h3] at this; cases this
theorem psCL_lt (hk : 1 ≤ k) {i : Nat} {s : PS} (hi : i < n) (h : PlS cs k i s) : psCL r n cs k most i s < k := by
  obtain ⟨m, hm⟩ : ∃ m, n = i + (m + 1) := ⟨n - i - 1, by omega⟩
  obtain ⟨j, hj, ho, he⟩ := lk_at (r := r) (most := most) hk hm.symm h
  have := @fnd_lt (fun j => tstL r n cs k most i s (cs j)) k 0 ⟨j, Nat.zero_le _, by omega, by
    unfold tstL
    rw [ho, Bool.true_and, decide_eq_true_eq, show n - (i + 1) = m by omega, show n - i = m + 1 by omega]
    exact he⟩
  unfold psCL
  omega
theorem psL_pl (hk : 1 ≤ k) : ∀ i, i ≤ n → PlS cs k i (psL r n cs k most i)
  | 0, _ => .inr ⟨rfl, rfl⟩
  | i + 1, hi => by
    have ih := psL_pl hk i (by omega)
    exact .inl (ih.nx (psCL_lt hk (by omega) ih))
/-- The map says the same. -/
theorem tst_L (h1 : 1 ≤ n) (hk : 1 ≤ k) {i j : Nat} {s : PS} (hi : i < n) (hj : j < k) (h : PlS cs k i s) : tst r most (leastM r n cs k most).val i s (cs j) = tstL r n cs k most i s (cs j) := by
  have g1 := least_good (r := r) (most := most) h1 (Nat.le_of_lt hi) h
  have g2 := least_good (r := r) (most := most) (a := i + 1) h1 hi (.inl (h.nx hj))
  unfold Good at g1 g2
  unfold tst tstL
  rw [show ((i : Int) + 1) = ((i + 1 : Nat) : Int) by omega, g1, g2]
theorem fnd_congr {t u : Nat → Bool} : ∀ {m j : Nat}, (∀ i, j ≤ i → i < j + m → t i = u i) → fnd t m j = fnd u m j
  | 0, _, _ => rfl
  | m + 1, j, h => by
    unfold fnd
    rw [h j (Nat.le_refl _) (by omega), fnd_congr (fun i h1 h2 => h i (by omega) (by omega))]
theorem psC_L (h1 : 1 ≤ n) (hk : 1 ≤ k) {i : Nat} {s : PS} (hi : i < n) (h : PlS cs k i s) : psC r cs k most (leastM r n cs k most).val i s = psCL r n cs k most i s := by
  unfold psC psCL
  exact fnd_congr fun j _ hj => tst_L h1 hk hi (by omega) h
theorem psT_L (h1 : 1 ≤ n) (hk : 1 ≤ k) : ∀ i, i ≤ n → psT r cs k most (leastM r n cs k most).val i = psL r n cs k most i
  | 0, _ => rfl
  | i + 1, hi => by
    have ih := psT_L h1 hk i (by omega)
    unfold psT psL
    rw [ih, psC_L h1 hk (by omega) (psL_pl hk i (by omega))]
theorem wvn_L (h1 : 1 ≤ n) (hk : 1 ≤ k) {i : Nat} (hi : i < n) : wvn r cs k most (leastM r n cs k most).val i = wvL r n cs k most i := by
  unfold wvn wvL
  rw [psT_L h1 hk (i + 1) (by omega)]
theorem least_L (h1 : 1 ≤ n) : (leastM r n cs k most).val [0, 0, 0, 0] = lk r n cs k most n ⟨0, 0, false⟩ := least_good (r := r) (most := most) (a := 0) h1 (Nat.zero_le _) (.inr ⟨rfl, rfl⟩)
theorem found_L (h1 : 1 ≤ n) (hk : 1 ≤ k) (i : Nat) (hi : i < n) : psC r cs k most (leastM r n cs k most).val i (psT r cs k most (leastM r n cs k most).val i) < k := by
  rw [psT_L h1 hk i (by omega), psC_L h1 hk hi (psL_pl hk i (by omega))]
  exact psCL_lt hk hi (psL_pl hk i (by omega))
end
/-- A row is woven. -/
theorem weaveT (r : Nat → Int) (n : Nat) (c : Option Nat) (most : Int) (h1 : 1 ≤ n) (hn : n ≤ nmax) (hr : ∀ j, j < n → 0 ≤ r j ∧ r j < 256) :
    ToldOk P18 G18 30 [rowV r n c, .int .i64 most] (.tup [.new (wrow n (wvL r n (csK r n) (kK r n) most)), .int .i64 (lk r n (csK r n) (kK r n) most n ⟨0, 0, false⟩)]) := by
  have hn2 := hn
  unfold nmax at hn2
  have hk : 1 ≤ kK r n := by
    obtain ⟨j, _, h2, _⟩ := (csK_mem hr (r 0)).2 ⟨0, Nat.le_refl _, h1, rfl⟩
    omega
  have hk2 : kK r n ≤ 256 := by
    unfold kK kindL
    refine Nat.le_trans (List.length_filter_le _ _) ?_
    simp
  have t := (weave1T r n c (csK r n) (kK r n) none most (by omega) (by omega) (kindsT r n c h1 hn hr) (found_L h1 hk)).frz
  rw [least_L h1] at t
  refine ToldOk.tupTo t (.cons (.new (.view (.inl rfl) fun j hj => ?_)) (.cons (.refl _) .nil))
  show Sims [T.int .u8 (wvn r (csK r n) (kK r n) most (leastM r n (csK r n) (kK r n) most).val j)] [T.int .u8 (wvL r n (csK r n) (kK r n) most j)]
  rw [wvn_L h1 hk hj]
  exact .refl _
end Go.Ab

/- lives: the examples of the chapter. -/
namespace Go.Ab
open Go.Proofs
def litR (l : List Int) (j : Nat) : Int := l.getD j 0
def flT (l : List (List T)) : T := .new (.view 3 l.length (fun j => l.getD j []) (some l.length))
def cellIs (x : List T) (v : Int) : Bool := match x with
  | [.int .u8 y] => decide (y = v)
  | _ => false
def chkRow (g : Nat → List T) (l : List Int) : Bool := (List.range l.length).all fun j => cellIs (g j) (litR l j)
def exA : List (List T) := [[.int .u8 1, .int .i64 1, .int .i64 2], [.int .u8 2, .int .i64 3, .int .i64 2]]
def exB : List (List T) := [[.int .u8 1, .int .i64 1, .int .i64 2]]
def floS : List T → Tree
  | [.view 1 6 g _] => .ite (chkRow g [1, 2, 2, 1, 1, 2]) (.ret (flT exA)) .none
  | [.view 1 4 g _] => .ite (chkRow g [1, 2, 3, 1]) (.ret (flT exB)) (.ite (chkRow g [1, 1, 2, 2]) (.ret (flT [])) .none)
  | _ => .none
def weaveR (n : Nat) (l : List Int) (tot : Int) : T := .tup [.fresh false 1 1 (fun _ => [wrow n (litR l)]) 1 (some 1), .int .i64 tot, .int .i64 0]
def wevS : List T → Tree
  | [.view 1 1 G _, .int .i64 m] => match G 0 with
    | [.view 1 5 g _] => .ite (chkRow g [1, 2, 2, 2, 1] && decide (m = 2)) (.ret (weaveR 5 [1, 1, 2, 2, 1] 1)) .none
    | [.view 1 7 g _] => .ite (chkRow g [1, 2, 2, 2, 2, 2, 1] && decide (m = 2)) (.ret (weaveR 7 [1, 2, 2, 1, 2, 2, 1] 1)) .none
    | [.view 1 4 g _] => .ite (chkRow g [1, 2, 2, 2] && decide (m = 1)) (.ret (weaveR 4 [1, 2, 2, 2] 0)) .none
    | _ => .none
  | _ => .none
noncomputable def K12 : Orc := (noneO.add 10 floS).add 14 wevS

theorem lives_run : stepV P18 G18 A18 K12 4 12 [] = some (.bool true) := by kernel_rfl
theorem chk_row {g : Nat → List T} {l : List Int} (h : chkRow g l = true) {j : Nat} (hj : j < l.length) : g j = [.int .u8 (litR l j)] := by
  have := List.all_eq_true.1 h j (List.mem_range.2 hj)
  revert this
  generalize g j = x
  intro this
  unfold cellIs at this
  split at this
  · rw [of_decide_eq_true this]
  · cases this
theorem row_sim {g : Nat → List T} {l : List Int} {n : Nat} {c : Option Nat} (h : chkRow g l = true) (hn : n = l.length) : Sim (.view 1 n g c) (rowV (litR l) n c) := by
  subst hn
  refine .view (.inl rfl) fun j hj => ?_
  rw [chk_row h hj]
  exact .refl _
theorem flo1 {g : Nat → List T} {n : Nat} {c : Option Nat} (l : List Int) (e : List (List T)) (hl : n = l.length) (hn : n ≤ 60) (hr : ∀ j, j < n → 0 ≤ litR l j ∧ litR l j < 256) (he : (fl (litR l) n n).length = e.length) (hg : ∀ j, j < e.length → flG (litR l) n j = e.getD j [])
    (h : chkRow g l = true) : ToldOk P18 G18 10 [.view 1 n g c] (flT e) := by
  have t := (floatsT (litR l) n c (by omega) hr).sim (args := [.view 1 n g c]) (.cons (row_sim h hl) .nil)
  rw [he] at t
  refine t.resTo (.new (.view (.inl rfl) fun j hj => ?_))
  rw [hg j hj]
  exact .refl _
theorem lit_ok {l : List Int} {n : Nat} (h : (List.range n).all (fun j => decide (1 ≤ litR l j) && decide (litR l j ≤ 6)) = true) {j : Nat} (hj : j < n) : 1 ≤ litR l j ∧ litR l j ≤ 6 := by
  have := List.all_eq_true.1 h j (List.mem_range.2 hj)
  simp only [Bool.and_eq_true, decide_eq_true_eq] at this
  exact this
theorem all_lt {p : Nat → Prop} {n : Nat} [DecidablePred p] (h : (List.range n).all (fun j => decide (p j)) = true) (j : Nat) (hj : j < n) : p j := of_decide_eq_true (List.all_eq_true.1 h j (List.mem_range.2 hj))
theorem floT {args : List T} {r : T} (h : (floS args).run some = some r) : ToldOk P18 G18 10 args r := by
  unfold floS at h
  split at h
  · simp only [Tree.run] at h
    obtain ⟨h1, h⟩ := bif_none h
    obtain rfl := Option.some.inj h
    refine flo1 [1, 2, 2, 1, 1, 2] exA rfl (by omega) (fun j hj => ?_) (by decide +kernel) (fun j hj => ?_) h1
    · have := lit_ok (l := [1, 2, 2, 1, 1, 2]) (n := 6) (by decide +kernel) hj
      omega
    · have : j < 2 := hj
      obtain rfl | rfl : j = 0 ∨ j = 1 := by omega
      · exact (show flG (litR [1, 2, 2, 1, 1, 2]) 6 0 = exA.getD 0 [] from by kernel_rfl)
      · exact (show flG (litR [1, 2, 2, 1, 1, 2]) 6 1 = exA.getD 1 [] from by kernel_rfl)
  · simp only [Tree.run] at h
    rename_i g c
    cases q : chkRow g [1, 2, 3, 1]
    · rw [q] at h
      obtain ⟨h1, h⟩ := bif_none h
      obtain rfl := Option.some.inj h
      refine flo1 [1, 1, 2, 2] [] rfl (by omega) (fun j hj => ?_) (by decide +kernel) (fun j hj => by cases hj) h1
      have := lit_ok (l := [1, 1, 2, 2]) (n := 4) (by decide +kernel) hj
      omega
    · rw [q] at h
      obtain rfl := Option.some.inj h
      refine flo1 [1, 2, 3, 1] exB rfl (by omega) (fun j hj => ?_) (by decide +kernel) (fun j hj => ?_) q
      · have := lit_ok (l := [1, 2, 3, 1]) (n := 4) (by decide +kernel) hj
        omega
      · have : j < 1 := hj
        obtain rfl : j = 0 := by omega
        exact (show flG (litR [1, 2, 3, 1]) 4 0 = exB.getD 0 [] from by kernel_rfl)
  · cases h
theorem wev1 {G : Nat → List T} {g : Nat → List T} {n : Nat} {rc c : Option Nat} (l e cl : List Int) (most tot : Int) (hG : G 0 = [.view 1 n g rc]) (hl : n = l.length) (hn1 : 1 ≤ n) (hn : n ≤ nmax) (hm : 1 ≤ most ∧ most ≤ 16)
    (hr : ∀ j, j < n → 1 ≤ litR l j ∧ litR l j ≤ 6) (hk : kindL (litR l) n = cl) (hk2 : cl.length ≤ 2) (hw : ∀ j, j < n → wvL (litR l) n (fun j => cl.getD j 0) cl.length most j = litR e j) (ht : lk (litR l) n (fun j => cl.getD j 0) cl.length most n ⟨0, 0, false⟩ = tot) (htb : 0 ≤ tot ∧ tot ≤ 1000)
    (h : chkRow g l = true) : ToldOk P18 G18 14 [.view 1 1 G c, .int .i64 most] (weaveR n e tot) := by
  have hk3 : kK (litR l) n = cl.length := by unfold kK; rw [hk]
  have hc3 : csK (litR l) n = fun j => cl.getD j 0 := by funext j; unfold csK; rw [hk]
  have t := weaveT (litR l) n rc most hn1 hn fun j hj => by have := hr j hj; omega
  rw [hk3, hc3, ht] at t
  have t2 : ToldOk P18 G18 30 [rowV (litR l) n rc, .int .i64 most] (.tup [.new (wrow n (litR e)), .int .i64 tot]) := by
    refine ToldOk.tupTo t (.cons (.new (.view (.inl rfl) fun j hj => ?_)) (.cons (.refl _) .nil))
    rw [hw j hj]
    exact .refl _
  have ok : PicOk (fun _ => litR l) n 1 := ⟨hn1, hn, by omega, rfl, fun i _ => hr, fun i _ => by rw [hk3]; exact hk2⟩
  have t3 := WeaveT (fun _ => litR l) n 1 rc c most (fun _ => litR e) (fun _ => tot) ok hm (fun i _ => by omega) fun i _ => t2
  rw [show sumN (fun _ => tot) 1 = tot by simp [sumN]] at t3
  refine t3.sim (.cons (.view (.inl rfl) fun j hj => ?_) (.cons (.refl _) .nil))
  have hj : j < 1 := hj
  obtain rfl : j = 0 := by omega
  rw [hG]
  exact .cons (row_sim h hl) .nil
theorem wevT {args : List T} {r : T} (h : (wevS args).run some = some r) : ToldOk P18 G18 14 args r := by
  unfold wevS at h
  split at h
  · split at h
    · rename_i hG
      simp only [Tree.run] at h
      obtain ⟨h1, h⟩ := bif_none h
      obtain rfl := Option.some.inj h
      simp only [Bool.and_eq_true, decide_eq_true_eq] at h1
      obtain ⟨h1, rfl⟩ := h1
      exact wev1 [1, 2, 2, 2, 1] [1, 1, 2, 2, 1] [1, 2] 2 1 hG rfl (by omega) (by unfold nmax; omega) (by omega) (fun j hj => lit_ok (n := 5) (by decide +kernel) hj) (by decide +kernel) (by decide) (all_lt (by decide +kernel)) (by decide +kernel) (by omega) h1
    · rename_i hG
      simp only [Tree.run] at h
      obtain ⟨h1, h⟩ := bif_none h
      obtain rfl := Option.some.inj h
      simp only [Bool.and_eq_true, decide_eq_true_eq] at h1
      obtain ⟨h1, rfl⟩ := h1
      exact wev1 [1, 2, 2, 2, 2, 2, 1] [1, 2, 2, 1, 2, 2, 1] [1, 2] 2 1 hG rfl (by omega) (by unfold nmax; omega) (by omega) (fun j hj => lit_ok (n := 7) (by decide +kernel) hj) (by decide +kernel) (by decide) (all_lt (by decide +kernel)) (by decide +kernel) (by omega) h1
    · rename_i hG
      simp only [Tree.run] at h
      obtain ⟨h1, h⟩ := bif_none h
      obtain rfl := Option.some.inj h
      simp only [Bool.and_eq_true, decide_eq_true_eq] at h1
      obtain ⟨h1, rfl⟩ := h1
      exact wev1 [1, 2, 2, 2] [1, 2, 2, 2] [1, 2] 1 0 hG rfl (by omega) (by unfold nmax; omega) (by omega) (fun j hj => lit_ok (n := 4) (by decide +kernel) hj) (by decide +kernel) (by decide) (all_lt (by decide +kernel)) (by decide +kernel) (by omega) h1
    · cases h
  · cases h
/-- The examples of the chapter hold. -/
theorem livesT : ToldOk P18 G18 12 [] (.bool true) := stepV_told hm18 hn18 (told_add (told_add none_ok fun _ _ => floT) fun _ _ => wevT) lives_run
end Go.Ab

namespace Go.Ab
open Go.Proofs
def v3 (a b d : Nat → Int) (m : Nat) (i : Int) : List T := [.view 3 m (fun j => [.int .u8 (a j), .int .i64 (b j), .int .i64 (d j)]) (some m), .view 3 m (fun j => [.int .u8 (a j), .int .i64 (b j), .int .i64 (d j)]) none, .int .i64 i]
noncomputable def K3 (p q l : List T → T → Prop) (a b d : Nat → Int) (m : Nat) : Orc := ((noneO.add 10 (callF p fun _ => some (.new (.view 3 m (fun j => [.int .u8 (a j), .int .i64 (b j), .int .i64 (d j)]) (some m))))).add 11 (callF q fun _ => some (.new (.view 3 m (fun j => [.int .u8 (a j), .int .i64 (b j), .int .i64 (d j)]) none)))).add 12 (callF l fun _ => some (.bool true))
theorem l3 (a b d : Nat → Int) (m : Nat) (hm : m ≤ 1000) : LoopOk P18 G18 (A18 3) 3 8 (litS (v3 a b d m 0) [] (.exit 0) [.undef] []) := by
  refine loop_steps hm18 (by kernel_rfl) (fun i => v3 a b d m (i : Nat)) (fun _ => []) (n := m) (fun i hi => ?_) ?_
  · refine Step.mk0 (A := A18) (m := 0) none_ok rfl rfl loops0 (h1 := []) ?_ .nil
    refine Eq.trans (show iterR P18 G18 A18 noneO 0 3 [] 8 (v3 a b d m i) [] =
(
 bif decide (Int.ofNat i < Int.ofNat m) then
 bif decide ((0 : Int) ≤ Int.ofNat i) && decide (Int.ofNat i < Int.ofNat m) then
 bif decide ((0 : Int) ≤ Int.ofNat i) && decide (Int.ofNat i < Int.ofNat m) then
 bif decide (a i = a i) then
 bif decide (b i = b i) then
 bif decide (d i = d i) then
 some ((Ex.normal, [T.view 3 m (fun j => [T.int .u8 (a j), T.int .i64 (b j), T.int .i64 (d j)]) (some m), T.view 3 m (fun j => [T.int .u8 (a j), T.int .i64 (b j), T.int .i64 (d j)])
 none, T.int .i64 (IntKind.i64.wrap (Int.ofNat i + (1 : Int)))], []))
 else
 some ((Ex.ret, [T.bool false], []))
 else
 some ((Ex.ret, [T.bool false], []))
 else
 some ((Ex.ret, [T.bool false], []))
 else none else none else
 some ((Ex.exit 0, [T.undef], []))) from by kernel_rfl) ?_
    (repeat (first | (refine bift (by first | assumption | omega | (simp (disch := omega) only [wr64, wr8, wr16, wr32, ofNatE, toNatE, toNatE1, Bool.and_eq_true, Bool.or_eq_true, Bool.not_eq_true', decide_eq_true_eq, decide_eq_false_iff_not, nble, nblt, nbeq, Nat.zero_add, Nat.add_zero, Int.zero_add, Int.add_zero, List.length_cons, List.length_nil, true_and, and_true, Nat.reduceAdd, and_self]; done) | (simp (disch := omega) only [wr64, wr8, wr16, wr32, ofNatE, toNatE, toNatE1, Bool.and_eq_true, Bool.or_eq_true, Bool.not_eq_true', decide_eq_true_eq, decide_eq_false_iff_not, nble, nblt, nbeq, Nat.zero_add, Nat.add_zero, Int.zero_add, Int.add_zero, List.length_cons, List.length_nil, true_and, and_true, Nat.reduceAdd, and_self]; omega)) ?_) | (refine biff (by first | assumption | (simp (disch := omega) only [wr64, wr8, wr16, wr32, ofNatE, toNatE, toNatE1, Bool.and_eq_true, Bool.or_eq_true, Bool.not_eq_true', decide_eq_true_eq, decide_eq_false_iff_not, nble, nblt, nbeq, Nat.zero_add, Nat.add_zero, Int.zero_add, Int.add_zero, List.length_cons, List.length_nil, true_and, and_true, Nat.reduceAdd, and_self]; done) | (simp (disch := omega) only [wr64, wr8, wr16, wr32, ofNatE, toNatE, toNatE1, Bool.and_eq_true, Bool.or_eq_true, Bool.not_eq_true', decide_eq_true_eq, decide_eq_false_iff_not, nble, nblt, nbeq, Nat.zero_add, Nat.add_zero, Int.zero_add, Int.add_zero, List.length_cons, List.length_nil, true_and, and_true, Nat.reduceAdd, and_self]; omega)) ?_)))
    rw [ofNatE i, wr64 (x := (i : Int) + 1) (by omega) (by omega)]
    first | rfl | (refine biff (by simp) ?_; rfl)
  · refine Last.mk0 (A := A18) (m := 0) none_ok rfl rfl loops0 (h1 := []) (by simp) ?_ .nil
    refine Eq.trans (show iterR P18 G18 A18 noneO 0 3 [] 8 (v3 a b d m (m : Nat)) [] =
(
 bif decide (Int.ofNat m < Int.ofNat m) then
 bif decide ((0 : Int) ≤ Int.ofNat m) && decide (Int.ofNat m < Int.ofNat m) then
 bif decide ((0 : Int) ≤ Int.ofNat m) && decide (Int.ofNat m < Int.ofNat m) then
 bif decide (a m = a m) then
 bif decide (b m = b m) then
 bif decide (d m = d m) then
 some ((Ex.normal, [T.view 3 m (fun j => [T.int .u8 (a j), T.int .i64 (b j), T.int .i64 (d j)]) (some m), T.view 3 m (fun j => [T.int .u8 (a j), T.int .i64 (b j), T.int .i64 (d j)])
 none, T.int .i64 (IntKind.i64.wrap (Int.ofNat m + (1 : Int)))], []))
 else
 some ((Ex.ret, [T.bool false], []))
 else
 some ((Ex.ret, [T.bool false], []))
 else
 some ((Ex.ret, [T.bool false], []))
 else none else none else
 some ((Ex.exit 0, [T.undef], []))) from by kernel_rfl) ?_
    (repeat (first | (refine bift (by first | assumption | omega | (simp (disch := omega) only [wr64, wr8, wr16, wr32, ofNatE, toNatE, toNatE1, Bool.and_eq_true, Bool.or_eq_true, Bool.not_eq_true', decide_eq_true_eq, decide_eq_false_iff_not, nble, nblt, nbeq, Nat.zero_add, Nat.add_zero, Int.zero_add, Int.add_zero, List.length_cons, List.length_nil, true_and, and_true, Nat.reduceAdd, and_self]; done) | (simp (disch := omega) only [wr64, wr8, wr16, wr32, ofNatE, toNatE, toNatE1, Bool.and_eq_true, Bool.or_eq_true, Bool.not_eq_true', decide_eq_true_eq, decide_eq_false_iff_not, nble, nblt, nbeq, Nat.zero_add, Nat.add_zero, Int.zero_add, Int.add_zero, List.length_cons, List.length_nil, true_and, and_true, Nat.reduceAdd, and_self]; omega)) ?_) | (refine biff (by first | assumption | (simp (disch := omega) only [wr64, wr8, wr16, wr32, ofNatE, toNatE, toNatE1, Bool.and_eq_true, Bool.or_eq_true, Bool.not_eq_true', decide_eq_true_eq, decide_eq_false_iff_not, nble, nblt, nbeq, Nat.zero_add, Nat.add_zero, Int.zero_add, Int.add_zero, List.length_cons, List.length_nil, true_and, and_true, Nat.reduceAdd, and_self]; done) | (simp (disch := omega) only [wr64, wr8, wr16, wr32, ofNatE, toNatE, toNatE1, Bool.and_eq_true, Bool.or_eq_true, Bool.not_eq_true', decide_eq_true_eq, decide_eq_false_iff_not, nble, nblt, nbeq, Nat.zero_add, Nat.add_zero, Int.zero_add, Int.add_zero, List.length_cons, List.length_nil, true_and, and_true, Nat.reduceAdd, and_self]; omega)) ?_)))
    rfl
theorem law3 (r : Nat → Int) (n : Nat) (c : Option Nat) (hr : ∀ j, j < n → 0 ≤ r j ∧ r j < 256) : ToldOk P18 G18 3 [rowV r n c] (.bool true) := by
  rcases Nat.lt_or_ge 60 n with q | q
  · refine stepV_told hm18 hn18 none_ok (A := A18) (m := 0) ?_
    refine Eq.trans (show stepV P18 G18 A18 noneO 0 3 [rowV r n c] =
(
 bif decide ((60 : Int) < Int.ofNat n) then
 some (T.bool true)
 else
 none) from by kernel_rfl) ?_
    exact bift (by first | assumption | omega | (simp (disch := omega) only [wr64, wr8, wr16, wr32, ofNatE, toNatE, toNatE1, Bool.and_eq_true, Bool.or_eq_true, Bool.not_eq_true', decide_eq_true_eq, decide_eq_false_iff_not, nble, nblt, nbeq, Nat.zero_add, Nat.add_zero, Int.zero_add, Int.add_zero, List.length_cons, List.length_nil, true_and, and_true, Nat.reduceAdd, and_self]; done) | (simp (disch := omega) only [wr64, wr8, wr16, wr32, ofNatE, toNatE, toNatE1, Bool.and_eq_true, Bool.or_eq_true, Bool.not_eq_true', decide_eq_true_eq, decide_eq_false_iff_not, nble, nblt, nbeq, Nat.zero_add, Nat.add_zero, Int.zero_add, Int.add_zero, List.length_cons, List.length_nil, true_and, and_true, Nat.reduceAdd, and_self]; omega)) rfl
  · obtain ⟨p, hp⟩ := is_val P18 G18 10
    obtain ⟨p2, hp2⟩ := is_val P18 G18 11
    obtain ⟨l, hl⟩ := is_val P18 G18 12
    have t1 := floatsT r n c (by omega) hr
    have t2 := refFloatsT r n c (by omega) hr
    have hb := fl_len r n n
    have hl3 := l3 (fun j => r ((fl r n n).getD j 0)) (fun j => (((fl r n n).getD j 0 : Nat) : Int) + 1) (fun j => nxtF r n ((fl r n n).getD j 0) - ((fl r n n).getD j 0 : Nat) - 1) (fl r n n).length (by omega)
    change ToldOk P18 G18 10 _ (.new (.view 3 (fl r n n).length (fun j => [.int .u8 ((fun j => r ((fl r n n).getD j 0)) j), .int .i64 ((fun j => (((fl r n n).getD j 0 : Nat) : Int) + 1) j), .int .i64 ((fun j => nxtF r n ((fl r n n).getD j 0) - ((fl r n n).getD j 0 : Nat) - 1) j)]) (some (fl r n n).length))) at t1
    change ToldOk P18 G18 11 _ (.new (.view 3 (fl r n n).length (fun j => [.int .u8 ((fun j => r ((fl r n n).getD j 0)) j), .int .i64 ((fun j => (((fl r n n).getD j 0 : Nat) : Int) + 1) j), .int .i64 ((fun j => nxtF r n ((fl r n n).getD j 0) - ((fl r n n).getD j 0 : Nat) - 1) j)]) none)) at t2
    generalize (fun j => r ((fl r n n).getD j 0)) = a at *
    generalize (fun j => (((fl r n n).getD j 0 : Nat) : Int) + 1) = b at *
    generalize (fun j => nxtF r n ((fl r n n).getD j 0) - ((fl r n n).getD j 0 : Nat) - 1) = d at *
    generalize (fl r n n).length = m at *
    refine stepL_told hm18 hn18 (K := K3 p p2 l a b d m) (told_add (told_add (told_add none_ok (callF_told hp)) (callF_told hp2)) (callF_told hl)) (A := A18) (m := 0) (by kernel_rfl) (loops1 hl3) ?_
    refine Eq.trans (show stepL P18 G18 A18 (K3 p p2 l a b d m) 0 3 [(8, litS (v3 a b d m 0) [] (.exit 0) [.undef] [])] [rowV r n c] =
(
 bif decide ((60 : Int) < Int.ofNat n) then
 some (T.bool true)
 else
 bif decF (p [T.view 1 n (fun j => [T.int .u8 (r j)]) c] (T.view 3 m (fun j => [T.int .u8 (a j), T.int .i64 (b j), T.int .i64 (d j)]) (some m)).new) then
 bif decF (p2 [T.view 1 n (fun j => [T.int .u8 (r j)]) c] (T.view 3 m (fun j => [T.int .u8 (a j), T.int .i64 (b j), T.int .i64 (d j)])
 none).new) then
 bif !decide (Int.ofNat m = Int.ofNat m) then
 some (T.bool false)
 else
 bif !decide (Int.ofNat m = Int.ofNat m) then
 some (T.bool false)
 else
 bif weakF [T.view 3 m (fun j => [T.int .u8 (a j), T.int .i64 (b j), T.int .i64 (d j)]) (some m), T.view 3 m (fun j => [T.int .u8 (a j), T.int .i64 (b j), T.int .i64 (d j)])
 none, T.int .i64 (0 : Int)] [] [T.view 3 m (fun j => [T.int .u8 (a j), T.int .i64 (b j), T.int .i64 (d j)]) (some m), T.view 3 m (fun j => [T.int .u8 (a j), T.int .i64 (b j), T.int .i64 (d j)])
 none, T.int .i64 (0 : Int)] [] then
 bif decF (l [] (T.bool true)) then
 some (T.bool true)
 else none else none else none else
 none) from by kernel_rfl) ?_
    refine biff (by first | assumption | (simp (disch := omega) only [wr64, wr8, wr16, wr32, ofNatE, toNatE, toNatE1, Bool.and_eq_true, Bool.or_eq_true, Bool.not_eq_true', decide_eq_true_eq, decide_eq_false_iff_not, nble, nblt, nbeq, Nat.zero_add, Nat.add_zero, Int.zero_add, Int.add_zero, List.length_cons, List.length_nil, true_and, and_true, Nat.reduceAdd, and_self]; done) | (simp (disch := omega) only [wr64, wr8, wr16, wr32, ofNatE, toNatE, toNatE1, Bool.and_eq_true, Bool.or_eq_true, Bool.not_eq_true', decide_eq_true_eq, decide_eq_false_iff_not, nble, nblt, nbeq, Nat.zero_add, Nat.add_zero, Int.zero_add, Int.add_zero, List.length_cons, List.length_nil, true_and, and_true, Nat.reduceAdd, and_self]; omega)) ?_
    refine bift (callF_yes hp t1) ?_
    refine bift (callF_yes hp2 t2) ?_
    refine biff (by simp) ?_
    refine biff (by simp) ?_
    refine bift (weakF_of ⟨rfl, .refl _⟩) ?_
    exact bift (callF_yes hl livesT) rfl
end Go.Ab

/- The laws' typed arguments. -/
namespace Go.Ab
open Go.Proofs
section
variable {Hp : Type}
theorem agg22_18 : aggTy P18 22 = false := by kernel_rfl
theorem cells5_18 : P18.cellsOf 5 = 1 := by kernel_rfl
def cI (l : List T) : Int := match l with | [.int _ z] => z | _ => 0
theorem inv5_18 {ts : List T} {d : DataW Hp} (h : CT P18 5 ts d) : ∃ a : Int, ts = [.int .u8 a] ∧ 0 ≤ a ∧ a < 256 := by
  obtain ⟨a, rfl, rfl, w⟩ := h.int_inv Try.underlying5
  have w := wf_u8 w
  exact ⟨a, rfl, by omega, by omega⟩
theorem row18 {ts : List T} {d : DataW Hp} (h : CT P18 22 ts d) : ∃ (r : Nat → Int) (n : Nat), (∀ j, 0 ≤ r j ∧ r j < 256) ∧ ∃ x, ts = [x] ∧ imm0 x = true ∧ Sim x (rowV r n none) := by
  rcases h.slice_inv Try.underlying22 (by rw [cells5_18]; omega) with ⟨rfl, rfl⟩ | ⟨n, c, g, elems, spare, rfl, rfl, he, hs, hn, hc, hg⟩
  · exact ⟨fun _ => 0, 0, fun _ => ⟨Int.le_refl 0, (by decide : (0 : Int) < 256)⟩, _, rfl, rfl, .nilv _ _ (.inl rfl)⟩
  · have key : ∀ j, j < n → ∃ a : Int, g j = [.int .u8 a] ∧ 0 ≤ a ∧ a < 256 := fun j hj => inv5_18 (hg j elems[j] (by simp [show j < elems.length by omega]))
    refine ⟨fun j => if j < n then cI (g j) else 0, n, fun j => ?_, _, rfl, rfl, ?_⟩
    · dsimp only
      split
      · rename_i hj
        obtain ⟨a, q, q1, q2⟩ := key j hj
        rw [q]
        exact ⟨q1, q2⟩
      · omega
    · rw [cells5_18]
      refine .view (.inr rfl) fun j hj => ?_
      obtain ⟨a, q, _⟩ := key j hj
      show Sims (g j) [.int .u8 (if j < n then cI (g j) else 0)]
      rw [if_pos hj, q]
      exact .refl _
theorem inv22_18 {ts : List T} {d : DataW Hp} (h : CT P18 22 ts d) : ∃ (r : Nat → Int) (n : Nat), (∀ j, 0 ≤ r j ∧ r j < 256) ∧ Sim (topT P18 22 ts) (rowV r n none) := by
  obtain ⟨r, n, h1, x, rfl, _, h3⟩ := row18 h
  refine ⟨r, n, h1, ?_⟩
  rw [show topT P18 22 [x] = x by simp [topT, agg22_18]]
  exact h3
end
end Go.Ab

