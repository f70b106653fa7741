/- A part of the proof: nothing is assumed. -/
import Derived.Test.YteoamlekamflbaaP10
import Derived.Test.YteoamlekamflbaaP4
set_option linter.all false
namespace Go.Ab
open Go.Proofs
def lowF (r : Nat → Int) : Nat → Int
  | 0 => r 0
  | k + 1 => bif decide (r k < lowF r k) then r k else lowF r k
def highF (r : Nat → Int) : Nat → Int
  | 0 => r 0
  | k + 1 => bif decide (highF r k < r k) then r k else highF r k
def v15a (r : Nat → Int) (n : Nat) (c : Option Nat) (most lo hi k : Int) : List T := [rowV r n c, .int .i64 most, .int .u8 lo, .int .u8 hi, .int .i64 k]
def v15b (r : Nat → Int) (n : Nat) (c : Option Nat) (most lo hi : Int) (best : T) (ch b : Int) : List T := [rowV r n c, .int .i64 most, .int .u8 lo, .int .u8 hi, best, .int .i64 ch, .int .i64 b]
def v15c (r : Nat → Int) (n : Nat) (c : Option Nat) (most lo hi : Int) (best : T) (ch b : Int) (l : T) (cnt k : Int) : List T := [rowV r n c, .int .i64 most, .int .u8 lo, .int .u8 hi, best, .int .i64 ch, .int .i64 b, l, .int .i64 cnt, .int .i64 k]
def lbk (j : Nat) (w : Nat → Int) : Blk := ⟨j, 1, j + 1, fun e => [.int .u8 (w e)], true, false, none⟩
noncomputable def K15 (p : List T → T → Prop) (x : Int) : Orc := noneO.add 17 (callF p fun _ => some (.int .i64 x))
def cntF (w r : Nat → Int) : Nat → Nat
  | 0 => 0
  | k + 1 => if w k = r k then cntF w r k else cntF w r k + 1
def l15 : Nat → T
  | 0 => .nils
  | j + 1 => pO j
def hh15 (w : Nat → Int) : Nat → Heap
  | 0 => []
  | j + 1 => [lbk j w]
/-- Does bit s of b say so? -/
def bitB (b s : Nat) : Bool := decide (bitsOf BinOp.and IntKind.i64 ((b : Int).fdiv ((2 : Int) ^ min s 64)) 1 = 1)
theorem and_one (m : Nat) : bitsOf .and .i64 (m : Int) 1 = ((m % 2 : Nat) : Int) := by
  unfold bitsOf
  have e : (BitVec.ofInt IntKind.i64.bits (m : Int) &&& BitVec.ofInt IntKind.i64.bits 1).toNat = m % 2 := by
    show (BitVec.ofInt 64 (m : Int) &&& BitVec.ofInt 64 1).toNat = m % 2
    rw [BitVec.toNat_and, BitVec.toNat_ofInt, BitVec.toNat_ofInt]
    have e1 : ((m : Int) % (2 ^ 64 : Nat)).toNat = m % 2 ^ 64 := by omega
    have e2 : ((1 : Int) % (2 ^ 64 : Nat)).toNat = 1 := by decide
    rw [e1, e2, Nat.and_one_is_mod]
    omega
  simp only [e]
  exact wr64 (by omega) (by omega)
theorem bitB_eq (b s : Nat) (hs : s ≤ 64) : bitB b s = b.testBit s := by
  unfold bitB
  have e : (b : Int).fdiv ((2 : Int) ^ min s 64) = ((b / 2 ^ s : Nat) : Int) := by
    rw [Nat.min_eq_left hs, Int.fdiv_eq_ediv_of_nonneg _ (by exact_mod_cast Nat.zero_le (2 ^ s))]
    norm_cast
  rw [e, and_one, Nat.testBit_eq_decide_div_mod_eq]
  congr 1
  rw [eq_iff_iff]
  omega
theorem cntF_le (w r : Nat → Int) : ∀ k, cntF w r k ≤ k
  | 0 => Nat.le_refl _
  | k + 1 => by
    have := cntF_le w r k
    unfold cntF
    split <;> omega
section
variable (r : Nat → Int) (n : Nat) (c : Option Nat) (most lo hi : Int)
theorem l15a (hn : n ≤ 1000) : LoopOk P18 G18 (A18 15) 15 3 (litS (v15a r n c most (r 0) (r 0) 0) [] (.exit 0) [rowV r n c, .int .i64 most, .int .u8 (lowF r n), .int .u8 (highF r n)] []) := by
  refine loop_steps hm18 (by kernel_rfl) (fun k => v15a r n c most (lowF r k) (highF r k) (k : Nat)) (fun _ => []) (n := n) (fun k hk => ?_) ?_
  · have e1 : lowF r (k + 1) = bif decide (r k < lowF r k) then r k else lowF r k := rfl
    have e2 : highF r (k + 1) = bif decide (highF r k < r k) then r k else highF r k := rfl
    rw [e1, e2]
    generalize lowF r k = lo
    generalize highF r k = hi
    refine Step.mk0 (A := A18) (m := 0) none_ok rfl rfl loops0 (h1 := []) ?_ .nil
    rw [(show iterR P18 G18 A18 noneO 0 15 [] 3 (v15a r n c most lo hi (k : Nat)) [] =
(
 bif decide (Int.ofNat k < Int.ofNat n) then
 bif decide ((0 : Int) ≤ Int.ofNat k) && decide (Int.ofNat k < Int.ofNat n) then
 bif decide (r k < lo) then
 bif decide ((0 : Int) ≤ Int.ofNat k) && decide (Int.ofNat k < Int.ofNat n) then
 bif decide ((0 : Int) ≤ Int.ofNat k) && decide (Int.ofNat k < Int.ofNat n) then
 bif decide (hi < r k) then
 bif decide ((0 : Int) ≤ Int.ofNat k) && decide (Int.ofNat k < Int.ofNat n) then
 some ((Ex.normal, [rowV r n c, T.int .i64 most, T.int .u8 (r k), T.int .u8 (r k), T.int .i64 (IntKind.i64.wrap (Int.ofNat k + (1 : Int)))], []))
 else none else
 some ((Ex.normal, [rowV r n c, T.int .i64 most, T.int .u8 (r k), T.int .u8 hi, T.int .i64 (IntKind.i64.wrap (Int.ofNat k + (1 : Int)))], []))
 else none else none else
 bif decide ((0 : Int) ≤ Int.ofNat k) && decide (Int.ofNat k < Int.ofNat n) then
 bif decide (hi < r k) then
 bif decide ((0 : Int) ≤ Int.ofNat k) && decide (Int.ofNat k < Int.ofNat n) then
 some ((Ex.normal, [rowV r n c, T.int .i64 most, T.int .u8 lo, T.int .u8 (r k), T.int .i64 (IntKind.i64.wrap (Int.ofNat k + (1 : Int)))], []))
 else none else
 some ((Ex.normal, [rowV r n c, T.int .i64 most, T.int .u8 lo, T.int .u8 hi, T.int .i64 (IntKind.i64.wrap (Int.ofNat k + (1 : Int)))], []))
 else none else none else
 some ((Ex.exit 0, [rowV r n c, T.int .i64 most, T.int .u8 lo, T.int .u8 hi], []))) from by kernel_rfl)]
    have ek : IntKind.i64.wrap ((k : Int) + 1) = ((k + 1 : Nat) : Int) := by rw [wr64 (by omega) (by omega)]; omega
    rw [ofNatE k, ek]
    by_cases q1 : r k < lo
    · by_cases q2 : hi < r k
      · rw [dT q1, dT q2]
        (repeat (first | (refine bift (by first | assumption | omega | (simp (disch := omega) only [numsE, List.length_cons, List.length_nil, Nat.reduceAdd]; done) | (simp (disch := omega) only [numsE, List.length_cons, List.length_nil, Nat.reduceAdd]; omega)) ?_) | (refine biff (by first | assumption | (simp (disch := omega) only [numsE, List.length_cons, List.length_nil, Nat.reduceAdd]; done) | (simp (disch := omega) only [numsE, List.length_cons, List.length_nil, Nat.reduceAdd]; omega)) ?_)))
        try simp only [cond_true, cond_false]
        (repeat (first | (refine bift (by first | assumption | omega | (simp (disch := omega) only [numsE, List.length_cons, List.length_nil, Nat.reduceAdd]; done) | (simp (disch := omega) only [numsE, List.length_cons, List.length_nil, Nat.reduceAdd]; omega)) ?_) | (refine biff (by first | assumption | (simp (disch := omega) only [numsE, List.length_cons, List.length_nil, Nat.reduceAdd]; done) | (simp (disch := omega) only [numsE, List.length_cons, List.length_nil, Nat.reduceAdd]; omega)) ?_)))
        try simp only [cond_true, cond_false]
        (repeat (first | (refine bift (by first | assumption | omega | (simp (disch := omega) only [numsE, List.length_cons, List.length_nil, Nat.reduceAdd]; done) | (simp (disch := omega) only [numsE, List.length_cons, List.length_nil, Nat.reduceAdd]; omega)) ?_) | (refine biff (by first | assumption | (simp (disch := omega) only [numsE, List.length_cons, List.length_nil, Nat.reduceAdd]; done) | (simp (disch := omega) only [numsE, List.length_cons, List.length_nil, Nat.reduceAdd]; omega)) ?_)))
        rfl
      · rw [dT q1, dF q2]
        (repeat (first | (refine bift (by first | assumption | omega | (simp (disch := omega) only [numsE, List.length_cons, List.length_nil, Nat.reduceAdd]; done) | (simp (disch := omega) only [numsE, List.length_cons, List.length_nil, Nat.reduceAdd]; omega)) ?_) | (refine biff (by first | assumption | (simp (disch := omega) only [numsE, List.length_cons, List.length_nil, Nat.reduceAdd]; done) | (simp (disch := omega) only [numsE, List.length_cons, List.length_nil, Nat.reduceAdd]; omega)) ?_)))
        try simp only [cond_true, cond_false]
        (repeat (first | (refine bift (by first | assumption | omega | (simp (disch := omega) only [numsE, List.length_cons, List.length_nil, Nat.reduceAdd]; done) | (simp (disch := omega) only [numsE, List.length_cons, List.length_nil, Nat.reduceAdd]; omega)) ?_) | (refine biff (by first | assumption | (simp (disch := omega) only [numsE, List.length_cons, List.length_nil, Nat.reduceAdd]; done) | (simp (disch := omega) only [numsE, List.length_cons, List.length_nil, Nat.reduceAdd]; omega)) ?_)))
        try simp only [cond_true, cond_false]
        (repeat (first | (refine bift (by first | assumption | omega | (simp (disch := omega) only [numsE, List.length_cons, List.length_nil, Nat.reduceAdd]; done) | (simp (disch := omega) only [numsE, List.length_cons, List.length_nil, Nat.reduceAdd]; omega)) ?_) | (refine biff (by first | assumption | (simp (disch := omega) only [numsE, List.length_cons, List.length_nil, Nat.reduceAdd]; done) | (simp (disch := omega) only [numsE, List.length_cons, List.length_nil, Nat.reduceAdd]; omega)) ?_)))
        rfl
    · by_cases q2 : hi < r k
      · rw [dF q1, dT q2]
        (repeat (first | (refine bift (by first | assumption | omega | (simp (disch := omega) only [numsE, List.length_cons, List.length_nil, Nat.reduceAdd]; done) | (simp (disch := omega) only [numsE, List.length_cons, List.length_nil, Nat.reduceAdd]; omega)) ?_) | (refine biff (by first | assumption | (simp (disch := omega) only [numsE, List.length_cons, List.length_nil, Nat.reduceAdd]; done) | (simp (disch := omega) only [numsE, List.length_cons, List.length_nil, Nat.reduceAdd]; omega)) ?_)))
        try simp only [cond_true, cond_false]
        (repeat (first | (refine bift (by first | assumption | omega | (simp (disch := omega) only [numsE, List.length_cons, List.length_nil, Nat.reduceAdd]; done) | (simp (disch := omega) only [numsE, List.length_cons, List.length_nil, Nat.reduceAdd]; omega)) ?_) | (refine biff (by first | assumption | (simp (disch := omega) only [numsE, List.length_cons, List.length_nil, Nat.reduceAdd]; done) | (simp (disch := omega) only [numsE, List.length_cons, List.length_nil, Nat.reduceAdd]; omega)) ?_)))
        try simp only [cond_true, cond_false]
        (repeat (first | (refine bift (by first | assumption | omega | (simp (disch := omega) only [numsE, List.length_cons, List.length_nil, Nat.reduceAdd]; done) | (simp (disch := omega) only [numsE, List.length_cons, List.length_nil, Nat.reduceAdd]; omega)) ?_) | (refine biff (by first | assumption | (simp (disch := omega) only [numsE, List.length_cons, List.length_nil, Nat.reduceAdd]; done) | (simp (disch := omega) only [numsE, List.length_cons, List.length_nil, Nat.reduceAdd]; omega)) ?_)))
        rfl
      · rw [dF q1, dF q2]
        (repeat (first | (refine bift (by first | assumption | omega | (simp (disch := omega) only [numsE, List.length_cons, List.length_nil, Nat.reduceAdd]; done) | (simp (disch := omega) only [numsE, List.length_cons, List.length_nil, Nat.reduceAdd]; omega)) ?_) | (refine biff (by first | assumption | (simp (disch := omega) only [numsE, List.length_cons, List.length_nil, Nat.reduceAdd]; done) | (simp (disch := omega) only [numsE, List.length_cons, List.length_nil, Nat.reduceAdd]; omega)) ?_)))
        try simp only [cond_true, cond_false]
        (repeat (first | (refine bift (by first | assumption | omega | (simp (disch := omega) only [numsE, List.length_cons, List.length_nil, Nat.reduceAdd]; done) | (simp (disch := omega) only [numsE, List.length_cons, List.length_nil, Nat.reduceAdd]; omega)) ?_) | (refine biff (by first | assumption | (simp (disch := omega) only [numsE, List.length_cons, List.length_nil, Nat.reduceAdd]; done) | (simp (disch := omega) only [numsE, List.length_cons, List.length_nil, Nat.reduceAdd]; omega)) ?_)))
        try simp only [cond_true, cond_false]
        (repeat (first | (refine bift (by first | assumption | omega | (simp (disch := omega) only [numsE, List.length_cons, List.length_nil, Nat.reduceAdd]; done) | (simp (disch := omega) only [numsE, List.length_cons, List.length_nil, Nat.reduceAdd]; omega)) ?_) | (refine biff (by first | assumption | (simp (disch := omega) only [numsE, List.length_cons, List.length_nil, Nat.reduceAdd]; done) | (simp (disch := omega) only [numsE, List.length_cons, List.length_nil, Nat.reduceAdd]; omega)) ?_)))
        rfl
  · generalize lowF r n = lo
    generalize highF r n = hi
    refine Last.mk0 (A := A18) (m := 0) none_ok rfl rfl loops0 (h1 := []) (by simp) ?_ .nil
    rw [(show iterR P18 G18 A18 noneO 0 15 [] 3 (v15a r n c most lo hi (n : Nat)) [] =
(
 bif decide (Int.ofNat n < Int.ofNat n) then
 bif decide ((0 : Int) ≤ Int.ofNat n) && decide (Int.ofNat n < Int.ofNat n) then
 bif decide (r n < lo) then
 bif decide ((0 : Int) ≤ Int.ofNat n) && decide (Int.ofNat n < Int.ofNat n) then
 bif decide ((0 : Int) ≤ Int.ofNat n) && decide (Int.ofNat n < Int.ofNat n) then
 bif decide (hi < r n) then
 bif decide ((0 : Int) ≤ Int.ofNat n) && decide (Int.ofNat n < Int.ofNat n) then
 some ((Ex.normal, [rowV r n c, T.int .i64 most, T.int .u8 (r n), T.int .u8 (r n), T.int .i64 (IntKind.i64.wrap (Int.ofNat n + (1 : Int)))], []))
 else none else
 some ((Ex.normal, [rowV r n c, T.int .i64 most, T.int .u8 (r n), T.int .u8 hi, T.int .i64 (IntKind.i64.wrap (Int.ofNat n + (1 : Int)))], []))
 else none else none else
 bif decide ((0 : Int) ≤ Int.ofNat n) && decide (Int.ofNat n < Int.ofNat n) then
 bif decide (hi < r n) then
 bif decide ((0 : Int) ≤ Int.ofNat n) && decide (Int.ofNat n < Int.ofNat n) then
 some ((Ex.normal, [rowV r n c, T.int .i64 most, T.int .u8 lo, T.int .u8 (r n), T.int .i64 (IntKind.i64.wrap (Int.ofNat n + (1 : Int)))], []))
 else none else
 some ((Ex.normal, [rowV r n c, T.int .i64 most, T.int .u8 lo, T.int .u8 hi, T.int .i64 (IntKind.i64.wrap (Int.ofNat n + (1 : Int)))], []))
 else none else none else
 some ((Ex.exit 0, [rowV r n c, T.int .i64 most, T.int .u8 lo, T.int .u8 hi], []))) from by kernel_rfl)]
    (repeat (first | (refine bift (by first | assumption | omega | (simp (disch := omega) only [numsE, List.length_cons, List.length_nil, Nat.reduceAdd]; done) | (simp (disch := omega) only [numsE, List.length_cons, List.length_nil, Nat.reduceAdd]; omega)) ?_) | (refine biff (by first | assumption | (simp (disch := omega) only [numsE, List.length_cons, List.length_nil, Nat.reduceAdd]; done) | (simp (disch := omega) only [numsE, List.length_cons, List.length_nil, Nat.reduceAdd]; omega)) ?_)))
    rfl
theorem l15c (best : T) (ch : Int) (b : Nat) (hb : best = .nils ∨ ∃ w, best = rowV w n none) (hn : n ≤ 60) :
    LoopOk P18 G18 (A18 15) 15 17 (litS (v15c r n c most lo hi best ch b .nils 0 0) [] (.exit 4) (v15b r n c most lo hi best ch b ++ [l15 n, .int .i64 (cntF (wb lo hi n b) r n : Nat)]) (hh15 (wb lo hi n b) n)) := by
  refine loop_steps hm18 (by kernel_rfl) (fun k => v15c r n c most lo hi best ch b (l15 k) (cntF (wb lo hi n b) r k : Nat) (k : Nat)) (fun k => hh15 (wb lo hi n b) k) (n := n) (fun k hk => ?_) ?_
  · have hcl := cntF_le (wb lo hi n b) r k
    have hw : wb lo hi n b k = bif bitB b (n - 1 - k) then hi else lo := by
      unfold wb
      rw [bitB_eq _ _ (by omega)]
      cases b.testBit (n - 1 - k) <;> rfl
    have hc1 : cntF (wb lo hi n b) r (k + 1) = if wb lo hi n b k = r k then cntF (wb lo hi n b) r k else cntF (wb lo hi n b) r k + 1 := rfl
    rw [hw] at hc1
    rw [hc1]
    generalize cntF (wb lo hi n b) r k = cnt at *
    have ek : IntKind.i64.wrap ((k : Int) + 1) = ((k + 1 : Nat) : Int) := by rw [wr64 (by omega) (by omega)]; omega
    have ec : IntKind.i64.wrap ((cnt : Int) + 1) = ((cnt + 1 : Nat) : Int) := by rw [wr64 (by omega) (by omega)]; omega
    have es : IntKind.i64.wrap (IntKind.i64.wrap ((n : Int) - 1) - (k : Int)) = ((n - 1 - k : Nat) : Int) := by rw [wr64 (x := (n : Int) - 1) (by omega) (by omega), wr64 (by omega) (by omega)]; omega
    have eb : decide (bitsOf BinOp.and IntKind.i64 ((b : Int).fdiv ((2 : Int) ^ min (n - 1 - k) 64)) 1 = 1) = bitB b (n - 1 - k) := rfl
    generalize wb lo hi n b = w at *
    have hbr : ∀ σ h, ren σ h best = best := by
      rcases hb with rfl | ⟨w, rfl⟩
      · intro σ h; rfl
      · intro σ h; rfl
    clear hb
    cases k with
    | zero =>
      replace es : IntKind.i64.wrap (IntKind.i64.wrap ((n : Int) - 1) - 0) = ((n - 1 - 0 : Nat) : Int) := es
      by_cases qb : bitB b (n - 1 - 0) = true
      · rw [qb, cond_true] at hw hc1 ⊢
        by_cases qe : hi = r (0)
        · rw [if_pos qe]
          refine Step.mkC (A := A18) (m := 0) none_ok rfl rfl loops0 [1] (v1 := v15c r n c most lo hi best ch b (.own 1 0 0 1 none) cnt (0 + 1 : Nat)) (h1 := [⟨0, 1, 1, fun j => [[.int .u8 hi]].getD j [], true, true, none⟩, ⟨0, 1, 1, fun j => [[.int .u8 hi]].getD (0 + j) [], true, false, none⟩]) ?_ (by kernel_rfl) (v2 := v15c r n c most lo hi best ch b (pO 0) cnt (0 + 1 : Nat)) (by show [_, _, _, _, ren _ _ best, _, _, _, _, _] = _; rw [hbr]; rfl) rfl fun nt => .same (.cons ⟨rfl, rfl, rfl, id, fun j hj => ?_⟩ .nil)
          · show iterR P18 G18 A18 noneO 0 15 [] 17 (v15c r n c most lo hi best ch b .nils cnt 0) [] = _
            rw [(show iterR P18 G18 A18 noneO 0 15 [] 17 (v15c r n c most lo hi best ch b .nils cnt 0) [] =
(
 bif decide ((0 : Int) < Int.ofNat n) then
 bif decide ((0 : Int) ≤ IntKind.i64.wrap (IntKind.i64.wrap (Int.ofNat n - (1 : Int)) - (0 : Int))) then
 bif decide (bitsOf BinOp.and IntKind.i64 ((Int.ofNat b).fdiv ((2 : Int) ^ min (IntKind.i64.wrap (IntKind.i64.wrap (Int.ofNat n - (1 : Int)) - (0 : Int))).toNat (64 : Nat))) (1 : Int) = (1 : Int)) then
 bif decide ((0 : Int) < Int.ofNat n) then
 bif !decide (hi = r (0 : Nat)) then
 some ((Ex.normal, [rowV r n c, T.int .i64 most, T.int .u8 lo, T.int .u8 hi, best, T.int .i64 ch, T.int .i64 (Int.ofNat b), T.own [Blk.mk 0 1 1 (fun j => [[T.int .u8 hi]].getD j []) true true
 none].length (0 : Nat) (0 : Nat) (1 : Nat)
 none, T.int .i64 (IntKind.i64.wrap (Int.ofNat cnt + (1 : Int))), T.int .i64 (1 : Int)], [Blk.mk 0 1 1 (fun j => [[T.int .u8 hi]].getD j []) true true
 none, Blk.mk 0 1 1 (fun j => [[T.int .u8 hi]].getD ((0 : Nat) + j) []) true false
 none]))
 else
 some ((Ex.normal, [rowV r n c, T.int .i64 most, T.int .u8 lo, T.int .u8 hi, best, T.int .i64 ch, T.int .i64 (Int.ofNat b), T.own [Blk.mk 0 1 1 (fun j => [[T.int .u8 hi]].getD j []) true true
 none].length (0 : Nat) (0 : Nat) (1 : Nat)
 none, T.int .i64 (Int.ofNat cnt), T.int .i64 (1 : Int)], [Blk.mk 0 1 1 (fun j => [[T.int .u8 hi]].getD j []) true true
 none, Blk.mk 0 1 1 (fun j => [[T.int .u8 hi]].getD ((0 : Nat) + j) []) true false
 none]))
 else none else
 bif decide ((0 : Int) < Int.ofNat n) then
 bif !decide (lo = r (0 : Nat)) then
 some ((Ex.normal, [rowV r n c, T.int .i64 most, T.int .u8 lo, T.int .u8 hi, best, T.int .i64 ch, T.int .i64 (Int.ofNat b), T.own [Blk.mk 0 1 1 (fun j => [[T.int .u8 lo]].getD j []) true true
 none].length (0 : Nat) (0 : Nat) (1 : Nat)
 none, T.int .i64 (IntKind.i64.wrap (Int.ofNat cnt + (1 : Int))), T.int .i64 (1 : Int)], [Blk.mk 0 1 1 (fun j => [[T.int .u8 lo]].getD j []) true true
 none, Blk.mk 0 1 1 (fun j => [[T.int .u8 lo]].getD ((0 : Nat) + j) []) true false
 none]))
 else
 some ((Ex.normal, [rowV r n c, T.int .i64 most, T.int .u8 lo, T.int .u8 hi, best, T.int .i64 ch, T.int .i64 (Int.ofNat b), T.own [Blk.mk 0 1 1 (fun j => [[T.int .u8 lo]].getD j []) true true
 none].length (0 : Nat) (0 : Nat) (1 : Nat)
 none, T.int .i64 (Int.ofNat cnt), T.int .i64 (1 : Int)], [Blk.mk 0 1 1 (fun j => [[T.int .u8 lo]].getD j []) true true
 none, Blk.mk 0 1 1 (fun j => [[T.int .u8 lo]].getD ((0 : Nat) + j) []) true false
 none]))
 else none else none else
 some ((Ex.exit 4, [rowV r n c, T.int .i64 most, T.int .u8 lo, T.int .u8 hi, best, T.int .i64 ch, T.int .i64 (Int.ofNat b), T.nils, T.int .i64 (Int.ofNat cnt)], []))) from by kernel_rfl)]
            rw [ofNatE n, es, toNatE, ofNatE b, ofNatE cnt]
            refine bift (by first | assumption | omega | (simp (disch := omega) only [numsE, List.length_cons, List.length_nil, Nat.reduceAdd]; done) | (simp (disch := omega) only [numsE, List.length_cons, List.length_nil, Nat.reduceAdd]; omega)) ?_
            refine bift (by first | assumption | omega | (simp (disch := omega) only [numsE, List.length_cons, List.length_nil, Nat.reduceAdd]; done) | (simp (disch := omega) only [numsE, List.length_cons, List.length_nil, Nat.reduceAdd]; omega)) ?_
            refine bift qb ?_
            refine bift (by first | assumption | omega | (simp (disch := omega) only [numsE, List.length_cons, List.length_nil, Nat.reduceAdd]; done) | (simp (disch := omega) only [numsE, List.length_cons, List.length_nil, Nat.reduceAdd]; omega)) ?_
            refine biff (by simp [qe]) ?_
            rfl
          · obtain rfl := one_of hj
            show [T.int .u8 (w 0)] = [.int .u8 hi]
            rw [hw]
        · rw [if_neg qe]
          refine Step.mkC (A := A18) (m := 0) none_ok rfl rfl loops0 [1] (v1 := v15c r n c most lo hi best ch b (.own 1 0 0 1 none) (cnt + 1 : Nat) (0 + 1 : Nat)) (h1 := [⟨0, 1, 1, fun j => [[.int .u8 hi]].getD j [], true, true, none⟩, ⟨0, 1, 1, fun j => [[.int .u8 hi]].getD (0 + j) [], true, false, none⟩]) ?_ (by kernel_rfl) (v2 := v15c r n c most lo hi best ch b (pO 0) (cnt + 1 : Nat) (0 + 1 : Nat)) (by show [_, _, _, _, ren _ _ best, _, _, _, _, _] = _; rw [hbr]; rfl) rfl fun nt => .same (.cons ⟨rfl, rfl, rfl, id, fun j hj => ?_⟩ .nil)
          · show iterR P18 G18 A18 noneO 0 15 [] 17 (v15c r n c most lo hi best ch b .nils cnt 0) [] = _
            rw [(show iterR P18 G18 A18 noneO 0 15 [] 17 (v15c r n c most lo hi best ch b .nils cnt 0) [] =
(
 bif decide ((0 : Int) < Int.ofNat n) then
 bif decide ((0 : Int) ≤ IntKind.i64.wrap (IntKind.i64.wrap (Int.ofNat n - (1 : Int)) - (0 : Int))) then
 bif decide (bitsOf BinOp.and IntKind.i64 ((Int.ofNat b).fdiv ((2 : Int) ^ min (IntKind.i64.wrap (IntKind.i64.wrap (Int.ofNat n - (1 : Int)) - (0 : Int))).toNat (64 : Nat))) (1 : Int) = (1 : Int)) then
 bif decide ((0 : Int) < Int.ofNat n) then
 bif !decide (hi = r (0 : Nat)) then
 some ((Ex.normal, [rowV r n c, T.int .i64 most, T.int .u8 lo, T.int .u8 hi, best, T.int .i64 ch, T.int .i64 (Int.ofNat b), T.own [Blk.mk 0 1 1 (fun j => [[T.int .u8 hi]].getD j []) true true
 none].length (0 : Nat) (0 : Nat) (1 : Nat)
 none, T.int .i64 (IntKind.i64.wrap (Int.ofNat cnt + (1 : Int))), T.int .i64 (1 : Int)], [Blk.mk 0 1 1 (fun j => [[T.int .u8 hi]].getD j []) true true
 none, Blk.mk 0 1 1 (fun j => [[T.int .u8 hi]].getD ((0 : Nat) + j) []) true false
 none]))
 else
 some ((Ex.normal, [rowV r n c, T.int .i64 most, T.int .u8 lo, T.int .u8 hi, best, T.int .i64 ch, T.int .i64 (Int.ofNat b), T.own [Blk.mk 0 1 1 (fun j => [[T.int .u8 hi]].getD j []) true true
 none].length (0 : Nat) (0 : Nat) (1 : Nat)
 none, T.int .i64 (Int.ofNat cnt), T.int .i64 (1 : Int)], [Blk.mk 0 1 1 (fun j => [[T.int .u8 hi]].getD j []) true true
 none, Blk.mk 0 1 1 (fun j => [[T.int .u8 hi]].getD ((0 : Nat) + j) []) true false
 none]))
 else none else
 bif decide ((0 : Int) < Int.ofNat n) then
 bif !decide (lo = r (0 : Nat)) then
 some ((Ex.normal, [rowV r n c, T.int .i64 most, T.int .u8 lo, T.int .u8 hi, best, T.int .i64 ch, T.int .i64 (Int.ofNat b), T.own [Blk.mk 0 1 1 (fun j => [[T.int .u8 lo]].getD j []) true true
 none].length (0 : Nat) (0 : Nat) (1 : Nat)
 none, T.int .i64 (IntKind.i64.wrap (Int.ofNat cnt + (1 : Int))), T.int .i64 (1 : Int)], [Blk.mk 0 1 1 (fun j => [[T.int .u8 lo]].getD j []) true true
 none, Blk.mk 0 1 1 (fun j => [[T.int .u8 lo]].getD ((0 : Nat) + j) []) true false
 none]))
 else
 some ((Ex.normal, [rowV r n c, T.int .i64 most, T.int .u8 lo, T.int .u8 hi, best, T.int .i64 ch, T.int .i64 (Int.ofNat b), T.own [Blk.mk 0 1 1 (fun j => [[T.int .u8 lo]].getD j []) true true
 none].length (0 : Nat) (0 : Nat) (1 : Nat)
 none, T.int .i64 (Int.ofNat cnt), T.int .i64 (1 : Int)], [Blk.mk 0 1 1 (fun j => [[T.int .u8 lo]].getD j []) true true
 none, Blk.mk 0 1 1 (fun j => [[T.int .u8 lo]].getD ((0 : Nat) + j) []) true false
 none]))
 else none else none else
 some ((Ex.exit 4, [rowV r n c, T.int .i64 most, T.int .u8 lo, T.int .u8 hi, best, T.int .i64 ch, T.int .i64 (Int.ofNat b), T.nils, T.int .i64 (Int.ofNat cnt)], []))) from by kernel_rfl)]
            rw [ofNatE n, es, toNatE, ofNatE b, ofNatE cnt, ec]
            refine bift (by first | assumption | omega | (simp (disch := omega) only [numsE, List.length_cons, List.length_nil, Nat.reduceAdd]; done) | (simp (disch := omega) only [numsE, List.length_cons, List.length_nil, Nat.reduceAdd]; omega)) ?_
            refine bift (by first | assumption | omega | (simp (disch := omega) only [numsE, List.length_cons, List.length_nil, Nat.reduceAdd]; done) | (simp (disch := omega) only [numsE, List.length_cons, List.length_nil, Nat.reduceAdd]; omega)) ?_
            refine bift qb ?_
            refine bift (by first | assumption | omega | (simp (disch := omega) only [numsE, List.length_cons, List.length_nil, Nat.reduceAdd]; done) | (simp (disch := omega) only [numsE, List.length_cons, List.length_nil, Nat.reduceAdd]; omega)) ?_
            refine bift (by simp [qe]) ?_
            rfl
          · obtain rfl := one_of hj
            show [T.int .u8 (w 0)] = [.int .u8 hi]
            rw [hw]
      · have qb2 := qb
        rw [Bool.not_eq_true] at qb2
        rw [qb2, cond_false] at hw hc1 ⊢
        by_cases qe : lo = r (0)
        · rw [if_pos qe]
          refine Step.mkC (A := A18) (m := 0) none_ok rfl rfl loops0 [1] (v1 := v15c r n c most lo hi best ch b (.own 1 0 0 1 none) cnt (0 + 1 : Nat)) (h1 := [⟨0, 1, 1, fun j => [[.int .u8 lo]].getD j [], true, true, none⟩, ⟨0, 1, 1, fun j => [[.int .u8 lo]].getD (0 + j) [], true, false, none⟩]) ?_ (by kernel_rfl) (v2 := v15c r n c most lo hi best ch b (pO 0) cnt (0 + 1 : Nat)) (by show [_, _, _, _, ren _ _ best, _, _, _, _, _] = _; rw [hbr]; rfl) rfl fun nt => .same (.cons ⟨rfl, rfl, rfl, id, fun j hj => ?_⟩ .nil)
          · show iterR P18 G18 A18 noneO 0 15 [] 17 (v15c r n c most lo hi best ch b .nils cnt 0) [] = _
            rw [(show iterR P18 G18 A18 noneO 0 15 [] 17 (v15c r n c most lo hi best ch b .nils cnt 0) [] =
(
 bif decide ((0 : Int) < Int.ofNat n) then
 bif decide ((0 : Int) ≤ IntKind.i64.wrap (IntKind.i64.wrap (Int.ofNat n - (1 : Int)) - (0 : Int))) then
 bif decide (bitsOf BinOp.and IntKind.i64 ((Int.ofNat b).fdiv ((2 : Int) ^ min (IntKind.i64.wrap (IntKind.i64.wrap (Int.ofNat n - (1 : Int)) - (0 : Int))).toNat (64 : Nat))) (1 : Int) = (1 : Int)) then
 bif decide ((0 : Int) < Int.ofNat n) then
 bif !decide (hi = r (0 : Nat)) then
 some ((Ex.normal, [rowV r n c, T.int .i64 most, T.int .u8 lo, T.int .u8 hi, best, T.int .i64 ch, T.int .i64 (Int.ofNat b), T.own [Blk.mk 0 1 1 (fun j => [[T.int .u8 hi]].getD j []) true true
 none].length (0 : Nat) (0 : Nat) (1 : Nat)
 none, T.int .i64 (IntKind.i64.wrap (Int.ofNat cnt + (1 : Int))), T.int .i64 (1 : Int)], [Blk.mk 0 1 1 (fun j => [[T.int .u8 hi]].getD j []) true true
 none, Blk.mk 0 1 1 (fun j => [[T.int .u8 hi]].getD ((0 : Nat) + j) []) true false
 none]))
 else
 some ((Ex.normal, [rowV r n c, T.int .i64 most, T.int .u8 lo, T.int .u8 hi, best, T.int .i64 ch, T.int .i64 (Int.ofNat b), T.own [Blk.mk 0 1 1 (fun j => [[T.int .u8 hi]].getD j []) true true
 none].length (0 : Nat) (0 : Nat) (1 : Nat)
 none, T.int .i64 (Int.ofNat cnt), T.int .i64 (1 : Int)], [Blk.mk 0 1 1 (fun j => [[T.int .u8 hi]].getD j []) true true
 none, Blk.mk 0 1 1 (fun j => [[T.int .u8 hi]].getD ((0 : Nat) + j) []) true false
 none]))
 else none else
 bif decide ((0 : Int) < Int.ofNat n) then
 bif !decide (lo = r (0 : Nat)) then
 some ((Ex.normal, [rowV r n c, T.int .i64 most, T.int .u8 lo, T.int .u8 hi, best, T.int .i64 ch, T.int .i64 (Int.ofNat b), T.own [Blk.mk 0 1 1 (fun j => [[T.int .u8 lo]].getD j []) true true
 none].length (0 : Nat) (0 : Nat) (1 : Nat)
 none, T.int .i64 (IntKind.i64.wrap (Int.ofNat cnt + (1 : Int))), T.int .i64 (1 : Int)], [Blk.mk 0 1 1 (fun j => [[T.int .u8 lo]].getD j []) true true
 none, Blk.mk 0 1 1 (fun j => [[T.int .u8 lo]].getD ((0 : Nat) + j) []) true false
 none]))
 else
 some ((Ex.normal, [rowV r n c, T.int .i64 most, T.int .u8 lo, T.int .u8 hi, best, T.int .i64 ch, T.int .i64 (Int.ofNat b), T.own [Blk.mk 0 1 1 (fun j => [[T.int .u8 lo]].getD j []) true true
 none].length (0 : Nat) (0 : Nat) (1 : Nat)
 none, T.int .i64 (Int.ofNat cnt), T.int .i64 (1 : Int)], [Blk.mk 0 1 1 (fun j => [[T.int .u8 lo]].getD j []) true true
 none, Blk.mk 0 1 1 (fun j => [[T.int .u8 lo]].getD ((0 : Nat) + j) []) true false
 none]))
 else none else none else
 some ((Ex.exit 4, [rowV r n c, T.int .i64 most, T.int .u8 lo, T.int .u8 hi, best, T.int .i64 ch, T.int .i64 (Int.ofNat b), T.nils, T.int .i64 (Int.ofNat cnt)], []))) from by kernel_rfl)]
            rw [ofNatE n, es, toNatE, ofNatE b, ofNatE cnt]
            refine bift (by first | assumption | omega | (simp (disch := omega) only [numsE, List.length_cons, List.length_nil, Nat.reduceAdd]; done) | (simp (disch := omega) only [numsE, List.length_cons, List.length_nil, Nat.reduceAdd]; omega)) ?_
            refine bift (by first | assumption | omega | (simp (disch := omega) only [numsE, List.length_cons, List.length_nil, Nat.reduceAdd]; done) | (simp (disch := omega) only [numsE, List.length_cons, List.length_nil, Nat.reduceAdd]; omega)) ?_
            refine biff qb ?_
            refine bift (by first | assumption | omega | (simp (disch := omega) only [numsE, List.length_cons, List.length_nil, Nat.reduceAdd]; done) | (simp (disch := omega) only [numsE, List.length_cons, List.length_nil, Nat.reduceAdd]; omega)) ?_
            refine biff (by simp [qe]) ?_
            rfl
          · obtain rfl := one_of hj
            show [T.int .u8 (w 0)] = [.int .u8 lo]
            rw [hw]
        · rw [if_neg qe]
          refine Step.mkC (A := A18) (m := 0) none_ok rfl rfl loops0 [1] (v1 := v15c r n c most lo hi best ch b (.own 1 0 0 1 none) (cnt + 1 : Nat) (0 + 1 : Nat)) (h1 := [⟨0, 1, 1, fun j => [[.int .u8 lo]].getD j [], true, true, none⟩, ⟨0, 1, 1, fun j => [[.int .u8 lo]].getD (0 + j) [], true, false, none⟩]) ?_ (by kernel_rfl) (v2 := v15c r n c most lo hi best ch b (pO 0) (cnt + 1 : Nat) (0 + 1 : Nat)) (by show [_, _, _, _, ren _ _ best, _, _, _, _, _] = _; rw [hbr]; rfl) rfl fun nt => .same (.cons ⟨rfl, rfl, rfl, id, fun j hj => ?_⟩ .nil)
          · show iterR P18 G18 A18 noneO 0 15 [] 17 (v15c r n c most lo hi best ch b .nils cnt 0) [] = _
            rw [(show iterR P18 G18 A18 noneO 0 15 [] 17 (v15c r n c most lo hi best ch b .nils cnt 0) [] =
(
 bif decide ((0 : Int) < Int.ofNat n) then
 bif decide ((0 : Int) ≤ IntKind.i64.wrap (IntKind.i64.wrap (Int.ofNat n - (1 : Int)) - (0 : Int))) then
 bif decide (bitsOf BinOp.and IntKind.i64 ((Int.ofNat b).fdiv ((2 : Int) ^ min (IntKind.i64.wrap (IntKind.i64.wrap (Int.ofNat n - (1 : Int)) - (0 : Int))).toNat (64 : Nat))) (1 : Int) = (1 : Int)) then
 bif decide ((0 : Int) < Int.ofNat n) then
 bif !decide (hi = r (0 : Nat)) then
 some ((Ex.normal, [rowV r n c, T.int .i64 most, T.int .u8 lo, T.int .u8 hi, best, T.int .i64 ch, T.int .i64 (Int.ofNat b), T.own [Blk.mk 0 1 1 (fun j => [[T.int .u8 hi]].getD j []) true true
 none].length (0 : Nat) (0 : Nat) (1 : Nat)
 none, T.int .i64 (IntKind.i64.wrap (Int.ofNat cnt + (1 : Int))), T.int .i64 (1 : Int)], [Blk.mk 0 1 1 (fun j => [[T.int .u8 hi]].getD j []) true true
 none, Blk.mk 0 1 1 (fun j => [[T.int .u8 hi]].getD ((0 : Nat) + j) []) true false
 none]))
 else
 some ((Ex.normal, [rowV r n c, T.int .i64 most, T.int .u8 lo, T.int .u8 hi, best, T.int .i64 ch, T.int .i64 (Int.ofNat b), T.own [Blk.mk 0 1 1 (fun j => [[T.int .u8 hi]].getD j []) true true
 none].length (0 : Nat) (0 : Nat) (1 : Nat)
 none, T.int .i64 (Int.ofNat cnt), T.int .i64 (1 : Int)], [Blk.mk 0 1 1 (fun j => [[T.int .u8 hi]].getD j []) true true
 none, Blk.mk 0 1 1 (fun j => [[T.int .u8 hi]].getD ((0 : Nat) + j) []) true false
 none]))
 else none else
 bif decide ((0 : Int) < Int.ofNat n) then
 bif !decide (lo = r (0 : Nat)) then
 some ((Ex.normal, [rowV r n c, T.int .i64 most, T.int .u8 lo, T.int .u8 hi, best, T.int .i64 ch, T.int .i64 (Int.ofNat b), T.own [Blk.mk 0 1 1 (fun j => [[T.int .u8 lo]].getD j []) true true
 none].length (0 : Nat) (0 : Nat) (1 : Nat)
 none, T.int .i64 (IntKind.i64.wrap (Int.ofNat cnt + (1 : Int))), T.int .i64 (1 : Int)], [Blk.mk 0 1 1 (fun j => [[T.int .u8 lo]].getD j []) true true
 none, Blk.mk 0 1 1 (fun j => [[T.int .u8 lo]].getD ((0 : Nat) + j) []) true false
 none]))
 else
 some ((Ex.normal, [rowV r n c, T.int .i64 most, T.int .u8 lo, T.int .u8 hi, best, T.int .i64 ch, T.int .i64 (Int.ofNat b), T.own [Blk.mk 0 1 1 (fun j => [[T.int .u8 lo]].getD j []) true true
 none].length (0 : Nat) (0 : Nat) (1 : Nat)
 none, T.int .i64 (Int.ofNat cnt), T.int .i64 (1 : Int)], [Blk.mk 0 1 1 (fun j => [[T.int .u8 lo]].getD j []) true true
 none, Blk.mk 0 1 1 (fun j => [[T.int .u8 lo]].getD ((0 : Nat) + j) []) true false
 none]))
 else none else none else
 some ((Ex.exit 4, [rowV r n c, T.int .i64 most, T.int .u8 lo, T.int .u8 hi, best, T.int .i64 ch, T.int .i64 (Int.ofNat b), T.nils, T.int .i64 (Int.ofNat cnt)], []))) from by kernel_rfl)]
            rw [ofNatE n, es, toNatE, ofNatE b, ofNatE cnt, ec]
            refine bift (by first | assumption | omega | (simp (disch := omega) only [numsE, List.length_cons, List.length_nil, Nat.reduceAdd]; done) | (simp (disch := omega) only [numsE, List.length_cons, List.length_nil, Nat.reduceAdd]; omega)) ?_
            refine bift (by first | assumption | omega | (simp (disch := omega) only [numsE, List.length_cons, List.length_nil, Nat.reduceAdd]; done) | (simp (disch := omega) only [numsE, List.length_cons, List.length_nil, Nat.reduceAdd]; omega)) ?_
            refine biff qb ?_
            refine bift (by first | assumption | omega | (simp (disch := omega) only [numsE, List.length_cons, List.length_nil, Nat.reduceAdd]; done) | (simp (disch := omega) only [numsE, List.length_cons, List.length_nil, Nat.reduceAdd]; omega)) ?_
            refine bift (by simp [qe]) ?_
            rfl
          · obtain rfl := one_of hj
            show [T.int .u8 (w 0)] = [.int .u8 lo]
            rw [hw]
    | succ j =>
      by_cases qb : bitB b (n - 1 - (j + 1)) = true
      · rw [qb, cond_true] at hw hc1 ⊢
        by_cases qe : hi = r ((j + 1))
        · rw [if_pos qe]
          refine Step.mkC (A := A18) (m := 0) none_ok rfl rfl loops0 [0] (v1 := v15c r n c most lo hi best ch b (pO (j + 1)) cnt (j + 1 + 1 : Nat)) (h1 := [⟨j + 1, 1, j + 1 + 1, fun e => bif Nat.blt e (j + 1) then [.int .u8 (w (0 + e))] else [[.int .u8 hi]].getD (0 + (e - (j + 1))) [], true, false, none⟩, ⟨0, 1, 1, fun j => [[.int .u8 hi]].getD j [], true, true, none⟩]) ?_ (by kernel_rfl) (v2 := v15c r n c most lo hi best ch b (pO (j + 1)) cnt (j + 1 + 1 : Nat)) (by show [_, _, _, _, ren _ _ best, _, _, _, _, _] = _; rw [hbr]; rfl) rfl fun nt => .same (.cons ⟨rfl, rfl, rfl, id, fun e he => ?_⟩ .nil)
          · show iterR P18 G18 A18 noneO 0 15 [] 17 (v15c r n c most lo hi best ch b (pO j) cnt (j + 1 : Nat)) [lbk j w] = _
            rw [(show iterR P18 G18 A18 noneO 0 15 [] 17 (v15c r n c most lo hi best ch b (pO j) cnt (j + 1 : Nat)) [lbk j w] =
(
 bif decide (Int.ofNat (j + (1 : Nat)) < Int.ofNat n) then
 bif decide ((0 : Int) ≤ IntKind.i64.wrap (IntKind.i64.wrap (Int.ofNat n - (1 : Int)) - Int.ofNat (j + (1 : Nat)))) then
 bif decide (bitsOf BinOp.and IntKind.i64 ((Int.ofNat b).fdiv ((2 : Int) ^ min (IntKind.i64.wrap (IntKind.i64.wrap (Int.ofNat n - (1 : Int)) - Int.ofNat (j + (1 : Nat)))).toNat (64 : Nat))) (1 : Int) = (1 : Int)) then
 bif decide ((0 : Int) ≤ Int.ofNat (j + (1 : Nat))) && decide (Int.ofNat (j + (1 : Nat)) < Int.ofNat n) then
 bif !decide (hi = r (j + (1 : Nat))) then
 bif j == j && true then
 bif ((0 : Nat) + (j + (1 : Nat))).ble (j + (1 : Nat)) then
 bif ((j + (1 : Nat) + (1 : Nat)) * (2 : Nat)).ble 70368744177664 then
 bif ((0 : Nat) + (j + (1 : Nat)) + (1 : Nat)).ble (j + (1 : Nat)) then
 some ((Ex.normal, [rowV r n c, T.int .i64 most, T.int .u8 lo, T.int .u8 hi, best, T.int .i64 ch, T.int .i64 (Int.ofNat b), T.own 0 j 0 (j + (1 : Nat) + (1 : Nat))
 none, T.int .i64 (IntKind.i64.wrap (Int.ofNat cnt + (1 : Int))), T.int .i64 (IntKind.i64.wrap (Int.ofNat (j + (1 : Nat)) + (1 : Int)))], [Blk.mk j 1 (j + (1 : Nat)) (fun j_1 =>
 bif ((0 : Nat) + (j + (1 : Nat))).ble j_1 && j_1.blt ((0 : Nat) + (j + (1 : Nat)) + (1 : Nat)) then [[T.int .u8 hi]].getD ((0 : Nat) + (j_1 - ((0 : Nat) + (j + (1 : Nat))))) []
 else [T.int .u8 (w j_1)]) true false
 none, Blk.mk 0 1 1 (fun j => [[T.int .u8 hi]].getD j []) true true
 none]))
 else
 some ((Ex.normal, [rowV r n c, T.int .i64 most, T.int .u8 lo, T.int .u8 hi, best, T.int .i64 ch, T.int .i64 (Int.ofNat b), T.own 0 (j + (1 : Nat)) (0 : Nat) (j + (1 : Nat) + (1 : Nat))
 none, T.int .i64 (IntKind.i64.wrap (Int.ofNat cnt + (1 : Int))), T.int .i64 (IntKind.i64.wrap (Int.ofNat (j + (1 : Nat)) + (1 : Int)))], [Blk.mk (j + (1 : Nat)) (1 : Nat) (j + (1 : Nat) + (1 : Nat)) (fun j_1 =>
 bif j_1.blt (j + (1 : Nat)) then [T.int .u8 (w ((0 : Nat) + j_1))]
 else [[T.int .u8 hi]].getD ((0 : Nat) + (j_1 - (j + (1 : Nat)))) []) true false
 none, Blk.mk 0 1 1 (fun j => [[T.int .u8 hi]].getD j []) true true
 none]))
 else none else none else none else
 bif j == j && true then
 bif ((0 : Nat) + (j + (1 : Nat))).ble (j + (1 : Nat)) then
 bif ((j + (1 : Nat) + (1 : Nat)) * (2 : Nat)).ble 70368744177664 then
 bif ((0 : Nat) + (j + (1 : Nat)) + (1 : Nat)).ble (j + (1 : Nat)) then
 some ((Ex.normal, [rowV r n c, T.int .i64 most, T.int .u8 lo, T.int .u8 hi, best, T.int .i64 ch, T.int .i64 (Int.ofNat b), T.own 0 j 0 (j + (1 : Nat) + (1 : Nat))
 none, T.int .i64 (Int.ofNat cnt), T.int .i64 (IntKind.i64.wrap (Int.ofNat (j + (1 : Nat)) + (1 : Int)))], [Blk.mk j 1 (j + (1 : Nat)) (fun j_1 =>
 bif ((0 : Nat) + (j + (1 : Nat))).ble j_1 && j_1.blt ((0 : Nat) + (j + (1 : Nat)) + (1 : Nat)) then [[T.int .u8 hi]].getD ((0 : Nat) + (j_1 - ((0 : Nat) + (j + (1 : Nat))))) []
 else [T.int .u8 (w j_1)]) true false
 none, Blk.mk 0 1 1 (fun j => [[T.int .u8 hi]].getD j []) true true
 none]))
 else
 some ((Ex.normal, [rowV r n c, T.int .i64 most, T.int .u8 lo, T.int .u8 hi, best, T.int .i64 ch, T.int .i64 (Int.ofNat b), T.own 0 (j + (1 : Nat)) (0 : Nat) (j + (1 : Nat) + (1 : Nat))
 none, T.int .i64 (Int.ofNat cnt), T.int .i64 (IntKind.i64.wrap (Int.ofNat (j + (1 : Nat)) + (1 : Int)))], [Blk.mk (j + (1 : Nat)) (1 : Nat) (j + (1 : Nat) + (1 : Nat)) (fun j_1 =>
 bif j_1.blt (j + (1 : Nat)) then [T.int .u8 (w ((0 : Nat) + j_1))]
 else [[T.int .u8 hi]].getD ((0 : Nat) + (j_1 - (j + (1 : Nat)))) []) true false
 none, Blk.mk 0 1 1 (fun j => [[T.int .u8 hi]].getD j []) true true
 none]))
 else none else none else none else none else
 bif decide ((0 : Int) ≤ Int.ofNat (j + (1 : Nat))) && decide (Int.ofNat (j + (1 : Nat)) < Int.ofNat n) then
 bif !decide (lo = r (j + (1 : Nat))) then
 bif j == j && true then
 bif ((0 : Nat) + (j + (1 : Nat))).ble (j + (1 : Nat)) then
 bif ((j + (1 : Nat) + (1 : Nat)) * (2 : Nat)).ble 70368744177664 then
 bif ((0 : Nat) + (j + (1 : Nat)) + (1 : Nat)).ble (j + (1 : Nat)) then
 some ((Ex.normal, [rowV r n c, T.int .i64 most, T.int .u8 lo, T.int .u8 hi, best, T.int .i64 ch, T.int .i64 (Int.ofNat b), T.own 0 j 0 (j + (1 : Nat) + (1 : Nat))
 none, T.int .i64 (IntKind.i64.wrap (Int.ofNat cnt + (1 : Int))), T.int .i64 (IntKind.i64.wrap (Int.ofNat (j + (1 : Nat)) + (1 : Int)))], [Blk.mk j 1 (j + (1 : Nat)) (fun j_1 =>
 bif ((0 : Nat) + (j + (1 : Nat))).ble j_1 && j_1.blt ((0 : Nat) + (j + (1 : Nat)) + (1 : Nat)) then [[T.int .u8 lo]].getD ((0 : Nat) + (j_1 - ((0 : Nat) + (j + (1 : Nat))))) []
 else [T.int .u8 (w j_1)]) true false
 none, Blk.mk 0 1 1 (fun j => [[T.int .u8 lo]].getD j []) true true
 none]))
 else
 some ((Ex.normal, [rowV r n c, T.int .i64 most, T.int .u8 lo, T.int .u8 hi, best, T.int .i64 ch, T.int .i64 (Int.ofNat b), T.own 0 (j + (1 : Nat)) (0 : Nat) (j + (1 : Nat) + (1 : Nat))
 none, T.int .i64 (IntKind.i64.wrap (Int.ofNat cnt + (1 : Int))), T.int .i64 (IntKind.i64.wrap (Int.ofNat (j + (1 : Nat)) + (1 : Int)))], [Blk.mk (j + (1 : Nat)) (1 : Nat) (j + (1 : Nat) + (1 : Nat)) (fun j_1 =>
 bif j_1.blt (j + (1 : Nat)) then [T.int .u8 (w ((0 : Nat) + j_1))]
 else [[T.int .u8 lo]].getD ((0 : Nat) + (j_1 - (j + (1 : Nat)))) []) true false
 none, Blk.mk 0 1 1 (fun j => [[T.int .u8 lo]].getD j []) true true
 none]))
 else none else none else none else
 bif j == j && true then
 bif ((0 : Nat) + (j + (1 : Nat))).ble (j + (1 : Nat)) then
 bif ((j + (1 : Nat) + (1 : Nat)) * (2 : Nat)).ble 70368744177664 then
 bif ((0 : Nat) + (j + (1 : Nat)) + (1 : Nat)).ble (j + (1 : Nat)) then
 some ((Ex.normal, [rowV r n c, T.int .i64 most, T.int .u8 lo, T.int .u8 hi, best, T.int .i64 ch, T.int .i64 (Int.ofNat b), T.own 0 j 0 (j + (1 : Nat) + (1 : Nat))
 none, T.int .i64 (Int.ofNat cnt), T.int .i64 (IntKind.i64.wrap (Int.ofNat (j + (1 : Nat)) + (1 : Int)))], [Blk.mk j 1 (j + (1 : Nat)) (fun j_1 =>
 bif ((0 : Nat) + (j + (1 : Nat))).ble j_1 && j_1.blt ((0 : Nat) + (j + (1 : Nat)) + (1 : Nat)) then [[T.int .u8 lo]].getD ((0 : Nat) + (j_1 - ((0 : Nat) + (j + (1 : Nat))))) []
 else [T.int .u8 (w j_1)]) true false
 none, Blk.mk 0 1 1 (fun j => [[T.int .u8 lo]].getD j []) true true
 none]))
 else
 some ((Ex.normal, [rowV r n c, T.int .i64 most, T.int .u8 lo, T.int .u8 hi, best, T.int .i64 ch, T.int .i64 (Int.ofNat b), T.own 0 (j + (1 : Nat)) (0 : Nat) (j + (1 : Nat) + (1 : Nat))
 none, T.int .i64 (Int.ofNat cnt), T.int .i64 (IntKind.i64.wrap (Int.ofNat (j + (1 : Nat)) + (1 : Int)))], [Blk.mk (j + (1 : Nat)) (1 : Nat) (j + (1 : Nat) + (1 : Nat)) (fun j_1 =>
 bif j_1.blt (j + (1 : Nat)) then [T.int .u8 (w ((0 : Nat) + j_1))]
 else [[T.int .u8 lo]].getD ((0 : Nat) + (j_1 - (j + (1 : Nat)))) []) true false
 none, Blk.mk 0 1 1 (fun j => [[T.int .u8 lo]].getD j []) true true
 none]))
 else none else none else none else none else none else
 some ((Ex.exit 4, [rowV r n c, T.int .i64 most, T.int .u8 lo, T.int .u8 hi, best, T.int .i64 ch, T.int .i64 (Int.ofNat b), T.own 0 j 0 (j + (1 : Nat))
 none, T.int .i64 (Int.ofNat cnt)], [Blk.mk j 1 (j + (1 : Nat)) (fun e => [T.int .u8 (w e)]) true false
 none]))) from by kernel_rfl)]
            rw [ofNatE n, ofNatE (j + 1), es, toNatE, ofNatE b, ofNatE cnt, ek]
            refine bift (by first | assumption | omega | (simp (disch := omega) only [numsE, List.length_cons, List.length_nil, Nat.reduceAdd]; done) | (simp (disch := omega) only [numsE, List.length_cons, List.length_nil, Nat.reduceAdd]; omega)) ?_
            refine bift (by first | assumption | omega | (simp (disch := omega) only [numsE, List.length_cons, List.length_nil, Nat.reduceAdd]; done) | (simp (disch := omega) only [numsE, List.length_cons, List.length_nil, Nat.reduceAdd]; omega)) ?_
            refine bift qb ?_
            refine bift (by first | assumption | omega | (simp (disch := omega) only [numsE, List.length_cons, List.length_nil, Nat.reduceAdd]; done) | (simp (disch := omega) only [numsE, List.length_cons, List.length_nil, Nat.reduceAdd]; omega)) ?_
            refine biff (by simp [qe]) ?_
            refine bift (by simp) ?_
            refine bift (by first | assumption | omega | (simp (disch := omega) only [numsE, List.length_cons, List.length_nil, Nat.reduceAdd]; done) | (simp (disch := omega) only [numsE, List.length_cons, List.length_nil, Nat.reduceAdd]; omega)) ?_
            refine bift (by first | assumption | omega | (simp (disch := omega) only [numsE, List.length_cons, List.length_nil, Nat.reduceAdd]; done) | (simp (disch := omega) only [numsE, List.length_cons, List.length_nil, Nat.reduceAdd]; omega)) ?_
            refine biff (by first | assumption | (simp (disch := omega) only [numsE, List.length_cons, List.length_nil, Nat.reduceAdd]; done) | (simp (disch := omega) only [numsE, List.length_cons, List.length_nil, Nat.reduceAdd]; omega)) ?_
            rfl
          · have he2 : e < j + 1 + 1 := he
            show [T.int .u8 (w e)] = bif Nat.blt e (j + 1) then [.int .u8 (w (0 + e))] else [[.int .u8 hi]].getD (0 + (e - (j + 1))) []
            by_cases q2 : e < j + 1
            · rw [bltT q2, cond_true, Nat.zero_add]
            · obtain rfl : e = j + 1 := by omega
              rw [bltF (Nat.le_refl _), cond_false, hw, Nat.sub_self]
              rfl
        · rw [if_neg qe]
          refine Step.mkC (A := A18) (m := 0) none_ok rfl rfl loops0 [0] (v1 := v15c r n c most lo hi best ch b (pO (j + 1)) (cnt + 1 : Nat) (j + 1 + 1 : Nat)) (h1 := [⟨j + 1, 1, j + 1 + 1, fun e => bif Nat.blt e (j + 1) then [.int .u8 (w (0 + e))] else [[.int .u8 hi]].getD (0 + (e - (j + 1))) [], true, false, none⟩, ⟨0, 1, 1, fun j => [[.int .u8 hi]].getD j [], true, true, none⟩]) ?_ (by kernel_rfl) (v2 := v15c r n c most lo hi best ch b (pO (j + 1)) (cnt + 1 : Nat) (j + 1 + 1 : Nat)) (by show [_, _, _, _, ren _ _ best, _, _, _, _, _] = _; rw [hbr]; rfl) rfl fun nt => .same (.cons ⟨rfl, rfl, rfl, id, fun e he => ?_⟩ .nil)
          · show iterR P18 G18 A18 noneO 0 15 [] 17 (v15c r n c most lo hi best ch b (pO j) cnt (j + 1 : Nat)) [lbk j w] = _
            rw [(show iterR P18 G18 A18 noneO 0 15 [] 17 (v15c r n c most lo hi best ch b (pO j) cnt (j + 1 : Nat)) [lbk j w] =
(
 bif decide (Int.ofNat (j + (1 : Nat)) < Int.ofNat n) then
 bif decide ((0 : Int) ≤ IntKind.i64.wrap (IntKind.i64.wrap (Int.ofNat n - (1 : Int)) - Int.ofNat (j + (1 : Nat)))) then
 bif decide (bitsOf BinOp.and IntKind.i64 ((Int.ofNat b).fdiv ((2 : Int) ^ min (IntKind.i64.wrap (IntKind.i64.wrap (Int.ofNat n - (1 : Int)) - Int.ofNat (j + (1 : Nat)))).toNat (64 : Nat))) (1 : Int) = (1 : Int)) then
 bif decide ((0 : Int) ≤ Int.ofNat (j + (1 : Nat))) && decide (Int.ofNat (j + (1 : Nat)) < Int.ofNat n) then
 bif !decide (hi = r (j + (1 : Nat))) then
 bif j == j && true then
 bif ((0 : Nat) + (j + (1 : Nat))).ble (j + (1 : Nat)) then
 bif ((j + (1 : Nat) + (1 : Nat)) * (2 : Nat)).ble 70368744177664 then
 bif ((0 : Nat) + (j + (1 : Nat)) + (1 : Nat)).ble (j + (1 : Nat)) then
 some ((Ex.normal, [rowV r n c, T.int .i64 most, T.int .u8 lo, T.int .u8 hi, best, T.int .i64 ch, T.int .i64 (Int.ofNat b), T.own 0 j 0 (j + (1 : Nat) + (1 : Nat))
 none, T.int .i64 (IntKind.i64.wrap (Int.ofNat cnt + (1 : Int))), T.int .i64 (IntKind.i64.wrap (Int.ofNat (j + (1 : Nat)) + (1 : Int)))], [Blk.mk j 1 (j + (1 : Nat)) (fun j_1 =>
 bif ((0 : Nat) + (j + (1 : Nat))).ble j_1 && j_1.blt ((0 : Nat) + (j + (1 : Nat)) + (1 : Nat)) then [[T.int .u8 hi]].getD ((0 : Nat) + (j_1 - ((0 : Nat) + (j + (1 : Nat))))) []
 else [T.int .u8 (w j_1)]) true false
 none, Blk.mk 0 1 1 (fun j => [[T.int .u8 hi]].getD j []) true true
 none]))
 else
 some ((Ex.normal, [rowV r n c, T.int .i64 most, T.int .u8 lo, T.int .u8 hi, best, T.int .i64 ch, T.int .i64 (Int.ofNat b), T.own 0 (j + (1 : Nat)) (0 : Nat) (j + (1 : Nat) + (1 : Nat))
 none, T.int .i64 (IntKind.i64.wrap (Int.ofNat cnt + (1 : Int))), T.int .i64 (IntKind.i64.wrap (Int.ofNat (j + (1 : Nat)) + (1 : Int)))], [Blk.mk (j + (1 : Nat)) (1 : Nat) (j + (1 : Nat) + (1 : Nat)) (fun j_1 =>
 bif j_1.blt (j + (1 : Nat)) then [T.int .u8 (w ((0 : Nat) + j_1))]
 else [[T.int .u8 hi]].getD ((0 : Nat) + (j_1 - (j + (1 : Nat)))) []) true false
 none, Blk.mk 0 1 1 (fun j => [[T.int .u8 hi]].getD j []) true true
 none]))
 else none else none else none else
 bif j == j && true then
 bif ((0 : Nat) + (j + (1 : Nat))).ble (j + (1 : Nat)) then
 bif ((j + (1 : Nat) + (1 : Nat)) * (2 : Nat)).ble 70368744177664 then
 bif ((0 : Nat) + (j + (1 : Nat)) + (1 : Nat)).ble (j + (1 : Nat)) then
 some ((Ex.normal, [rowV r n c, T.int .i64 most, T.int .u8 lo, T.int .u8 hi, best, T.int .i64 ch, T.int .i64 (Int.ofNat b), T.own 0 j 0 (j + (1 : Nat) + (1 : Nat))
 none, T.int .i64 (Int.ofNat cnt), T.int .i64 (IntKind.i64.wrap (Int.ofNat (j + (1 : Nat)) + (1 : Int)))], [Blk.mk j 1 (j + (1 : Nat)) (fun j_1 =>
 bif ((0 : Nat) + (j + (1 : Nat))).ble j_1 && j_1.blt ((0 : Nat) + (j + (1 : Nat)) + (1 : Nat)) then [[T.int .u8 hi]].getD ((0 : Nat) + (j_1 - ((0 : Nat) + (j + (1 : Nat))))) []
 else [T.int .u8 (w j_1)]) true false
 none, Blk.mk 0 1 1 (fun j => [[T.int .u8 hi]].getD j []) true true
 none]))
 else
 some ((Ex.normal, [rowV r n c, T.int .i64 most, T.int .u8 lo, T.int .u8 hi, best, T.int .i64 ch, T.int .i64 (Int.ofNat b), T.own 0 (j + (1 : Nat)) (0 : Nat) (j + (1 : Nat) + (1 : Nat))
 none, T.int .i64 (Int.ofNat cnt), T.int .i64 (IntKind.i64.wrap (Int.ofNat (j + (1 : Nat)) + (1 : Int)))], [Blk.mk (j + (1 : Nat)) (1 : Nat) (j + (1 : Nat) + (1 : Nat)) (fun j_1 =>
 bif j_1.blt (j + (1 : Nat)) then [T.int .u8 (w ((0 : Nat) + j_1))]
 else [[T.int .u8 hi]].getD ((0 : Nat) + (j_1 - (j + (1 : Nat)))) []) true false
 none, Blk.mk 0 1 1 (fun j => [[T.int .u8 hi]].getD j []) true true
 none]))
 else none else none else none else none else
 bif decide ((0 : Int) ≤ Int.ofNat (j + (1 : Nat))) && decide (Int.ofNat (j + (1 : Nat)) < Int.ofNat n) then
 bif !decide (lo = r (j + (1 : Nat))) then
 bif j == j && true then
 bif ((0 : Nat) + (j + (1 : Nat))).ble (j + (1 : Nat)) then
 bif ((j + (1 : Nat) + (1 : Nat)) * (2 : Nat)).ble 70368744177664 then
 bif ((0 : Nat) + (j + (1 : Nat)) + (1 : Nat)).ble (j + (1 : Nat)) then
 some ((Ex.normal, [rowV r n c, T.int .i64 most, T.int .u8 lo, T.int .u8 hi, best, T.int .i64 ch, T.int .i64 (Int.ofNat b), T.own 0 j 0 (j + (1 : Nat) + (1 : Nat))
 none, T.int .i64 (IntKind.i64.wrap (Int.ofNat cnt + (1 : Int))), T.int .i64 (IntKind.i64.wrap (Int.ofNat (j + (1 : Nat)) + (1 : Int)))], [Blk.mk j 1 (j + (1 : Nat)) (fun j_1 =>
 bif ((0 : Nat) + (j + (1 : Nat))).ble j_1 && j_1.blt ((0 : Nat) + (j + (1 : Nat)) + (1 : Nat)) then [[T.int .u8 lo]].getD ((0 : Nat) + (j_1 - ((0 : Nat) + (j + (1 : Nat))))) []
 else [T.int .u8 (w j_1)]) true false
 none, Blk.mk 0 1 1 (fun j => [[T.int .u8 lo]].getD j []) true true
 none]))
 else
 some ((Ex.normal, [rowV r n c, T.int .i64 most, T.int .u8 lo, T.int .u8 hi, best, T.int .i64 ch, T.int .i64 (Int.ofNat b), T.own 0 (j + (1 : Nat)) (0 : Nat) (j + (1 : Nat) + (1 : Nat))
 none, T.int .i64 (IntKind.i64.wrap (Int.ofNat cnt + (1 : Int))), T.int .i64 (IntKind.i64.wrap (Int.ofNat (j + (1 : Nat)) + (1 : Int)))], [Blk.mk (j + (1 : Nat)) (1 : Nat) (j + (1 : Nat) + (1 : Nat)) (fun j_1 =>
 bif j_1.blt (j + (1 : Nat)) then [T.int .u8 (w ((0 : Nat) + j_1))]
 else [[T.int .u8 lo]].getD ((0 : Nat) + (j_1 - (j + (1 : Nat)))) []) true false
 none, Blk.mk 0 1 1 (fun j => [[T.int .u8 lo]].getD j []) true true
 none]))
 else none else none else none else
 bif j == j && true then
 bif ((0 : Nat) + (j + (1 : Nat))).ble (j + (1 : Nat)) then
 bif ((j + (1 : Nat) + (1 : Nat)) * (2 : Nat)).ble 70368744177664 then
 bif ((0 : Nat) + (j + (1 : Nat)) + (1 : Nat)).ble (j + (1 : Nat)) then
 some ((Ex.normal, [rowV r n c, T.int .i64 most, T.int .u8 lo, T.int .u8 hi, best, T.int .i64 ch, T.int .i64 (Int.ofNat b), T.own 0 j 0 (j + (1 : Nat) + (1 : Nat))
 none, T.int .i64 (Int.ofNat cnt), T.int .i64 (IntKind.i64.wrap (Int.ofNat (j + (1 : Nat)) + (1 : Int)))], [Blk.mk j 1 (j + (1 : Nat)) (fun j_1 =>
 bif ((0 : Nat) + (j + (1 : Nat))).ble j_1 && j_1.blt ((0 : Nat) + (j + (1 : Nat)) + (1 : Nat)) then [[T.int .u8 lo]].getD ((0 : Nat) + (j_1 - ((0 : Nat) + (j + (1 : Nat))))) []
 else [T.int .u8 (w j_1)]) true false
 none, Blk.mk 0 1 1 (fun j => [[T.int .u8 lo]].getD j []) true true
 none]))
 else
 some ((Ex.normal, [rowV r n c, T.int .i64 most, T.int .u8 lo, T.int .u8 hi, best, T.int .i64 ch, T.int .i64 (Int.ofNat b), T.own 0 (j + (1 : Nat)) (0 : Nat) (j + (1 : Nat) + (1 : Nat))
 none, T.int .i64 (Int.ofNat cnt), T.int .i64 (IntKind.i64.wrap (Int.ofNat (j + (1 : Nat)) + (1 : Int)))], [Blk.mk (j + (1 : Nat)) (1 : Nat) (j + (1 : Nat) + (1 : Nat)) (fun j_1 =>
 bif j_1.blt (j + (1 : Nat)) then [T.int .u8 (w ((0 : Nat) + j_1))]
 else [[T.int .u8 lo]].getD ((0 : Nat) + (j_1 - (j + (1 : Nat)))) []) true false
 none, Blk.mk 0 1 1 (fun j => [[T.int .u8 lo]].getD j []) true true
 none]))
 else none else none else none else none else none else
 some ((Ex.exit 4, [rowV r n c, T.int .i64 most, T.int .u8 lo, T.int .u8 hi, best, T.int .i64 ch, T.int .i64 (Int.ofNat b), T.own 0 j 0 (j + (1 : Nat))
 none, T.int .i64 (Int.ofNat cnt)], [Blk.mk j 1 (j + (1 : Nat)) (fun e => [T.int .u8 (w e)]) true false
 none]))) from by kernel_rfl)]
            rw [ofNatE n, ofNatE (j + 1), es, toNatE, ofNatE b, ofNatE cnt, ek, ec]
            refine bift (by first | assumption | omega | (simp (disch := omega) only [numsE, List.length_cons, List.length_nil, Nat.reduceAdd]; done) | (simp (disch := omega) only [numsE, List.length_cons, List.length_nil, Nat.reduceAdd]; omega)) ?_
            refine bift (by first | assumption | omega | (simp (disch := omega) only [numsE, List.length_cons, List.length_nil, Nat.reduceAdd]; done) | (simp (disch := omega) only [numsE, List.length_cons, List.length_nil, Nat.reduceAdd]; omega)) ?_
            refine bift qb ?_
            refine bift (by first | assumption | omega | (simp (disch := omega) only [numsE, List.length_cons, List.length_nil, Nat.reduceAdd]; done) | (simp (disch := omega) only [numsE, List.length_cons, List.length_nil, Nat.reduceAdd]; omega)) ?_
            refine bift (by simp [qe]) ?_
            refine bift (by simp) ?_
            refine bift (by first | assumption | omega | (simp (disch := omega) only [numsE, List.length_cons, List.length_nil, Nat.reduceAdd]; done) | (simp (disch := omega) only [numsE, List.length_cons, List.length_nil, Nat.reduceAdd]; omega)) ?_
            refine bift (by first | assumption | omega | (simp (disch := omega) only [numsE, List.length_cons, List.length_nil, Nat.reduceAdd]; done) | (simp (disch := omega) only [numsE, List.length_cons, List.length_nil, Nat.reduceAdd]; omega)) ?_
            refine biff (by first | assumption | (simp (disch := omega) only [numsE, List.length_cons, List.length_nil, Nat.reduceAdd]; done) | (simp (disch := omega) only [numsE, List.length_cons, List.length_nil, Nat.reduceAdd]; omega)) ?_
            rfl
          · have he2 : e < j + 1 + 1 := he
            show [T.int .u8 (w e)] = bif Nat.blt e (j + 1) then [.int .u8 (w (0 + e))] else [[.int .u8 hi]].getD (0 + (e - (j + 1))) []
            by_cases q2 : e < j + 1
            · rw [bltT q2, cond_true, Nat.zero_add]
            · obtain rfl : e = j + 1 := by omega
              rw [bltF (Nat.le_refl _), cond_false, hw, Nat.sub_self]
              rfl
      · have qb2 := qb
        rw [Bool.not_eq_true] at qb2
        rw [qb2, cond_false] at hw hc1 ⊢
        by_cases qe : lo = r ((j + 1))
        · rw [if_pos qe]
          refine Step.mkC (A := A18) (m := 0) none_ok rfl rfl loops0 [0] (v1 := v15c r n c most lo hi best ch b (pO (j + 1)) cnt (j + 1 + 1 : Nat)) (h1 := [⟨j + 1, 1, j + 1 + 1, fun e => bif Nat.blt e (j + 1) then [.int .u8 (w (0 + e))] else [[.int .u8 lo]].getD (0 + (e - (j + 1))) [], true, false, none⟩, ⟨0, 1, 1, fun j => [[.int .u8 lo]].getD j [], true, true, none⟩]) ?_ (by kernel_rfl) (v2 := v15c r n c most lo hi best ch b (pO (j + 1)) cnt (j + 1 + 1 : Nat)) (by show [_, _, _, _, ren _ _ best, _, _, _, _, _] = _; rw [hbr]; rfl) rfl fun nt => .same (.cons ⟨rfl, rfl, rfl, id, fun e he => ?_⟩ .nil)
          · show iterR P18 G18 A18 noneO 0 15 [] 17 (v15c r n c most lo hi best ch b (pO j) cnt (j + 1 : Nat)) [lbk j w] = _
            rw [(show iterR P18 G18 A18 noneO 0 15 [] 17 (v15c r n c most lo hi best ch b (pO j) cnt (j + 1 : Nat)) [lbk j w] =
(
 bif decide (Int.ofNat (j + (1 : Nat)) < Int.ofNat n) then
 bif decide ((0 : Int) ≤ IntKind.i64.wrap (IntKind.i64.wrap (Int.ofNat n - (1 : Int)) - Int.ofNat (j + (1 : Nat)))) then
 bif decide (bitsOf BinOp.and IntKind.i64 ((Int.ofNat b).fdiv ((2 : Int) ^ min (IntKind.i64.wrap (IntKind.i64.wrap (Int.ofNat n - (1 : Int)) - Int.ofNat (j + (1 : Nat)))).toNat (64 : Nat))) (1 : Int) = (1 : Int)) then
 bif decide ((0 : Int) ≤ Int.ofNat (j + (1 : Nat))) && decide (Int.ofNat (j + (1 : Nat)) < Int.ofNat n) then
 bif !decide (hi = r (j + (1 : Nat))) then
 bif j == j && true then
 bif ((0 : Nat) + (j + (1 : Nat))).ble (j + (1 : Nat)) then
 bif ((j + (1 : Nat) + (1 : Nat)) * (2 : Nat)).ble 70368744177664 then
 bif ((0 : Nat) + (j + (1 : Nat)) + (1 : Nat)).ble (j + (1 : Nat)) then
 some ((Ex.normal, [rowV r n c, T.int .i64 most, T.int .u8 lo, T.int .u8 hi, best, T.int .i64 ch, T.int .i64 (Int.ofNat b), T.own 0 j 0 (j + (1 : Nat) + (1 : Nat))
 none, T.int .i64 (IntKind.i64.wrap (Int.ofNat cnt + (1 : Int))), T.int .i64 (IntKind.i64.wrap (Int.ofNat (j + (1 : Nat)) + (1 : Int)))], [Blk.mk j 1 (j + (1 : Nat)) (fun j_1 =>
 bif ((0 : Nat) + (j + (1 : Nat))).ble j_1 && j_1.blt ((0 : Nat) + (j + (1 : Nat)) + (1 : Nat)) then [[T.int .u8 hi]].getD ((0 : Nat) + (j_1 - ((0 : Nat) + (j + (1 : Nat))))) []
 else [T.int .u8 (w j_1)]) true false
 none, Blk.mk 0 1 1 (fun j => [[T.int .u8 hi]].getD j []) true true
 none]))
 else
 some ((Ex.normal, [rowV r n c, T.int .i64 most, T.int .u8 lo, T.int .u8 hi, best, T.int .i64 ch, T.int .i64 (Int.ofNat b), T.own 0 (j + (1 : Nat)) (0 : Nat) (j + (1 : Nat) + (1 : Nat))
 none, T.int .i64 (IntKind.i64.wrap (Int.ofNat cnt + (1 : Int))), T.int .i64 (IntKind.i64.wrap (Int.ofNat (j + (1 : Nat)) + (1 : Int)))], [Blk.mk (j + (1 : Nat)) (1 : Nat) (j + (1 : Nat) + (1 : Nat)) (fun j_1 =>
 bif j_1.blt (j + (1 : Nat)) then [T.int .u8 (w ((0 : Nat) + j_1))]
 else [[T.int .u8 hi]].getD ((0 : Nat) + (j_1 - (j + (1 : Nat)))) []) true false
 none, Blk.mk 0 1 1 (fun j => [[T.int .u8 hi]].getD j []) true true
 none]))
 else none else none else none else
 bif j == j && true then
 bif ((0 : Nat) + (j + (1 : Nat))).ble (j + (1 : Nat)) then
 bif ((j + (1 : Nat) + (1 : Nat)) * (2 : Nat)).ble 70368744177664 then
 bif ((0 : Nat) + (j + (1 : Nat)) + (1 : Nat)).ble (j + (1 : Nat)) then
 some ((Ex.normal, [rowV r n c, T.int .i64 most, T.int .u8 lo, T.int .u8 hi, best, T.int .i64 ch, T.int .i64 (Int.ofNat b), T.own 0 j 0 (j + (1 : Nat) + (1 : Nat))
 none, T.int .i64 (Int.ofNat cnt), T.int .i64 (IntKind.i64.wrap (Int.ofNat (j + (1 : Nat)) + (1 : Int)))], [Blk.mk j 1 (j + (1 : Nat)) (fun j_1 =>
 bif ((0 : Nat) + (j + (1 : Nat))).ble j_1 && j_1.blt ((0 : Nat) + (j + (1 : Nat)) + (1 : Nat)) then [[T.int .u8 hi]].getD ((0 : Nat) + (j_1 - ((0 : Nat) + (j + (1 : Nat))))) []
 else [T.int .u8 (w j_1)]) true false
 none, Blk.mk 0 1 1 (fun j => [[T.int .u8 hi]].getD j []) true true
 none]))
 else
 some ((Ex.normal, [rowV r n c, T.int .i64 most, T.int .u8 lo, T.int .u8 hi, best, T.int .i64 ch, T.int .i64 (Int.ofNat b), T.own 0 (j + (1 : Nat)) (0 : Nat) (j + (1 : Nat) + (1 : Nat))
 none, T.int .i64 (Int.ofNat cnt), T.int .i64 (IntKind.i64.wrap (Int.ofNat (j + (1 : Nat)) + (1 : Int)))], [Blk.mk (j + (1 : Nat)) (1 : Nat) (j + (1 : Nat) + (1 : Nat)) (fun j_1 =>
 bif j_1.blt (j + (1 : Nat)) then [T.int .u8 (w ((0 : Nat) + j_1))]
 else [[T.int .u8 hi]].getD ((0 : Nat) + (j_1 - (j + (1 : Nat)))) []) true false
 none, Blk.mk 0 1 1 (fun j => [[T.int .u8 hi]].getD j []) true true
 none]))
 else none else none else none else none else
 bif decide ((0 : Int) ≤ Int.ofNat (j + (1 : Nat))) && decide (Int.ofNat (j + (1 : Nat)) < Int.ofNat n) then
 bif !decide (lo = r (j + (1 : Nat))) then
 bif j == j && true then
 bif ((0 : Nat) + (j + (1 : Nat))).ble (j + (1 : Nat)) then
 bif ((j + (1 : Nat) + (1 : Nat)) * (2 : Nat)).ble 70368744177664 then
 bif ((0 : Nat) + (j + (1 : Nat)) + (1 : Nat)).ble (j + (1 : Nat)) then
 some ((Ex.normal, [rowV r n c, T.int .i64 most, T.int .u8 lo, T.int .u8 hi, best, T.int .i64 ch, T.int .i64 (Int.ofNat b), T.own 0 j 0 (j + (1 : Nat) + (1 : Nat))
 none, T.int .i64 (IntKind.i64.wrap (Int.ofNat cnt + (1 : Int))), T.int .i64 (IntKind.i64.wrap (Int.ofNat (j + (1 : Nat)) + (1 : Int)))], [Blk.mk j 1 (j + (1 : Nat)) (fun j_1 =>
 bif ((0 : Nat) + (j + (1 : Nat))).ble j_1 && j_1.blt ((0 : Nat) + (j + (1 : Nat)) + (1 : Nat)) then [[T.int .u8 lo]].getD ((0 : Nat) + (j_1 - ((0 : Nat) + (j + (1 : Nat))))) []
 else [T.int .u8 (w j_1)]) true false
 none, Blk.mk 0 1 1 (fun j => [[T.int .u8 lo]].getD j []) true true
 none]))
 else
 some ((Ex.normal, [rowV r n c, T.int .i64 most, T.int .u8 lo, T.int .u8 hi, best, T.int .i64 ch, T.int .i64 (Int.ofNat b), T.own 0 (j + (1 : Nat)) (0 : Nat) (j + (1 : Nat) + (1 : Nat))
 none, T.int .i64 (IntKind.i64.wrap (Int.ofNat cnt + (1 : Int))), T.int .i64 (IntKind.i64.wrap (Int.ofNat (j + (1 : Nat)) + (1 : Int)))], [Blk.mk (j + (1 : Nat)) (1 : Nat) (j + (1 : Nat) + (1 : Nat)) (fun j_1 =>
 bif j_1.blt (j + (1 : Nat)) then [T.int .u8 (w ((0 : Nat) + j_1))]
 else [[T.int .u8 lo]].getD ((0 : Nat) + (j_1 - (j + (1 : Nat)))) []) true false
 none, Blk.mk 0 1 1 (fun j => [[T.int .u8 lo]].getD j []) true true
 none]))
 else none else none else none else
 bif j == j && true then
 bif ((0 : Nat) + (j + (1 : Nat))).ble (j + (1 : Nat)) then
 bif ((j + (1 : Nat) + (1 : Nat)) * (2 : Nat)).ble 70368744177664 then
 bif ((0 : Nat) + (j + (1 : Nat)) + (1 : Nat)).ble (j + (1 : Nat)) then
 some ((Ex.normal, [rowV r n c, T.int .i64 most, T.int .u8 lo, T.int .u8 hi, best, T.int .i64 ch, T.int .i64 (Int.ofNat b), T.own 0 j 0 (j + (1 : Nat) + (1 : Nat))
 none, T.int .i64 (Int.ofNat cnt), T.int .i64 (IntKind.i64.wrap (Int.ofNat (j + (1 : Nat)) + (1 : Int)))], [Blk.mk j 1 (j + (1 : Nat)) (fun j_1 =>
 bif ((0 : Nat) + (j + (1 : Nat))).ble j_1 && j_1.blt ((0 : Nat) + (j + (1 : Nat)) + (1 : Nat)) then [[T.int .u8 lo]].getD ((0 : Nat) + (j_1 - ((0 : Nat) + (j + (1 : Nat))))) []
 else [T.int .u8 (w j_1)]) true false
 none, Blk.mk 0 1 1 (fun j => [[T.int .u8 lo]].getD j []) true true
 none]))
 else
 some ((Ex.normal, [rowV r n c, T.int .i64 most, T.int .u8 lo, T.int .u8 hi, best, T.int .i64 ch, T.int .i64 (Int.ofNat b), T.own 0 (j + (1 : Nat)) (0 : Nat) (j + (1 : Nat) + (1 : Nat))
 none, T.int .i64 (Int.ofNat cnt), T.int .i64 (IntKind.i64.wrap (Int.ofNat (j + (1 : Nat)) + (1 : Int)))], [Blk.mk (j + (1 : Nat)) (1 : Nat) (j + (1 : Nat) + (1 : Nat)) (fun j_1 =>
 bif j_1.blt (j + (1 : Nat)) then [T.int .u8 (w ((0 : Nat) + j_1))]
 else [[T.int .u8 lo]].getD ((0 : Nat) + (j_1 - (j + (1 : Nat)))) []) true false
 none, Blk.mk 0 1 1 (fun j => [[T.int .u8 lo]].getD j []) true true
 none]))
 else none else none else none else none else none else
 some ((Ex.exit 4, [rowV r n c, T.int .i64 most, T.int .u8 lo, T.int .u8 hi, best, T.int .i64 ch, T.int .i64 (Int.ofNat b), T.own 0 j 0 (j + (1 : Nat))
 none, T.int .i64 (Int.ofNat cnt)], [Blk.mk j 1 (j + (1 : Nat)) (fun e => [T.int .u8 (w e)]) true false
 none]))) from by kernel_rfl)]
            rw [ofNatE n, ofNatE (j + 1), es, toNatE, ofNatE b, ofNatE cnt, ek]
            refine bift (by first | assumption | omega | (simp (disch := omega) only [numsE, List.length_cons, List.length_nil, Nat.reduceAdd]; done) | (simp (disch := omega) only [numsE, List.length_cons, List.length_nil, Nat.reduceAdd]; omega)) ?_
            refine bift (by first | assumption | omega | (simp (disch := omega) only [numsE, List.length_cons, List.length_nil, Nat.reduceAdd]; done) | (simp (disch := omega) only [numsE, List.length_cons, List.length_nil, Nat.reduceAdd]; omega)) ?_
            refine biff qb ?_
            refine bift (by first | assumption | omega | (simp (disch := omega) only [numsE, List.length_cons, List.length_nil, Nat.reduceAdd]; done) | (simp (disch := omega) only [numsE, List.length_cons, List.length_nil, Nat.reduceAdd]; omega)) ?_
            refine biff (by simp [qe]) ?_
            refine bift (by simp) ?_
            refine bift (by first | assumption | omega | (simp (disch := omega) only [numsE, List.length_cons, List.length_nil, Nat.reduceAdd]; done) | (simp (disch := omega) only [numsE, List.length_cons, List.length_nil, Nat.reduceAdd]; omega)) ?_
            refine bift (by first | assumption | omega | (simp (disch := omega) only [numsE, List.length_cons, List.length_nil, Nat.reduceAdd]; done) | (simp (disch := omega) only [numsE, List.length_cons, List.length_nil, Nat.reduceAdd]; omega)) ?_
            refine biff (by first | assumption | (simp (disch := omega) only [numsE, List.length_cons, List.length_nil, Nat.reduceAdd]; done) | (simp (disch := omega) only [numsE, List.length_cons, List.length_nil, Nat.reduceAdd]; omega)) ?_
            rfl
          · have he2 : e < j + 1 + 1 := he
            show [T.int .u8 (w e)] = bif Nat.blt e (j + 1) then [.int .u8 (w (0 + e))] else [[.int .u8 lo]].getD (0 + (e - (j + 1))) []
            by_cases q2 : e < j + 1
            · rw [bltT q2, cond_true, Nat.zero_add]
            · obtain rfl : e = j + 1 := by omega
              rw [bltF (Nat.le_refl _), cond_false, hw, Nat.sub_self]
              rfl
        · rw [if_neg qe]
          refine Step.mkC (A := A18) (m := 0) none_ok rfl rfl loops0 [0] (v1 := v15c r n c most lo hi best ch b (pO (j + 1)) (cnt + 1 : Nat) (j + 1 + 1 : Nat)) (h1 := [⟨j + 1, 1, j + 1 + 1, fun e => bif Nat.blt e (j + 1) then [.int .u8 (w (0 + e))] else [[.int .u8 lo]].getD (0 + (e - (j + 1))) [], true, false, none⟩, ⟨0, 1, 1, fun j => [[.int .u8 lo]].getD j [], true, true, none⟩]) ?_ (by kernel_rfl) (v2 := v15c r n c most lo hi best ch b (pO (j + 1)) (cnt + 1 : Nat) (j + 1 + 1 : Nat)) (by show [_, _, _, _, ren _ _ best, _, _, _, _, _] = _; rw [hbr]; rfl) rfl fun nt => .same (.cons ⟨rfl, rfl, rfl, id, fun e he => ?_⟩ .nil)
          · show iterR P18 G18 A18 noneO 0 15 [] 17 (v15c r n c most lo hi best ch b (pO j) cnt (j + 1 : Nat)) [lbk j w] = _
            rw [(show iterR P18 G18 A18 noneO 0 15 [] 17 (v15c r n c most lo hi best ch b (pO j) cnt (j + 1 : Nat)) [lbk j w] =
(
 bif decide (Int.ofNat (j + (1 : Nat)) < Int.ofNat n) then
 bif decide ((0 : Int) ≤ IntKind.i64.wrap (IntKind.i64.wrap (Int.ofNat n - (1 : Int)) - Int.ofNat (j + (1 : Nat)))) then
 bif decide (bitsOf BinOp.and IntKind.i64 ((Int.ofNat b).fdiv ((2 : Int) ^ min (IntKind.i64.wrap (IntKind.i64.wrap (Int.ofNat n - (1 : Int)) - Int.ofNat (j + (1 : Nat)))).toNat (64 : Nat))) (1 : Int) = (1 : Int)) then
 bif decide ((0 : Int) ≤ Int.ofNat (j + (1 : Nat))) && decide (Int.ofNat (j + (1 : Nat)) < Int.ofNat n) then
 bif !decide (hi = r (j + (1 : Nat))) then
 bif j == j && true then
 bif ((0 : Nat) + (j + (1 : Nat))).ble (j + (1 : Nat)) then
 bif ((j + (1 : Nat) + (1 : Nat)) * (2 : Nat)).ble 70368744177664 then
 bif ((0 : Nat) + (j + (1 : Nat)) + (1 : Nat)).ble (j + (1 : Nat)) then
 some ((Ex.normal, [rowV r n c, T.int .i64 most, T.int .u8 lo, T.int .u8 hi, best, T.int .i64 ch, T.int .i64 (Int.ofNat b), T.own 0 j 0 (j + (1 : Nat) + (1 : Nat))
 none, T.int .i64 (IntKind.i64.wrap (Int.ofNat cnt + (1 : Int))), T.int .i64 (IntKind.i64.wrap (Int.ofNat (j + (1 : Nat)) + (1 : Int)))], [Blk.mk j 1 (j + (1 : Nat)) (fun j_1 =>
 bif ((0 : Nat) + (j + (1 : Nat))).ble j_1 && j_1.blt ((0 : Nat) + (j + (1 : Nat)) + (1 : Nat)) then [[T.int .u8 hi]].getD ((0 : Nat) + (j_1 - ((0 : Nat) + (j + (1 : Nat))))) []
 else [T.int .u8 (w j_1)]) true false
 none, Blk.mk 0 1 1 (fun j => [[T.int .u8 hi]].getD j []) true true
 none]))
 else
 some ((Ex.normal, [rowV r n c, T.int .i64 most, T.int .u8 lo, T.int .u8 hi, best, T.int .i64 ch, T.int .i64 (Int.ofNat b), T.own 0 (j + (1 : Nat)) (0 : Nat) (j + (1 : Nat) + (1 : Nat))
 none, T.int .i64 (IntKind.i64.wrap (Int.ofNat cnt + (1 : Int))), T.int .i64 (IntKind.i64.wrap (Int.ofNat (j + (1 : Nat)) + (1 : Int)))], [Blk.mk (j + (1 : Nat)) (1 : Nat) (j + (1 : Nat) + (1 : Nat)) (fun j_1 =>
 bif j_1.blt (j + (1 : Nat)) then [T.int .u8 (w ((0 : Nat) + j_1))]
 else [[T.int .u8 hi]].getD ((0 : Nat) + (j_1 - (j + (1 : Nat)))) []) true false
 none, Blk.mk 0 1 1 (fun j => [[T.int .u8 hi]].getD j []) true true
 none]))
 else none else none else none else
 bif j == j && true then
 bif ((0 : Nat) + (j + (1 : Nat))).ble (j + (1 : Nat)) then
 bif ((j + (1 : Nat) + (1 : Nat)) * (2 : Nat)).ble 70368744177664 then
 bif ((0 : Nat) + (j + (1 : Nat)) + (1 : Nat)).ble (j + (1 : Nat)) then
 some ((Ex.normal, [rowV r n c, T.int .i64 most, T.int .u8 lo, T.int .u8 hi, best, T.int .i64 ch, T.int .i64 (Int.ofNat b), T.own 0 j 0 (j + (1 : Nat) + (1 : Nat))
 none, T.int .i64 (Int.ofNat cnt), T.int .i64 (IntKind.i64.wrap (Int.ofNat (j + (1 : Nat)) + (1 : Int)))], [Blk.mk j 1 (j + (1 : Nat)) (fun j_1 =>
 bif ((0 : Nat) + (j + (1 : Nat))).ble j_1 && j_1.blt ((0 : Nat) + (j + (1 : Nat)) + (1 : Nat)) then [[T.int .u8 hi]].getD ((0 : Nat) + (j_1 - ((0 : Nat) + (j + (1 : Nat))))) []
 else [T.int .u8 (w j_1)]) true false
 none, Blk.mk 0 1 1 (fun j => [[T.int .u8 hi]].getD j []) true true
 none]))
 else
 some ((Ex.normal, [rowV r n c, T.int .i64 most, T.int .u8 lo, T.int .u8 hi, best, T.int .i64 ch, T.int .i64 (Int.ofNat b), T.own 0 (j + (1 : Nat)) (0 : Nat) (j + (1 : Nat) + (1 : Nat))
 none, T.int .i64 (Int.ofNat cnt), T.int .i64 (IntKind.i64.wrap (Int.ofNat (j + (1 : Nat)) + (1 : Int)))], [Blk.mk (j + (1 : Nat)) (1 : Nat) (j + (1 : Nat) + (1 : Nat)) (fun j_1 =>
 bif j_1.blt (j + (1 : Nat)) then [T.int .u8 (w ((0 : Nat) + j_1))]
 else [[T.int .u8 hi]].getD ((0 : Nat) + (j_1 - (j + (1 : Nat)))) []) true false
 none, Blk.mk 0 1 1 (fun j => [[T.int .u8 hi]].getD j []) true true
 none]))
 else none else none else none else none else
 bif decide ((0 : Int) ≤ Int.ofNat (j + (1 : Nat))) && decide (Int.ofNat (j + (1 : Nat)) < Int.ofNat n) then
 bif !decide (lo = r (j + (1 : Nat))) then
 bif j == j && true then
 bif ((0 : Nat) + (j + (1 : Nat))).ble (j + (1 : Nat)) then
 bif ((j + (1 : Nat) + (1 : Nat)) * (2 : Nat)).ble 70368744177664 then
 bif ((0 : Nat) + (j + (1 : Nat)) + (1 : Nat)).ble (j + (1 : Nat)) then
 some ((Ex.normal, [rowV r n c, T.int .i64 most, T.int .u8 lo, T.int .u8 hi, best, T.int .i64 ch, T.int .i64 (Int.ofNat b), T.own 0 j 0 (j + (1 : Nat) + (1 : Nat))
 none, T.int .i64 (IntKind.i64.wrap (Int.ofNat cnt + (1 : Int))), T.int .i64 (IntKind.i64.wrap (Int.ofNat (j + (1 : Nat)) + (1 : Int)))], [Blk.mk j 1 (j + (1 : Nat)) (fun j_1 =>
 bif ((0 : Nat) + (j + (1 : Nat))).ble j_1 && j_1.blt ((0 : Nat) + (j + (1 : Nat)) + (1 : Nat)) then [[T.int .u8 lo]].getD ((0 : Nat) + (j_1 - ((0 : Nat) + (j + (1 : Nat))))) []
 else [T.int .u8 (w j_1)]) true false
 none, Blk.mk 0 1 1 (fun j => [[T.int .u8 lo]].getD j []) true true
 none]))
 else
 some ((Ex.normal, [rowV r n c, T.int .i64 most, T.int .u8 lo, T.int .u8 hi, best, T.int .i64 ch, T.int .i64 (Int.ofNat b), T.own 0 (j + (1 : Nat)) (0 : Nat) (j + (1 : Nat) + (1 : Nat))
 none, T.int .i64 (IntKind.i64.wrap (Int.ofNat cnt + (1 : Int))), T.int .i64 (IntKind.i64.wrap (Int.ofNat (j + (1 : Nat)) + (1 : Int)))], [Blk.mk (j + (1 : Nat)) (1 : Nat) (j + (1 : Nat) + (1 : Nat)) (fun j_1 =>
 bif j_1.blt (j + (1 : Nat)) then [T.int .u8 (w ((0 : Nat) + j_1))]
 else [[T.int .u8 lo]].getD ((0 : Nat) + (j_1 - (j + (1 : Nat)))) []) true false
 none, Blk.mk 0 1 1 (fun j => [[T.int .u8 lo]].getD j []) true true
 none]))
 else none else none else none else
 bif j == j && true then
 bif ((0 : Nat) + (j + (1 : Nat))).ble (j + (1 : Nat)) then
 bif ((j + (1 : Nat) + (1 : Nat)) * (2 : Nat)).ble 70368744177664 then
 bif ((0 : Nat) + (j + (1 : Nat)) + (1 : Nat)).ble (j + (1 : Nat)) then
 some ((Ex.normal, [rowV r n c, T.int .i64 most, T.int .u8 lo, T.int .u8 hi, best, T.int .i64 ch, T.int .i64 (Int.ofNat b), T.own 0 j 0 (j + (1 : Nat) + (1 : Nat))
 none, T.int .i64 (Int.ofNat cnt), T.int .i64 (IntKind.i64.wrap (Int.ofNat (j + (1 : Nat)) + (1 : Int)))], [Blk.mk j 1 (j + (1 : Nat)) (fun j_1 =>
 bif ((0 : Nat) + (j + (1 : Nat))).ble j_1 && j_1.blt ((0 : Nat) + (j + (1 : Nat)) + (1 : Nat)) then [[T.int .u8 lo]].getD ((0 : Nat) + (j_1 - ((0 : Nat) + (j + (1 : Nat))))) []
 else [T.int .u8 (w j_1)]) true false
 none, Blk.mk 0 1 1 (fun j => [[T.int .u8 lo]].getD j []) true true
 none]))
 else
 some ((Ex.normal, [rowV r n c, T.int .i64 most, T.int .u8 lo, T.int .u8 hi, best, T.int .i64 ch, T.int .i64 (Int.ofNat b), T.own 0 (j + (1 : Nat)) (0 : Nat) (j + (1 : Nat) + (1 : Nat))
 none, T.int .i64 (Int.ofNat cnt), T.int .i64 (IntKind.i64.wrap (Int.ofNat (j + (1 : Nat)) + (1 : Int)))], [Blk.mk (j + (1 : Nat)) (1 : Nat) (j + (1 : Nat) + (1 : Nat)) (fun j_1 =>
 bif j_1.blt (j + (1 : Nat)) then [T.int .u8 (w ((0 : Nat) + j_1))]
 else [[T.int .u8 lo]].getD ((0 : Nat) + (j_1 - (j + (1 : Nat)))) []) true false
 none, Blk.mk 0 1 1 (fun j => [[T.int .u8 lo]].getD j []) true true
 none]))
 else none else none else none else none else none else
 some ((Ex.exit 4, [rowV r n c, T.int .i64 most, T.int .u8 lo, T.int .u8 hi, best, T.int .i64 ch, T.int .i64 (Int.ofNat b), T.own 0 j 0 (j + (1 : Nat))
 none, T.int .i64 (Int.ofNat cnt)], [Blk.mk j 1 (j + (1 : Nat)) (fun e => [T.int .u8 (w e)]) true false
 none]))) from by kernel_rfl)]
            rw [ofNatE n, ofNatE (j + 1), es, toNatE, ofNatE b, ofNatE cnt, ek, ec]
            refine bift (by first | assumption | omega | (simp (disch := omega) only [numsE, List.length_cons, List.length_nil, Nat.reduceAdd]; done) | (simp (disch := omega) only [numsE, List.length_cons, List.length_nil, Nat.reduceAdd]; omega)) ?_
            refine bift (by first | assumption | omega | (simp (disch := omega) only [numsE, List.length_cons, List.length_nil, Nat.reduceAdd]; done) | (simp (disch := omega) only [numsE, List.length_cons, List.length_nil, Nat.reduceAdd]; omega)) ?_
            refine biff qb ?_
            refine bift (by first | assumption | omega | (simp (disch := omega) only [numsE, List.length_cons, List.length_nil, Nat.reduceAdd]; done) | (simp (disch := omega) only [numsE, List.length_cons, List.length_nil, Nat.reduceAdd]; omega)) ?_
            refine bift (by simp [qe]) ?_
            refine bift (by simp) ?_
            refine bift (by first | assumption | omega | (simp (disch := omega) only [numsE, List.length_cons, List.length_nil, Nat.reduceAdd]; done) | (simp (disch := omega) only [numsE, List.length_cons, List.length_nil, Nat.reduceAdd]; omega)) ?_
            refine bift (by first | assumption | omega | (simp (disch := omega) only [numsE, List.length_cons, List.length_nil, Nat.reduceAdd]; done) | (simp (disch := omega) only [numsE, List.length_cons, List.length_nil, Nat.reduceAdd]; omega)) ?_
            refine biff (by first | assumption | (simp (disch := omega) only [numsE, List.length_cons, List.length_nil, Nat.reduceAdd]; done) | (simp (disch := omega) only [numsE, List.length_cons, List.length_nil, Nat.reduceAdd]; omega)) ?_
            rfl
          · have he2 : e < j + 1 + 1 := he
            show [T.int .u8 (w e)] = bif Nat.blt e (j + 1) then [.int .u8 (w (0 + e))] else [[.int .u8 lo]].getD (0 + (e - (j + 1))) []
            by_cases q2 : e < j + 1
            · rw [bltT q2, cond_true, Nat.zero_add]
            · obtain rfl : e = j + 1 := by omega
              rw [bltF (Nat.le_refl _), cond_false, hw, Nat.sub_self]
              rfl
  · have hbr : ∀ σ h, ren σ h best = best := by
      rcases hb with rfl | ⟨w, rfl⟩
      · intro σ h; rfl
      · intro σ h; rfl
    generalize cntF (wb lo hi n b) r n = cnt
    generalize wb lo hi n b = w
    cases n with
    | zero =>
      refine Last.mk0 (A := A18) (m := 0) none_ok rfl rfl loops0 (h1 := []) (by simp) ?_ .nil
      show iterR P18 G18 A18 noneO 0 15 [] 17 (v15c r 0 c most lo hi best ch b .nils cnt 0) [] = _
      rw [(show iterR P18 G18 A18 noneO 0 15 [] 17 (v15c r 0 c most lo hi best ch b .nils cnt 0) [] =
(
 some ((Ex.exit 4, [T.view 1 0 (fun j => [T.int .u8 (r j)]) c, T.int .i64 most, T.int .u8 lo, T.int .u8 hi, best, T.int .i64 ch, T.int .i64 (Int.ofNat b), T.nils, T.int .i64 (Int.ofNat cnt)], []))) from by kernel_rfl)]
      rfl
    | succ j =>
      refine Last.mk0 (A := A18) (m := 0) none_ok rfl rfl loops0 (h1 := [lbk j w]) (by simp) ?_ (.refl _)
      show iterR P18 G18 A18 noneO 0 15 [] 17 (v15c r (j + 1) c most lo hi best ch b (pO j) cnt (j + 1 : Nat)) [lbk j w] = _
      rw [(show iterR P18 G18 A18 noneO 0 15 [] 17 (v15c r (j + 1) c most lo hi best ch b (pO j) cnt (j + 1 : Nat)) [lbk j w] =
(
 bif decide (Int.ofNat (j + (1 : Nat)) < Int.ofNat (j + (1 : Nat))) then
 bif decide ((0 : Int) ≤ IntKind.i64.wrap (IntKind.i64.wrap (Int.ofNat (j + (1 : Nat)) - (1 : Int)) - Int.ofNat (j + (1 : Nat)))) then
 bif decide (bitsOf BinOp.and IntKind.i64 ((Int.ofNat b).fdiv ((2 : Int) ^ min (IntKind.i64.wrap (IntKind.i64.wrap (Int.ofNat (j + (1 : Nat)) - (1 : Int)) - Int.ofNat (j + (1 : Nat)))).toNat (64 : Nat))) (1 : Int) = (1 : Int)) then
 bif decide ((0 : Int) ≤ Int.ofNat (j + (1 : Nat))) && decide (Int.ofNat (j + (1 : Nat)) < Int.ofNat (j + (1 : Nat))) then
 bif !decide (hi = r (j + (1 : Nat))) then
 bif j == j && true then
 bif ((0 : Nat) + (j + (1 : Nat))).ble (j + (1 : Nat)) then
 bif ((j + (1 : Nat) + (1 : Nat)) * (2 : Nat)).ble 70368744177664 then
 bif ((0 : Nat) + (j + (1 : Nat)) + (1 : Nat)).ble (j + (1 : Nat)) then
 some ((Ex.normal, [T.view 1 (j + (1 : Nat)) (fun j => [T.int .u8 (r j)]) c, T.int .i64 most, T.int .u8 lo, T.int .u8 hi, best, T.int .i64 ch, T.int .i64 (Int.ofNat b), T.own 0 j 0 (j + (1 : Nat) + (1 : Nat))
 none, T.int .i64 (IntKind.i64.wrap (Int.ofNat cnt + (1 : Int))), T.int .i64 (IntKind.i64.wrap (Int.ofNat (j + (1 : Nat)) + (1 : Int)))], [Blk.mk j 1 (j + (1 : Nat)) (fun j_1 =>
 bif ((0 : Nat) + (j + (1 : Nat))).ble j_1 && j_1.blt ((0 : Nat) + (j + (1 : Nat)) + (1 : Nat)) then [[T.int .u8 hi]].getD ((0 : Nat) + (j_1 - ((0 : Nat) + (j + (1 : Nat))))) []
 else [T.int .u8 (w j_1)]) true false
 none, Blk.mk 0 1 1 (fun j => [[T.int .u8 hi]].getD j []) true true
 none]))
 else
 some ((Ex.normal, [T.view 1 (j + (1 : Nat)) (fun j => [T.int .u8 (r j)]) c, T.int .i64 most, T.int .u8 lo, T.int .u8 hi, best, T.int .i64 ch, T.int .i64 (Int.ofNat b), T.own 0 (j + (1 : Nat)) (0 : Nat) (j + (1 : Nat) + (1 : Nat))
 none, T.int .i64 (IntKind.i64.wrap (Int.ofNat cnt + (1 : Int))), T.int .i64 (IntKind.i64.wrap (Int.ofNat (j + (1 : Nat)) + (1 : Int)))], [Blk.mk (j + (1 : Nat)) (1 : Nat) (j + (1 : Nat) + (1 : Nat)) (fun j_1 =>
 bif j_1.blt (j + (1 : Nat)) then [T.int .u8 (w ((0 : Nat) + j_1))]
 else [[T.int .u8 hi]].getD ((0 : Nat) + (j_1 - (j + (1 : Nat)))) []) true false
 none, Blk.mk 0 1 1 (fun j => [[T.int .u8 hi]].getD j []) true true
 none]))
 else none else none else none else
 bif j == j && true then
 bif ((0 : Nat) + (j + (1 : Nat))).ble (j + (1 : Nat)) then
 bif ((j + (1 : Nat) + (1 : Nat)) * (2 : Nat)).ble 70368744177664 then
 bif ((0 : Nat) + (j + (1 : Nat)) + (1 : Nat)).ble (j + (1 : Nat)) then
 some ((Ex.normal, [T.view 1 (j + (1 : Nat)) (fun j => [T.int .u8 (r j)]) c, T.int .i64 most, T.int .u8 lo, T.int .u8 hi, best, T.int .i64 ch, T.int .i64 (Int.ofNat b), T.own 0 j 0 (j + (1 : Nat) + (1 : Nat))
 none, T.int .i64 (Int.ofNat cnt), T.int .i64 (IntKind.i64.wrap (Int.ofNat (j + (1 : Nat)) + (1 : Int)))], [Blk.mk j 1 (j + (1 : Nat)) (fun j_1 =>
 bif ((0 : Nat) + (j + (1 : Nat))).ble j_1 && j_1.blt ((0 : Nat) + (j + (1 : Nat)) + (1 : Nat)) then [[T.int .u8 hi]].getD ((0 : Nat) + (j_1 - ((0 : Nat) + (j + (1 : Nat))))) []
 else [T.int .u8 (w j_1)]) true false
 none, Blk.mk 0 1 1 (fun j => [[T.int .u8 hi]].getD j []) true true
 none]))
 else
 some ((Ex.normal, [T.view 1 (j + (1 : Nat)) (fun j => [T.int .u8 (r j)]) c, T.int .i64 most, T.int .u8 lo, T.int .u8 hi, best, T.int .i64 ch, T.int .i64 (Int.ofNat b), T.own 0 (j + (1 : Nat)) (0 : Nat) (j + (1 : Nat) + (1 : Nat))
 none, T.int .i64 (Int.ofNat cnt), T.int .i64 (IntKind.i64.wrap (Int.ofNat (j + (1 : Nat)) + (1 : Int)))], [Blk.mk (j + (1 : Nat)) (1 : Nat) (j + (1 : Nat) + (1 : Nat)) (fun j_1 =>
 bif j_1.blt (j + (1 : Nat)) then [T.int .u8 (w ((0 : Nat) + j_1))]
 else [[T.int .u8 hi]].getD ((0 : Nat) + (j_1 - (j + (1 : Nat)))) []) true false
 none, Blk.mk 0 1 1 (fun j => [[T.int .u8 hi]].getD j []) true true
 none]))
 else none else none else none else none else
 bif decide ((0 : Int) ≤ Int.ofNat (j + (1 : Nat))) && decide (Int.ofNat (j + (1 : Nat)) < Int.ofNat (j + (1 : Nat))) then
 bif !decide (lo = r (j + (1 : Nat))) then
 bif j == j && true then
 bif ((0 : Nat) + (j + (1 : Nat))).ble (j + (1 : Nat)) then
 bif ((j + (1 : Nat) + (1 : Nat)) * (2 : Nat)).ble 70368744177664 then
 bif ((0 : Nat) + (j + (1 : Nat)) + (1 : Nat)).ble (j + (1 : Nat)) then
 some ((Ex.normal, [T.view 1 (j + (1 : Nat)) (fun j => [T.int .u8 (r j)]) c, T.int .i64 most, T.int .u8 lo, T.int .u8 hi, best, T.int .i64 ch, T.int .i64 (Int.ofNat b), T.own 0 j 0 (j + (1 : Nat) + (1 : Nat))
 none, T.int .i64 (IntKind.i64.wrap (Int.ofNat cnt + (1 : Int))), T.int .i64 (IntKind.i64.wrap (Int.ofNat (j + (1 : Nat)) + (1 : Int)))], [Blk.mk j 1 (j + (1 : Nat)) (fun j_1 =>
 bif ((0 : Nat) + (j + (1 : Nat))).ble j_1 && j_1.blt ((0 : Nat) + (j + (1 : Nat)) + (1 : Nat)) then [[T.int .u8 lo]].getD ((0 : Nat) + (j_1 - ((0 : Nat) + (j + (1 : Nat))))) []
 else [T.int .u8 (w j_1)]) true false
 none, Blk.mk 0 1 1 (fun j => [[T.int .u8 lo]].getD j []) true true
 none]))
 else
 some ((Ex.normal, [T.view 1 (j + (1 : Nat)) (fun j => [T.int .u8 (r j)]) c, T.int .i64 most, T.int .u8 lo, T.int .u8 hi, best, T.int .i64 ch, T.int .i64 (Int.ofNat b), T.own 0 (j + (1 : Nat)) (0 : Nat) (j + (1 : Nat) + (1 : Nat))
 none, T.int .i64 (IntKind.i64.wrap (Int.ofNat cnt + (1 : Int))), T.int .i64 (IntKind.i64.wrap (Int.ofNat (j + (1 : Nat)) + (1 : Int)))], [Blk.mk (j + (1 : Nat)) (1 : Nat) (j + (1 : Nat) + (1 : Nat)) (fun j_1 =>
 bif j_1.blt (j + (1 : Nat)) then [T.int .u8 (w ((0 : Nat) + j_1))]
 else [[T.int .u8 lo]].getD ((0 : Nat) + (j_1 - (j + (1 : Nat)))) []) true false
 none, Blk.mk 0 1 1 (fun j => [[T.int .u8 lo]].getD j []) true true
 none]))
 else none else none else none else
 bif j == j && true then
 bif ((0 : Nat) + (j + (1 : Nat))).ble (j + (1 : Nat)) then
 bif ((j + (1 : Nat) + (1 : Nat)) * (2 : Nat)).ble 70368744177664 then
 bif ((0 : Nat) + (j + (1 : Nat)) + (1 : Nat)).ble (j + (1 : Nat)) then
 some ((Ex.normal, [T.view 1 (j + (1 : Nat)) (fun j => [T.int .u8 (r j)]) c, T.int .i64 most, T.int .u8 lo, T.int .u8 hi, best, T.int .i64 ch, T.int .i64 (Int.ofNat b), T.own 0 j 0 (j + (1 : Nat) + (1 : Nat))
 none, T.int .i64 (Int.ofNat cnt), T.int .i64 (IntKind.i64.wrap (Int.ofNat (j + (1 : Nat)) + (1 : Int)))], [Blk.mk j 1 (j + (1 : Nat)) (fun j_1 =>
 bif ((0 : Nat) + (j + (1 : Nat))).ble j_1 && j_1.blt ((0 : Nat) + (j + (1 : Nat)) + (1 : Nat)) then [[T.int .u8 lo]].getD ((0 : Nat) + (j_1 - ((0 : Nat) + (j + (1 : Nat))))) []
 else [T.int .u8 (w j_1)]) true false
 none, Blk.mk 0 1 1 (fun j => [[T.int .u8 lo]].getD j []) true true
 none]))
 else
 some ((Ex.normal, [T.view 1 (j + (1 : Nat)) (fun j => [T.int .u8 (r j)]) c, T.int .i64 most, T.int .u8 lo, T.int .u8 hi, best, T.int .i64 ch, T.int .i64 (Int.ofNat b), T.own 0 (j + (1 : Nat)) (0 : Nat) (j + (1 : Nat) + (1 : Nat))
 none, T.int .i64 (Int.ofNat cnt), T.int .i64 (IntKind.i64.wrap (Int.ofNat (j + (1 : Nat)) + (1 : Int)))], [Blk.mk (j + (1 : Nat)) (1 : Nat) (j + (1 : Nat) + (1 : Nat)) (fun j_1 =>
 bif j_1.blt (j + (1 : Nat)) then [T.int .u8 (w ((0 : Nat) + j_1))]
 else [[T.int .u8 lo]].getD ((0 : Nat) + (j_1 - (j + (1 : Nat)))) []) true false
 none, Blk.mk 0 1 1 (fun j => [[T.int .u8 lo]].getD j []) true true
 none]))
 else none else none else none else none else none else
 some ((Ex.exit 4, [T.view 1 (j + (1 : Nat)) (fun j => [T.int .u8 (r j)]) c, T.int .i64 most, T.int .u8 lo, T.int .u8 hi, best, T.int .i64 ch, T.int .i64 (Int.ofNat b), T.own 0 j 0 (j + (1 : Nat))
 none, T.int .i64 (Int.ofNat cnt)], [Blk.mk j 1 (j + (1 : Nat)) (fun e => [T.int .u8 (w e)]) true false
 none]))) from by kernel_rfl)]
      (repeat (first | (refine bift (by first | assumption | omega | (simp (disch := omega) only [numsE, List.length_cons, List.length_nil, Nat.reduceAdd]; done) | (simp (disch := omega) only [numsE, List.length_cons, List.length_nil, Nat.reduceAdd]; omega)) ?_) | (refine biff (by first | assumption | (simp (disch := omega) only [numsE, List.length_cons, List.length_nil, Nat.reduceAdd]; done) | (simp (disch := omega) only [numsE, List.length_cons, List.length_nil, Nat.reduceAdd]; omega)) ?_)))
      rfl
end
end Go.Ab

namespace Go.Ab
open Go.Proofs
noncomputable def K17f (p : List T → T → Prop) (a b d : Nat → Int) (m : Nat) : Orc := noneO.add 11 (callF p fun _ => some (.new (.view 3 m (fun j => [.int .u8 (a j), .int .i64 (b j), .int .i64 (d j)]) none)))
section
variable (r : Nat → Int) (n : Nat) (most lo hi : Int)
/-- The best row of the first b + 1: its bits, its changes. -/
def rsF : Nat → Nat × Nat
  | 0 => (0, cntF (wb lo hi n 0) r n)
  | b + 1 => if cntF (wb lo hi n (b + 1)) r n < (rsF b).2 ∧ longest (wb lo hi n (b + 1)) n ≤ most then (b + 1, cntF (wb lo hi n (b + 1)) r n) else rsF b
def bs15 : Nat → T
  | 0 => .nils
  | b + 1 => rowV (wb lo hi n (rsF r n most lo hi b).1) n none
def ch15 : Nat → Int
  | 0 => (n : Int) + 1
  | b + 1 => (rsF r n most lo hi b).2
end
theorem longT (w : Nat → Int) (n : Nat) (c : Option Nat) (hn : n ≤ 60) (hw : ∀ j, j < n → 0 ≤ w j ∧ w j < 256) : ToldOk P18 G18 17 [rowV w n c] (.int .i64 (longest w n)) := by
  obtain ⟨p, hp⟩ := is_val P18 G18 11
  have t1 := refFloatsT w n c (by omega) hw
  have hb := fl_len w n n
  change ToldOk P18 G18 11 _ (.new (.view 3 (fl w n n).length (fun j => [.int .u8 ((fun j => w ((fl w n n).getD j 0)) j), .int .i64 ((fun j => (((fl w n n).getD j 0 : Nat) : Int) + 1) j), .int .i64 (flD w n j)]) none)) at t1
  unfold longest
  generalize (fun j => w ((fl w n n).getD j 0)) = a at *
  generalize (fun j => (((fl w n n).getD j 0 : Nat) : Int) + 1) = b at *
  generalize flD w n = d at *
  generalize (fl w n n).length = m at *
  have hl : LoopOk P18 G18 (A18 17) 17 4 (litS (v17f b d a m 0 0) [] (.exit 0) [.int .i64 (lgF d m)] []) := by
    refine loop_steps hm18 (by kernel_rfl) (fun i => v17f b d a m (lgF d i) (i : Nat)) (fun _ => []) (n := m) (fun i hi => ?_) ?_
    · have e : lgF d (i + 1) = bif decide (lgF d i < d i) then d i else lgF d i := rfl
      rw [e]
      generalize lgF d i = best
      have ei : IntKind.i64.wrap ((i : Int) + 1) = ((i + 1 : Nat) : Int) := by rw [wr64 (by omega) (by omega)]; omega
      refine Step.mk0 (A := A18) (m := 0) none_ok rfl rfl loops0 (h1 := []) ?_ .nil
      rw [(show iterR P18 G18 A18 noneO 0 17 [] 4 (v17f b d a m best i) [] =
(
 bif decide (Int.ofNat i < Int.ofNat m) then
 bif decide ((0 : Int) ≤ Int.ofNat i) && decide (Int.ofNat i < Int.ofNat m) then
 bif decide (best < d i) then
 bif decide ((0 : Int) ≤ Int.ofNat i) && decide (Int.ofNat i < Int.ofNat m) then
 some ((Ex.normal, [T.view 3 m (fun j => [T.int .u8 (a j), T.int .i64 (b j), T.int .i64 (d j)])
 none, T.int .i64 (d i), T.int .i64 (IntKind.i64.wrap (Int.ofNat i + (1 : Int)))], []))
 else none else
 some ((Ex.normal, [T.view 3 m (fun j => [T.int .u8 (a j), T.int .i64 (b j), T.int .i64 (d j)])
 none, T.int .i64 best, T.int .i64 (IntKind.i64.wrap (Int.ofNat i + (1 : Int)))], []))
 else none else
 some ((Ex.exit 0, [T.int .i64 best], []))) from by kernel_rfl)]
      rw [ofNatE i, ei]
      by_cases q : best < d i
      · rw [dT q]
        refine bift (by first | assumption | omega | (simp (disch := omega) only [numsE, List.length_cons, List.length_nil, Nat.reduceAdd]; done) | (simp (disch := omega) only [numsE, List.length_cons, List.length_nil, Nat.reduceAdd]; omega)) ?_
        refine bift (by first | assumption | omega | (simp (disch := omega) only [numsE, List.length_cons, List.length_nil, Nat.reduceAdd]; done) | (simp (disch := omega) only [numsE, List.length_cons, List.length_nil, Nat.reduceAdd]; omega)) ?_
        rw [cond_true, cond_true]
        refine bift (by first | assumption | omega | (simp (disch := omega) only [numsE, List.length_cons, List.length_nil, Nat.reduceAdd]; done) | (simp (disch := omega) only [numsE, List.length_cons, List.length_nil, Nat.reduceAdd]; omega)) ?_
        rfl
      · rw [dF q]
        refine bift (by first | assumption | omega | (simp (disch := omega) only [numsE, List.length_cons, List.length_nil, Nat.reduceAdd]; done) | (simp (disch := omega) only [numsE, List.length_cons, List.length_nil, Nat.reduceAdd]; omega)) ?_
        refine bift (by first | assumption | omega | (simp (disch := omega) only [numsE, List.length_cons, List.length_nil, Nat.reduceAdd]; done) | (simp (disch := omega) only [numsE, List.length_cons, List.length_nil, Nat.reduceAdd]; omega)) ?_
        rw [cond_false, cond_false]
        rfl
    · generalize lgF d m = best
      refine Last.mk0 (A := A18) (m := 0) none_ok rfl rfl loops0 (h1 := []) (by simp) ?_ .nil
      rw [(show iterR P18 G18 A18 noneO 0 17 [] 4 (v17f b d a m best m) [] =
(
 bif decide (Int.ofNat m < Int.ofNat m) then
 bif decide ((0 : Int) ≤ Int.ofNat m) && decide (Int.ofNat m < Int.ofNat m) then
 bif decide (best < d m) then
 bif decide ((0 : Int) ≤ Int.ofNat m) && decide (Int.ofNat m < Int.ofNat m) then
 some ((Ex.normal, [T.view 3 m (fun j => [T.int .u8 (a j), T.int .i64 (b j), T.int .i64 (d j)])
 none, T.int .i64 (d m), T.int .i64 (IntKind.i64.wrap (Int.ofNat m + (1 : Int)))], []))
 else none else
 some ((Ex.normal, [T.view 3 m (fun j => [T.int .u8 (a j), T.int .i64 (b j), T.int .i64 (d j)])
 none, T.int .i64 best, T.int .i64 (IntKind.i64.wrap (Int.ofNat m + (1 : Int)))], []))
 else none else
 some ((Ex.exit 0, [T.int .i64 best], []))) from by kernel_rfl)]
      (repeat (first | (refine bift (by first | assumption | omega | (simp (disch := omega) only [numsE, List.length_cons, List.length_nil, Nat.reduceAdd]; done) | (simp (disch := omega) only [numsE, List.length_cons, List.length_nil, Nat.reduceAdd]; omega)) ?_) | (refine biff (by first | assumption | (simp (disch := omega) only [numsE, List.length_cons, List.length_nil, Nat.reduceAdd]; done) | (simp (disch := omega) only [numsE, List.length_cons, List.length_nil, Nat.reduceAdd]; omega)) ?_)))
      rfl
  generalize lgF d m = best at *
  refine stepL_told hm18 hn18 (K := K17f p a b d m) (told_add none_ok (callF_told hp)) (A := A18) (m := 0) (by kernel_rfl) (loops1 hl) ?_
  rw [(show stepL P18 G18 A18 (K17f p a b d m) 0 17 [(4, litS (v17f b d a m 0 0) [] (.exit 0) [.int .i64 best] [])] [rowV w n c] =
(
 bif decF (p [rowV w n c] (T.view 3 m (fun j => [T.int .u8 (a j), T.int .i64 (b j), T.int .i64 (d j)])
 none).new) then
 bif weakF [T.view 3 m (fun j => [T.int .u8 (a j), T.int .i64 (b j), T.int .i64 (d j)])
 none, T.int .i64 (0 : Int), T.int .i64 (0 : Int)] [] [T.view 3 m (fun j => [T.int .u8 (a j), T.int .i64 (b j), T.int .i64 (d j)])
 none, T.int .i64 (0 : Int), T.int .i64 (0 : Int)] [] then
 some (T.int .i64 best)
 else none else
 none) from by kernel_rfl)]
  refine bift (callF_yes hp t1) ?_
  exact bift (weakF_of ⟨rfl, .refl _⟩) rfl
theorem ren_list (w : Nat → Int) (j : Nat) : ren0 [] [lbk j w] (pO j) = rowV w (j + 1) none := by
  unfold lbk pO
  simp only [ren0, posOf, resolve, List.contains_nil, cond_false, List.getElem?_cons_zero, beq_self_eq_true, Bool.true_and, Option.isNone_none]
  rw [show Nat.ble (0 + (j + 1)) (j + 1) = true from bleT (by omega)]
  simp only [cond_true, Nat.zero_add]
  rfl
/-- One round of the bits. -/
theorem r15 (r : Nat → Int) (j : Nat) (c : Option Nat) (most lo hi ch : Int) (best : T) (b : Nat) (hb : best = .nils ∨ ∃ w, best = rowV w (j + 1) none) (hj : j < 16) (hbb : b < 2 ^ (j + 1)) (hlo : 0 ≤ lo ∧ lo < 256) (hhi : 0 ≤ hi ∧ hi < 256) :
    Step P18 G18 (A18 15) 15 12 0 (v15b r (j + 1) c most lo hi best ch b) [] (if (cntF (wb lo hi (j + 1) b) r (j + 1) : Int) < ch ∧ longest (wb lo hi (j + 1) b) (j + 1) ≤ most then v15b r (j + 1) c most lo hi (rowV (wb lo hi (j + 1) b) (j + 1) none) (cntF (wb lo hi (j + 1) b) r (j + 1)) (b + 1 : Nat) else v15b r (j + 1) c most lo hi best ch (b + 1 : Nat)) [] := by
  obtain ⟨p, hp⟩ := is_val P18 G18 17
  have hl := l15c r (j + 1) c most lo hi best ch b hb (by omega)
  have hw : ∀ e, 0 ≤ wb lo hi (j + 1) b e ∧ wb lo hi (j + 1) b e < 256 := fun e => by
    unfold wb
    split
    · exact hhi
    · exact hlo
  have t1 := longT (wb lo hi (j + 1) b) (j + 1) none (by omega) fun e _ => hw e
  have hcl := cntF_le (wb lo hi (j + 1) b) r (j + 1)
  have hbr : ∀ σ h, ren σ h best = best := by
    rcases hb with rfl | ⟨w, rfl⟩
    · intro σ h; rfl
    · intro σ h; rfl
  have h16 : 2 ^ (j + 1) ≤ 2 ^ 16 := Nat.pow_le_pow_right (by omega) (by omega)
  have h65 : 2 ^ 16 = 65536 := rfl
  have ew : IntKind.i64.wrap (1 * (2 : Int) ^ min (j + 1) 64) = ((2 ^ (j + 1) : Nat) : Int) := by
    rw [Nat.min_eq_left (by omega), Int.one_mul]
    have : ((2 : Int) ^ (j + 1)) = ((2 ^ (j + 1) : Nat) : Int) := by norm_cast
    rw [this, wr64 (by omega) (by omega)]
  have eb : IntKind.i64.wrap ((b : Int) + 1) = ((b + 1 : Nat) : Int) := by rw [wr64 (by omega) (by omega)]; omega
  generalize cntF (wb lo hi (j + 1) b) r (j + 1) = cnt at *
  generalize longest (wb lo hi (j + 1) b) (j + 1) = x at *
  generalize wb lo hi (j + 1) b = w at *
  have mk : ∀ v1, iterR P18 G18 A18 (K15 p x) 0 15 [(17, litS (v15c r (j + 1) c most lo hi best ch b .nils 0 0) [] (.exit 4) (v15b r (j + 1) c most lo hi best ch b ++ [pO j, .int .i64 cnt]) [lbk j w])] 12 (v15b r (j + 1) c most lo hi best ch b) [] = some (.normal, v1, [lbk j w]) → ∀ v2, v1.map (ren [] [lbk j w]) = v2 → Step P18 G18 (A18 15) 15 12 0 (v15b r (j + 1) c most lo hi best ch b) [] v2 [] := fun v1 h1 v2 h2 =>
    Step.mkC (A := A18) (K := K15 p x) (m := 0) (told_add none_ok (callF_told hp)) rfl rfl (loops1 hl) [] h1 (by rfl) h2 (h2 := []) (by rfl) fun nt => .same .nil
  have tree := (show iterR P18 G18 A18 (K15 p x) 0 15 [(17, litS (v15c r (j + 1) c most lo hi best ch b .nils 0 0) [] (.exit 4) (v15b r (j + 1) c most lo hi best ch b ++ [pO j, .int .i64 cnt]) [lbk j w])] 12 (v15b r (j + 1) c most lo hi best ch b) [] =
(
 bif decide (Int.ofNat b < IntKind.i64.wrap ((1 : Int) * (2 : Int) ^ min (j + (1 : Nat)) (64 : Nat))) then
 bif weakF [T.view 1 (j + (1 : Nat)) (fun j => [T.int .u8 (r j)]) c, T.int .i64 most, T.int .u8 lo, T.int .u8 hi, best, T.int .i64 ch, T.int .i64 (Int.ofNat b), T.nils, T.int .i64 (0 : Int), T.int .i64 (0 : Int)] [] [T.view 1 (j + (1 : Nat)) (fun j => [T.int .u8 (r j)]) c, T.int .i64 most, T.int .u8 lo, T.int .u8 hi, best, T.int .i64 ch, T.int .i64 (Int.ofNat b), T.nils, T.int .i64 (0 : Int), T.int .i64 (0 : Int)] [] then
 bif decide (Int.ofNat cnt < ch) then
 bif decF (p [bif j == j && ((0 : Nat) + (j + (1 : Nat))).ble (j + (1 : Nat)) then T.view 1 (j + (1 : Nat)) (fun j => [T.int .u8 (w ((0 : Nat) + j))]) none else T.undef] (T.int .i64 x)) then
 bif decide (x ≤ most) then
 some ((Ex.normal, [T.view 1 (j + (1 : Nat)) (fun j => [T.int .u8 (r j)]) c, T.int .i64 most, T.int .u8 lo, T.int .u8 hi, T.own 0 j 0 (j + (1 : Nat))
 none, T.int .i64 (Int.ofNat cnt), T.int .i64 (IntKind.i64.wrap (Int.ofNat b + (1 : Int)))], [Blk.mk j 1 (j + (1 : Nat)) (fun e => [T.int .u8 (w e)]) true false
 none]))
 else
 some ((Ex.normal, [T.view 1 (j + (1 : Nat)) (fun j => [T.int .u8 (r j)]) c, T.int .i64 most, T.int .u8 lo, T.int .u8 hi, best, T.int .i64 ch, T.int .i64 (IntKind.i64.wrap (Int.ofNat b + (1 : Int)))], [Blk.mk j 1 (j + (1 : Nat)) (fun e => [T.int .u8 (w e)]) true false
 none]))
 else none else
 some ((Ex.normal, [T.view 1 (j + (1 : Nat)) (fun j => [T.int .u8 (r j)]) c, T.int .i64 most, T.int .u8 lo, T.int .u8 hi, best, T.int .i64 ch, T.int .i64 (IntKind.i64.wrap (Int.ofNat b + (1 : Int)))], [Blk.mk j 1 (j + (1 : Nat)) (fun e => [T.int .u8 (w e)]) true false
 none]))
 else none else
 some ((Ex.exit 2, [best, T.int .i64 ch], []))) from by kernel_rfl)
  simp only [Nat.zero_add, beq_self_eq_true, bleT (Nat.le_refl _), Bool.true_and, cond_true] at tree
  rw [ew, ofNatE b, eb, ofNatE cnt] at tree
  have c1 : decide ((b : Int) < ((2 ^ (j + 1) : Nat) : Int)) = true := dT (by omega)
  have c2 : decF (p [.view 1 (j + 1) (fun j => [.int .u8 (w j)]) none] (.int .i64 x)) = true := callF_yes hp t1
  rw [c1, cond_true] at tree
  have c0 : weakF (v15c r (j + 1) c most lo hi best ch b .nils 0 0) [] (v15c r (j + 1) c most lo hi best ch b .nils 0 0) [] = true := weakF_of ⟨rfl, .refl _⟩
  have keep : (v15b r (j + 1) c most lo hi best ch (b + 1 : Nat)).map (ren [] [lbk j w]) = v15b r (j + 1) c most lo hi best ch (b + 1 : Nat) := by
    show [_, _, _, _, ren _ _ best, _, _] = _
    rw [hbr]
    rfl
  by_cases q1 : (cnt : Int) < ch
  · by_cases q2 : x ≤ most
    · rw [if_pos ⟨q1, q2⟩]
      refine mk (v15b r (j + 1) c most lo hi (pO j) cnt (b + 1 : Nat)) (tree.trans (bift c0 (bift (dT q1) (bift c2 (bift (dT q2) rfl))))) _ ?_
      show [_, _, _, _, ren0 [] [lbk j w] (pO j), _, _] = _
      rw [ren_list]
      rfl
    · rw [if_neg (fun h => q2 h.2)]
      exact mk (v15b r (j + 1) c most lo hi best ch (b + 1 : Nat)) (tree.trans (bift c0 (bift (dT q1) (bift c2 (biff (by simpa using q2) rfl))))) _ keep
  · rw [if_neg (fun h => q1 h.1)]
    exact mk (v15b r (j + 1) c most lo hi best ch (b + 1 : Nat)) (tree.trans (bift c0 (biff (by simpa using q1) rfl))) _ keep
theorem l15b (r : Nat → Int) (n : Nat) (c : Option Nat) (most lo hi : Int) (h1 : 1 ≤ n) (hn : n ≤ 16) (hlo : 0 ≤ lo ∧ lo < 256) (hhi : 0 ≤ hi ∧ hi < 256) (h0 : longest (wb lo hi n 0) n ≤ most) :
    LoopOk P18 G18 (A18 15) 15 12 (litS (v15b r n c most lo hi .nils ((n : Int) + 1) 0) [] (.exit 2) [rowV (wb lo hi n (rsF r n most lo hi (2 ^ n - 1)).1) n none, .int .i64 (rsF r n most lo hi (2 ^ n - 1)).2] []) := by
  obtain ⟨j, rfl⟩ : ∃ j, n = j + 1 := ⟨n - 1, by omega⟩
  have hp1 : 1 ≤ 2 ^ (j + 1) := Nat.one_le_two_pow
  have h16 : 2 ^ (j + 1) ≤ 2 ^ 16 := Nat.pow_le_pow_right (by omega) (by omega)
  have h65 : 2 ^ 16 = 65536 := rfl
  refine loop_steps hm18 (by kernel_rfl) (fun b => v15b r (j + 1) c most lo hi (bs15 r (j + 1) most lo hi b) (ch15 r (j + 1) most lo hi b) (b : Nat)) (fun _ => []) (n := 2 ^ (j + 1)) (fun b hb => ?_) ?_
  · have hbest : bs15 r (j + 1) most lo hi b = .nils ∨ ∃ w, bs15 r (j + 1) most lo hi b = rowV w (j + 1) none := by
      cases b with
      | zero => exact .inl rfl
      | succ b => exact .inr ⟨_, rfl⟩
    have := r15 r j c most lo hi (ch15 r (j + 1) most lo hi b) (bs15 r (j + 1) most lo hi b) b hbest (by omega) hb hlo hhi
    have hcl := cntF_le (wb lo hi (j + 1) b) r (j + 1)
    cases b with
    | zero =>
      rw [if_pos ⟨by show ((cntF (wb lo hi (j + 1) 0) r (j + 1) : Nat) : Int) < ((j + 1 : Nat) : Int) + 1; omega, h0⟩] at this
      exact this
    | succ b =>
      show Step P18 G18 (A18 15) 15 12 _ _ _ (v15b r (j + 1) c most lo hi (rowV (wb lo hi (j + 1) (rsF r (j + 1) most lo hi (b + 1)).1) (j + 1) none) (rsF r (j + 1) most lo hi (b + 1)).2 _) _
      have e : rsF r (j + 1) most lo hi (b + 1) = if cntF (wb lo hi (j + 1) (b + 1)) r (j + 1) < (rsF r (j + 1) most lo hi b).2 ∧ longest (wb lo hi (j + 1) (b + 1)) (j + 1) ≤ most then (b + 1, cntF (wb lo hi (j + 1) (b + 1)) r (j + 1)) else rsF r (j + 1) most lo hi b := rfl
      by_cases q : cntF (wb lo hi (j + 1) (b + 1)) r (j + 1) < (rsF r (j + 1) most lo hi b).2 ∧ longest (wb lo hi (j + 1) (b + 1)) (j + 1) ≤ most
      · rw [e, if_pos q]
        rw [if_pos ⟨by show ((cntF (wb lo hi (j + 1) (b + 1)) r (j + 1) : Nat) : Int) < ((rsF r (j + 1) most lo hi b).2 : Int); omega, q.2⟩] at this
        exact this
      · rw [e, if_neg q]
        rw [if_neg (fun h => q ⟨by have := h.1; change ((cntF (wb lo hi (j + 1) (b + 1)) r (j + 1) : Nat) : Int) < ((rsF r (j + 1) most lo hi b).2 : Int) at this; omega, h.2⟩)] at this
        exact this
  · obtain ⟨t, ht⟩ : ∃ t, 2 ^ (j + 1) = t + 1 := ⟨2 ^ (j + 1) - 1, by omega⟩
    have ew : IntKind.i64.wrap (1 * (2 : Int) ^ min (j + 1) 64) = ((t + 1 : Nat) : Int) := by
      rw [Nat.min_eq_left (by omega), Int.one_mul]
      have : ((2 : Int) ^ (j + 1)) = ((2 ^ (j + 1) : Nat) : Int) := by norm_cast
      rw [this, ht, wr64 (by omega) (by omega)]
    rw [ht]
    show Last P18 G18 (A18 15) 15 12 _ (v15b r (j + 1) c most lo hi (rowV (wb lo hi (j + 1) (rsF r (j + 1) most lo hi t).1) (j + 1) none) (rsF r (j + 1) most lo hi t).2 (t + 1 : Nat)) _ _ [rowV (wb lo hi (j + 1) (rsF r (j + 1) most lo hi t).1) (j + 1) none, .int .i64 (rsF r (j + 1) most lo hi t).2] _
    generalize rsF r (j + 1) most lo hi t = q
    generalize wb lo hi (j + 1) q.1 = w
    generalize ((q.2 : Nat) : Int) = ch
    refine Last.mk0 (A := A18) (m := 0) none_ok rfl rfl loops0 (h1 := []) (by simp) ?_ .nil
    rw [(show iterR P18 G18 A18 noneO 0 15 [] 12 (v15b r (j + 1) c most lo hi (rowV w (j + 1) none) ch (t + 1 : Nat)) [] =
(
 bif decide (Int.ofNat (t + (1 : Nat)) < IntKind.i64.wrap ((1 : Int) * (2 : Int) ^ min (j + (1 : Nat)) (64 : Nat))) then none else
 some ((Ex.exit 2, [T.view 1 (j + (1 : Nat)) (fun j => [T.int .u8 (w j)])
 none, T.int .i64 ch], []))) from by kernel_rfl)]
    rw [ew]
    refine biff (by first | assumption | (simp (disch := omega) only [numsE, List.length_cons, List.length_nil, Nat.reduceAdd]; done) | (simp (disch := omega) only [numsE, List.length_cons, List.length_nil, Nat.reduceAdd]; omega)) ?_
    rfl
theorem low_mem (r : Nat → Int) (n : Nat) (h1 : 1 ≤ n) : ∀ k, k ≤ n → ∃ j, j < n ∧ lowF r k = r j
  | 0, _ => ⟨0, h1, rfl⟩
  | k + 1, hk => by
    unfold lowF
    by_cases q : r k < lowF r k
    · rw [dT q]; exact ⟨k, by omega, rfl⟩
    · rw [dF q]; exact low_mem r n h1 k (by omega)
theorem high_mem (r : Nat → Int) (n : Nat) (h1 : 1 ≤ n) : ∀ k, k ≤ n → ∃ j, j < n ∧ highF r k = r j
  | 0, _ => ⟨0, h1, rfl⟩
  | k + 1, hk => by
    unfold highF
    by_cases q : highF r k < r k
    · rw [dT q]; exact ⟨k, by omega, rfl⟩
    · rw [dF q]; exact high_mem r n h1 k (by omega)
theorem low_le (r : Nat → Int) : ∀ k j, j < k → lowF r k ≤ r j
  | k + 1, j, h => by
    unfold lowF
    have ih := low_le r k
    by_cases q : r k < lowF r k
    · rw [dT q, cond_true]
      by_cases q2 : j = k
      · rw [q2]; omega
      · have := ih j (by omega); omega
    · rw [dF q, cond_false]
      by_cases q2 : j = k
      · rw [q2]; omega
      · exact ih j (by omega)
theorem high_ge (r : Nat → Int) : ∀ k j, j < k → r j ≤ highF r k
  | k + 1, j, h => by
    unfold highF
    have ih := high_ge r k
    by_cases q : highF r k < r k
    · rw [dT q, cond_true]
      by_cases q2 : j = k
      · rw [q2]; omega
      · have := ih j (by omega); omega
    · rw [dF q, cond_false]
      by_cases q2 : j = k
      · rw [q2]; omega
      · exact ih j (by omega)
/-- The reference's weaving. -/
theorem refWeaveT (r : Nat → Int) (n : Nat) (c : Option Nat) (most : Int) (h1 : 1 ≤ n) (hn : n ≤ 16) (hr : ∀ j, j < n → 0 ≤ r j ∧ r j < 256) (h0 : longest (wb (lowF r n) (highF r n) n 0) n ≤ most) :
    ToldOk P18 G18 15 [rowV r n c, .int .i64 most] (.tup [rowV (wb (lowF r n) (highF r n) n (rsF r n most (lowF r n) (highF r n) (2 ^ n - 1)).1) n none, .int .i64 (rsF r n most (lowF r n) (highF r n) (2 ^ n - 1)).2]) := by
  obtain ⟨j1, hj1, e1⟩ := low_mem r n h1 n (Nat.le_refl _)
  obtain ⟨j2, hj2, e2⟩ := high_mem r n h1 n (Nat.le_refl _)
  have hl1 := l15a r n c most (by omega)
  have hl2 := l15b r n c most (lowF r n) (highF r n) h1 hn (by rw [e1]; exact hr j1 hj1) (by rw [e2]; exact hr j2 hj2) h0
  clear h0 e1 e2
  generalize rsF r n most (lowF r n) (highF r n) (2 ^ n - 1) = q at *
  generalize wb (lowF r n) (highF r n) n q.1 = w at *
  generalize lowF r n = lo at *
  generalize highF r n = hi at *
  generalize ((q.2 : Nat) : Int) = ch at *
  refine stepL_told hm18 hn18 none_ok (A := A18) (m := 0) (by kernel_rfl) (loopsC hl1 (loops1 hl2)) ?_
  rw [(show stepL P18 G18 A18 noneO 0 15 [(3, litS (v15a r n c most (r 0) (r 0) 0) [] (.exit 0) [rowV r n c, .int .i64 most, .int .u8 lo, .int .u8 hi] []), (12, litS (v15b r n c most lo hi .nils ((n : Int) + 1) 0) [] (.exit 2) [rowV w n none, .int .i64 ch] [])] [rowV r n c, .int .i64 most] =
(
 bif decide ((0 : Int) < Int.ofNat n) then
 bif decide ((0 : Int) < Int.ofNat n) then
 bif weakF [rowV r n c, T.int .i64 most, T.int .u8 (r (0 : Nat)), T.int .u8 (r (0 : Nat)), T.int .i64 (0 : Int)] [] [rowV r n c, T.int .i64 most, T.int .u8 (r (0 : Nat)), T.int .u8 (r (0 : Nat)), T.int .i64 (0 : Int)] [] then
 bif weakF [rowV r n c, T.int .i64 most, T.int .u8 lo, T.int .u8 hi, T.nils, T.int .i64 (IntKind.i64.wrap (Int.ofNat n + (1 : Int))), T.int .i64 (0 : Int)] [] [rowV r n c, T.int .i64 most, T.int .u8 lo, T.int .u8 hi, T.nils, T.int .i64 (Int.ofNat n + (1 : Int)), T.int .i64 (0 : Int)] [] then
 some (T.tup [rowV w n
 none, T.int .i64 ch])
 else none else none else none else
 none) from by kernel_rfl)]
  rw [ofNatE n, wr64 (x := (n : Int) + 1) (by omega) (by omega)]
  (repeat (first | (refine bift (by first | assumption | omega | (simp (disch := omega) only [numsE, List.length_cons, List.length_nil, Nat.reduceAdd]; done) | (simp (disch := omega) only [numsE, List.length_cons, List.length_nil, Nat.reduceAdd]; omega)) ?_) | (refine biff (by first | assumption | (simp (disch := omega) only [numsE, List.length_cons, List.length_nil, Nat.reduceAdd]; done) | (simp (disch := omega) only [numsE, List.length_cons, List.length_nil, Nat.reduceAdd]; omega)) ?_)))
  refine bift (weakF_of ⟨rfl, .refl _⟩) ?_
  refine bift (weakF_of ⟨rfl, .refl _⟩) ?_
  rfl
end Go.Ab

/- The woven row is that of the reference. -/
namespace Go.Ab
open Go.Proofs
theorem longest_const (w : Nat → Int) (n : Nat) (most : Int) (hm : 0 ≤ most) (h : ∀ j, j < n → w j = w 0) : longest w n ≤ most := by
  rw [longest_le _ _ _ hm]
  intro k hk hf
  exfalso
  rw [nxtF_sI] at hf
  by_cases q : sI w n k < n
  · rw [if_pos q] at hf
    have hne := srch_ne w (w k) (n - (k + 1)) (k + 1) (k + 1) (Nat.le_refl _) (by
      change k + 1 < sI w n k
      omega)
    exact hne (by rw [h (k + 1) (by omega), h k hk])
  · rw [if_neg q] at hf; omega
theorem wb_zero (lo hi : Int) (n j : Nat) : wb lo hi n 0 j = lo := by
  unfold wb
  rw [Nat.zero_testBit]
  simp
theorem costR_cnt (r w : Nat → Int) : ∀ n, costR r w n 0 = ((cntF w r n : Nat) : Int) := by
  have key : ∀ m a, ((cntF w r a : Nat) : Int) + costR r w m a = ((cntF w r (a + m) : Nat) : Int) := by
    intro m
    induction m with
    | zero => intro a; show _ + (0 : Int) = _; rw [Int.add_zero]; rfl
    | succ m ih =>
      intro a
      have h := ih (a + 1)
      rw [show a + 1 + m = a + (m + 1) by omega] at h
      rw [← h]
      show _ + (chg (r a) (w a) + costR r w m (a + 1)) = _
      have e : cntF w r (a + 1) = if w a = r a then cntF w r a else cntF w r a + 1 := rfl
      rw [e]
      unfold chg
      by_cases q : w a = r a
      · rw [if_pos q, dT q.symm, cond_true]; omega
      · rw [if_neg q, dF (fun h => q h.symm), cond_false]; omega
  intro n
  have := key n 0
  rw [Nat.zero_add] at this
  rw [← this]
  show _ = (0 : Int) + _
  omega
section
variable (r : Nat → Int) (n : Nat) (most lo hi : Int)
theorem rsF_inv (h0 : longest (wb lo hi n 0) n ≤ most) : ∀ b, (rsF r n most lo hi b).1 ≤ b ∧ longest (wb lo hi n (rsF r n most lo hi b).1) n ≤ most ∧ (rsF r n most lo hi b).2 = cntF (wb lo hi n (rsF r n most lo hi b).1) r n ∧
    (∀ d, d ≤ b → longest (wb lo hi n d) n ≤ most → (rsF r n most lo hi b).2 ≤ cntF (wb lo hi n d) r n) ∧ ∀ d, d < (rsF r n most lo hi b).1 → longest (wb lo hi n d) n ≤ most → (rsF r n most lo hi b).2 < cntF (wb lo hi n d) r n
  | 0 => ⟨Nat.le_refl _, h0, rfl, fun d hd _ => by rw [show d = 0 by omega]; exact Nat.le_refl _, fun d hd => by cases hd⟩
  | b + 1 => by
    obtain ⟨h1, h2, h3, h4, h5⟩ := rsF_inv h0 b
    have e : rsF r n most lo hi (b + 1) = if cntF (wb lo hi n (b + 1)) r n < (rsF r n most lo hi b).2 ∧ longest (wb lo hi n (b + 1)) n ≤ most then (b + 1, cntF (wb lo hi n (b + 1)) r n) else rsF r n most lo hi b := rfl
    rw [e]
    by_cases q : cntF (wb lo hi n (b + 1)) r n < (rsF r n most lo hi b).2 ∧ longest (wb lo hi n (b + 1)) n ≤ most
    · rw [if_pos q]
      refine ⟨Nat.le_refl _, q.2, rfl, fun d hd ha => ?_, fun d hd ha => ?_⟩
      · rcases Nat.lt_or_ge d (b + 1) with g | g
        · have := h4 d (by omega) ha
          have := q.1
          show cntF (wb lo hi n (b + 1)) r n ≤ _
          omega
        · rw [show d = b + 1 by omega]; exact Nat.le_refl _
      · have hd : d < b + 1 := hd
        have := h4 d (by omega) ha
        have := q.1
        show cntF (wb lo hi n (b + 1)) r n < _
        omega
    · rw [if_neg q]
      refine ⟨by omega, h2, h3, fun d hd ha => ?_, h5⟩
      rcases Nat.lt_or_ge d (b + 1) with g | g
      · exact h4 d (by omega) ha
      · obtain rfl : d = b + 1 := by omega
        rcases Nat.lt_or_ge (cntF (wb lo hi n (b + 1)) r n) (rsF r n most lo hi b).2 with g2 | g2
        · exact absurd ⟨g2, ha⟩ q
        · exact g2
end
/-- Two colours. -/
theorem two_ref (r : Nat → Int) (n : Nat) (cs : Nat → Int) (most : Int) (hm : 0 ≤ most) :
    (∀ j, j < n → wb (cs 0) (cs 1) n (rsF r n most (cs 0) (cs 1) (2 ^ n - 1)).1 j = wvL r n cs 2 most j) ∧ (((rsF r n most (cs 0) (cs 1) (2 ^ n - 1)).2 : Nat) : Int) = lk r n cs 2 most n ⟨0, 0, false⟩ := by
  have hw : ∀ b j, j < n → wb (cs 0) (cs 1) n b j = cs 0 ∨ wb (cs 0) (cs 1) n b j = cs 1 := fun b j _ => by
    unfold wb
    split
    · exact .inr rfl
    · exact .inl rfl
  have hadm : ∀ b, admR most (wb (cs 0) (cs 1) n b) n 0 ⟨0, 0, false⟩ = true ↔ longest (wb (cs 0) (cs 1) n b) n ≤ most := fun b => adm_longest _ n (cs 0) (cs 1) most hm (hw b)
  obtain ⟨b0, p1, p2, p3, p4, p5⟩ := firstBest (r := r) (n := n) (cs := cs) (most := most) n 0 ⟨0, 0, false⟩ (Nat.zero_add _) (.inr ⟨rfl, rfl⟩)
  have h0 : longest (wb (cs 0) (cs 1) n 0) n ≤ most := longest_const _ n most hm fun j _ => by rw [wb_zero, wb_zero]
  obtain ⟨q1, q2, q3, q4, q5⟩ := rsF_inv r n most (cs 0) (cs 1) h0 (2 ^ n - 1)
  generalize rsF r n most (cs 0) (cs 1) (2 ^ n - 1) = q at *
  have hb0 : longest (wb (cs 0) (cs 1) n b0) n ≤ most := (hadm b0).1 p3
  have hp : 1 ≤ 2 ^ n := Nat.one_le_two_pow
  have g1 := p5 q.1 (by omega) ((hadm q.1).2 q2)
  have g2 := q4 b0 (by omega) hb0
  rw [costR_cnt] at p4
  rw [costR_cnt] at g1
  have e : q.1 = b0 := by
    rcases Nat.lt_trichotomy q.1 b0 with g | g | g
    · have := g1.2 g
      omega
    · exact g
    · have := q5 b0 g hb0
      omega
  refine ⟨fun j hj => ?_, ?_⟩
  · rw [e]
    exact fol_psL (r := r) (most := most) (wb (cs 0) (cs 1) n b0) n 0 (Nat.zero_add _) p2 j (Nat.zero_le _) hj
  · rw [q3, e]
    exact p4
/-- One colour. -/
theorem one_ref (r : Nat → Int) (n : Nat) (cs : Nat → Int) (most : Int) (hm : 0 ≤ most) (hr : ∀ j, j < n → r j = cs 0) :
    (∀ j, j < n → wb (cs 0) (cs 0) n (rsF r n most (cs 0) (cs 0) (2 ^ n - 1)).1 j = wvL r n cs 1 most j) ∧ (((rsF r n most (cs 0) (cs 0) (2 ^ n - 1)).2 : Nat) : Int) = lk r n cs 1 most n ⟨0, 0, false⟩ := by
  have hw : ∀ b j, wb (cs 0) (cs 0) n b j = cs 0 := fun b j => by
    unfold wb
    split <;> rfl
  have h0 : longest (wb (cs 0) (cs 0) n 0) n ≤ most := longest_const _ n most hm fun j _ => by rw [hw, hw]
  obtain ⟨q1, q2, q3, q4, q5⟩ := rsF_inv r n most (cs 0) (cs 0) h0 (2 ^ n - 1)
  have hlk : ∀ m a s, a + m = n → PlS cs 1 a s → lk r n cs 1 most m s = 0 := by
    intro m
    induction m with
    | zero => intro a s _ _; rfl
    | succ m ih =>
      intro a s ha hs
      obtain ⟨j, hj, _, h2⟩ := lk_at (r := r) (most := most) (Nat.le_refl 1) ha hs
      obtain rfl : j = 0 := by omega
      rw [← h2, ih (a + 1) _ (by omega) (.inl (hs.nx hj))]
      unfold chg
      rw [dT (hr a (by omega))]
      rfl
  have hcnt : cntF (wb (cs 0) (cs 0) n (rsF r n most (cs 0) (cs 0) (2 ^ n - 1)).1) r n = 0 := by
    generalize (rsF r n most (cs 0) (cs 0) (2 ^ n - 1)).1 = b
    have key : ∀ k, k ≤ n → cntF (wb (cs 0) (cs 0) n b) r k = 0 := by
      intro k
      induction k with
      | zero => intro _; rfl
      | succ k ih =>
        intro hk
        unfold cntF
        rw [if_pos (by rw [hw, hr k (by omega)]), ih (by omega)]
    exact key n (Nat.le_refl _)
  refine ⟨fun j hj => ?_, ?_⟩
  · rw [hw]
    have := psCL_lt (r := r) (most := most) (Nat.le_refl 1) hj (psL_pl (r := r) (n := n) (cs := cs) (most := most) (Nat.le_refl 1) j (Nat.le_of_lt hj))
    show cs 0 = cs (psCL r n cs 1 most j (psL r n cs 1 most j))
    rw [show psCL r n cs 1 most j (psL r n cs 1 most j) = 0 by omega]
  · rw [q3, hcnt, hlk n 0 _ (Nat.zero_add _) (.inr ⟨rfl, rfl⟩)]
    rfl
/-- The least and the greatest colour. -/
theorem ref_same (r : Nat → Int) (n : Nat) (most : Int) (hm : 0 ≤ most) (h1 : 1 ≤ n) (hr : ∀ j, j < n → 0 ≤ r j ∧ r j < 256) (h2 : kK r n ≤ 2) :
    (∀ j, j < n → wb (lowF r n) (highF r n) n (rsF r n most (lowF r n) (highF r n) (2 ^ n - 1)).1 j = wvL r n (csK r n) (kK r n) most j) ∧ (((rsF r n most (lowF r n) (highF r n) (2 ^ n - 1)).2 : Nat) : Int) = lk r n (csK r n) (kK r n) most n ⟨0, 0, false⟩ := by
  obtain ⟨j1, hj1, e1⟩ := low_mem r n h1 n (Nat.le_refl _)
  obtain ⟨j2, hj2, e2⟩ := high_mem r n h1 n (Nat.le_refl _)
  have g1 := low_le r n
  have g2 := high_ge r n
  have ha := csK_asc r n
  have hmem := csK_mem hr
  obtain ⟨i1, _, a1, a2⟩ := (hmem (lowF r n)).2 ⟨j1, Nat.zero_le _, hj1, e1.symm⟩
  obtain ⟨i2, _, b1, b2⟩ := (hmem (highF r n)).2 ⟨j2, Nat.zero_le _, hj2, e2.symm⟩
  have hk : kK r n = 1 ∨ kK r n = 2 := by omega
  rcases hk with hk | hk
  · rw [hk] at a1 b1 ⊢
    obtain rfl : i1 = 0 := by omega
    obtain rfl : i2 = 0 := by omega
    rw [← a2, ← b2]
    refine one_ref r n (csK r n) most hm fun j hj => ?_
    obtain ⟨i, _, c1, c2⟩ := (hmem (r j)).2 ⟨j, Nat.zero_le _, hj, rfl⟩
    rw [hk] at c1
    rw [← c2, show i = 0 by omega]
  · have hlt := ha 0 1 (by omega) (by omega)
    have m0 := (hmem (csK r n 0)).1 ⟨0, Nat.le_refl _, by omega, rfl⟩
    have m1 := (hmem (csK r n 1)).1 ⟨1, Nat.zero_le _, by omega, rfl⟩
    obtain ⟨x0, _, y0, z0⟩ := m0
    obtain ⟨x1, _, y1, z1⟩ := m1
    have l0 := g1 x0 y0
    have l1 := g2 x1 y1
    rw [hk] at a1 b1
    have hi1 : i1 = 0 := by
      rcases Nat.eq_zero_or_pos i1 with q | q
      · exact q
      · obtain rfl : i1 = 1 := by omega
        omega
    have hi2 : i2 = 1 := by
      rcases Nat.eq_zero_or_pos i2 with q | q
      · subst q; omega
      · omega
    subst hi1 hi2
    rw [hk, ← a2, ← b2]
    exact two_ref r n (csK r n) most hm
end Go.Ab

namespace Go.Ab
open Go.Proofs
noncomputable def K4r (p : List T → T → Prop) (r : T) : Orc := noneO.add 15 (callF p fun _ => some r)
def v4 (D : IR) (R : Nat → Nat → Int) (n h : Nat) (rc c : Option Nat) (m tot sum i : Int) : List T := [.reg [.int .u8 D.wd, D.rows none], picV R n h rc c, .int .i64 m, .own 0 0 0 h (some h), .int .i64 tot, .int .i64 sum, .int .i64 i]
def h4 (n h : Nat) (W : Nat → Nat → Int) : Heap := [⟨0, 1, h, fun i => [wrow n (W i)], false, false, none⟩]
noncomputable def K4 (p13 p14 p16 p12 : List T → T → Prop) (pic : T) (r14 : T) : Orc := (((noneO.add 13 (callF p13 fun _ => some pic)).add 14 (callF p14 fun _ => some r14)).add 16 (callF p16 fun _ => some (.int .i64 0))).add 12 (callF p12 fun _ => some (.bool true))
theorem bytes_row (f : Nat → Int) (n : Nat) : bytesF (fun j => [T.int .u8 (f j)]) n = true := by
  unfold bytesF elemsOf
  rw [List.all_eq_true]
  intro x hx
  obtain ⟨j, _, rfl⟩ := List.mem_map.1 hx
  rfl
theorem differT (R : Nat → Nat → Int) (n h : Nat) (rc c rd d : Option Nat) (hh : h ≤ 1000) : ToldOk P18 G18 16 [picV R n h rc c, picV R n h rd d] (.int .i64 0) := by
  have hl : LoopOk P18 G18 (A18 16) 16 4 (litS (v16 R R n h rc c rd d 0) [] (.exit 0) [.undef] []) := by
    refine loop_steps hm18 (by kernel_rfl) (fun i => v16 R R n h rc c rd d (i : Nat)) (fun _ => []) (n := h) (fun i hi => ?_) ?_
    · refine Step.mk0 (A := A18) (m := 0) none_ok rfl rfl loops0 (h1 := []) ?_ .nil
      rw [(show iterR P18 G18 A18 noneO 0 16 [] 4 (v16 R R n h rc c rd d i) [] =
(
 bif decide (Int.ofNat i < Int.ofNat h) then
 bif decide ((0 : Int) ≤ Int.ofNat i) && decide (Int.ofNat i < Int.ofNat h) then
 bif bytesF (fun j => [T.int .u8 (R i j)]) n then
 bif decide ((0 : Int) ≤ Int.ofNat i) && decide (Int.ofNat i < Int.ofNat h) then
 bif bytesF (fun j => [T.int .u8 (R i j)]) n then
 bif !decide (strF (fun j => [T.int .u8 (R i j)]) n = strF (fun j => [T.int .u8 (R i j)]) n) then
 some ((Ex.ret, [T.int .i64 (1 : Int)], []))
 else
 some ((Ex.normal, [T.view 1 h (fun i => [T.view 1 n (fun j => [T.int .u8 (R i j)]) rc]) c, T.view 1 h (fun i => [T.view 1 n (fun j => [T.int .u8 (R i j)]) rd]) d, T.int .i64 (IntKind.i64.wrap (Int.ofNat i + (1 : Int)))], []))
 else none else none else none else none else
 some ((Ex.exit 0, [T.undef], []))) from by kernel_rfl)]
      have ei : IntKind.i64.wrap ((i : Int) + 1) = ((i + 1 : Nat) : Int) := by rw [wr64 (by omega) (by omega)]; omega
      rw [bytes_row, ofNatE i, ei]
      refine bift (by first | assumption | omega | (simp (disch := omega) only [numsE, List.length_cons, List.length_nil, Nat.reduceAdd]; done) | (simp (disch := omega) only [numsE, List.length_cons, List.length_nil, Nat.reduceAdd]; omega)) ?_
      refine bift (by first | assumption | omega | (simp (disch := omega) only [numsE, List.length_cons, List.length_nil, Nat.reduceAdd]; done) | (simp (disch := omega) only [numsE, List.length_cons, List.length_nil, Nat.reduceAdd]; omega)) ?_
      rw [cond_true]
      refine bift (by first | assumption | omega | (simp (disch := omega) only [numsE, List.length_cons, List.length_nil, Nat.reduceAdd]; done) | (simp (disch := omega) only [numsE, List.length_cons, List.length_nil, Nat.reduceAdd]; omega)) ?_
      rw [cond_true]
      refine biff (by simp) ?_
      rfl
    · refine Last.mk0 (A := A18) (m := 0) none_ok rfl rfl loops0 (h1 := []) (by simp) ?_ .nil
      rw [(show iterR P18 G18 A18 noneO 0 16 [] 4 (v16 R R n h rc c rd d h) [] =
(
 bif decide (Int.ofNat h < Int.ofNat h) then
 bif decide ((0 : Int) ≤ Int.ofNat h) && decide (Int.ofNat h < Int.ofNat h) then
 bif bytesF (fun j => [T.int .u8 (R h j)]) n then
 bif decide ((0 : Int) ≤ Int.ofNat h) && decide (Int.ofNat h < Int.ofNat h) then
 bif bytesF (fun j => [T.int .u8 (R h j)]) n then
 bif !decide (strF (fun j => [T.int .u8 (R h j)]) n = strF (fun j => [T.int .u8 (R h j)]) n) then
 some ((Ex.ret, [T.int .i64 (1 : Int)], []))
 else
 some ((Ex.normal, [T.view 1 h (fun i => [T.view 1 n (fun j => [T.int .u8 (R i j)]) rc]) c, T.view 1 h (fun i => [T.view 1 n (fun j => [T.int .u8 (R i j)]) rd]) d, T.int .i64 (IntKind.i64.wrap (Int.ofNat h + (1 : Int)))], []))
 else none else none else none else none else
 some ((Ex.exit 0, [T.undef], []))) from by kernel_rfl)]
      (repeat (first | (refine bift (by first | assumption | omega | (simp (disch := omega) only [numsE, List.length_cons, List.length_nil, Nat.reduceAdd]; done) | (simp (disch := omega) only [numsE, List.length_cons, List.length_nil, Nat.reduceAdd]; omega)) ?_) | (refine biff (by first | assumption | (simp (disch := omega) only [numsE, List.length_cons, List.length_nil, Nat.reduceAdd]; done) | (simp (disch := omega) only [numsE, List.length_cons, List.length_nil, Nat.reduceAdd]; omega)) ?_)))
      rfl
  refine stepL_told hm18 hn18 none_ok (A := A18) (m := 0) (by kernel_rfl) (loops1 hl) ?_
  rw [(show stepL P18 G18 A18 noneO 0 16 [(4, litS (v16 R R n h rc c rd d 0) [] (.exit 0) [.undef] [])] [picV R n h rc c, picV R n h rd d] =
(
 bif !decide (Int.ofNat h = Int.ofNat h) then
 some (T.int .i64 (1 : Int))
 else
 bif weakF [T.view 1 h (fun i => [T.view 1 n (fun j => [T.int .u8 (R i j)]) rc]) c, T.view 1 h (fun i => [T.view 1 n (fun j => [T.int .u8 (R i j)]) rd]) d, T.int .i64 (0 : Int)] [] [T.view 1 h (fun i => [T.view 1 n (fun j => [T.int .u8 (R i j)]) rc]) c, T.view 1 h (fun i => [T.view 1 n (fun j => [T.int .u8 (R i j)]) rd]) d, T.int .i64 (0 : Int)] [] then
 some (T.int .i64 (0 : Int))
 else
 none) from by kernel_rfl)]
  refine biff (by simp) ?_
  exact bift (weakF_of ⟨rfl, .refl _⟩) rfl
theorem l4 (D : IR) (R W : Nat → Nat → Int) (N : Nat → Int) (n h : Nat) (rc c : Option Nat) (m tot : Int) (hh : h ≤ 31) (hN : ∀ i, i < h → 0 ≤ N i ∧ N i ≤ 1001)
    (hW : ∀ i, i < h → ToldOk P18 G18 15 [rowV (R i) n rc, .int .i64 m] (.tup [rowV (W i) n none, .int .i64 (N i)])) :
    LoopOk P18 G18 (A18 4) 4 8 (litS (v4 D R n h rc c m tot 0 0) (h4 n h W) (.exit 0) [.reg [.int .u8 D.wd, D.rows none], .undef, picV R n h rc c, .int .i64 tot, .int .i64 (sumN N h)] (h4 n h W)) := by
  obtain ⟨p, hp⟩ := is_val P18 G18 15
  refine loop_steps hm18 (by kernel_rfl) (fun i => v4 D R n h rc c m tot (sumN N i) (i : Nat)) (fun _ => h4 n h W) (n := h) (fun i hi => ?_) ?_
  · have t1 := hW i hi
    have hb := sumN_bd hN i (by omega)
    have hb2 := hN i hi
    have e : sumN N (i + 1) = sumN N i + N i := rfl
    rw [e]
    have ei : IntKind.i64.wrap ((i : Int) + 1) = ((i + 1 : Nat) : Int) := by rw [wr64 (by omega) (by omega)]; omega
    have ea : IntKind.i64.wrap (sumN N i + N i) = sumN N i + N i := wr64 (by omega) (by omega)
    generalize sumN N i = sum at *
    generalize N i = a at *
    refine Step.mk0 (A := A18) (K := K4r p (.tup [rowV (W i) n none, .int .i64 a])) (m := 0) (told_add none_ok (callF_told hp)) rfl rfl loops0 (h1 := h4 n h W) ?_ (.refl _)
    rw [(show iterR P18 G18 A18 (K4r p (.tup [rowV (W i) n none, .int .i64 a])) 0 4 [] 8 (v4 D R n h rc c m tot sum i) (h4 n h W) =
(
 bif decide (Int.ofNat i < Int.ofNat h) then
 bif decide ((0 : Int) ≤ Int.ofNat i) && decide (Int.ofNat i < Int.ofNat h) then
 bif decF (p [T.view 1 n (fun j => [T.int .u8 (R i j)]) rc, T.int .i64 m] (T.tup [T.view 1 n (fun j => [T.int .u8 (W i j)])
 none, T.int .i64 a])) then
 bif decide ((0 : Int) ≤ Int.ofNat i) && decide (Int.ofNat i < Int.ofNat h) then
 bif ((0 : Nat) + i).blt h then
 bif bytesF (fun j => [T.int .u8 (W ((0 : Nat) + i) j)]) n then
 bif bytesF (fun j => [T.int .u8 (W i j)]) n then
 bif !decide (strF (fun j => [T.int .u8 (W ((0 : Nat) + i) j)]) n = strF (fun j => [T.int .u8 (W i j)]) n) then
 some ((Ex.ret, [T.reg [T.int .u8 D.wd, D.rows
 none], T.bool false, T.view 1 h (fun i => [T.view 1 n (fun j => [T.int .u8 (R i j)]) rc]) c, T.int .i64 tot, T.int .i64 sum], [Blk.mk 0 1 h (fun i => [T.view 1 n (fun j => [T.int .u8 (W i j)]) (some n)]) false false
 none]))
 else
 bif decide ((0 : Int) ≤ Int.ofNat i) && decide (Int.ofNat i < Int.ofNat h) then
 bif ((0 : Nat) + i).blt h then
 bif decide ((0 : Int) ≤ Int.ofNat i) && decide (Int.ofNat i < Int.ofNat h) then
 bif ((0 : Nat) + i).blt h then
 bif !decide (Int.ofNat n = Int.ofNat n) then
 some ((Ex.ret, [T.reg [T.int .u8 D.wd, D.rows
 none], T.bool false, T.view 1 h (fun i => [T.view 1 n (fun j => [T.int .u8 (R i j)]) rc]) c, T.int .i64 tot, T.int .i64 sum], [Blk.mk 0 1 h (fun i => [T.view 1 n (fun j => [T.int .u8 (W i j)]) (some n)]) false false
 none]))
 else
 some ((Ex.normal, [T.reg [T.int .u8 D.wd, D.rows
 none], T.view 1 h (fun i => [T.view 1 n (fun j => [T.int .u8 (R i j)]) rc]) c, T.int .i64 m, T.own 0 0 0 h (some h), T.int .i64 tot, T.int .i64 (IntKind.i64.wrap (sum + a)), T.int .i64 (IntKind.i64.wrap (Int.ofNat i + (1 : Int)))], [Blk.mk 0 1 h (fun i => [T.view 1 n (fun j => [T.int .u8 (W i j)]) (some n)]) false false
 none]))
 else none else none else none else none else none else none else none else none else none else none else
 some ((Ex.exit 0, [T.reg [T.int .u8 D.wd, D.rows
 none], T.undef, T.view 1 h (fun i => [T.view 1 n (fun j => [T.int .u8 (R i j)]) rc]) c, T.int .i64 tot, T.int .i64 sum], [Blk.mk 0 1 h (fun i => [T.view 1 n (fun j => [T.int .u8 (W i j)]) (some n)]) false false
 none]))) from by kernel_rfl)]
    rw [bytes_row, bytes_row, ofNatE i, ei, ea, Nat.zero_add]
    refine bift (by first | assumption | omega | (simp (disch := omega) only [numsE, List.length_cons, List.length_nil, Nat.reduceAdd]; done) | (simp (disch := omega) only [numsE, List.length_cons, List.length_nil, Nat.reduceAdd]; omega)) ?_
    refine bift (by first | assumption | omega | (simp (disch := omega) only [numsE, List.length_cons, List.length_nil, Nat.reduceAdd]; done) | (simp (disch := omega) only [numsE, List.length_cons, List.length_nil, Nat.reduceAdd]; omega)) ?_
    refine bift (callF_yes hp t1) ?_
    refine bift (by first | assumption | omega | (simp (disch := omega) only [numsE, List.length_cons, List.length_nil, Nat.reduceAdd]; done) | (simp (disch := omega) only [numsE, List.length_cons, List.length_nil, Nat.reduceAdd]; omega)) ?_
    refine bift (bltT hi) ?_
    rw [cond_true, cond_true]
    refine biff (by simp) ?_
    refine bift (by first | assumption | omega | (simp (disch := omega) only [numsE, List.length_cons, List.length_nil, Nat.reduceAdd]; done) | (simp (disch := omega) only [numsE, List.length_cons, List.length_nil, Nat.reduceAdd]; omega)) ?_
    refine bift (bltT hi) ?_
    refine bift (by first | assumption | omega | (simp (disch := omega) only [numsE, List.length_cons, List.length_nil, Nat.reduceAdd]; done) | (simp (disch := omega) only [numsE, List.length_cons, List.length_nil, Nat.reduceAdd]; omega)) ?_
    refine bift (bltT hi) ?_
    refine biff (by simp) ?_
    rfl
  · generalize sumN N h = sum at *
    refine Last.mk0 (A := A18) (m := 0) none_ok rfl rfl loops0 (h1 := h4 n h W) (by simp) ?_ (.refl _)
    rw [(show iterR P18 G18 A18 noneO 0 4 [] 8 (v4 D R n h rc c m tot sum (h : Nat)) (h4 n h W) =
(
 bif decide (Int.ofNat h < Int.ofNat h) then
 bif decide ((0 : Int) ≤ Int.ofNat h) && decide (Int.ofNat h < Int.ofNat h) then none else none else
 some ((Ex.exit 0, [T.reg [T.int .u8 D.wd, D.rows
 none], T.undef, T.view 1 h (fun i => [T.view 1 n (fun j => [T.int .u8 (R i j)]) rc]) c, T.int .i64 tot, T.int .i64 sum], [Blk.mk 0 1 h (fun i => [T.view 1 n (fun j => [T.int .u8 (W i j)]) (some n)]) false false
 none]))) from by kernel_rfl)]
    (repeat (first | (refine bift (by first | assumption | omega | (simp (disch := omega) only [numsE, List.length_cons, List.length_nil, Nat.reduceAdd]; done) | (simp (disch := omega) only [numsE, List.length_cons, List.length_nil, Nat.reduceAdd]; omega)) ?_) | (refine biff (by first | assumption | (simp (disch := omega) only [numsE, List.length_cons, List.length_nil, Nat.reduceAdd]; done) | (simp (disch := omega) only [numsE, List.length_cons, List.length_nil, Nat.reduceAdd]; omega)) ?_)))
    rfl
theorem kK_two {r : Nat → Int} {n : Nat} {a b : Int} (hr : ∀ j, j < n → 0 ≤ r j ∧ r j < 256) (h : ∀ j, j < n → r j = a ∨ r j = b) : kK r n ≤ 2 := by
  rcases Nat.lt_or_ge 2 (kK r n) with q | q
  · exfalso
    have ha := csK_asc r n
    have key : ∀ i, i < kK r n → csK r n i = a ∨ csK r n i = b := fun i hi => by
      obtain ⟨j, _, h1, h2⟩ := (csK_mem hr (csK r n i)).1 ⟨i, Nat.zero_le _, hi, rfl⟩
      rw [← h2]; exact h j h1
    have a1 := ha 0 1 (by omega) (by omega)
    have a2 := ha 1 2 (by omega) (by omega)
    have b0 := key 0 (by omega)
    have b1 := key 1 (by omega)
    have b2 := key 2 (by omega)
    omega
  · exact q
theorem IR.pic (D : IR) : PicOk D.r D.w D.n ∧ (∀ i j, 1 ≤ D.r i j ∧ D.r i j ≤ 5) := by
  have hA : ∀ i, 1 ≤ D.pA i ∧ D.pA i ≤ 5 := fun i => by unfold IR.pA pairA; split <;> (try split) <;> (try split) <;> (try split) <;> omega
  have hB : ∀ i, 1 ≤ D.pB i ∧ D.pB i ≤ 5 := fun i => by unfold IR.pB pairB; split <;> (try split) <;> (try split) <;> (try split) <;> omega
  have hab : ∀ i j, D.r i j = D.pA i ∨ D.r i j = D.pB i := fun i j => by
    unfold IR.r
    split
    · split
      · exact .inl rfl
      · exact .inr rfl
    · exact .inl rfl
  have hr : ∀ i j, 1 ≤ D.r i j ∧ D.r i j ≤ 5 := fun i j => by
    rcases hab i j with h | h <;> rw [h]
    · exact hA i
    · exact hB i
  obtain ⟨n1, n2, n3⟩ := D.n_bd
  refine ⟨⟨by unfold IR.w; omega, by unfold IR.w nmax; omega, by omega, n3, fun i _ j _ => by have := hr i j; omega, fun i _ => kK_two (a := D.pA i) (b := D.pB i) (fun j _ => by have := hr i j; omega) fun j _ => hab i j⟩, hr⟩
theorem law4 (D : IR) (hD : D.Ok) (mo : Int) (hmo : 0 ≤ mo ∧ mo < 256) : ToldOk P18 G18 4 [.agg [.int .u8 D.wd, D.rows none], .int .u8 mo] (.bool true) := by
  obtain ⟨ok, hr⟩ := D.pic
  obtain ⟨p13, hp13⟩ := is_val P18 G18 13
  obtain ⟨p14, hp14⟩ := is_val P18 G18 14
  obtain ⟨p16, hp16⟩ := is_val P18 G18 16
  obtain ⟨p12, hp12⟩ := is_val P18 G18 12
  have t13 := OfT D hD
  have em : IntKind.i64.wrap (1 + IntKind.i64.wrap (mo.tmod 16)) = 1 + mo % 16 := by
    rw [Int.tmod_eq_emod_of_nonneg hmo.1, wr64 (x := mo % 16) (by omega) (by omega), wr64 (by omega) (by omega)]
  have hm : 1 ≤ 1 + mo % 16 ∧ 1 + mo % 16 ≤ 16 := by omega
  generalize 1 + mo % 16 = m at *
  have hn1 := ok.n1
  have hn2 := ok.nm
  have hn3 := hn2
  unfold nmax at hn3
  have hrr : ∀ i j, 0 ≤ D.r i j ∧ D.r i j < 256 := fun i j => by have := hr i j; omega
  have hN : ∀ i, i < D.n → 0 ≤ lk (D.r i) D.w (csK (D.r i) D.w) (kK (D.r i) D.w) m D.w ⟨0, 0, false⟩ ∧ lk (D.r i) D.w (csK (D.r i) D.w) (kK (D.r i) D.w) m D.w ⟨0, 0, false⟩ ≤ 1001 := fun i hi => by
    have h1 := (ref_same (D.r i) D.w m (by omega) hn1 (fun j _ => hrr i j) (ok.two i hi)).2
    have hk : 1 ≤ kK (D.r i) D.w := by
      obtain ⟨j, _, h2, _⟩ := (csK_mem (fun j _ => hrr i j) (D.r i 0)).2 ⟨0, Nat.le_refl _, hn1, rfl⟩
      omega
    have h2 := lk_le (r := D.r i) (n := D.w) (cs := csK (D.r i) D.w) (most := m) hk D.w 0 ⟨0, 0, false⟩ (Nat.zero_add _) (.inr ⟨rfl, rfl⟩)
    omega
  have tW := WeaveT D.r D.w D.n (some D.w) none m (fun i => wvL (D.r i) D.w (csK (D.r i) D.w) (kK (D.r i) D.w) m) (fun i => lk (D.r i) D.w (csK (D.r i) D.w) (kK (D.r i) D.w) m D.w ⟨0, 0, false⟩) ok hm hN
    (fun i hi => weaveT (D.r i) D.w (some D.w) m hn1 hn2 fun j _ => hrr i j)
  have hh := ok.h1
  have hl := l4 D D.r (fun i => wvL (D.r i) D.w (csK (D.r i) D.w) (kK (D.r i) D.w) m) (fun i => lk (D.r i) D.w (csK (D.r i) D.w) (kK (D.r i) D.w) m D.w ⟨0, 0, false⟩) D.w D.n (some D.w) none m
    (sumN (fun i => lk (D.r i) D.w (csK (D.r i) D.w) (kK (D.r i) D.w) m D.w ⟨0, 0, false⟩) D.n) hh hN fun i hi => by
      obtain ⟨h1, h2⟩ := ref_same (D.r i) D.w m (by omega) hn1 (fun j _ => hrr i j) (ok.two i hi)
      have t := refWeaveT (D.r i) D.w (some D.w) m hn1 (by omega) (fun j _ => hrr i j) (longest_const _ _ m (by omega) fun j _ => by rw [wb_zero, wb_zero])
      rw [h2] at t
      refine ToldOk.tupTo t (.cons (.view (.view (.inl rfl) fun j hj => ?_)) (.cons (.refl _) .nil))
      rw [h1 j hj]
      exact .refl _
  change ToldOk P18 G18 14 _ (.tup [.fresh false 1 D.n (fun i => [wrow D.w ((fun i => wvL (D.r i) D.w (csK (D.r i) D.w) (kK (D.r i) D.w) m) i)]) D.n (some D.n), _, _]) at tW
  have t16 := differT D.r D.w D.n (some D.w) none (some D.w) none (by omega)
  generalize (fun i => wvL (D.r i) D.w (csK (D.r i) D.w) (kK (D.r i) D.w) m) = W at *
  generalize sumN (fun i => lk (D.r i) D.w (csK (D.r i) D.w) (kK (D.r i) D.w) m D.w ⟨0, 0, false⟩) D.n = tot at *
  clear hN hrr hr ok
  generalize hR : D.r = R at *
  generalize D.w = n at *
  generalize D.n = h at *
  refine stepL_told hm18 hn18 (K := K4 p13 p14 p16 p12 (picV R n h (some n) none) (.tup [.fresh false 1 h (fun i => [wrow n (W i)]) h (some h), .int .i64 tot, .int .i64 0])) (told_add (told_add (told_add (told_add none_ok (callF_told hp13)) (callF_told hp14)) (callF_told hp16)) (callF_told hp12)) (A := A18) (m := 0) (by kernel_rfl) (loops1 hl) ?_
  rw [(show stepL P18 G18 A18 (K4 p13 p14 p16 p12 (picV R n h (some n) none) (.tup [.fresh false 1 h (fun i => [wrow n (W i)]) h (some h), .int .i64 tot, .int .i64 0])) 0 4 [(8, litS (v4 D R n h (some n) none m tot 0 0) (h4 n h W) (.exit 0) [.reg [.int .u8 D.wd, D.rows none], .undef, picV R n h (some n) none, .int .i64 tot, .int .i64 tot] (h4 n h W))] [.agg [.int .u8 D.wd, D.rows none], .int .u8 mo] =
(
 bif decF (p13 [T.agg [T.int .u8 D.wd, D.rows
 none]] (T.view 1 h (fun i => [T.view 1 n (fun j => [T.int .u8 (R i j)]) (some n)])
 none)) then
 bif decF (p14 [T.view 1 h (fun i => [T.view 1 n (fun j => [T.int .u8 (R i j)]) (some n)])
 none, T.int .i64 (IntKind.i64.wrap ((1 : Int) + IntKind.i64.wrap (mo.tmod (16 : Int))))] (T.tup [T.fresh false (1 : Nat) h (fun i => [T.view 1 n (fun j => [T.int .u8 (W i j)]) (some n)]) h (some h), T.int .i64 tot, T.int .i64 (0 : Int)])) then
 bif !decide (Int.ofNat h = Int.ofNat h) then
 some (T.bool false)
 else
 bif !decide (Int.ofNat h = Int.ofNat h) then
 some (T.bool false)
 else
 bif weakF [T.reg [T.int .u8 D.wd, D.rows
 none], T.view 1 h (fun i => [T.view 1 n (fun j => [T.int .u8 (R i j)]) (some n)])
 none, T.int .i64 (IntKind.i64.wrap ((1 : Int) + IntKind.i64.wrap (mo.tmod (16 : Int)))), T.own 0 0 0 h (some h), T.int .i64 tot, T.int .i64 (0 : Int), T.int .i64 (0 : Int)] [Blk.mk 0 1 h (fun i => [T.view 1 n (fun j => [T.int .u8 (W i j)]) (some n)]) false false
 none] [T.reg [T.int .u8 D.wd, D.rows
 none], T.view 1 h (fun i => [T.view 1 n (fun j => [T.int .u8 (R i j)]) (some n)])
 none, T.int .i64 m, T.own 0 0 0 h (some h), T.int .i64 tot, T.int .i64 (0 : Int), T.int .i64 (0 : Int)] [Blk.mk 0 1 h (fun i => [T.view 1 n (fun j => [T.int .u8 (W i j)]) (some n)]) false false
 none] then
 bif decide (tot = tot) then
 bif decF (p13 [T.agg [T.int .u8 D.wd, D.rows
 none]] (T.view 1 h (fun i => [T.view 1 n (fun j => [T.int .u8 (R i j)]) (some n)])
 none)) then
 bif decF (p16 [T.view 1 h (fun i => [T.view 1 n (fun j => [T.int .u8 (R i j)]) (some n)])
 none, T.view 1 h (fun i => [T.view 1 n (fun j => [T.int .u8 (R i j)]) (some n)])
 none] (T.int .i64 (0 : Int))) then
 bif decF (p12 [] (T.bool true)) then
 some (T.bool true)
 else none else none else none else
 some (T.bool false)
 else none else none else
 none) from by kernel_rfl)]
  rw [em]
  refine bift (callF_yes hp13 t13) ?_
  refine bift (callF_yes hp14 tW) ?_
  refine biff (by simp) ?_
  refine biff (by simp) ?_
  refine bift (weakF_of ⟨rfl, .refl _⟩) ?_
  refine bift (by simp) ?_
  refine bift (callF_yes hp13 t13) ?_
  refine bift (callF_yes hp16 t16) ?_
  exact bift (callF_yes hp12 livesT) rfl
end Go.Ab

/- The laws' typed arguments. -/
namespace Go.Ab
open Go.Proofs
section
variable {Hp : Type}
theorem agg22_18 : aggTy P18 22 = false := by kernel_rfl
theorem cells5_18 : P18.cellsOf 5 = 1 := by kernel_rfl
def cI (l : List T) : Int := match l with | [.int _ z] => z | _ => 0
theorem inv5_18 {ts : List T} {d : DataW Hp} (h : CT P18 5 ts d) : ∃ a : Int, ts = [.int .u8 a] ∧ 0 ≤ a ∧ a < 256 := by
  obtain ⟨a, rfl, rfl, w⟩ := h.int_inv Try.underlying5
  have w := wf_u8 w
  exact ⟨a, rfl, by omega, by omega⟩
theorem row18 {ts : List T} {d : DataW Hp} (h : CT P18 22 ts d) : ∃ (r : Nat → Int) (n : Nat), (∀ j, 0 ≤ r j ∧ r j < 256) ∧ ∃ x, ts = [x] ∧ imm0 x = true ∧ Sim x (rowV r n none) := by
  rcases h.slice_inv Try.underlying22 (by rw [cells5_18]; omega) with ⟨rfl, rfl⟩ | ⟨n, c, g, elems, spare, rfl, rfl, he, hs, hn, hc, hg⟩
  · exact ⟨fun _ => 0, 0, fun _ => ⟨Int.le_refl 0, (by decide : (0 : Int) < 256)⟩, _, rfl, rfl, .nilv _ _ (.inl rfl)⟩
  · have key : ∀ j, j < n → ∃ a : Int, g j = [.int .u8 a] ∧ 0 ≤ a ∧ a < 256 := fun j hj => inv5_18 (hg j elems[j] (by simp [show j < elems.length by omega]))
    refine ⟨fun j => if j < n then cI (g j) else 0, n, fun j => ?_, _, rfl, rfl, ?_⟩
    · dsimp only
      split
      · rename_i hj
        obtain ⟨a, q, q1, q2⟩ := key j hj
        rw [q]
        exact ⟨q1, q2⟩
      · omega
    · rw [cells5_18]
      refine .view (.inr rfl) fun j hj => ?_
      obtain ⟨a, q, _⟩ := key j hj
      show Sims (g j) [.int .u8 (if j < n then cI (g j) else 0)]
      rw [if_pos hj, q]
      exact .refl _
theorem inv22_18 {ts : List T} {d : DataW Hp} (h : CT P18 22 ts d) : ∃ (r : Nat → Int) (n : Nat), (∀ j, 0 ≤ r j ∧ r j < 256) ∧ Sim (topT P18 22 ts) (rowV r n none) := by
  obtain ⟨r, n, h1, x, rfl, _, h3⟩ := row18 h
  refine ⟨r, n, h1, ?_⟩
  rw [show topT P18 22 [x] = x by simp [topT, agg22_18]]
  exact h3
end
end Go.Ab

/- The laws' typed arguments: plain data of a picture. -/
namespace Go.Ab
open Go.Proofs
section
variable {Hp : Type}
theorem agg29_18 : aggTy P18 29 = false := by kernel_rfl
theorem agg31_18 : aggTy P18 31 = true := by kernel_rfl
theorem cells22_18 : P18.cellsOf 22 = 1 := by kernel_rfl
theorem rows18 {ts : List T} {d : DataW Hp} (h : CT P18 29 ts d) : ∃ (m : Nat) (ln : Nat → Nat) (x : Nat → Nat → Int), (∀ i k, 0 ≤ x i k ∧ x i k < 256) ∧ ∃ y, ts = [y] ∧ Sim y (.view 1 m (fun i => [rowV (x i) (ln i) none]) none) := by
  rcases h.slice_inv Try.underlying29 (by rw [cells22_18]; omega) with ⟨rfl, rfl⟩ | ⟨n, c, g, elems, spare, rfl, rfl, he, hs, hn, hc, hg⟩
  · exact ⟨0, fun _ => 0, fun _ _ => 0, fun _ _ => ⟨Int.le_refl 0, (by decide : (0 : Int) < 256)⟩, _, rfl, .nilv _ _ (.inl rfl)⟩
  · have key : ∀ j, ∃ (r : Nat → Int) (l : Nat), (∀ k, 0 ≤ r k ∧ r k < 256) ∧ (j < n → ∃ x, g j = [x] ∧ Sim x (rowV r l none)) := fun j => by
      by_cases hj : j < n
      · obtain ⟨r, l, h1, x, h2, _, h3⟩ := row18 (hg j elems[j] (by simp [show j < elems.length by omega]))
        exact ⟨r, l, h1, fun _ => ⟨x, h2, h3⟩⟩
      · exact ⟨fun _ => 0, 0, fun _ => ⟨Int.le_refl 0, (by decide : (0 : Int) < 256)⟩, fun h => absurd h hj⟩
    refine ⟨n, fun j => (key j).choose_spec.choose, fun j => (key j).choose, fun i => (key i).choose_spec.choose_spec.1, _, rfl, ?_⟩
    · rw [cells22_18]
      refine .view (.inr rfl) fun j hj => ?_
      obtain ⟨x, h2, h3⟩ := (key j).choose_spec.choose_spec.2 hj
      rw [h2]
      exact .cons h3 .nil
theorem inv31_18 {ts : List T} {d : DataW Hp} (h : CT P18 31 ts d) : ∃ D : IR, D.Ok ∧ Sim (topT P18 31 ts) (.agg [.int .u8 D.wd, D.rows none]) := by
  obtain ⟨parts, ds, rfl, rfl, hs⟩ := CT.struct_inv Try.underlying31 h; clear h; rename _ => h
  change CTs P18 [5, 29] parts ds at h
  obtain ⟨p1, _, d1, _, rfl, rfl, h1, h⟩ := h.cons
  obtain ⟨p2, _, d2, _, rfl, rfl, h2, h⟩ := h.cons
  obtain ⟨rfl, rfl⟩ := h.nil
  obtain ⟨a, rfl, a1, a2⟩ := inv5_18 h1
  obtain ⟨m, ln, x, b2, y, rfl, b3⟩ := rows18 h2
  refine ⟨⟨a, m, ln, x⟩, ⟨⟨a1, a2⟩, b2⟩, ?_⟩
  rw [show topT P18 31 ([[T.int .u8 a], [y]].flatten) = .agg [.int .u8 a, y] by simp [topT, agg31_18]]
  exact .agg (.cons (.refl _) (.cons b3 .nil))
end
end Go.Ab

