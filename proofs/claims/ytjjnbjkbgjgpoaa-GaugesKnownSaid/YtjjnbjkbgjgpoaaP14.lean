/- A part of the proof: nothing is assumed. -/
import Derived.Test.YtjjnbjkbgjgpoaaP13
import Derived.Test.YtjjnbjkbgjgpoaaP10
set_option linter.all false
namespace Go.Ab
open Go.Proofs
theorem r19g0 (S R top m nn0 nn dd : Int) (H W V Y : Nat → Int) (n i b : Nat) (fl : Bool) (tab : Blk) (hs : Small S R H W n) (hm : m = mid (0)) (h0 : nn0 = W (n - 1) * S) (hi : 0 < b) (hb : b ≤ 400) (n1 : 0 ≤ nn ∧ nn ≤ 200000000000000) (d1 : 1 ≤ dd ∧ dd ≤ 2000000000) (hw : roundF nn dd ≠ 0) :
    ∃ g1 g2, iterR P37 G37 A37 K37b 0 6 [(25, litS [.reg [.int .i64 S, .int .i64 R], .own 0 0 0 n none, .own 1 0 0 b (some b), .int .i64 0, .int .i64 top, .int .i64 b, .nils, .bool fl, .int .i64 0, .int .i64 m, .int .i64 nn0, .int .i64 100, .int .i64 0] [⟨0, 2, n, fun j => [.int .i64 (H j), .int .i64 (W j)], true, false⟩, iblk b Y] (.exit 4) [.reg [.int .i64 S, .int .i64 R], .own 0 0 0 n none, .own 1 0 0 b (some b), .int .i64 0, .int .i64 top, .int .i64 b, .nils, .bool fl, .int .i64 0, .int .i64 nn, .int .i64 dd] [⟨0, 2, n, fun j => [.int .i64 (H j), .int .i64 (W j)], true, false⟩, iblk b Y])] 19 [.reg [.int .i64 S, .int .i64 R], .own 0 0 0 n none, .own 1 0 0 b (some b), .int .i64 0, .int .i64 top, .int .i64 b, .nils, .bool fl, .int .i64 0] [⟨0, 2, n, fun j => [.int .i64 (H j), .int .i64 (W j)], true, false⟩, iblk b Y] =
    some (.normal, [.reg [.int .i64 S, .int .i64 R], .own 0 0 0 n none, .own 1 0 0 b (some b), .int .i64 0, .int .i64 top, .int .i64 b, .own 3 0 0 1 none, .bool fl, .int .i64 ((0 + 1 : Nat) : Int)], [⟨0, 2, n, fun j => [.int .i64 (H j), .int .i64 (W j)], true, false⟩, iblk b Y, ⟨0, 1, 1, g2, true, true⟩, ⟨0, 1, 1, g1, true, false⟩]) ∧ ∀ j, j < 0 + 1 → g1 j = [.int .i64 (if j < 0 then V j else roundF nn dd)] := by
  rw [(show iterR P37 G37 A37 K37b 0 6 [(25, litS [.reg [.int .i64 S, .int .i64 R], .own 0 0 0 n none, .own 1 0 0 b (some b), .int .i64 0, .int .i64 top, .int .i64 b, .nils, .bool fl, .int .i64 0, .int .i64 m, .int .i64 nn0, .int .i64 100, .int .i64 0] [⟨0, 2, n, fun j => [.int .i64 (H j), .int .i64 (W j)], true, false⟩, iblk b Y] (.exit 4) [.reg [.int .i64 S, .int .i64 R], .own 0 0 0 n none, .own 1 0 0 b (some b), .int .i64 0, .int .i64 top, .int .i64 b, .nils, .bool fl, .int .i64 0, .int .i64 nn, .int .i64 dd] [⟨0, 2, n, fun j => [.int .i64 (H j), .int .i64 (W j)], true, false⟩, iblk b Y])] 19 [.reg [.int .i64 S, .int .i64 R], .own 0 0 0 n none, .own 1 0 0 b (some b), .int .i64 0, .int .i64 top, .int .i64 b, .nils, .bool fl, .int .i64 0] [⟨0, 2, n, fun j => [.int .i64 (H j), .int .i64 (W j)], true, false⟩, iblk b Y] =
(    bif decide ((0 : Int) < Int.ofNat b) then
    bif decide ((0 : Int) ≤ IntKind.i64.wrap (Int.ofNat n - (1 : Int))) &&
      decide (IntKind.i64.wrap (Int.ofNat n - (1 : Int)) < Int.ofNat n) then
    bif ((0 : Nat) + (IntKind.i64.wrap (Int.ofNat n - (1 : Int))).toNat).blt n then
    bif sameStF
      [T.reg [T.int IntKind.i64 S, T.int IntKind.i64 R], T.own (0 : Nat) (0 : Nat) (0 : Nat) n none,
        T.own (1 : Nat) (0 : Nat) (0 : Nat) b (some b), T.int IntKind.i64 (0 : Int), T.int IntKind.i64 top,
        T.int IntKind.i64 (Int.ofNat b), T.nils, T.bool fl, T.int IntKind.i64 (0 : Int), T.int IntKind.i64 (100 : Int),
        T.int IntKind.i64 (IntKind.i64.wrap (W ((0 : Nat) + (IntKind.i64.wrap (Int.ofNat n - (1 : Int))).toNat) * S)),
        T.int IntKind.i64 (100 : Int), T.int IntKind.i64 (0 : Int)]
      [Blk.mk (0 : Nat) (2 : Nat) n (fun j => [T.int IntKind.i64 (H j), T.int IntKind.i64 (W j)]) true false,
        Blk.mk (0 : Nat) (1 : Nat) b (fun j => [T.int IntKind.i64 (Y j)]) true false]
      [T.reg [T.int IntKind.i64 S, T.int IntKind.i64 R], T.own (0 : Nat) (0 : Nat) (0 : Nat) n none,
        T.own (1 : Nat) (0 : Nat) (0 : Nat) b (some b), T.int IntKind.i64 (0 : Int), T.int IntKind.i64 top,
        T.int IntKind.i64 (Int.ofNat b), T.nils, T.bool fl, T.int IntKind.i64 (0 : Int), T.int IntKind.i64 m,
        T.int IntKind.i64 nn0, T.int IntKind.i64 (100 : Int), T.int IntKind.i64 (0 : Int)]
      [Blk.mk (0 : Nat) (2 : Nat) n (fun j => [T.int IntKind.i64 (H j), T.int IntKind.i64 (W j)]) true false,
        Blk.mk (0 : Nat) (1 : Nat) b (fun j => [T.int IntKind.i64 (Y j)]) true false] then
    bif decide (IntKind.i64.wrap ((2 : Int) * dd) = (0 : Int)) then
    none
    else
    bif decide
      (IntKind.i64.wrap
          ((IntKind.i64.wrap (IntKind.i64.wrap ((2 : Int) * nn) + dd)).tdiv (IntKind.i64.wrap ((2 : Int) * dd))) =
        (0 : Int)) then
    some ((Ex.ret,
      [T.bool false, T.own (1 : Nat) (0 : Nat) (0 : Nat) b (some b), T.int IntKind.i64 (0 : Int),
        T.int IntKind.i64 (Int.ofNat b), T.nils, T.bool fl],
      [Blk.mk (0 : Nat) (2 : Nat) n (fun j => [T.int IntKind.i64 (H j), T.int IntKind.i64 (W j)]) true false,
        Blk.mk (0 : Nat) (1 : Nat) b (fun j => [T.int IntKind.i64 (Y j)]) true false]))
    else
    some ((Ex.normal,
      [T.reg [T.int IntKind.i64 S, T.int IntKind.i64 R], T.own (0 : Nat) (0 : Nat) (0 : Nat) n none,
        T.own (1 : Nat) (0 : Nat) (0 : Nat) b (some b), T.int IntKind.i64 (0 : Int), T.int IntKind.i64 top,
        T.int IntKind.i64 (Int.ofNat b),
        T.own
          [Blk.mk (0 : Nat) (2 : Nat) n (fun j => [T.int IntKind.i64 (H j), T.int IntKind.i64 (W j)]) true false,
              Blk.mk (0 : Nat) (1 : Nat) b (fun j => [T.int IntKind.i64 (Y j)]) true false,
              Blk.mk (0 : Nat) (1 : Nat) (1 : Nat)
                (fun j =>
                  [[T.int IntKind.i64
                            (IntKind.i64.wrap
                              ((IntKind.i64.wrap (IntKind.i64.wrap ((2 : Int) * nn) + dd)).tdiv
                                (IntKind.i64.wrap ((2 : Int) * dd))))]].getD
                    j [])
                true true].length
          (0 : Nat) (0 : Nat) (1 : Nat) none,
        T.bool fl, T.int IntKind.i64 (1 : Int)],
      [Blk.mk (0 : Nat) (2 : Nat) n (fun j => [T.int IntKind.i64 (H j), T.int IntKind.i64 (W j)]) true false,
        Blk.mk (0 : Nat) (1 : Nat) b (fun j => [T.int IntKind.i64 (Y j)]) true false,
        Blk.mk (0 : Nat) (1 : Nat) (1 : Nat)
          (fun j =>
            [[T.int IntKind.i64
                      (IntKind.i64.wrap
                        ((IntKind.i64.wrap (IntKind.i64.wrap ((2 : Int) * nn) + dd)).tdiv
                          (IntKind.i64.wrap ((2 : Int) * dd))))]].getD
              j [])
          true true,
        Blk.mk (0 : Nat) (1 : Nat) (1 : Nat)
          (fun j =>
            [[T.int IntKind.i64
                      (IntKind.i64.wrap
                        ((IntKind.i64.wrap (IntKind.i64.wrap ((2 : Int) * nn) + dd)).tdiv
                          (IntKind.i64.wrap ((2 : Int) * dd))))]].getD
              ((0 : Nat) + j) [])
          true false]))
    else
    none
    else
    none
    else
    none
    else
    some ((Ex.exit (2 : Nat),
      [T.undef, T.own (1 : Nat) (0 : Nat) (0 : Nat) b (some b), T.int IntKind.i64 (0 : Int),
        T.int IntKind.i64 (Int.ofNat b), T.nils, T.bool fl],
      [Blk.mk (0 : Nat) (2 : Nat) n (fun j => [T.int IntKind.i64 (H j), T.int IntKind.i64 (W j)]) true false,
        Blk.mk (0 : Nat) (1 : Nat) b (fun j => [T.int IntKind.i64 (Y j)]) true false]))) from by kernel_rfl)]
  have en : (Int.ofNat n : Int) = (n : Int) := rfl
  have eb : (Int.ofNat b : Int) = (b : Int) := rfl
  have ei : (Int.ofNat (i + 1) : Int) = (i : Int) + 1 := rfl
  have em : m = 100 * (2 * (0 : Int) + 1) := hm
  have n9 := hs.n9
  have n2 := hs.n2
  have wb := hs.wb (n - 1) (by omega)
  obtain ⟨s1, s2, _, _⟩ := hs.g
  have c1 := mul_bd (p := W (n - 1)) (m := S) (a := 255) (b := 400) (by omega) (by omega) (by omega) (by omega)
  have e1 : (Int.ofNat n - 1).toNat = n - 1 := by omega
  have rb := roundF_bd n1.1 d1.1
  have ev : (2 * nn + dd).tdiv (2 * dd) = roundF nn dd := Int.tdiv_eq_ediv_of_nonneg (by omega)
  rw [dT (show (0 : Int) < Int.ofNat b by omega), wr64 (x := Int.ofNat n - 1) (by omega) (by omega), e1, Nat.zero_add (n - 1), dT (show (0 : Int) ≤ Int.ofNat n - 1 by omega), dT (show Int.ofNat n - 1 < Int.ofNat n by omega), bltT (show n - 1 < n by omega), wr64 (x := W (n - 1) * S) (by omega) (by omega)]
  simp only [Bool.and_self, cond_true]
  refine ⟨fun j => [[T.int .i64 (roundF nn dd)]].getD (0 + j) [], fun j => [[T.int .i64 (roundF nn dd)]].getD j [], ?_, fun j hj => ?_⟩
  rotate_left
  · obtain rfl : j = 0 := by omega
    rfl
  skip
  refine bift (sameStF_iff.2 ⟨?_, .refl _⟩) ?_
  · rw [h0, em]; try rfl
  rw [wr64 (x := 2 * dd) (by omega) (by omega), wr64 (x := 2 * nn) (by omega) (by omega), wr64 (x := 2 * nn + dd) (by omega) (by omega), ev, wr64 (x := roundF nn dd) (by omega) (by omega), dF (show ¬ 2 * dd = 0 by omega), dF hw]
  simp only [cond_false]
  rfl
theorem r19g (S R top m nn0 nn dd : Int) (H W V Y : Nat → Int) (n i b : Nat) (fl : Bool) (tab : Blk) (hs : Small S R H W n) (hm : m = mid (i + 1)) (h0 : nn0 = W (n - 1) * S) (hi : i + 1 < b) (hb : b ≤ 400) (n1 : 0 ≤ nn ∧ nn ≤ 200000000000000) (d1 : 1 ≤ dd ∧ dd ≤ 2000000000) (hw : roundF nn dd ≠ 0) :
    ∃ g1 g2, iterR P37 G37 A37 K37b 0 6 [(25, litS [.reg [.int .i64 S, .int .i64 R], .own 0 0 0 n none, .own 1 0 0 b (some b), .int .i64 0, .int .i64 top, .int .i64 b, .own 3 i 0 (i + 1) none, .bool fl, .int .i64 ((i + 1 : Nat) : Int), .int .i64 m, .int .i64 nn0, .int .i64 100, .int .i64 0] [⟨0, 2, n, fun j => [.int .i64 (H j), .int .i64 (W j)], true, false⟩, iblk b Y, tab, ⟨i, 1, i + 1, fun j => [.int .i64 (V j)], true, false⟩] (.exit 4) [.reg [.int .i64 S, .int .i64 R], .own 0 0 0 n none, .own 1 0 0 b (some b), .int .i64 0, .int .i64 top, .int .i64 b, .own 3 i 0 (i + 1) none, .bool fl, .int .i64 ((i + 1 : Nat) : Int), .int .i64 nn, .int .i64 dd] [⟨0, 2, n, fun j => [.int .i64 (H j), .int .i64 (W j)], true, false⟩, iblk b Y, tab, ⟨i, 1, i + 1, fun j => [.int .i64 (V j)], true, false⟩])] 19 [.reg [.int .i64 S, .int .i64 R], .own 0 0 0 n none, .own 1 0 0 b (some b), .int .i64 0, .int .i64 top, .int .i64 b, .own 3 i 0 (i + 1) none, .bool fl, .int .i64 ((i + 1 : Nat) : Int)] [⟨0, 2, n, fun j => [.int .i64 (H j), .int .i64 (W j)], true, false⟩, iblk b Y, tab, ⟨i, 1, i + 1, fun j => [.int .i64 (V j)], true, false⟩] =
    some (.normal, [.reg [.int .i64 S, .int .i64 R], .own 0 0 0 n none, .own 1 0 0 b (some b), .int .i64 0, .int .i64 top, .int .i64 b, .own 3 (i + 1) 0 (i + 2) none, .bool fl, .int .i64 ((i + 1 + 1 : Nat) : Int)], [⟨0, 2, n, fun j => [.int .i64 (H j), .int .i64 (W j)], true, false⟩, iblk b Y, tab, ⟨i + 1, 1, i + 2, g1, true, false⟩, ⟨0, 1, 1, g2, true, true⟩]) ∧ ∀ j, j < i + 1 + 1 → g1 j = [.int .i64 (if j < i + 1 then V j else roundF nn dd)] := by
  rw [(show iterR P37 G37 A37 K37b 0 6 [(25, litS [.reg [.int .i64 S, .int .i64 R], .own 0 0 0 n none, .own 1 0 0 b (some b), .int .i64 0, .int .i64 top, .int .i64 b, .own 3 i 0 (i + 1) none, .bool fl, .int .i64 ((i + 1 : Nat) : Int), .int .i64 m, .int .i64 nn0, .int .i64 100, .int .i64 0] [⟨0, 2, n, fun j => [.int .i64 (H j), .int .i64 (W j)], true, false⟩, iblk b Y, tab, ⟨i, 1, i + 1, fun j => [.int .i64 (V j)], true, false⟩] (.exit 4) [.reg [.int .i64 S, .int .i64 R], .own 0 0 0 n none, .own 1 0 0 b (some b), .int .i64 0, .int .i64 top, .int .i64 b, .own 3 i 0 (i + 1) none, .bool fl, .int .i64 ((i + 1 : Nat) : Int), .int .i64 nn, .int .i64 dd] [⟨0, 2, n, fun j => [.int .i64 (H j), .int .i64 (W j)], true, false⟩, iblk b Y, tab, ⟨i, 1, i + 1, fun j => [.int .i64 (V j)], true, false⟩])] 19 [.reg [.int .i64 S, .int .i64 R], .own 0 0 0 n none, .own 1 0 0 b (some b), .int .i64 0, .int .i64 top, .int .i64 b, .own 3 i 0 (i + 1) none, .bool fl, .int .i64 ((i + 1 : Nat) : Int)] [⟨0, 2, n, fun j => [.int .i64 (H j), .int .i64 (W j)], true, false⟩, iblk b Y, tab, ⟨i, 1, i + 1, fun j => [.int .i64 (V j)], true, false⟩] =
(    bif decide (Int.ofNat (i + (1 : Nat)) < Int.ofNat b) then
    bif decide ((0 : Int) ≤ IntKind.i64.wrap (Int.ofNat n - (1 : Int))) &&
      decide (IntKind.i64.wrap (Int.ofNat n - (1 : Int)) < Int.ofNat n) then
    bif ((0 : Nat) + (IntKind.i64.wrap (Int.ofNat n - (1 : Int))).toNat).blt n then
    bif sameStF
      [T.reg [T.int IntKind.i64 S, T.int IntKind.i64 R], T.own (0 : Nat) (0 : Nat) (0 : Nat) n none,
        T.own (1 : Nat) (0 : Nat) (0 : Nat) b (some b), T.int IntKind.i64 (0 : Int), T.int IntKind.i64 top,
        T.int IntKind.i64 (Int.ofNat b), T.own (3 : Nat) i (0 : Nat) (i + (1 : Nat)) none, T.bool fl,
        T.int IntKind.i64 (Int.ofNat (i + (1 : Nat))),
        T.int IntKind.i64
          (IntKind.i64.wrap
            ((100 : Int) * IntKind.i64.wrap (IntKind.i64.wrap ((2 : Int) * Int.ofNat (i + (1 : Nat))) + (1 : Int)))),
        T.int IntKind.i64 (IntKind.i64.wrap (W ((0 : Nat) + (IntKind.i64.wrap (Int.ofNat n - (1 : Int))).toNat) * S)),
        T.int IntKind.i64 (100 : Int), T.int IntKind.i64 (0 : Int)]
      [Blk.mk (0 : Nat) (2 : Nat) n (fun j => [T.int IntKind.i64 (H j), T.int IntKind.i64 (W j)]) true false,
        Blk.mk (0 : Nat) (1 : Nat) b (fun j => [T.int IntKind.i64 (Y j)]) true false, tab,
        Blk.mk i (1 : Nat) (i + (1 : Nat)) (fun j => [T.int IntKind.i64 (V j)]) true false]
      [T.reg [T.int IntKind.i64 S, T.int IntKind.i64 R], T.own (0 : Nat) (0 : Nat) (0 : Nat) n none,
        T.own (1 : Nat) (0 : Nat) (0 : Nat) b (some b), T.int IntKind.i64 (0 : Int), T.int IntKind.i64 top,
        T.int IntKind.i64 (Int.ofNat b), T.own (3 : Nat) i (0 : Nat) (i + (1 : Nat)) none, T.bool fl,
        T.int IntKind.i64 (Int.ofNat (i + (1 : Nat))), T.int IntKind.i64 m, T.int IntKind.i64 nn0,
        T.int IntKind.i64 (100 : Int), T.int IntKind.i64 (0 : Int)]
      [Blk.mk (0 : Nat) (2 : Nat) n (fun j => [T.int IntKind.i64 (H j), T.int IntKind.i64 (W j)]) true false,
        Blk.mk (0 : Nat) (1 : Nat) b (fun j => [T.int IntKind.i64 (Y j)]) true false, tab,
        Blk.mk i (1 : Nat) (i + (1 : Nat)) (fun j => [T.int IntKind.i64 (V j)]) true false] then
    bif decide (IntKind.i64.wrap ((2 : Int) * dd) = (0 : Int)) then
    none
    else
    bif decide
      (IntKind.i64.wrap
          ((IntKind.i64.wrap (IntKind.i64.wrap ((2 : Int) * nn) + dd)).tdiv (IntKind.i64.wrap ((2 : Int) * dd))) =
        (0 : Int)) then
    some ((Ex.ret,
      [T.bool false, T.own (1 : Nat) (0 : Nat) (0 : Nat) b (some b), T.int IntKind.i64 (0 : Int),
        T.int IntKind.i64 (Int.ofNat b), T.own (3 : Nat) i (0 : Nat) (i + (1 : Nat)) none, T.bool fl],
      [Blk.mk (0 : Nat) (2 : Nat) n (fun j => [T.int IntKind.i64 (H j), T.int IntKind.i64 (W j)]) true false,
        Blk.mk (0 : Nat) (1 : Nat) b (fun j => [T.int IntKind.i64 (Y j)]) true false, tab,
        Blk.mk i (1 : Nat) (i + (1 : Nat)) (fun j => [T.int IntKind.i64 (V j)]) true false]))
    else
    bif i == i then
    bif true && ((0 : Nat) + (i + (1 : Nat))).ble (i + (1 : Nat)) then
    bif ((i + (1 : Nat) + (1 : Nat)) * (9 : Nat)).ble (70368744177664 : Nat) then
    some ((Ex.normal,
      [T.reg [T.int IntKind.i64 S, T.int IntKind.i64 R], T.own (0 : Nat) (0 : Nat) (0 : Nat) n none,
        T.own (1 : Nat) (0 : Nat) (0 : Nat) b (some b), T.int IntKind.i64 (0 : Int), T.int IntKind.i64 top,
        T.int IntKind.i64 (Int.ofNat b), T.own (3 : Nat) (i + (1 : Nat)) (0 : Nat) (i + (1 : Nat) + (1 : Nat)) none,
        T.bool fl, T.int IntKind.i64 (IntKind.i64.wrap (Int.ofNat (i + (1 : Nat)) + (1 : Int)))],
      [Blk.mk (0 : Nat) (2 : Nat) n (fun j => [T.int IntKind.i64 (H j), T.int IntKind.i64 (W j)]) true false,
        Blk.mk (0 : Nat) (1 : Nat) b (fun j => [T.int IntKind.i64 (Y j)]) true false, tab,
        Blk.mk (i + (1 : Nat)) (1 : Nat) (i + (1 : Nat) + (1 : Nat))
          (fun j =>
            bif j.blt (i + (1 : Nat)) then [T.int IntKind.i64 (V ((0 : Nat) + j))]
            else
              [[T.int IntKind.i64
                        (IntKind.i64.wrap
                          ((IntKind.i64.wrap (IntKind.i64.wrap ((2 : Int) * nn) + dd)).tdiv
                            (IntKind.i64.wrap ((2 : Int) * dd))))]].getD
                ((0 : Nat) + (j - (i + (1 : Nat)))) [])
          true false,
        Blk.mk (0 : Nat) (1 : Nat) (1 : Nat)
          (fun j =>
            [[T.int IntKind.i64
                      (IntKind.i64.wrap
                        ((IntKind.i64.wrap (IntKind.i64.wrap ((2 : Int) * nn) + dd)).tdiv
                          (IntKind.i64.wrap ((2 : Int) * dd))))]].getD
              j [])
          true true]))
    else
    none
    else
    none
    else
    none
    else
    none
    else
    none
    else
    none
    else
    some ((Ex.exit (2 : Nat),
      [T.undef, T.own (1 : Nat) (0 : Nat) (0 : Nat) b (some b), T.int IntKind.i64 (0 : Int),
        T.int IntKind.i64 (Int.ofNat b), T.own (3 : Nat) i (0 : Nat) (i + (1 : Nat)) none, T.bool fl],
      [Blk.mk (0 : Nat) (2 : Nat) n (fun j => [T.int IntKind.i64 (H j), T.int IntKind.i64 (W j)]) true false,
        Blk.mk (0 : Nat) (1 : Nat) b (fun j => [T.int IntKind.i64 (Y j)]) true false, tab,
        Blk.mk i (1 : Nat) (i + (1 : Nat)) (fun j => [T.int IntKind.i64 (V j)]) true false]))) from by kernel_rfl)]
  have en : (Int.ofNat n : Int) = (n : Int) := rfl
  have eb : (Int.ofNat b : Int) = (b : Int) := rfl
  have ei : (Int.ofNat (i + 1) : Int) = (i : Int) + 1 := rfl
  have em : m = 100 * (2 * Int.ofNat (i + 1) + 1) := hm
  have n9 := hs.n9
  have n2 := hs.n2
  have wb := hs.wb (n - 1) (by omega)
  obtain ⟨s1, s2, _, _⟩ := hs.g
  have c1 := mul_bd (p := W (n - 1)) (m := S) (a := 255) (b := 400) (by omega) (by omega) (by omega) (by omega)
  have e1 : (Int.ofNat n - 1).toNat = n - 1 := by omega
  have rb := roundF_bd n1.1 d1.1
  have ev : (2 * nn + dd).tdiv (2 * dd) = roundF nn dd := Int.tdiv_eq_ediv_of_nonneg (by omega)
  rw [dT (show Int.ofNat (i + 1) < Int.ofNat b by omega), wr64 (x := Int.ofNat n - 1) (by omega) (by omega), e1, Nat.zero_add (n - 1), dT (show (0 : Int) ≤ Int.ofNat n - 1 by omega), dT (show Int.ofNat n - 1 < Int.ofNat n by omega), bltT (show n - 1 < n by omega), wr64 (x := W (n - 1) * S) (by omega) (by omega)]
  simp only [Bool.and_self, cond_true]
  refine ⟨fun j => bif j.blt (i + 1) then [T.int .i64 (V (0 + j))] else [[T.int .i64 (roundF nn dd)]].getD (0 + (j - (i + 1))) [], fun j => [[T.int .i64 (roundF nn dd)]].getD j [], ?_, fun j hj => ?_⟩
  rotate_left
  · show (bif j.blt (i + 1) then [T.int .i64 (V (0 + j))] else [[T.int .i64 (roundF nn dd)]].getD (0 + (j - (i + 1))) []) = _
    by_cases q : j < i + 1
    · rw [bltT q, if_pos q, Nat.zero_add]; rfl
    · rw [bltF (by omega), if_neg q, show 0 + (j - (i + 1)) = 0 by omega]; rfl
  rw [wr64 (x := 2 * Int.ofNat (i + 1)) (by omega) (by omega), wr64 (x := 2 * Int.ofNat (i + 1) + 1) (by omega) (by omega), wr64 (x := 100 * (2 * Int.ofNat (i + 1) + 1)) (by omega) (by omega), wr64 (x := Int.ofNat (i + 1) + 1) (by omega) (by omega)]
  refine bift (sameStF_iff.2 ⟨?_, .refl _⟩) ?_
  · rw [h0, em]; try rfl
  rw [wr64 (x := 2 * dd) (by omega) (by omega), wr64 (x := 2 * nn) (by omega) (by omega), wr64 (x := 2 * nn + dd) (by omega) (by omega), ev, wr64 (x := roundF nn dd) (by omega) (by omega), dF (show ¬ 2 * dd = 0 by omega), dF hw]
  simp only [cond_false]
  rw [bleT (show 0 + (i + 1) ≤ i + 1 by omega), bleT (show (i + 1 + 1) * 9 ≤ 70368744177664 by omega)]
  simp only [beq_self_eq_true, Bool.and_self, cond_true]
  rfl
theorem r19z0 (S R top m nn0 nn dd : Int) (H W V Y : Nat → Int) (n i b : Nat) (fl : Bool) (tab : Blk) (hs : Small S R H W n) (hm : m = mid (0)) (h0 : nn0 = W (n - 1) * S) (hi : 0 < b) (hb : b ≤ 400) (n1 : 0 ≤ nn ∧ nn ≤ 200000000000000) (d1 : 1 ≤ dd ∧ dd ≤ 2000000000) (hw : roundF nn dd ≠ 0) :
    ∃ g1 g2, iterR P37 G37 A37 K37b 0 6 [(25, litS [.reg [.int .i64 S, .int .i64 R], .own 0 0 0 n none, .nils, .int .i64 14, .int .i64 top, .int .i64 b, .nils, .bool fl, .int .i64 0, .int .i64 m, .int .i64 nn0, .int .i64 100, .int .i64 0] [⟨0, 2, n, fun j => [.int .i64 (H j), .int .i64 (W j)], true, false⟩] (.exit 4) [.reg [.int .i64 S, .int .i64 R], .own 0 0 0 n none, .nils, .int .i64 14, .int .i64 top, .int .i64 b, .nils, .bool fl, .int .i64 0, .int .i64 nn, .int .i64 dd] [⟨0, 2, n, fun j => [.int .i64 (H j), .int .i64 (W j)], true, false⟩])] 19 [.reg [.int .i64 S, .int .i64 R], .own 0 0 0 n none, .nils, .int .i64 14, .int .i64 top, .int .i64 b, .nils, .bool fl, .int .i64 0] [⟨0, 2, n, fun j => [.int .i64 (H j), .int .i64 (W j)], true, false⟩] =
    some (.normal, [.reg [.int .i64 S, .int .i64 R], .own 0 0 0 n none, .nils, .int .i64 14, .int .i64 top, .int .i64 b, .own 2 0 0 1 none, .bool fl, .int .i64 ((0 + 1 : Nat) : Int)], [⟨0, 2, n, fun j => [.int .i64 (H j), .int .i64 (W j)], true, false⟩, ⟨0, 1, 1, g2, true, true⟩, ⟨0, 1, 1, g1, true, false⟩]) ∧ ∀ j, j < 0 + 1 → g1 j = [.int .i64 (if j < 0 then V j else roundF nn dd)] := by
  rw [(show iterR P37 G37 A37 K37b 0 6 [(25, litS [.reg [.int .i64 S, .int .i64 R], .own 0 0 0 n none, .nils, .int .i64 14, .int .i64 top, .int .i64 b, .nils, .bool fl, .int .i64 0, .int .i64 m, .int .i64 nn0, .int .i64 100, .int .i64 0] [⟨0, 2, n, fun j => [.int .i64 (H j), .int .i64 (W j)], true, false⟩] (.exit 4) [.reg [.int .i64 S, .int .i64 R], .own 0 0 0 n none, .nils, .int .i64 14, .int .i64 top, .int .i64 b, .nils, .bool fl, .int .i64 0, .int .i64 nn, .int .i64 dd] [⟨0, 2, n, fun j => [.int .i64 (H j), .int .i64 (W j)], true, false⟩])] 19 [.reg [.int .i64 S, .int .i64 R], .own 0 0 0 n none, .nils, .int .i64 14, .int .i64 top, .int .i64 b, .nils, .bool fl, .int .i64 0] [⟨0, 2, n, fun j => [.int .i64 (H j), .int .i64 (W j)], true, false⟩] =
(    bif decide ((0 : Int) < Int.ofNat b) then
    bif decide ((0 : Int) ≤ IntKind.i64.wrap (Int.ofNat n - (1 : Int))) &&
      decide (IntKind.i64.wrap (Int.ofNat n - (1 : Int)) < Int.ofNat n) then
    bif ((0 : Nat) + (IntKind.i64.wrap (Int.ofNat n - (1 : Int))).toNat).blt n then
    bif sameStF
      [T.reg [T.int IntKind.i64 S, T.int IntKind.i64 R], T.own (0 : Nat) (0 : Nat) (0 : Nat) n none, T.nils,
        T.int IntKind.i64 (14 : Int), T.int IntKind.i64 top, T.int IntKind.i64 (Int.ofNat b), T.nils, T.bool fl,
        T.int IntKind.i64 (0 : Int), T.int IntKind.i64 (100 : Int),
        T.int IntKind.i64 (IntKind.i64.wrap (W ((0 : Nat) + (IntKind.i64.wrap (Int.ofNat n - (1 : Int))).toNat) * S)),
        T.int IntKind.i64 (100 : Int), T.int IntKind.i64 (0 : Int)]
      [Blk.mk (0 : Nat) (2 : Nat) n (fun j => [T.int IntKind.i64 (H j), T.int IntKind.i64 (W j)]) true false]
      [T.reg [T.int IntKind.i64 S, T.int IntKind.i64 R], T.own (0 : Nat) (0 : Nat) (0 : Nat) n none, T.nils,
        T.int IntKind.i64 (14 : Int), T.int IntKind.i64 top, T.int IntKind.i64 (Int.ofNat b), T.nils, T.bool fl,
        T.int IntKind.i64 (0 : Int), T.int IntKind.i64 m, T.int IntKind.i64 nn0, T.int IntKind.i64 (100 : Int),
        T.int IntKind.i64 (0 : Int)]
      [Blk.mk (0 : Nat) (2 : Nat) n (fun j => [T.int IntKind.i64 (H j), T.int IntKind.i64 (W j)]) true false] then
    bif decide (IntKind.i64.wrap ((2 : Int) * dd) = (0 : Int)) then
    none
    else
    bif decide
      (IntKind.i64.wrap
          ((IntKind.i64.wrap (IntKind.i64.wrap ((2 : Int) * nn) + dd)).tdiv (IntKind.i64.wrap ((2 : Int) * dd))) =
        (0 : Int)) then
    some ((Ex.ret, [T.bool true, T.nils, T.int IntKind.i64 (14 : Int), T.int IntKind.i64 (Int.ofNat b), T.nils, T.bool fl],
      [Blk.mk (0 : Nat) (2 : Nat) n (fun j => [T.int IntKind.i64 (H j), T.int IntKind.i64 (W j)]) true false]))
    else
    some ((Ex.normal,
      [T.reg [T.int IntKind.i64 S, T.int IntKind.i64 R], T.own (0 : Nat) (0 : Nat) (0 : Nat) n none, T.nils,
        T.int IntKind.i64 (14 : Int), T.int IntKind.i64 top, T.int IntKind.i64 (Int.ofNat b),
        T.own
          [Blk.mk (0 : Nat) (2 : Nat) n (fun j => [T.int IntKind.i64 (H j), T.int IntKind.i64 (W j)]) true false,
              Blk.mk (0 : Nat) (1 : Nat) (1 : Nat)
                (fun j =>
                  [[T.int IntKind.i64
                            (IntKind.i64.wrap
                              ((IntKind.i64.wrap (IntKind.i64.wrap ((2 : Int) * nn) + dd)).tdiv
                                (IntKind.i64.wrap ((2 : Int) * dd))))]].getD
                    j [])
                true true].length
          (0 : Nat) (0 : Nat) (1 : Nat) none,
        T.bool fl, T.int IntKind.i64 (1 : Int)],
      [Blk.mk (0 : Nat) (2 : Nat) n (fun j => [T.int IntKind.i64 (H j), T.int IntKind.i64 (W j)]) true false,
        Blk.mk (0 : Nat) (1 : Nat) (1 : Nat)
          (fun j =>
            [[T.int IntKind.i64
                      (IntKind.i64.wrap
                        ((IntKind.i64.wrap (IntKind.i64.wrap ((2 : Int) * nn) + dd)).tdiv
                          (IntKind.i64.wrap ((2 : Int) * dd))))]].getD
              j [])
          true true,
        Blk.mk (0 : Nat) (1 : Nat) (1 : Nat)
          (fun j =>
            [[T.int IntKind.i64
                      (IntKind.i64.wrap
                        ((IntKind.i64.wrap (IntKind.i64.wrap ((2 : Int) * nn) + dd)).tdiv
                          (IntKind.i64.wrap ((2 : Int) * dd))))]].getD
              ((0 : Nat) + j) [])
          true false]))
    else
    none
    else
    none
    else
    none
    else
    some ((Ex.exit (2 : Nat),
      [T.undef, T.nils, T.int IntKind.i64 (14 : Int), T.int IntKind.i64 (Int.ofNat b), T.nils, T.bool fl],
      [Blk.mk (0 : Nat) (2 : Nat) n (fun j => [T.int IntKind.i64 (H j), T.int IntKind.i64 (W j)]) true false]))) from by kernel_rfl)]
  have en : (Int.ofNat n : Int) = (n : Int) := rfl
  have eb : (Int.ofNat b : Int) = (b : Int) := rfl
  have ei : (Int.ofNat (i + 1) : Int) = (i : Int) + 1 := rfl
  have em : m = 100 * (2 * (0 : Int) + 1) := hm
  have n9 := hs.n9
  have n2 := hs.n2
  have wb := hs.wb (n - 1) (by omega)
  obtain ⟨s1, s2, _, _⟩ := hs.g
  have c1 := mul_bd (p := W (n - 1)) (m := S) (a := 255) (b := 400) (by omega) (by omega) (by omega) (by omega)
  have e1 : (Int.ofNat n - 1).toNat = n - 1 := by omega
  have rb := roundF_bd n1.1 d1.1
  have ev : (2 * nn + dd).tdiv (2 * dd) = roundF nn dd := Int.tdiv_eq_ediv_of_nonneg (by omega)
  rw [dT (show (0 : Int) < Int.ofNat b by omega), wr64 (x := Int.ofNat n - 1) (by omega) (by omega), e1, Nat.zero_add (n - 1), dT (show (0 : Int) ≤ Int.ofNat n - 1 by omega), dT (show Int.ofNat n - 1 < Int.ofNat n by omega), bltT (show n - 1 < n by omega), wr64 (x := W (n - 1) * S) (by omega) (by omega)]
  simp only [Bool.and_self, cond_true]
  refine ⟨fun j => [[T.int .i64 (roundF nn dd)]].getD (0 + j) [], fun j => [[T.int .i64 (roundF nn dd)]].getD j [], ?_, fun j hj => ?_⟩
  rotate_left
  · obtain rfl : j = 0 := by omega
    rfl
  skip
  refine bift (sameStF_iff.2 ⟨?_, .refl _⟩) ?_
  · rw [h0, em]; try rfl
  rw [wr64 (x := 2 * dd) (by omega) (by omega), wr64 (x := 2 * nn) (by omega) (by omega), wr64 (x := 2 * nn + dd) (by omega) (by omega), ev, wr64 (x := roundF nn dd) (by omega) (by omega), dF (show ¬ 2 * dd = 0 by omega), dF hw]
  simp only [cond_false]
  rfl
theorem r19z (S R top m nn0 nn dd : Int) (H W V Y : Nat → Int) (n i b : Nat) (fl : Bool) (tab : Blk) (hs : Small S R H W n) (hm : m = mid (i + 1)) (h0 : nn0 = W (n - 1) * S) (hi : i + 1 < b) (hb : b ≤ 400) (n1 : 0 ≤ nn ∧ nn ≤ 200000000000000) (d1 : 1 ≤ dd ∧ dd ≤ 2000000000) (hw : roundF nn dd ≠ 0) :
    ∃ g1 g2, iterR P37 G37 A37 K37b 0 6 [(25, litS [.reg [.int .i64 S, .int .i64 R], .own 0 0 0 n none, .nils, .int .i64 14, .int .i64 top, .int .i64 b, .own 2 i 0 (i + 1) none, .bool fl, .int .i64 ((i + 1 : Nat) : Int), .int .i64 m, .int .i64 nn0, .int .i64 100, .int .i64 0] [⟨0, 2, n, fun j => [.int .i64 (H j), .int .i64 (W j)], true, false⟩, tab, ⟨i, 1, i + 1, fun j => [.int .i64 (V j)], true, false⟩] (.exit 4) [.reg [.int .i64 S, .int .i64 R], .own 0 0 0 n none, .nils, .int .i64 14, .int .i64 top, .int .i64 b, .own 2 i 0 (i + 1) none, .bool fl, .int .i64 ((i + 1 : Nat) : Int), .int .i64 nn, .int .i64 dd] [⟨0, 2, n, fun j => [.int .i64 (H j), .int .i64 (W j)], true, false⟩, tab, ⟨i, 1, i + 1, fun j => [.int .i64 (V j)], true, false⟩])] 19 [.reg [.int .i64 S, .int .i64 R], .own 0 0 0 n none, .nils, .int .i64 14, .int .i64 top, .int .i64 b, .own 2 i 0 (i + 1) none, .bool fl, .int .i64 ((i + 1 : Nat) : Int)] [⟨0, 2, n, fun j => [.int .i64 (H j), .int .i64 (W j)], true, false⟩, tab, ⟨i, 1, i + 1, fun j => [.int .i64 (V j)], true, false⟩] =
    some (.normal, [.reg [.int .i64 S, .int .i64 R], .own 0 0 0 n none, .nils, .int .i64 14, .int .i64 top, .int .i64 b, .own 2 (i + 1) 0 (i + 2) none, .bool fl, .int .i64 ((i + 1 + 1 : Nat) : Int)], [⟨0, 2, n, fun j => [.int .i64 (H j), .int .i64 (W j)], true, false⟩, tab, ⟨i + 1, 1, i + 2, g1, true, false⟩, ⟨0, 1, 1, g2, true, true⟩]) ∧ ∀ j, j < i + 1 + 1 → g1 j = [.int .i64 (if j < i + 1 then V j else roundF nn dd)] := by
  rw [(show iterR P37 G37 A37 K37b 0 6 [(25, litS [.reg [.int .i64 S, .int .i64 R], .own 0 0 0 n none, .nils, .int .i64 14, .int .i64 top, .int .i64 b, .own 2 i 0 (i + 1) none, .bool fl, .int .i64 ((i + 1 : Nat) : Int), .int .i64 m, .int .i64 nn0, .int .i64 100, .int .i64 0] [⟨0, 2, n, fun j => [.int .i64 (H j), .int .i64 (W j)], true, false⟩, tab, ⟨i, 1, i + 1, fun j => [.int .i64 (V j)], true, false⟩] (.exit 4) [.reg [.int .i64 S, .int .i64 R], .own 0 0 0 n none, .nils, .int .i64 14, .int .i64 top, .int .i64 b, .own 2 i 0 (i + 1) none, .bool fl, .int .i64 ((i + 1 : Nat) : Int), .int .i64 nn, .int .i64 dd] [⟨0, 2, n, fun j => [.int .i64 (H j), .int .i64 (W j)], true, false⟩, tab, ⟨i, 1, i + 1, fun j => [.int .i64 (V j)], true, false⟩])] 19 [.reg [.int .i64 S, .int .i64 R], .own 0 0 0 n none, .nils, .int .i64 14, .int .i64 top, .int .i64 b, .own 2 i 0 (i + 1) none, .bool fl, .int .i64 ((i + 1 : Nat) : Int)] [⟨0, 2, n, fun j => [.int .i64 (H j), .int .i64 (W j)], true, false⟩, tab, ⟨i, 1, i + 1, fun j => [.int .i64 (V j)], true, false⟩] =
(    bif decide (Int.ofNat (i + (1 : Nat)) < Int.ofNat b) then
    bif decide ((0 : Int) ≤ IntKind.i64.wrap (Int.ofNat n - (1 : Int))) &&
      decide (IntKind.i64.wrap (Int.ofNat n - (1 : Int)) < Int.ofNat n) then
    bif ((0 : Nat) + (IntKind.i64.wrap (Int.ofNat n - (1 : Int))).toNat).blt n then
    bif sameStF
      [T.reg [T.int IntKind.i64 S, T.int IntKind.i64 R], T.own (0 : Nat) (0 : Nat) (0 : Nat) n none, T.nils,
        T.int IntKind.i64 (14 : Int), T.int IntKind.i64 top, T.int IntKind.i64 (Int.ofNat b),
        T.own (2 : Nat) i (0 : Nat) (i + (1 : Nat)) none, T.bool fl, T.int IntKind.i64 (Int.ofNat (i + (1 : Nat))),
        T.int IntKind.i64
          (IntKind.i64.wrap
            ((100 : Int) * IntKind.i64.wrap (IntKind.i64.wrap ((2 : Int) * Int.ofNat (i + (1 : Nat))) + (1 : Int)))),
        T.int IntKind.i64 (IntKind.i64.wrap (W ((0 : Nat) + (IntKind.i64.wrap (Int.ofNat n - (1 : Int))).toNat) * S)),
        T.int IntKind.i64 (100 : Int), T.int IntKind.i64 (0 : Int)]
      [Blk.mk (0 : Nat) (2 : Nat) n (fun j => [T.int IntKind.i64 (H j), T.int IntKind.i64 (W j)]) true false, tab,
        Blk.mk i (1 : Nat) (i + (1 : Nat)) (fun j => [T.int IntKind.i64 (V j)]) true false]
      [T.reg [T.int IntKind.i64 S, T.int IntKind.i64 R], T.own (0 : Nat) (0 : Nat) (0 : Nat) n none, T.nils,
        T.int IntKind.i64 (14 : Int), T.int IntKind.i64 top, T.int IntKind.i64 (Int.ofNat b),
        T.own (2 : Nat) i (0 : Nat) (i + (1 : Nat)) none, T.bool fl, T.int IntKind.i64 (Int.ofNat (i + (1 : Nat))),
        T.int IntKind.i64 m, T.int IntKind.i64 nn0, T.int IntKind.i64 (100 : Int), T.int IntKind.i64 (0 : Int)]
      [Blk.mk (0 : Nat) (2 : Nat) n (fun j => [T.int IntKind.i64 (H j), T.int IntKind.i64 (W j)]) true false, tab,
        Blk.mk i (1 : Nat) (i + (1 : Nat)) (fun j => [T.int IntKind.i64 (V j)]) true false] then
    bif decide (IntKind.i64.wrap ((2 : Int) * dd) = (0 : Int)) then
    none
    else
    bif decide
      (IntKind.i64.wrap
          ((IntKind.i64.wrap (IntKind.i64.wrap ((2 : Int) * nn) + dd)).tdiv (IntKind.i64.wrap ((2 : Int) * dd))) =
        (0 : Int)) then
    some ((Ex.ret,
      [T.bool true, T.nils, T.int IntKind.i64 (14 : Int), T.int IntKind.i64 (Int.ofNat b),
        T.own (2 : Nat) i (0 : Nat) (i + (1 : Nat)) none, T.bool fl],
      [Blk.mk (0 : Nat) (2 : Nat) n (fun j => [T.int IntKind.i64 (H j), T.int IntKind.i64 (W j)]) true false, tab,
        Blk.mk i (1 : Nat) (i + (1 : Nat)) (fun j => [T.int IntKind.i64 (V j)]) true false]))
    else
    bif i == i then
    bif true && ((0 : Nat) + (i + (1 : Nat))).ble (i + (1 : Nat)) then
    bif ((i + (1 : Nat) + (1 : Nat)) * (9 : Nat)).ble (70368744177664 : Nat) then
    some ((Ex.normal,
      [T.reg [T.int IntKind.i64 S, T.int IntKind.i64 R], T.own (0 : Nat) (0 : Nat) (0 : Nat) n none, T.nils,
        T.int IntKind.i64 (14 : Int), T.int IntKind.i64 top, T.int IntKind.i64 (Int.ofNat b),
        T.own (2 : Nat) (i + (1 : Nat)) (0 : Nat) (i + (1 : Nat) + (1 : Nat)) none, T.bool fl,
        T.int IntKind.i64 (IntKind.i64.wrap (Int.ofNat (i + (1 : Nat)) + (1 : Int)))],
      [Blk.mk (0 : Nat) (2 : Nat) n (fun j => [T.int IntKind.i64 (H j), T.int IntKind.i64 (W j)]) true false, tab,
        Blk.mk (i + (1 : Nat)) (1 : Nat) (i + (1 : Nat) + (1 : Nat))
          (fun j =>
            bif j.blt (i + (1 : Nat)) then [T.int IntKind.i64 (V ((0 : Nat) + j))]
            else
              [[T.int IntKind.i64
                        (IntKind.i64.wrap
                          ((IntKind.i64.wrap (IntKind.i64.wrap ((2 : Int) * nn) + dd)).tdiv
                            (IntKind.i64.wrap ((2 : Int) * dd))))]].getD
                ((0 : Nat) + (j - (i + (1 : Nat)))) [])
          true false,
        Blk.mk (0 : Nat) (1 : Nat) (1 : Nat)
          (fun j =>
            [[T.int IntKind.i64
                      (IntKind.i64.wrap
                        ((IntKind.i64.wrap (IntKind.i64.wrap ((2 : Int) * nn) + dd)).tdiv
                          (IntKind.i64.wrap ((2 : Int) * dd))))]].getD
              j [])
          true true]))
    else
    none
    else
    none
    else
    none
    else
    none
    else
    none
    else
    none
    else
    some ((Ex.exit (2 : Nat),
      [T.undef, T.nils, T.int IntKind.i64 (14 : Int), T.int IntKind.i64 (Int.ofNat b),
        T.own (2 : Nat) i (0 : Nat) (i + (1 : Nat)) none, T.bool fl],
      [Blk.mk (0 : Nat) (2 : Nat) n (fun j => [T.int IntKind.i64 (H j), T.int IntKind.i64 (W j)]) true false, tab,
        Blk.mk i (1 : Nat) (i + (1 : Nat)) (fun j => [T.int IntKind.i64 (V j)]) true false]))) from by kernel_rfl)]
  have en : (Int.ofNat n : Int) = (n : Int) := rfl
  have eb : (Int.ofNat b : Int) = (b : Int) := rfl
  have ei : (Int.ofNat (i + 1) : Int) = (i : Int) + 1 := rfl
  have em : m = 100 * (2 * Int.ofNat (i + 1) + 1) := hm
  have n9 := hs.n9
  have n2 := hs.n2
  have wb := hs.wb (n - 1) (by omega)
  obtain ⟨s1, s2, _, _⟩ := hs.g
  have c1 := mul_bd (p := W (n - 1)) (m := S) (a := 255) (b := 400) (by omega) (by omega) (by omega) (by omega)
  have e1 : (Int.ofNat n - 1).toNat = n - 1 := by omega
  have rb := roundF_bd n1.1 d1.1
  have ev : (2 * nn + dd).tdiv (2 * dd) = roundF nn dd := Int.tdiv_eq_ediv_of_nonneg (by omega)
  rw [dT (show Int.ofNat (i + 1) < Int.ofNat b by omega), wr64 (x := Int.ofNat n - 1) (by omega) (by omega), e1, Nat.zero_add (n - 1), dT (show (0 : Int) ≤ Int.ofNat n - 1 by omega), dT (show Int.ofNat n - 1 < Int.ofNat n by omega), bltT (show n - 1 < n by omega), wr64 (x := W (n - 1) * S) (by omega) (by omega)]
  simp only [Bool.and_self, cond_true]
  refine ⟨fun j => bif j.blt (i + 1) then [T.int .i64 (V (0 + j))] else [[T.int .i64 (roundF nn dd)]].getD (0 + (j - (i + 1))) [], fun j => [[T.int .i64 (roundF nn dd)]].getD j [], ?_, fun j hj => ?_⟩
  rotate_left
  · show (bif j.blt (i + 1) then [T.int .i64 (V (0 + j))] else [[T.int .i64 (roundF nn dd)]].getD (0 + (j - (i + 1))) []) = _
    by_cases q : j < i + 1
    · rw [bltT q, if_pos q, Nat.zero_add]; rfl
    · rw [bltF (by omega), if_neg q, show 0 + (j - (i + 1)) = 0 by omega]; rfl
  rw [wr64 (x := 2 * Int.ofNat (i + 1)) (by omega) (by omega), wr64 (x := 2 * Int.ofNat (i + 1) + 1) (by omega) (by omega), wr64 (x := 100 * (2 * Int.ofNat (i + 1) + 1)) (by omega) (by omega), wr64 (x := Int.ofNat (i + 1) + 1) (by omega) (by omega)]
  refine bift (sameStF_iff.2 ⟨?_, .refl _⟩) ?_
  · rw [h0, em]; try rfl
  rw [wr64 (x := 2 * dd) (by omega) (by omega), wr64 (x := 2 * nn) (by omega) (by omega), wr64 (x := 2 * nn + dd) (by omega) (by omega), ev, wr64 (x := roundF nn dd) (by omega) (by omega), dF (show ¬ 2 * dd = 0 by omega), dF hw]
  simp only [cond_false]
  rw [bleT (show 0 + (i + 1) ≤ i + 1 by omega), bleT (show (i + 1 + 1) * 9 ≤ 70368744177664 by omega)]
  simp only [beq_self_eq_true, Bool.and_self, cond_true]
  rfl
theorem r19e0 (S R top m nn0 nn dd : Int) (H W V : Nat → Int) (n i b : Nat) (fl : Bool) (tab : Blk) (hs : Small S R H W n) (hm : m = mid (0)) (h0 : nn0 = W (n - 1) * S) (hi : 0 < b) (hb : b ≤ 400) (n1 : 0 ≤ nn ∧ nn ≤ 200000000000000) (d1 : 1 ≤ dd ∧ dd ≤ 2000000000) (hw : roundF nn dd = 0) :
    iterR P37 G37 A37 K37b 0 6 [(25, litS [.reg [.int .i64 S, .int .i64 R], .own 0 0 0 n none, .nils, .int .i64 14, .int .i64 top, .int .i64 b, .nils, .bool fl, .int .i64 0, .int .i64 m, .int .i64 nn0, .int .i64 100, .int .i64 0] [⟨0, 2, n, fun j => [.int .i64 (H j), .int .i64 (W j)], true, false⟩] (.exit 4) [.reg [.int .i64 S, .int .i64 R], .own 0 0 0 n none, .nils, .int .i64 14, .int .i64 top, .int .i64 b, .nils, .bool fl, .int .i64 0, .int .i64 nn, .int .i64 dd] [⟨0, 2, n, fun j => [.int .i64 (H j), .int .i64 (W j)], true, false⟩])] 19 [.reg [.int .i64 S, .int .i64 R], .own 0 0 0 n none, .nils, .int .i64 14, .int .i64 top, .int .i64 b, .nils, .bool fl, .int .i64 0] [⟨0, 2, n, fun j => [.int .i64 (H j), .int .i64 (W j)], true, false⟩] = some (.ret, [.bool true, .nils, .int .i64 14, .int .i64 b, .nils, .bool fl], [⟨0, 2, n, fun j => [.int .i64 (H j), .int .i64 (W j)], true, false⟩]) := by
  rw [(show iterR P37 G37 A37 K37b 0 6 [(25, litS [.reg [.int .i64 S, .int .i64 R], .own 0 0 0 n none, .nils, .int .i64 14, .int .i64 top, .int .i64 b, .nils, .bool fl, .int .i64 0, .int .i64 m, .int .i64 nn0, .int .i64 100, .int .i64 0] [⟨0, 2, n, fun j => [.int .i64 (H j), .int .i64 (W j)], true, false⟩] (.exit 4) [.reg [.int .i64 S, .int .i64 R], .own 0 0 0 n none, .nils, .int .i64 14, .int .i64 top, .int .i64 b, .nils, .bool fl, .int .i64 0, .int .i64 nn, .int .i64 dd] [⟨0, 2, n, fun j => [.int .i64 (H j), .int .i64 (W j)], true, false⟩])] 19 [.reg [.int .i64 S, .int .i64 R], .own 0 0 0 n none, .nils, .int .i64 14, .int .i64 top, .int .i64 b, .nils, .bool fl, .int .i64 0] [⟨0, 2, n, fun j => [.int .i64 (H j), .int .i64 (W j)], true, false⟩] =
(    bif decide ((0 : Int) < Int.ofNat b) then
    bif decide ((0 : Int) ≤ IntKind.i64.wrap (Int.ofNat n - (1 : Int))) &&
      decide (IntKind.i64.wrap (Int.ofNat n - (1 : Int)) < Int.ofNat n) then
    bif ((0 : Nat) + (IntKind.i64.wrap (Int.ofNat n - (1 : Int))).toNat).blt n then
    bif sameStF
      [T.reg [T.int IntKind.i64 S, T.int IntKind.i64 R], T.own (0 : Nat) (0 : Nat) (0 : Nat) n none, T.nils,
        T.int IntKind.i64 (14 : Int), T.int IntKind.i64 top, T.int IntKind.i64 (Int.ofNat b), T.nils, T.bool fl,
        T.int IntKind.i64 (0 : Int), T.int IntKind.i64 (100 : Int),
        T.int IntKind.i64 (IntKind.i64.wrap (W ((0 : Nat) + (IntKind.i64.wrap (Int.ofNat n - (1 : Int))).toNat) * S)),
        T.int IntKind.i64 (100 : Int), T.int IntKind.i64 (0 : Int)]
      [Blk.mk (0 : Nat) (2 : Nat) n (fun j => [T.int IntKind.i64 (H j), T.int IntKind.i64 (W j)]) true false]
      [T.reg [T.int IntKind.i64 S, T.int IntKind.i64 R], T.own (0 : Nat) (0 : Nat) (0 : Nat) n none, T.nils,
        T.int IntKind.i64 (14 : Int), T.int IntKind.i64 top, T.int IntKind.i64 (Int.ofNat b), T.nils, T.bool fl,
        T.int IntKind.i64 (0 : Int), T.int IntKind.i64 m, T.int IntKind.i64 nn0, T.int IntKind.i64 (100 : Int),
        T.int IntKind.i64 (0 : Int)]
      [Blk.mk (0 : Nat) (2 : Nat) n (fun j => [T.int IntKind.i64 (H j), T.int IntKind.i64 (W j)]) true false] then
    bif decide (IntKind.i64.wrap ((2 : Int) * dd) = (0 : Int)) then
    none
    else
    bif decide
      (IntKind.i64.wrap
          ((IntKind.i64.wrap (IntKind.i64.wrap ((2 : Int) * nn) + dd)).tdiv (IntKind.i64.wrap ((2 : Int) * dd))) =
        (0 : Int)) then
    some ((Ex.ret, [T.bool true, T.nils, T.int IntKind.i64 (14 : Int), T.int IntKind.i64 (Int.ofNat b), T.nils, T.bool fl],
      [Blk.mk (0 : Nat) (2 : Nat) n (fun j => [T.int IntKind.i64 (H j), T.int IntKind.i64 (W j)]) true false]))
    else
    some ((Ex.normal,
      [T.reg [T.int IntKind.i64 S, T.int IntKind.i64 R], T.own (0 : Nat) (0 : Nat) (0 : Nat) n none, T.nils,
        T.int IntKind.i64 (14 : Int), T.int IntKind.i64 top, T.int IntKind.i64 (Int.ofNat b),
        T.own
          [Blk.mk (0 : Nat) (2 : Nat) n (fun j => [T.int IntKind.i64 (H j), T.int IntKind.i64 (W j)]) true false,
              Blk.mk (0 : Nat) (1 : Nat) (1 : Nat)
                (fun j =>
                  [[T.int IntKind.i64
                            (IntKind.i64.wrap
                              ((IntKind.i64.wrap (IntKind.i64.wrap ((2 : Int) * nn) + dd)).tdiv
                                (IntKind.i64.wrap ((2 : Int) * dd))))]].getD
                    j [])
                true true].length
          (0 : Nat) (0 : Nat) (1 : Nat) none,
        T.bool fl, T.int IntKind.i64 (1 : Int)],
      [Blk.mk (0 : Nat) (2 : Nat) n (fun j => [T.int IntKind.i64 (H j), T.int IntKind.i64 (W j)]) true false,
        Blk.mk (0 : Nat) (1 : Nat) (1 : Nat)
          (fun j =>
            [[T.int IntKind.i64
                      (IntKind.i64.wrap
                        ((IntKind.i64.wrap (IntKind.i64.wrap ((2 : Int) * nn) + dd)).tdiv
                          (IntKind.i64.wrap ((2 : Int) * dd))))]].getD
              j [])
          true true,
        Blk.mk (0 : Nat) (1 : Nat) (1 : Nat)
          (fun j =>
            [[T.int IntKind.i64
                      (IntKind.i64.wrap
                        ((IntKind.i64.wrap (IntKind.i64.wrap ((2 : Int) * nn) + dd)).tdiv
                          (IntKind.i64.wrap ((2 : Int) * dd))))]].getD
              ((0 : Nat) + j) [])
          true false]))
    else
    none
    else
    none
    else
    none
    else
    some ((Ex.exit (2 : Nat),
      [T.undef, T.nils, T.int IntKind.i64 (14 : Int), T.int IntKind.i64 (Int.ofNat b), T.nils, T.bool fl],
      [Blk.mk (0 : Nat) (2 : Nat) n (fun j => [T.int IntKind.i64 (H j), T.int IntKind.i64 (W j)]) true false]))) from by kernel_rfl)]
  have en : (Int.ofNat n : Int) = (n : Int) := rfl
  have eb : (Int.ofNat b : Int) = (b : Int) := rfl
  have ei : (Int.ofNat (i + 1) : Int) = (i : Int) + 1 := rfl
  have em : m = 100 * (2 * (0 : Int) + 1) := hm
  have n9 := hs.n9
  have n2 := hs.n2
  have wb := hs.wb (n - 1) (by omega)
  obtain ⟨s1, s2, _, _⟩ := hs.g
  have c1 := mul_bd (p := W (n - 1)) (m := S) (a := 255) (b := 400) (by omega) (by omega) (by omega) (by omega)
  have e1 : (Int.ofNat n - 1).toNat = n - 1 := by omega
  have rb := roundF_bd n1.1 d1.1
  have ev : (2 * nn + dd).tdiv (2 * dd) = roundF nn dd := Int.tdiv_eq_ediv_of_nonneg (by omega)
  rw [dT (show (0 : Int) < Int.ofNat b by omega), wr64 (x := Int.ofNat n - 1) (by omega) (by omega), e1, Nat.zero_add (n - 1), dT (show (0 : Int) ≤ Int.ofNat n - 1 by omega), dT (show Int.ofNat n - 1 < Int.ofNat n by omega), bltT (show n - 1 < n by omega), wr64 (x := W (n - 1) * S) (by omega) (by omega)]
  simp only [Bool.and_self, cond_true]
  skip
  refine bift (sameStF_iff.2 ⟨?_, .refl _⟩) ?_
  · rw [h0, em]; try rfl
  rw [wr64 (x := 2 * dd) (by omega) (by omega), wr64 (x := 2 * nn) (by omega) (by omega), wr64 (x := 2 * nn + dd) (by omega) (by omega), ev, wr64 (x := roundF nn dd) (by omega) (by omega), dF (show ¬ 2 * dd = 0 by omega), dT hw]
  rfl
theorem r19e (S R top m nn0 nn dd : Int) (H W V : Nat → Int) (n i b : Nat) (fl : Bool) (tab : Blk) (hs : Small S R H W n) (hm : m = mid (i + 1)) (h0 : nn0 = W (n - 1) * S) (hi : i + 1 < b) (hb : b ≤ 400) (n1 : 0 ≤ nn ∧ nn ≤ 200000000000000) (d1 : 1 ≤ dd ∧ dd ≤ 2000000000) (hw : roundF nn dd = 0) :
    iterR P37 G37 A37 K37b 0 6 [(25, litS [.reg [.int .i64 S, .int .i64 R], .own 0 0 0 n none, .nils, .int .i64 14, .int .i64 top, .int .i64 b, .own 2 i 0 (i + 1) none, .bool fl, .int .i64 ((i + 1 : Nat) : Int), .int .i64 m, .int .i64 nn0, .int .i64 100, .int .i64 0] [⟨0, 2, n, fun j => [.int .i64 (H j), .int .i64 (W j)], true, false⟩, tab, ⟨i, 1, i + 1, fun j => [.int .i64 (V j)], true, false⟩] (.exit 4) [.reg [.int .i64 S, .int .i64 R], .own 0 0 0 n none, .nils, .int .i64 14, .int .i64 top, .int .i64 b, .own 2 i 0 (i + 1) none, .bool fl, .int .i64 ((i + 1 : Nat) : Int), .int .i64 nn, .int .i64 dd] [⟨0, 2, n, fun j => [.int .i64 (H j), .int .i64 (W j)], true, false⟩, tab, ⟨i, 1, i + 1, fun j => [.int .i64 (V j)], true, false⟩])] 19 [.reg [.int .i64 S, .int .i64 R], .own 0 0 0 n none, .nils, .int .i64 14, .int .i64 top, .int .i64 b, .own 2 i 0 (i + 1) none, .bool fl, .int .i64 ((i + 1 : Nat) : Int)] [⟨0, 2, n, fun j => [.int .i64 (H j), .int .i64 (W j)], true, false⟩, tab, ⟨i, 1, i + 1, fun j => [.int .i64 (V j)], true, false⟩] = some (.ret, [.bool true, .nils, .int .i64 14, .int .i64 b, .own 2 i 0 (i + 1) none, .bool fl], [⟨0, 2, n, fun j => [.int .i64 (H j), .int .i64 (W j)], true, false⟩, tab, ⟨i, 1, i + 1, fun j => [.int .i64 (V j)], true, false⟩]) := by
  rw [(show iterR P37 G37 A37 K37b 0 6 [(25, litS [.reg [.int .i64 S, .int .i64 R], .own 0 0 0 n none, .nils, .int .i64 14, .int .i64 top, .int .i64 b, .own 2 i 0 (i + 1) none, .bool fl, .int .i64 ((i + 1 : Nat) : Int), .int .i64 m, .int .i64 nn0, .int .i64 100, .int .i64 0] [⟨0, 2, n, fun j => [.int .i64 (H j), .int .i64 (W j)], true, false⟩, tab, ⟨i, 1, i + 1, fun j => [.int .i64 (V j)], true, false⟩] (.exit 4) [.reg [.int .i64 S, .int .i64 R], .own 0 0 0 n none, .nils, .int .i64 14, .int .i64 top, .int .i64 b, .own 2 i 0 (i + 1) none, .bool fl, .int .i64 ((i + 1 : Nat) : Int), .int .i64 nn, .int .i64 dd] [⟨0, 2, n, fun j => [.int .i64 (H j), .int .i64 (W j)], true, false⟩, tab, ⟨i, 1, i + 1, fun j => [.int .i64 (V j)], true, false⟩])] 19 [.reg [.int .i64 S, .int .i64 R], .own 0 0 0 n none, .nils, .int .i64 14, .int .i64 top, .int .i64 b, .own 2 i 0 (i + 1) none, .bool fl, .int .i64 ((i + 1 : Nat) : Int)] [⟨0, 2, n, fun j => [.int .i64 (H j), .int .i64 (W j)], true, false⟩, tab, ⟨i, 1, i + 1, fun j => [.int .i64 (V j)], true, false⟩] =
(    bif decide (Int.ofNat (i + (1 : Nat)) < Int.ofNat b) then
    bif decide ((0 : Int) ≤ IntKind.i64.wrap (Int.ofNat n - (1 : Int))) &&
      decide (IntKind.i64.wrap (Int.ofNat n - (1 : Int)) < Int.ofNat n) then
    bif ((0 : Nat) + (IntKind.i64.wrap (Int.ofNat n - (1 : Int))).toNat).blt n then
    bif sameStF
      [T.reg [T.int IntKind.i64 S, T.int IntKind.i64 R], T.own (0 : Nat) (0 : Nat) (0 : Nat) n none, T.nils,
        T.int IntKind.i64 (14 : Int), T.int IntKind.i64 top, T.int IntKind.i64 (Int.ofNat b),
        T.own (2 : Nat) i (0 : Nat) (i + (1 : Nat)) none, T.bool fl, T.int IntKind.i64 (Int.ofNat (i + (1 : Nat))),
        T.int IntKind.i64
          (IntKind.i64.wrap
            ((100 : Int) * IntKind.i64.wrap (IntKind.i64.wrap ((2 : Int) * Int.ofNat (i + (1 : Nat))) + (1 : Int)))),
        T.int IntKind.i64 (IntKind.i64.wrap (W ((0 : Nat) + (IntKind.i64.wrap (Int.ofNat n - (1 : Int))).toNat) * S)),
        T.int IntKind.i64 (100 : Int), T.int IntKind.i64 (0 : Int)]
      [Blk.mk (0 : Nat) (2 : Nat) n (fun j => [T.int IntKind.i64 (H j), T.int IntKind.i64 (W j)]) true false, tab,
        Blk.mk i (1 : Nat) (i + (1 : Nat)) (fun j => [T.int IntKind.i64 (V j)]) true false]
      [T.reg [T.int IntKind.i64 S, T.int IntKind.i64 R], T.own (0 : Nat) (0 : Nat) (0 : Nat) n none, T.nils,
        T.int IntKind.i64 (14 : Int), T.int IntKind.i64 top, T.int IntKind.i64 (Int.ofNat b),
        T.own (2 : Nat) i (0 : Nat) (i + (1 : Nat)) none, T.bool fl, T.int IntKind.i64 (Int.ofNat (i + (1 : Nat))),
        T.int IntKind.i64 m, T.int IntKind.i64 nn0, T.int IntKind.i64 (100 : Int), T.int IntKind.i64 (0 : Int)]
      [Blk.mk (0 : Nat) (2 : Nat) n (fun j => [T.int IntKind.i64 (H j), T.int IntKind.i64 (W j)]) true false, tab,
        Blk.mk i (1 : Nat) (i + (1 : Nat)) (fun j => [T.int IntKind.i64 (V j)]) true false] then
    bif decide (IntKind.i64.wrap ((2 : Int) * dd) = (0 : Int)) then
    none
    else
    bif decide
      (IntKind.i64.wrap
          ((IntKind.i64.wrap (IntKind.i64.wrap ((2 : Int) * nn) + dd)).tdiv (IntKind.i64.wrap ((2 : Int) * dd))) =
        (0 : Int)) then
    some ((Ex.ret,
      [T.bool true, T.nils, T.int IntKind.i64 (14 : Int), T.int IntKind.i64 (Int.ofNat b),
        T.own (2 : Nat) i (0 : Nat) (i + (1 : Nat)) none, T.bool fl],
      [Blk.mk (0 : Nat) (2 : Nat) n (fun j => [T.int IntKind.i64 (H j), T.int IntKind.i64 (W j)]) true false, tab,
        Blk.mk i (1 : Nat) (i + (1 : Nat)) (fun j => [T.int IntKind.i64 (V j)]) true false]))
    else
    bif i == i then
    bif true && ((0 : Nat) + (i + (1 : Nat))).ble (i + (1 : Nat)) then
    bif ((i + (1 : Nat) + (1 : Nat)) * (9 : Nat)).ble (70368744177664 : Nat) then
    some ((Ex.normal,
      [T.reg [T.int IntKind.i64 S, T.int IntKind.i64 R], T.own (0 : Nat) (0 : Nat) (0 : Nat) n none, T.nils,
        T.int IntKind.i64 (14 : Int), T.int IntKind.i64 top, T.int IntKind.i64 (Int.ofNat b),
        T.own (2 : Nat) (i + (1 : Nat)) (0 : Nat) (i + (1 : Nat) + (1 : Nat)) none, T.bool fl,
        T.int IntKind.i64 (IntKind.i64.wrap (Int.ofNat (i + (1 : Nat)) + (1 : Int)))],
      [Blk.mk (0 : Nat) (2 : Nat) n (fun j => [T.int IntKind.i64 (H j), T.int IntKind.i64 (W j)]) true false, tab,
        Blk.mk (i + (1 : Nat)) (1 : Nat) (i + (1 : Nat) + (1 : Nat))
          (fun j =>
            bif j.blt (i + (1 : Nat)) then [T.int IntKind.i64 (V ((0 : Nat) + j))]
            else
              [[T.int IntKind.i64
                        (IntKind.i64.wrap
                          ((IntKind.i64.wrap (IntKind.i64.wrap ((2 : Int) * nn) + dd)).tdiv
                            (IntKind.i64.wrap ((2 : Int) * dd))))]].getD
                ((0 : Nat) + (j - (i + (1 : Nat)))) [])
          true false,
        Blk.mk (0 : Nat) (1 : Nat) (1 : Nat)
          (fun j =>
            [[T.int IntKind.i64
                      (IntKind.i64.wrap
                        ((IntKind.i64.wrap (IntKind.i64.wrap ((2 : Int) * nn) + dd)).tdiv
                          (IntKind.i64.wrap ((2 : Int) * dd))))]].getD
              j [])
          true true]))
    else
    none
    else
    none
    else
    none
    else
    none
    else
    none
    else
    none
    else
    some ((Ex.exit (2 : Nat),
      [T.undef, T.nils, T.int IntKind.i64 (14 : Int), T.int IntKind.i64 (Int.ofNat b),
        T.own (2 : Nat) i (0 : Nat) (i + (1 : Nat)) none, T.bool fl],
      [Blk.mk (0 : Nat) (2 : Nat) n (fun j => [T.int IntKind.i64 (H j), T.int IntKind.i64 (W j)]) true false, tab,
        Blk.mk i (1 : Nat) (i + (1 : Nat)) (fun j => [T.int IntKind.i64 (V j)]) true false]))) from by kernel_rfl)]
  have en : (Int.ofNat n : Int) = (n : Int) := rfl
  have eb : (Int.ofNat b : Int) = (b : Int) := rfl
  have ei : (Int.ofNat (i + 1) : Int) = (i : Int) + 1 := rfl
  have em : m = 100 * (2 * Int.ofNat (i + 1) + 1) := hm
  have n9 := hs.n9
  have n2 := hs.n2
  have wb := hs.wb (n - 1) (by omega)
  obtain ⟨s1, s2, _, _⟩ := hs.g
  have c1 := mul_bd (p := W (n - 1)) (m := S) (a := 255) (b := 400) (by omega) (by omega) (by omega) (by omega)
  have e1 : (Int.ofNat n - 1).toNat = n - 1 := by omega
  have rb := roundF_bd n1.1 d1.1
  have ev : (2 * nn + dd).tdiv (2 * dd) = roundF nn dd := Int.tdiv_eq_ediv_of_nonneg (by omega)
  rw [dT (show Int.ofNat (i + 1) < Int.ofNat b by omega), wr64 (x := Int.ofNat n - 1) (by omega) (by omega), e1, Nat.zero_add (n - 1), dT (show (0 : Int) ≤ Int.ofNat n - 1 by omega), dT (show Int.ofNat n - 1 < Int.ofNat n by omega), bltT (show n - 1 < n by omega), wr64 (x := W (n - 1) * S) (by omega) (by omega)]
  simp only [Bool.and_self, cond_true]
  rw [wr64 (x := 2 * Int.ofNat (i + 1)) (by omega) (by omega), wr64 (x := 2 * Int.ofNat (i + 1) + 1) (by omega) (by omega), wr64 (x := 100 * (2 * Int.ofNat (i + 1) + 1)) (by omega) (by omega)]
  refine bift (sameStF_iff.2 ⟨?_, .refl _⟩) ?_
  · rw [h0, em]; try rfl
  rw [wr64 (x := 2 * dd) (by omega) (by omega), wr64 (x := 2 * nn) (by omega) (by omega), wr64 (x := 2 * nn + dd) (by omega) (by omega), ev, wr64 (x := roundF nn dd) (by omega) (by omega), dF (show ¬ 2 * dd = 0 by omega), dT hw]
  rfl
theorem r19gx {S R top x : Int} {H W V Y : Nat → Int} {n i b : Nat} {fl : Bool} {tab : Blk} (hx : Int.ofNat b ≤ x) :
    iterR P37 G37 A37 K37b 0 6 [] 19 [.reg [.int .i64 S, .int .i64 R], .own 0 0 0 n none, .own 1 0 0 b (some b), .int .i64 0, .int .i64 top, .int .i64 b, .own 3 i 0 (i + 1) none, .bool fl, .int .i64 x] [⟨0, 2, n, fun j => [.int .i64 (H j), .int .i64 (W j)], true, false⟩, iblk b Y, tab, ⟨i, 1, i + 1, fun j => [.int .i64 (V j)], true, false⟩] = some (.exit 2, [.undef, .own 1 0 0 b (some b), .int .i64 0, .int .i64 b, .own 3 i 0 (i + 1) none, .bool fl], [⟨0, 2, n, fun j => [.int .i64 (H j), .int .i64 (W j)], true, false⟩, iblk b Y, tab, ⟨i, 1, i + 1, fun j => [.int .i64 (V j)], true, false⟩]) := by
  rw [(show iterR P37 G37 A37 K37b 0 6 [] 19 [.reg [.int .i64 S, .int .i64 R], .own 0 0 0 n none, .own 1 0 0 b (some b), .int .i64 0, .int .i64 top, .int .i64 b, .own 3 i 0 (i + 1) none, .bool fl, .int .i64 x] [⟨0, 2, n, fun j => [.int .i64 (H j), .int .i64 (W j)], true, false⟩, iblk b Y, tab, ⟨i, 1, i + 1, fun j => [.int .i64 (V j)], true, false⟩] =
(    bif decide (x < Int.ofNat b) then
    bif decide ((0 : Int) ≤ IntKind.i64.wrap (Int.ofNat n - (1 : Int))) &&
      decide (IntKind.i64.wrap (Int.ofNat n - (1 : Int)) < Int.ofNat n) then
    bif ((0 : Nat) + (IntKind.i64.wrap (Int.ofNat n - (1 : Int))).toNat).blt n then
    none
    else
    none
    else
    none
    else
    some ((Ex.exit (2 : Nat),
      [T.undef, T.own (1 : Nat) (0 : Nat) (0 : Nat) b (some b), T.int IntKind.i64 (0 : Int),
        T.int IntKind.i64 (Int.ofNat b), T.own (3 : Nat) i (0 : Nat) (i + (1 : Nat)) none, T.bool fl],
      [Blk.mk (0 : Nat) (2 : Nat) n (fun j => [T.int IntKind.i64 (H j), T.int IntKind.i64 (W j)]) true false,
        Blk.mk (0 : Nat) (1 : Nat) b (fun j => [T.int IntKind.i64 (Y j)]) true false, tab,
        Blk.mk i (1 : Nat) (i + (1 : Nat)) (fun j => [T.int IntKind.i64 (V j)]) true false]))) from by kernel_rfl)]
  rw [dF (by omega)]; rfl
theorem r19zx (S R top : Int) (H W : Nat → Int) (n : Nat) (fl : Bool) : iterR P37 G37 A37 K37b 0 6 [] 19 [.reg [.int .i64 S, .int .i64 R], .own 0 0 0 n none, .nils, .int .i64 14, .int .i64 top, .int .i64 0, .nils, .bool fl, .int .i64 0] [⟨0, 2, n, fun j => [.int .i64 (H j), .int .i64 (W j)], true, false⟩] = some (.exit 2, [.undef, .nils, .int .i64 14, .int .i64 0, .nils, .bool fl], [⟨0, 2, n, fun j => [.int .i64 (H j), .int .i64 (W j)], true, false⟩]) := by
  kernel_rfl
end Go.Ab

namespace Go.Ab
open Go.Proofs
theorem Small.okp {S R : Int} {H W : Nat → Int} {n : Nat} (q : Small S R H W n) : Okp n H W := by
  refine ⟨q.n2, q.h0, fun j hj => ?_⟩
  have h1 := q.hb j hj
  have h2 := q.wb j hj
  refine ⟨?_, by omega, by omega, by omega⟩
  cases j with
  | zero => simp only [bf]; omega
  | succ j => exact q.up j hj
theorem Small.mono {S R : Int} {H W : Nat → Int} {n : Nat} (q : Small S R H W n) : ∀ d i, i + d < n → H i ≤ H (i + d) := by
  intro d
  induction d with
  | zero => intro i _; exact Int.le_refl _
  | succ d ih => intro i hi; have := ih i (by omega); have := q.up (i + d) (by omega); rw [show i + (d + 1) = i + d + 1 by omega]; omega
theorem Small.mono2 {S R : Int} {H W : Nat → Int} {n : Nat} (q : Small S R H W n) {i j : Nat} (h : i ≤ j) (hj : j < n) : H i * 2 * R ≤ H j * 2 * R := by
  have := q.mono (j - i) i (by omega)
  rw [show i + (j - i) = j by omega] at this
  obtain ⟨_, _, r1, _⟩ := q.g
  exact Int.mul_le_mul_of_nonneg_right (by omega) (by omega)
/-- The row that the law reckons is the row that Widths works. -/
theorem row_same {S R : Int} {H W : Nat → Int} {n a : Nat} {m : Int} (q : Small S R H W n) (ha : Here S H W n a m (2 * R)) : rwN S R H W n m = wdN S H W n a m (2 * R) ∧ rwD R H n m = wdD H n a (2 * R) := by
  have e : ∀ x : Int, 2 * R * x = x * 2 * R := fun x => by rw [Int.mul_comm 2 R, Int.mul_assoc, Int.mul_comm, Int.mul_comm 2 x, Int.mul_assoc]
  have al := ha.al
  have lo := ha.lo
  have hi := ha.hi
  rw [e] at lo
  rw [e] at hi
  have n2 := q.n2
  unfold rwN rwD wdN wdD
  by_cases z : m < H (n - 1) * 2 * R
  · have a1 : a + 1 < n := Classical.byContradiction fun y => by
      obtain rfl : a = n - 1 := by omega
      omega
    have hi := hi a1
    have hin : ∀ p, p + 1 < n → (inS R H m p ↔ p = a) := fun p hp => ⟨fun ⟨y1, y2⟩ => by
      rcases Nat.lt_trichotomy p a with w | w | w
      · have := q.mono2 (i := p + 1) (j := a) (by omega) (by omega); omega
      · exact w
      · have := q.mono2 (i := a + 1) (j := p) (by omega) (by omega); omega, fun y => y ▸ ⟨lo, hi⟩⟩
    have key : ∀ p, p + 1 ≤ n → sgN S R H W n m p = (if a < p then vN S R H W m a else W (n - 1) * S) ∧ sgD R H m p = (if a < p then vD R H a else 100) := by
      intro p
      induction p with
      | zero => intro _; exact ⟨rfl, rfl⟩
      | succ p ih =>
        intro hp
        obtain ⟨i1, i2⟩ := ih (by omega)
        simp only [sgN, sgD]
        by_cases w : p = a
        · subst w
          rw [if_pos ((hin p hp).2 rfl), if_pos ((hin p hp).2 rfl), if_pos (by omega), if_pos (by omega)]
          exact ⟨rfl, rfl⟩
        · rw [if_neg (fun y => w ((hin p hp).1 y)), if_neg (fun y => w ((hin p hp).1 y)), i1, i2]
          by_cases w2 : a < p
          · rw [if_pos w2, if_pos w2, if_pos (by omega), if_pos (by omega)]; exact ⟨rfl, rfl⟩
          · rw [if_neg w2, if_neg w2, if_neg (by omega), if_neg (by omega)]; exact ⟨rfl, rfl⟩
    obtain ⟨k1, k2⟩ := key (n - 1) (by omega)
    rw [if_pos z, if_pos z, k1, k2, if_pos (show a < n - 1 by omega), if_pos (show a < n - 1 by omega), if_neg (show ¬ a + 1 = n by omega), if_neg (show ¬ a + 1 = n by omega)]
    unfold vN vD
    rw [Int.mul_sub (2 * R), e, e]
    generalize H a * 2 * R = U
    generalize H (a + 1) * 2 * R = V
    refine ⟨?_, rfl⟩
    rw [Int.mul_comm]
    congr 1
    rw [Int.mul_sub, Int.mul_sub, Int.mul_sub, Int.sub_mul, Int.mul_sub, Int.mul_sub]
    omega
  · obtain rfl : a = n - 1 := Classical.byContradiction fun y => by
      have := q.mono2 (i := a + 1) (j := n - 1) (by omega) (by omega)
      have := hi (by omega)
      omega
    rw [if_neg z, if_neg z, if_pos (by omega), if_pos (by omega)]
    exact ⟨Int.mul_comm _ _, rfl⟩
theorem row_wv {S R : Int} {H W : Nat → Int} {n : Nat} (q : Small S R H W n) (k : Nat) (hk : k ≤ 400) : roundF (rwN S R H W n (mid k)) (rwD R H n (mid k)) = wv S R H W n k ∧
    (0 ≤ rwN S R H W n (mid k) ∧ rwN S R H W n (mid k) ≤ 200000000000000) ∧ (1 ≤ rwD R H n (mid k) ∧ rwD R H n (mid k) ≤ 2000000000) := by
  have hh := here_at q.g q.okp (by have := q.n9; omega) k hk
  obtain ⟨e1, e2⟩ := row_same q hh
  obtain ⟨b1, b2, b3, b4, _⟩ := hh.bd
  rw [e1, e2]
  exact ⟨rfl, ⟨b1, b2⟩, b3, b4⟩
end Go.Ab

namespace Go.Ab
open Go.Proofs
def wS (S R : Int) (H W : Nat → Int) (n : Nat) : Nat → Int := fun j => wv S R H W n j
def pA (n : Nat) (H W : Nat → Int) : Blk := ⟨0, 2, n, fun j => [.int .i64 (H j), .int .i64 (W j)], true, false⟩
def vB (v n : Nat) (x : Nat → Int) : Blk := ⟨v, 1, n, fun j => [.int .i64 (x j)], true, false⟩
section
variable {S R top : Int} {H W Y : Nat → Int} {n b : Nat} {fl : Bool}
theorem lm19 (hs : Small S R H W n) (ht : top = H (n - 1)) (k : Nat) (hk : k ≤ 400) (x9 : T) (e : Int) (x14 : T) (h : Heap) :
    ∀ p ∈ [((25 : Nat), litS [.reg [.int .i64 S, .int .i64 R], .own 0 0 0 n none, x9, .int .i64 e, .int .i64 top, .int .i64 b, x14, .bool fl, .int .i64 k, .int .i64 (mid k), .int .i64 (W (n - 1) * S), .int .i64 100, .int .i64 0] (pA n H W :: h) (.exit 4)
      [.reg [.int .i64 S, .int .i64 R], .own 0 0 0 n none, x9, .int .i64 e, .int .i64 top, .int .i64 b, x14, .bool fl, .int .i64 k, .int .i64 (rwN S R H W n (mid k)), .int .i64 (rwD R H n (mid k))] (pA n H W :: h))], LoopOk P37 G37 (A37 6) 6 p.1 p.2 :=
  loops1 (l25 S R e top b (mid k) H W n k fl x9 x14 h hs ht (by unfold mid; omega))
theorem g19_0 (hs : Small S R H W n) (ht : top = H (n - 1)) (hi : 0 < b) (hb : b ≤ 400) (hw : wv S R H W n 0 ≠ 0) :
    ∃ g2, ∃ g1, Rnd P37 G37 (A37 6) 6 19 [.reg [.int .i64 S, .int .i64 R], .own 0 0 0 n none, .own 1 0 0 b (some b), .int .i64 0, .int .i64 top, .int .i64 b, .nils, .bool fl, .int .i64 0] [pA n H W, iblk b Y] .normal
      [.reg [.int .i64 S, .int .i64 R], .own 0 0 0 n none, .own 1 0 0 b (some b), .int .i64 0, .int .i64 top, .int .i64 b, .own 3 0 0 1 none, .bool fl, .int .i64 ((0 + 1 : Nat) : Int)] [pA n H W, iblk b Y, ⟨0, 1, 1, g2, true, true⟩, ⟨0, 1, 1, g1, true, false⟩] ∧
      SameBlks [pA n H W, iblk b Y, ⟨0, 1, 1, g2, true, true⟩, ⟨0, 1, 1, g1, true, false⟩] [pA n H W, iblk b Y, ⟨0, 1, 1, g2, true, true⟩, vB 0 1 (wS S R H W n)] := by
  obtain ⟨e1, e2, e3⟩ := row_wv hs 0 (by omega)
  obtain ⟨g1, g2, q1, q2⟩ := r19g0 S R top _ _ _ _ H W Y Y n 0 b fl lit0 hs rfl rfl hi hb e2 e3 (by rw [e1]; exact hw)
  refine ⟨g2, g1, Rnd.ofL A37 okK37b rfl rfl (lm19 hs ht 0 (by omega) _ 0 .nils [iblk b Y]) q1, ?_⟩
  refine .cons ⟨rfl, rfl, rfl, id, fun _ _ => rfl⟩ (.cons ⟨rfl, rfl, rfl, id, fun _ _ => rfl⟩ (.cons ⟨rfl, rfl, rfl, id, fun _ _ => rfl⟩ (.cons ⟨rfl, rfl, rfl, id, fun j hj => ?_⟩ .nil)))
  have hj' : j < 1 := hj
  obtain rfl : j = 0 := by omega
  show [T.int .i64 (wS S R H W n 0)] = g1 0
  rw [q2 0 (by omega), if_neg (by omega), e1]
  rfl
theorem g19_i (hs : Small S R H W n) (ht : top = H (n - 1)) {i : Nat} (hi : i + 1 < b) (hb : b ≤ 400) (hw : wv S R H W n (i + 1) ≠ 0) (tab : Blk) (ht2 : tab.n = 1 ∧ tab.sz = 1 ∧ tab.flat = true) (nt : Nat) :
    ∃ vs' h', Rnd P37 G37 (A37 6) 6 19 [.reg [.int .i64 S, .int .i64 R], .own 0 0 0 n none, .own 1 0 0 b (some b), .int .i64 0, .int .i64 top, .int .i64 b, .own 3 i 0 (i + 1) none, .bool fl, .int .i64 ((i + 1 : Nat) : Int)] [pA n H W, iblk b Y, tab, vB i (i + 1) (wS S R H W n)] .normal vs' h' ∧
      WeakTo G37 (A37 6).prom nt ((A37 6).live 19 false) 2 vs' h' [.reg [.int .i64 S, .int .i64 R], .own 0 0 0 n none, .own 1 0 0 b (some b), .int .i64 0, .int .i64 top, .int .i64 b, .own 3 (i + 1) 0 (i + 2) none, .bool fl, .int .i64 ((i + 1 + 1 : Nat) : Int)] [pA n H W, iblk b Y, tab, vB (i + 1) (i + 2) (wS S R H W n)] := by
  obtain ⟨e1, e2, e3⟩ := row_wv hs (i + 1) (by omega)
  obtain ⟨g1, g2, q1, q2⟩ := r19g S R top _ _ _ _ H W (wS S R H W n) Y n i b fl tab hs rfl rfl hi hb e2 e3 (by rw [e1]; exact hw)
  refine ⟨_, _, Rnd.ofL A37 okK37b rfl rfl (lm19 hs ht (i + 1) (by omega) _ 0 _ [iblk b Y, tab, vB i (i + 1) (wS S R H W n)]) q1, ?_⟩
  have hsb : SameBlks [pA n H W, iblk b Y, tab, ⟨i + 1, 1, i + 2, g1, true, false⟩] [pA n H W, iblk b Y, tab, vB (i + 1) (i + 2) (wS S R H W n)] := by
    refine .cons ⟨rfl, rfl, rfl, id, fun _ _ => rfl⟩ (.cons ⟨rfl, rfl, rfl, id, fun _ _ => rfl⟩ (.cons ⟨rfl, rfl, rfl, id, fun _ _ => rfl⟩ (.cons ⟨rfl, rfl, rfl, id, fun j hj => ?_⟩ .nil)))
    have hj' : j < i + 2 := hj
    show [T.int .i64 (wS S R H W n j)] = g1 j
    rw [q2 j (by omega)]
    by_cases y : j < i + 1
    · rw [if_pos y]
    · obtain rfl : j = i + 1 := by omega
      rw [if_neg (by omega), e1]; rfl
  refine WeakTo.trans (h1 := [pA n H W, iblk b Y, tab, ⟨i + 1, 1, i + 2, g1, true, false⟩]) (WeakTo.takeM (m := 4) (by simp) (h := [pA n H W, iblk b Y, tab, ⟨i + 1, 1, i + 2, g1, true, false⟩, ⟨0, 1, 1, g2, true, true⟩]) ?_) (.same hsb)
  simp [trimOk, low, low0, imm0, lowBlk, Nat.blt, pA, iblk, ht2.2.2]
theorem l19g (hs : Small S R H W n) (ht : top = H (n - 1)) (hi : 0 < b) (hb : b ≤ 400) (hw : ∀ i, i < b → wv S R H W n i ≠ 0) :
    ∃ tab, LoopOk P37 G37 (A37 6) 6 19 (litS [.reg [.int .i64 S, .int .i64 R], .own 0 0 0 n none, .own 1 0 0 b (some b), .int .i64 0, .int .i64 top, .int .i64 b, .nils, .bool fl, .int .i64 0] [pA n H W, iblk b Y] (.exit 2)
      [.undef, .own 1 0 0 b (some b), .int .i64 0, .int .i64 b, .own 3 (b - 1) 0 b none, .bool fl] [pA n H W, iblk b Y, tab, vB (b - 1) b (wS S R H W n)]) := by
  obtain ⟨g2, g1, q1, q2⟩ := g19_0 (Y := Y) (fl := fl) hs ht hi hb (hw 0 hi)
  refine ⟨⟨0, 1, 1, g2, true, true⟩, .lit fun fn hf hnt => ?_⟩
  have := loop_seq (P := P37) (Gl := G37) (an := A37 6) hm37 (f := 6) (r := 19) (by kernel_rfl) hf hnt
    (fun i => match i with | 0 => [.reg [.int .i64 S, .int .i64 R], .own 0 0 0 n none, .own 1 0 0 b (some b), .int .i64 0, .int .i64 top, .int .i64 b, .nils, .bool fl, .int .i64 0] | i + 1 => [.reg [.int .i64 S, .int .i64 R], .own 0 0 0 n none, .own 1 0 0 b (some b), .int .i64 0, .int .i64 top, .int .i64 b, .own 3 i 0 (i + 1) none, .bool fl, .int .i64 ((i + 1 : Nat) : Int)])
    (fun i => match i with | 0 => [pA n H W, iblk b Y] | i + 1 => [pA n H W, iblk b Y, ⟨0, 1, 1, g2, true, true⟩, vB i (i + 1) (wS S R H W n)]) (n := b) (e1 := .exit 2)
    (vs1 := [.undef, .own 1 0 0 b (some b), .int .i64 0, .int .i64 b, .own 3 (b - 1) 0 b none, .bool fl]) (h1 := [pA n H W, iblk b Y, ⟨0, 1, 1, g2, true, true⟩, vB (b - 1) b (wS S R H W n)]) (fun i hib => ?_) ⟨by simp, ?_⟩
  · exact this
  · match i, hib with
    | 0, _ => exact ⟨_, _, q1, .same q2⟩
    | i + 1, hib => exact g19_i hs ht hib hb (hw (i + 1) hib) _ ⟨rfl, rfl, rfl⟩ _
  · match b, hi with
    | b + 1, _ => exact ⟨_, _, Rnd.of A37 okK37b rfl rfl (r19gx (V := wS S R H W n) (Y := Y) (tab := ⟨0, 1, 1, g2, true, true⟩) (i := b) (by exact Int.le_refl _)), .refl _ _⟩
end
end Go.Ab

namespace Go.Ab
open Go.Proofs
section
variable {S R top : Int} {H W : Nat → Int} {n b : Nat} {fl : Bool}
theorem z19_0 (hs : Small S R H W n) (ht : top = H (n - 1)) (hi : 0 < b) (hb : b ≤ 400) (hw : wv S R H W n 0 ≠ 0) :
    ∃ g2, ∃ g1, Rnd P37 G37 (A37 6) 6 19 [.reg [.int .i64 S, .int .i64 R], .own 0 0 0 n none, .nils, .int .i64 14, .int .i64 top, .int .i64 b, .nils, .bool fl, .int .i64 0] [pA n H W] .normal
      [.reg [.int .i64 S, .int .i64 R], .own 0 0 0 n none, .nils, .int .i64 14, .int .i64 top, .int .i64 b, .own 2 0 0 1 none, .bool fl, .int .i64 ((0 + 1 : Nat) : Int)] [pA n H W, ⟨0, 1, 1, g2, true, true⟩, ⟨0, 1, 1, g1, true, false⟩] ∧
      SameBlks [pA n H W, ⟨0, 1, 1, g2, true, true⟩, ⟨0, 1, 1, g1, true, false⟩] [pA n H W, ⟨0, 1, 1, g2, true, true⟩, vB 0 1 (wS S R H W n)] := by
  obtain ⟨e1, e2, e3⟩ := row_wv hs 0 (by omega)
  obtain ⟨g1, g2, q1, q2⟩ := r19z0 S R top _ _ _ _ H W W W n 0 b fl lit0 hs rfl rfl hi hb e2 e3 (by rw [e1]; exact hw)
  refine ⟨g2, g1, Rnd.ofL A37 okK37b rfl rfl (lm19 hs ht 0 (by omega) _ 14 .nils []) q1, ?_⟩
  refine .cons ⟨rfl, rfl, rfl, id, fun _ _ => rfl⟩ (.cons ⟨rfl, rfl, rfl, id, fun _ _ => rfl⟩ (.cons ⟨rfl, rfl, rfl, id, fun j hj => ?_⟩ .nil))
  have hj' : j < 1 := hj
  obtain rfl : j = 0 := by omega
  show [T.int .i64 (wS S R H W n 0)] = g1 0
  rw [q2 0 (by omega), if_neg (by omega), e1]
  rfl
theorem z19_i (hs : Small S R H W n) (ht : top = H (n - 1)) {i : Nat} (hi : i + 1 < b) (hb : b ≤ 400) (hw : wv S R H W n (i + 1) ≠ 0) (tab : Blk) (ht2 : tab.n = 1 ∧ tab.sz = 1 ∧ tab.flat = true) (nt : Nat) :
    ∃ vs' h', Rnd P37 G37 (A37 6) 6 19 [.reg [.int .i64 S, .int .i64 R], .own 0 0 0 n none, .nils, .int .i64 14, .int .i64 top, .int .i64 b, .own 2 i 0 (i + 1) none, .bool fl, .int .i64 ((i + 1 : Nat) : Int)] [pA n H W, tab, vB i (i + 1) (wS S R H W n)] .normal vs' h' ∧
      WeakTo G37 (A37 6).prom nt ((A37 6).live 19 false) 1 vs' h' [.reg [.int .i64 S, .int .i64 R], .own 0 0 0 n none, .nils, .int .i64 14, .int .i64 top, .int .i64 b, .own 2 (i + 1) 0 (i + 2) none, .bool fl, .int .i64 ((i + 1 + 1 : Nat) : Int)] [pA n H W, tab, vB (i + 1) (i + 2) (wS S R H W n)] := by
  obtain ⟨e1, e2, e3⟩ := row_wv hs (i + 1) (by omega)
  obtain ⟨g1, g2, q1, q2⟩ := r19z S R top _ _ _ _ H W (wS S R H W n) W n i b fl tab hs rfl rfl hi hb e2 e3 (by rw [e1]; exact hw)
  refine ⟨_, _, Rnd.ofL A37 okK37b rfl rfl (lm19 hs ht (i + 1) (by omega) _ 14 _ [tab, vB i (i + 1) (wS S R H W n)]) q1, ?_⟩
  have hsb : SameBlks [pA n H W, tab, ⟨i + 1, 1, i + 2, g1, true, false⟩] [pA n H W, tab, vB (i + 1) (i + 2) (wS S R H W n)] := by
    refine .cons ⟨rfl, rfl, rfl, id, fun _ _ => rfl⟩ (.cons ⟨rfl, rfl, rfl, id, fun _ _ => rfl⟩ (.cons ⟨rfl, rfl, rfl, id, fun j hj => ?_⟩ .nil))
    have hj' : j < i + 2 := hj
    show [T.int .i64 (wS S R H W n j)] = g1 j
    rw [q2 j (by omega)]
    by_cases y : j < i + 1
    · rw [if_pos y]
    · obtain rfl : j = i + 1 := by omega
      rw [if_neg (by omega), e1]; rfl
  refine WeakTo.trans (h1 := [pA n H W, tab, ⟨i + 1, 1, i + 2, g1, true, false⟩]) (WeakTo.takeM (m := 3) (by simp) (h := [pA n H W, tab, ⟨i + 1, 1, i + 2, g1, true, false⟩, ⟨0, 1, 1, g2, true, true⟩]) ?_) (.same hsb)
  simp [trimOk, low, low0, imm0, lowBlk, Nat.blt, pA, ht2.2.2]
theorem l19z (hs : Small S R H W n) (ht : top = H (n - 1)) {k : Nat} (hk : k < b) (hb : b ≤ 400) (h0 : wv S R H W n k = 0) (hw : ∀ i, i < k → wv S R H W n i ≠ 0) :
    ∃ x h, LoopOk P37 G37 (A37 6) 6 19 (litS [.reg [.int .i64 S, .int .i64 R], .own 0 0 0 n none, .nils, .int .i64 14, .int .i64 top, .int .i64 b, .nils, .bool fl, .int .i64 0] [pA n H W] .ret
      [.bool true, .nils, .int .i64 14, .int .i64 b, x, .bool fl] h) := by
  cases k with
  | zero =>
    obtain ⟨e1, e2, e3⟩ := row_wv hs 0 (by omega)
    refine ⟨.nils, [pA n H W], .lit fun fn hf hnt => loop_seq hm37 (by kernel_rfl) hf hnt (fun i => [.reg [.int .i64 S, .int .i64 R], .own 0 0 0 n none, .nils, .int .i64 14, .int .i64 top, .int .i64 b, .nils, .bool fl, .int .i64 0]) (fun _ => [pA n H W]) (n := 0) (fun i hi => by omega) ⟨by simp, _, _, Rnd.ofL A37 okK37b rfl rfl (lm19 hs ht 0 (by omega) _ 14 .nils []) (r19e0 S R top _ _ _ _ H W W n 0 b fl lit0 hs rfl rfl hk hb e2 e3 (by rw [e1]; exact h0)), .refl _ _⟩⟩
  | succ k =>
    obtain ⟨g2, g1, q1, q2⟩ := z19_0 (fl := fl) hs ht (by omega) hb (hw 0 (by omega))
    obtain ⟨e1, e2, e3⟩ := row_wv hs (k + 1) (by omega)
    refine ⟨.own 2 k 0 (k + 1) none, [pA n H W, ⟨0, 1, 1, g2, true, true⟩, vB k (k + 1) (wS S R H W n)], .lit fun fn hf hnt => ?_⟩
    have := loop_seq (P := P37) (Gl := G37) (an := A37 6) hm37 (f := 6) (r := 19) (by kernel_rfl) hf hnt
      (fun i => match i with | 0 => [.reg [.int .i64 S, .int .i64 R], .own 0 0 0 n none, .nils, .int .i64 14, .int .i64 top, .int .i64 b, .nils, .bool fl, .int .i64 0] | i + 1 => [.reg [.int .i64 S, .int .i64 R], .own 0 0 0 n none, .nils, .int .i64 14, .int .i64 top, .int .i64 b, .own 2 i 0 (i + 1) none, .bool fl, .int .i64 ((i + 1 : Nat) : Int)])
      (fun i => match i with | 0 => [pA n H W] | i + 1 => [pA n H W, ⟨0, 1, 1, g2, true, true⟩, vB i (i + 1) (wS S R H W n)]) (n := k + 1) (e1 := .ret)
      (vs1 := [.bool true, .nils, .int .i64 14, .int .i64 b, .own 2 k 0 (k + 1) none, .bool fl]) (h1 := [pA n H W, ⟨0, 1, 1, g2, true, true⟩, vB k (k + 1) (wS S R H W n)]) (fun i hib => ?_) ⟨by simp, ?_⟩
    · exact this
    · match i, hib with
      | 0, _ => exact ⟨_, _, q1, .same q2⟩
      | i + 1, hib => exact z19_i hs ht (by omega) hb (hw (i + 1) hib) _ ⟨rfl, rfl, rfl⟩ _
    · exact ⟨_, _, Rnd.ofL A37 okK37b rfl rfl (lm19 hs ht (k + 1) (by omega) _ 14 _ [⟨0, 1, 1, g2, true, true⟩, vB k (k + 1) (wS S R H W n)]) (r19e S R top _ _ _ _ H W (wS S R H W n) n k b fl ⟨0, 1, 1, g2, true, true⟩ hs rfl rfl hk hb e2 e3 (by rw [e1]; exact h0)), .refl _ _⟩
theorem l19none (S R top : Int) (H W : Nat → Int) (n : Nat) (fl : Bool) :
    LoopOk P37 G37 (A37 6) 6 19 (litS [.reg [.int .i64 S, .int .i64 R], .own 0 0 0 n none, .nils, .int .i64 14, .int .i64 top, .int .i64 0, .nils, .bool fl, .int .i64 0] [pA n H W] (.exit 2) [.undef, .nils, .int .i64 14, .int .i64 0, .nils, .bool fl] [pA n H W]) :=
  .lit fun fn hf hnt => loop_seq hm37 (by kernel_rfl) hf hnt (fun i => [.reg [.int .i64 S, .int .i64 R], .own 0 0 0 n none, .nils, .int .i64 14, .int .i64 top, .int .i64 0, .nils, .bool fl, .int .i64 0]) (fun _ => [pA n H W]) (n := 0) (fun i hi => by omega) ⟨by simp, _, _, Rnd.of A37 okK37b rfl rfl (r19zx S R top H W n fl), .refl _ _⟩
end
end Go.Ab

namespace Go.Ab
open Go.Proofs
def fD (W : Nat → Int) : Nat → Bool
  | 0 => true
  | q + 1 => fD W q && decide (W (q + 1) ≤ W q)
theorem fD_iff {W : Nat → Int} {k : Nat} : fD W k = true ↔ ∀ q, q < k → W (q + 1) ≤ W q := by
  induction k with
  | zero => simp [fD]
  | succ k ih =>
    simp only [fD, Bool.and_eq_true, ih, decide_eq_true_eq]
    exact ⟨fun ⟨h1, h2⟩ q hq => (Nat.lt_succ_iff_lt_or_eq.1 hq).elim (h1 q) (fun e => e ▸ h2), fun h => ⟨fun q hq => h q (by omega), h k (by omega)⟩⟩
theorem r15 (S R e top : Int) (H W : Nat → Int) (n q b : Nat) (fl : Bool) (x9 : T) (h : Heap) (hn : n ≤ 9) (hq : q + 1 < n) :
    iterR P37 G37 A37 K37b 0 6 [] 15 [.reg [.int .i64 S, .int .i64 R], .own 0 0 0 n none, x9, .int .i64 e, .int .i64 top, .int .i64 b, .nils, .bool fl, .int .i64 ((q + 1 : Nat) : Int)] (⟨0, 2, n, fun j => [.int .i64 (H j), .int .i64 (W j)], true, false⟩ :: h) =
    some (.normal, [.reg [.int .i64 S, .int .i64 R], .own 0 0 0 n none, x9, .int .i64 e, .int .i64 top, .int .i64 b, .nils, .bool (fl && decide (W (q + 1) ≤ W q)), .int .i64 ((q + 1 + 1 : Nat) : Int)], ⟨0, 2, n, fun j => [.int .i64 (H j), .int .i64 (W j)], true, false⟩ :: h) := by
  generalize hi : q + 1 = i at *
  rw [(show iterR P37 G37 A37 K37b 0 6 [] 15 [.reg [.int .i64 S, .int .i64 R], .own 0 0 0 n none, x9, .int .i64 e, .int .i64 top, .int .i64 b, .nils, .bool fl, .int .i64 i] (⟨0, 2, n, fun j => [.int .i64 (H j), .int .i64 (W j)], true, false⟩ :: h) =
(    bif decide (Int.ofNat i < Int.ofNat n) then
    bif fl then
    bif decide ((0 : Int) ≤ Int.ofNat i) && decide (Int.ofNat i < Int.ofNat n) then
    bif ((0 : Nat) + i).blt n then
    bif decide ((0 : Int) ≤ IntKind.i64.wrap (Int.ofNat i - (1 : Int))) &&
      decide (IntKind.i64.wrap (Int.ofNat i - (1 : Int)) < Int.ofNat n) then
    bif ((0 : Nat) + (IntKind.i64.wrap (Int.ofNat i - (1 : Int))).toNat).blt n then
    bif decide (W ((0 : Nat) + i) ≤ W ((0 : Nat) + (IntKind.i64.wrap (Int.ofNat i - (1 : Int))).toNat)) then
    some ((Ex.normal,
      [T.reg [T.int IntKind.i64 S, T.int IntKind.i64 R], T.own (0 : Nat) (0 : Nat) (0 : Nat) n none, x9,
        T.int IntKind.i64 e, T.int IntKind.i64 top, T.int IntKind.i64 (Int.ofNat b), T.nils, T.bool true,
        T.int IntKind.i64 (IntKind.i64.wrap (Int.ofNat i + (1 : Int)))],
      Blk.mk (0 : Nat) (2 : Nat) n (fun j => [T.int IntKind.i64 (H j), T.int IntKind.i64 (W j)]) true false :: h))
    else
    some ((Ex.normal,
      [T.reg [T.int IntKind.i64 S, T.int IntKind.i64 R], T.own (0 : Nat) (0 : Nat) (0 : Nat) n none, x9,
        T.int IntKind.i64 e, T.int IntKind.i64 top, T.int IntKind.i64 (Int.ofNat b), T.nils, T.bool false,
        T.int IntKind.i64 (IntKind.i64.wrap (Int.ofNat i + (1 : Int)))],
      Blk.mk (0 : Nat) (2 : Nat) n (fun j => [T.int IntKind.i64 (H j), T.int IntKind.i64 (W j)]) true false :: h))
    else
    none
    else
    none
    else
    none
    else
    none
    else
    some ((Ex.normal,
      [T.reg [T.int IntKind.i64 S, T.int IntKind.i64 R], T.own (0 : Nat) (0 : Nat) (0 : Nat) n none, x9,
        T.int IntKind.i64 e, T.int IntKind.i64 top, T.int IntKind.i64 (Int.ofNat b), T.nils, T.bool false,
        T.int IntKind.i64 (IntKind.i64.wrap (Int.ofNat i + (1 : Int)))],
      Blk.mk (0 : Nat) (2 : Nat) n (fun j => [T.int IntKind.i64 (H j), T.int IntKind.i64 (W j)]) true false :: h))
    else
    some ((Ex.exit (0 : Nat),
      [T.reg [T.int IntKind.i64 S, T.int IntKind.i64 R], T.own (0 : Nat) (0 : Nat) (0 : Nat) n none, x9,
        T.int IntKind.i64 e, T.int IntKind.i64 top, T.int IntKind.i64 (Int.ofNat b), T.nils, T.bool fl],
      Blk.mk (0 : Nat) (2 : Nat) n (fun j => [T.int IntKind.i64 (H j), T.int IntKind.i64 (W j)]) true false :: h))) from by kernel_rfl)]
  have eo : (Int.ofNat i : Int) = (i : Int) := rfl
  have en : (Int.ofNat n : Int) = (n : Int) := rfl
  have e1 : (Int.ofNat i - 1).toNat = q := by omega
  rw [wr64 (x := Int.ofNat i + 1) (by omega) (by omega), wr64 (x := Int.ofNat i - 1) (by omega) (by omega), e1, dT (show Int.ofNat i < Int.ofNat n by omega), dT (show (0 : Int) ≤ Int.ofNat i by omega), dT (show (0 : Int) ≤ Int.ofNat i - 1 by omega), dT (show Int.ofNat i - 1 < Int.ofNat n by omega), Nat.zero_add, Nat.zero_add, bltT (show i < n by omega), bltT (show q < n by omega)]
  simp only [Bool.and_self, cond_true]
  cases fl with
  | false => rfl
  | true => by_cases z : W i ≤ W q <;> simp only [z, decide_true, decide_false, cond_true, cond_false, Bool.and_true, Bool.and_false] <;> rfl
theorem r15x (S R e top : Int) (H W : Nat → Int) (n b i : Nat) (fl : Bool) (x9 : T) (h : Heap) (hi : n ≤ i) :
    iterR P37 G37 A37 K37b 0 6 [] 15 [.reg [.int .i64 S, .int .i64 R], .own 0 0 0 n none, x9, .int .i64 e, .int .i64 top, .int .i64 b, .nils, .bool fl, .int .i64 i] (⟨0, 2, n, fun j => [.int .i64 (H j), .int .i64 (W j)], true, false⟩ :: h) =
    some (.exit 0, [.reg [.int .i64 S, .int .i64 R], .own 0 0 0 n none, x9, .int .i64 e, .int .i64 top, .int .i64 b, .nils, .bool fl], ⟨0, 2, n, fun j => [.int .i64 (H j), .int .i64 (W j)], true, false⟩ :: h) := by
  rw [(show iterR P37 G37 A37 K37b 0 6 [] 15 [.reg [.int .i64 S, .int .i64 R], .own 0 0 0 n none, x9, .int .i64 e, .int .i64 top, .int .i64 b, .nils, .bool fl, .int .i64 i] (⟨0, 2, n, fun j => [.int .i64 (H j), .int .i64 (W j)], true, false⟩ :: h) =
(    bif decide (Int.ofNat i < Int.ofNat n) then
    bif fl then
    bif decide ((0 : Int) ≤ Int.ofNat i) && decide (Int.ofNat i < Int.ofNat n) then
    bif ((0 : Nat) + i).blt n then
    bif decide ((0 : Int) ≤ IntKind.i64.wrap (Int.ofNat i - (1 : Int))) &&
      decide (IntKind.i64.wrap (Int.ofNat i - (1 : Int)) < Int.ofNat n) then
    bif ((0 : Nat) + (IntKind.i64.wrap (Int.ofNat i - (1 : Int))).toNat).blt n then
    bif decide (W ((0 : Nat) + i) ≤ W ((0 : Nat) + (IntKind.i64.wrap (Int.ofNat i - (1 : Int))).toNat)) then
    some ((Ex.normal,
      [T.reg [T.int IntKind.i64 S, T.int IntKind.i64 R], T.own (0 : Nat) (0 : Nat) (0 : Nat) n none, x9,
        T.int IntKind.i64 e, T.int IntKind.i64 top, T.int IntKind.i64 (Int.ofNat b), T.nils, T.bool true,
        T.int IntKind.i64 (IntKind.i64.wrap (Int.ofNat i + (1 : Int)))],
      Blk.mk (0 : Nat) (2 : Nat) n (fun j => [T.int IntKind.i64 (H j), T.int IntKind.i64 (W j)]) true false :: h))
    else
    some ((Ex.normal,
      [T.reg [T.int IntKind.i64 S, T.int IntKind.i64 R], T.own (0 : Nat) (0 : Nat) (0 : Nat) n none, x9,
        T.int IntKind.i64 e, T.int IntKind.i64 top, T.int IntKind.i64 (Int.ofNat b), T.nils, T.bool false,
        T.int IntKind.i64 (IntKind.i64.wrap (Int.ofNat i + (1 : Int)))],
      Blk.mk (0 : Nat) (2 : Nat) n (fun j => [T.int IntKind.i64 (H j), T.int IntKind.i64 (W j)]) true false :: h))
    else
    none
    else
    none
    else
    none
    else
    none
    else
    some ((Ex.normal,
      [T.reg [T.int IntKind.i64 S, T.int IntKind.i64 R], T.own (0 : Nat) (0 : Nat) (0 : Nat) n none, x9,
        T.int IntKind.i64 e, T.int IntKind.i64 top, T.int IntKind.i64 (Int.ofNat b), T.nils, T.bool false,
        T.int IntKind.i64 (IntKind.i64.wrap (Int.ofNat i + (1 : Int)))],
      Blk.mk (0 : Nat) (2 : Nat) n (fun j => [T.int IntKind.i64 (H j), T.int IntKind.i64 (W j)]) true false :: h))
    else
    some ((Ex.exit (0 : Nat),
      [T.reg [T.int IntKind.i64 S, T.int IntKind.i64 R], T.own (0 : Nat) (0 : Nat) (0 : Nat) n none, x9,
        T.int IntKind.i64 e, T.int IntKind.i64 top, T.int IntKind.i64 (Int.ofNat b), T.nils, T.bool fl],
      Blk.mk (0 : Nat) (2 : Nat) n (fun j => [T.int IntKind.i64 (H j), T.int IntKind.i64 (W j)]) true false :: h))) from by kernel_rfl)]
  have eo : (Int.ofNat i : Int) = (i : Int) := rfl
  have en : (Int.ofNat n : Int) = (n : Int) := rfl
  rw [dF (show ¬ Int.ofNat i < Int.ofNat n by omega)]; rfl
theorem l15_6 (S R e top : Int) (H W : Nat → Int) (n b : Nat) (x9 : T) (h : Heap) (hn : n ≤ 9) (h2 : 2 ≤ n) :
    LoopOk P37 G37 (A37 6) 6 15 (litS [.reg [.int .i64 S, .int .i64 R], .own 0 0 0 n none, x9, .int .i64 e, .int .i64 top, .int .i64 b, .nils, .bool true, .int .i64 1] (⟨0, 2, n, fun j => [.int .i64 (H j), .int .i64 (W j)], true, false⟩ :: h) (.exit 0)
      [.reg [.int .i64 S, .int .i64 R], .own 0 0 0 n none, x9, .int .i64 e, .int .i64 top, .int .i64 b, .nils, .bool (fD W (n - 1))] (⟨0, 2, n, fun j => [.int .i64 (H j), .int .i64 (W j)], true, false⟩ :: h)) :=
  .lit fun fn hf hnt => loop_seq hm37 (by kernel_rfl) hf hnt (fun q => [.reg [.int .i64 S, .int .i64 R], .own 0 0 0 n none, x9, .int .i64 e, .int .i64 top, .int .i64 b, .nils, .bool (fD W q), .int .i64 ((q + 1 : Nat) : Int)]) (fun _ => ⟨0, 2, n, fun j => [.int .i64 (H j), .int .i64 (W j)], true, false⟩ :: h) (n := n - 1)
    (fun q hq => ⟨_, _, Rnd.of A37 okK37b rfl rfl (r15 S R e top H W n q b (fD W q) x9 h hn (by omega)), .refl _ _⟩)
    ⟨by simp, _, _, Rnd.of A37 okK37b rfl rfl (r15x S R e top H W n b (n - 1 + 1) (fD W (n - 1)) x9 h (by omega)), .refl _ _⟩
theorem r40 (Y : Nat → Int) (b q : Nat) (A : Blk) (h : Heap) (hb : b ≤ 400) (hq : q + 1 < b) (hY : Y (q + 1) ≤ Y q) :
    iterR P37 G37 A37 K37b 0 6 [] 40 [.own 1 0 0 b (some b), .int .i64 b, .bool true, .int .i64 ((q + 1 : Nat) : Int)] (A :: iblk b Y :: h) = some (.normal, [.own 1 0 0 b (some b), .int .i64 b, .bool true, .int .i64 ((q + 1 + 1 : Nat) : Int)], A :: iblk b Y :: h) := by
  generalize hi : q + 1 = i at *
  rw [(show iterR P37 G37 A37 K37b 0 6 [] 40 [.own 1 0 0 b (some b), .int .i64 b, .bool true, .int .i64 i] (A :: iblk b Y :: h) =
(    bif decide (Int.ofNat i < Int.ofNat b) then
    bif decide ((0 : Int) ≤ Int.ofNat i) && decide (Int.ofNat i < Int.ofNat b) then
    bif ((0 : Nat) + i).blt b then
    bif decide ((0 : Int) ≤ IntKind.i64.wrap (Int.ofNat i - (1 : Int))) &&
      decide (IntKind.i64.wrap (Int.ofNat i - (1 : Int)) < Int.ofNat b) then
    bif ((0 : Nat) + (IntKind.i64.wrap (Int.ofNat i - (1 : Int))).toNat).blt b then
    bif decide (Y ((0 : Nat) + (IntKind.i64.wrap (Int.ofNat i - (1 : Int))).toNat) < Y ((0 : Nat) + i)) then
    some ((Ex.ret, [T.bool false], A :: Blk.mk (0 : Nat) (1 : Nat) b (fun j => [T.int IntKind.i64 (Y j)]) true false :: h))
    else
    some ((Ex.normal,
      [T.own (1 : Nat) (0 : Nat) (0 : Nat) b (some b), T.int IntKind.i64 (Int.ofNat b), T.bool true,
        T.int IntKind.i64 (IntKind.i64.wrap (Int.ofNat i + (1 : Int)))],
      A :: Blk.mk (0 : Nat) (1 : Nat) b (fun j => [T.int IntKind.i64 (Y j)]) true false :: h))
    else
    none
    else
    none
    else
    none
    else
    none
    else
    some ((Ex.exit (6 : Nat), [T.undef],
      A :: Blk.mk (0 : Nat) (1 : Nat) b (fun j => [T.int IntKind.i64 (Y j)]) true false :: h))) from by kernel_rfl)]
  have eo : (Int.ofNat i : Int) = (i : Int) := rfl
  have en : (Int.ofNat b : Int) = (b : Int) := rfl
  have e1 : (Int.ofNat i - 1).toNat = q := by omega
  rw [wr64 (x := Int.ofNat i + 1) (by omega) (by omega), wr64 (x := Int.ofNat i - 1) (by omega) (by omega), e1, dT (show Int.ofNat i < Int.ofNat b by omega), dT (show (0 : Int) ≤ Int.ofNat i by omega), dT (show (0 : Int) ≤ Int.ofNat i - 1 by omega), dT (show Int.ofNat i - 1 < Int.ofNat b by omega), Nat.zero_add, Nat.zero_add, bltT (show i < b by omega), bltT (show q < b by omega), dF (show ¬ Y q < Y i by omega)]
  rfl
theorem r40x (Y : Nat → Int) (b i : Nat) (A : Blk) (h : Heap) (fl : Bool) (hx : fl = false ∨ b ≤ i) :
    iterR P37 G37 A37 K37b 0 6 [] 40 [.own 1 0 0 b (some b), .int .i64 b, .bool fl, .int .i64 i] (A :: iblk b Y :: h) = some (.exit 6, [.undef], A :: iblk b Y :: h) := by
  rw [(show iterR P37 G37 A37 K37b 0 6 [] 40 [.own 1 0 0 b (some b), .int .i64 b, .bool fl, .int .i64 i] (A :: iblk b Y :: h) =
(    bif decide (Int.ofNat i < Int.ofNat b) then
    bif fl then
    bif decide ((0 : Int) ≤ Int.ofNat i) && decide (Int.ofNat i < Int.ofNat b) then
    bif ((0 : Nat) + i).blt b then
    bif decide ((0 : Int) ≤ IntKind.i64.wrap (Int.ofNat i - (1 : Int))) &&
      decide (IntKind.i64.wrap (Int.ofNat i - (1 : Int)) < Int.ofNat b) then
    bif ((0 : Nat) + (IntKind.i64.wrap (Int.ofNat i - (1 : Int))).toNat).blt b then
    bif decide (Y ((0 : Nat) + (IntKind.i64.wrap (Int.ofNat i - (1 : Int))).toNat) < Y ((0 : Nat) + i)) then
    some ((Ex.ret, [T.bool false], A :: Blk.mk (0 : Nat) (1 : Nat) b (fun j => [T.int IntKind.i64 (Y j)]) true false :: h))
    else
    some ((Ex.normal,
      [T.own (1 : Nat) (0 : Nat) (0 : Nat) b (some b), T.int IntKind.i64 (Int.ofNat b), T.bool fl,
        T.int IntKind.i64 (IntKind.i64.wrap (Int.ofNat i + (1 : Int)))],
      A :: Blk.mk (0 : Nat) (1 : Nat) b (fun j => [T.int IntKind.i64 (Y j)]) true false :: h))
    else
    none
    else
    none
    else
    none
    else
    none
    else
    some ((Ex.exit (6 : Nat), [T.undef],
      A :: Blk.mk (0 : Nat) (1 : Nat) b (fun j => [T.int IntKind.i64 (Y j)]) true false :: h))
    else
    some ((Ex.exit (6 : Nat), [T.undef],
      A :: Blk.mk (0 : Nat) (1 : Nat) b (fun j => [T.int IntKind.i64 (Y j)]) true false :: h))) from by kernel_rfl)]
  have eo : (Int.ofNat i : Int) = (i : Int) := rfl
  have en : (Int.ofNat b : Int) = (b : Int) := rfl
  rcases hx with rfl | hx
  · exact bifd (fun _ => rfl) (fun _ => rfl)
  · rw [dF (show ¬ Int.ofNat i < Int.ofNat b by omega)]; rfl
theorem l40 (Y : Nat → Int) (b : Nat) (A : Blk) (h : Heap) (fl : Bool) (hb : b ≤ 400) (h1 : 1 ≤ b) (hY : fl = true → ∀ q, q + 1 < b → Y (q + 1) ≤ Y q) :
    LoopOk P37 G37 (A37 6) 6 40 (litS [.own 1 0 0 b (some b), .int .i64 b, .bool fl, .int .i64 1] (A :: iblk b Y :: h) (.exit 6) [.undef] (A :: iblk b Y :: h)) := by
  cases fl with
  | false => exact .lit fun fn hf hnt => loop_seq hm37 (by kernel_rfl) hf hnt (fun q => [.own 1 0 0 b (some b), .int .i64 b, .bool false, .int .i64 1]) (fun _ => A :: iblk b Y :: h) (n := 0) (fun q hq => by omega) ⟨by simp, _, _, Rnd.of A37 okK37b rfl rfl (r40x Y b 1 A h false (.inl rfl)), .refl _ _⟩
  | true => exact .lit fun fn hf hnt => loop_seq hm37 (by kernel_rfl) hf hnt (fun q => [.own 1 0 0 b (some b), .int .i64 b, .bool true, .int .i64 ((q + 1 : Nat) : Int)]) (fun _ => A :: iblk b Y :: h) (n := b - 1) (fun q hq => ⟨_, _, Rnd.of A37 okK37b rfl rfl (r40 Y b q A h hb (by omega) (hY rfl q (by omega))), .refl _ _⟩) ⟨by simp, _, _, Rnd.of A37 okK37b rfl rfl (r40x Y b (b - 1 + 1) A h true (.inr (by omega))), .refl _ _⟩
/-- Rounding keeps order. -/
theorem round_mono {a1 b1 a0 b0 : Int} (h1 : 1 ≤ b1) (h0 : 1 ≤ b0) (h : a1 * b0 ≤ a0 * b1) : roundF a1 b1 ≤ roundF a0 b0 := by
  unfold roundF
  generalize hq : (2 * a1 + b1) / (2 * b1) = q
  have e1 : q * (2 * b1) ≤ 2 * a1 + b1 := by rw [← hq]; exact Int.ediv_mul_le _ (by omega)
  apply Int.le_ediv_of_mul_le (by omega)
  have e2 : (2 * q - 1) * b1 ≤ 2 * a1 := by
    rw [Int.sub_mul, Int.mul_assoc, Int.one_mul]
    have : q * (2 * b1) = 2 * (q * b1) := by rw [Int.mul_left_comm]
    omega
  have e3 : (2 * q - 1) * b1 * b0 ≤ 2 * a1 * b0 := Int.mul_le_mul_of_nonneg_right e2 (by omega)
  have e4 : (2 * q - 1) * b0 * b1 ≤ 2 * a0 * b1 := by
    have t1 : (2 * q - 1) * b0 * b1 = (2 * q - 1) * b1 * b0 := by rw [Int.mul_assoc, Int.mul_comm b0, ← Int.mul_assoc]
    have t2 : 2 * a1 * b0 = 2 * (a1 * b0) := Int.mul_assoc _ _ _
    have t3 : 2 * a0 * b1 = 2 * (a0 * b1) := Int.mul_assoc _ _ _
    omega
  have e5 : (2 * q - 1) * b0 ≤ 2 * a0 := Int.le_of_mul_le_mul_right e4 (by omega)
  have e6 : (2 * q - 1) * b0 = 2 * (q * b0) - b0 := by rw [Int.sub_mul, Int.mul_assoc, Int.one_mul]
  have e7 : q * (2 * b0) = 2 * (q * b0) := by rw [Int.mul_left_comm]
  omega
end Go.Ab

namespace Go.Ab
open Go.Proofs
section
variable {S R : Int} {H W : Nat → Int} {n a : Nat} {m : Int}
theorem hi_row {P : Int} (q : Here S H W n a m P) (hw : ∀ j, j + 1 < n → W (j + 1) ≤ W j) : wdN S H W n a m P * 100 ≤ S * W a * wdD H n a P := by
  unfold wdN wdD
  by_cases e : a + 1 = n
  · rw [if_pos e, if_pos e]; exact Int.le_refl _
  · rw [if_neg e, if_neg e]
    have b5 := q.bd.2.2.2.2 e
    have h1 := hw a (by have := q.al; omega)
    generalize P * (H (a + 1) - H a) = A at *
    generalize m - P * H a = B at *
    have c1 : (W (a + 1) - W a) * B ≤ 0 := by
      have : (W a - W (a + 1)) * B ≥ 0 := Int.mul_nonneg (by omega) (by omega)
      rw [Int.sub_mul] at this ⊢
      omega
    have c2 : S * (W a * A + (W (a + 1) - W a) * B) ≤ S * (W a * A) := Int.mul_le_mul_of_nonneg_left (by omega) q.s.1
    have e1 : S * W a * (100 * A) = S * (W a * A) * 100 := by rw [Int.mul_assoc, Int.mul_left_comm (W a), Int.mul_comm 100, ← Int.mul_assoc]
    omega
theorem lo_row {P : Int} (q : Here S H W n a m P) (hw : ∀ j, j + 1 < n → W (j + 1) ≤ W j) (e : a + 1 < n) : S * W (a + 1) * wdD H n a P ≤ wdN S H W n a m P * 100 := by
  unfold wdN wdD
  have hi := q.hi e
  have e' : ¬ a + 1 = n := by omega
  rw [if_neg e', if_neg e']
  have b5 := q.bd.2.2.2.2 e'
  have h1 := hw a e
  have e3 : P * (H (a + 1) - H a) = P * H (a + 1) - P * H a := Int.mul_sub _ _ _
  have hAB : m - P * H a ≤ P * (H (a + 1) - H a) := by omega
  generalize P * (H (a + 1) - H a) = A at *
  generalize m - P * H a = B at *
  have c1 : W (a + 1) * A ≤ W a * A + (W (a + 1) - W a) * B := by
    have : (W a - W (a + 1)) * (A - B) ≥ 0 := Int.mul_nonneg (by omega) (by omega)
    rw [Int.sub_mul, Int.mul_sub, Int.mul_sub] at this
    rw [Int.sub_mul]
    omega
  have c2 : S * (W (a + 1) * A) ≤ S * (W a * A + (W (a + 1) - W a) * B) := Int.mul_le_mul_of_nonneg_left c1 q.s.1
  have e1 : S * W (a + 1) * (100 * A) = S * (W (a + 1) * A) * 100 := by rw [Int.mul_assoc, Int.mul_left_comm (W (a + 1)), Int.mul_comm 100, ← Int.mul_assoc]
  omega
theorem wv_mono (hs : Small S R H W n) (hw : ∀ j, j + 1 < n → W (j + 1) ≤ W j) (k : Nat) (hk : k + 1 ≤ 400) : wv S R H W n (k + 1) ≤ wv S R H W n k := by
  have n9 := hs.n9
  have n2 := hs.n2
  have q1 := here_at hs.g hs.okp (by omega) (k + 1) (by omega)
  have q0 := here_at hs.g hs.okp (by omega) k (by omega)
  obtain ⟨d, e1, _, _, _⟩ := adv_sp H n (2 * R) (mid (k + 1)) n (atk H n (2 * R) (k + 1)) q0.al (by omega)
  have e1 : atk H n (2 * R) (k + 1 + 1) = atk H n (2 * R) (k + 1) + d := e1
  unfold wv wd
  have p1 := q1.bd
  have p0 := q0.bd
  refine round_mono p1.2.2.1 p0.2.2.1 ?_
  have hm : mid k ≤ mid (k + 1) := by unfold mid; omega
  generalize atk H n (2 * R) (k + 1) = a0 at *
  generalize atk H n (2 * R) (k + 1 + 1) = a1 at *
  by_cases z : d = 0
  · obtain rfl : a1 = a0 := by omega
    by_cases e : a1 + 1 = n
    · unfold wdN wdD
      rw [if_pos e, if_pos e, if_pos e]; exact Int.le_refl _
    · have b1 := p1.2.2.2.2 e
      have b0 := p0.2.2.2.2 e
      have h1 := hw a1 (by have := q1.al; omega)
      refine Int.mul_le_mul_of_nonneg_right ?_ (by have := p1.2.2.1; omega)
      unfold wdN
      rw [if_neg e, if_neg e]
      generalize 2 * R * (H (a1 + 1) - H a1) = A at *
      refine Int.mul_le_mul_of_nonneg_left ?_ q1.s.1
      have : (W a1 - W (a1 + 1)) * ((mid (k + 1) - 2 * R * H a1) - (mid k - 2 * R * H a1)) ≥ 0 := Int.mul_nonneg (by omega) (by omega)
      generalize mid (k + 1) - 2 * R * H a1 = B1 at *
      generalize mid k - 2 * R * H a1 = B0 at *
      rw [Int.mul_sub, Int.sub_mul, Int.sub_mul] at this
      rw [Int.sub_mul, Int.sub_mul]
      omega
  · have c1 := hi_row q1 hw
    have c0 := lo_row q0 hw (by have := q1.al; omega)
    have hwa : W a1 ≤ W (a0 + 1) := by
      have key : ∀ t, a0 + 1 + t < n → W (a0 + 1 + t) ≤ W (a0 + 1) := by
        intro t
        induction t with
        | zero => intro _; exact Int.le_refl _
        | succ t ih => intro ht; have := ih (by omega); have := hw (a0 + 1 + t) (by omega); rw [show a0 + 1 + (t + 1) = a0 + 1 + t + 1 by omega]; omega
      have := key (d - 1) (by have := q1.al; omega)
      rwa [show a0 + 1 + (d - 1) = a1 by omega] at this
    have d1 := p1.2.2.1
    have d0 := p0.2.2.1
    generalize wdN S H W n a1 (mid (k + 1)) (2 * R) = N1 at *
    generalize wdD H n a1 (2 * R) = D1 at *
    generalize wdN S H W n a0 (mid k) (2 * R) = N0 at *
    generalize wdD H n a0 (2 * R) = D0 at *
    have f1 : S * W a1 ≤ S * W (a0 + 1) := Int.mul_le_mul_of_nonneg_left hwa q1.s.1
    generalize S * W a1 = X1 at *
    generalize S * W (a0 + 1) = X0 at *
    have g1 : N1 * 100 * D0 ≤ X1 * D1 * D0 := Int.mul_le_mul_of_nonneg_right c1 (by omega)
    have g0 : X0 * D0 * D1 ≤ N0 * 100 * D1 := Int.mul_le_mul_of_nonneg_right c0 (by omega)
    have g2 : X1 * (D1 * D0) ≤ X0 * (D1 * D0) := Int.mul_le_mul_of_nonneg_right f1 (Int.mul_nonneg (by omega) (by omega))
    rw [Int.mul_assoc X1] at g1
    rw [Int.mul_assoc X0, Int.mul_comm D0] at g0
    have t1 : N1 * 100 * D0 = 100 * (N1 * D0) := by rw [Int.mul_comm N1, Int.mul_assoc]
    have t0 : N0 * 100 * D1 = 100 * (N0 * D1) := by rw [Int.mul_comm N0, Int.mul_assoc]
    omega
end
end Go.Ab

namespace Go.Ab
def r1F (n : Nat) (H W : Nat → Int) : T := .fresh true 2 n (fun j => [.int .i64 (H j), .int .i64 (W j)]) n none
def rgF (b : Nat) (Y : Nat → Int) : T := .tup [.fresh true 1 b (fun j => [.int .i64 (Y j)]) b (some b), .int .i64 0]
end Go.Ab

namespace Go.Ab
open Go.Proofs
theorem okK6 {l1 l2 l3 : List (List T)} {r1 r2 : T} (h1 : ∀ a ∈ l1, ToldOk P37 G37 16 a r1) (h2 : ∀ a ∈ l2, ToldOk P37 G37 17 a r2) (h3 : ∀ a ∈ l3, ToldOk P37 G37 18 a (.bool true)) : OrcOk P37 G37 (K6 l1 r1 l2 r2 l3) :=
  told_add (told_add (told_add okK37b (callS_told h1)) (callS_told h2)) (callS_told h3)
theorem law6Good (S R top a c : Int) (H W Y V : Nat → Int) (PQ : Nat → List T) (n np b : Nat) (fl : Bool) (tab : Blk) (x : T) (hx : Heap) (l1 l2 l3 : List (List T)) (hs : Small S R H W n) (hS : IntKind.i64.wrap (1 + IntKind.i64.wrap (a.tmod 400)) = S) (hR : IntKind.i64.wrap (1 + IntKind.i64.wrap (c.tmod 400)) = R) (ht : H (n - 1) = top)
    (k1 : ∀ a ∈ l1, ToldOk P37 G37 16 a (.fresh true 2 n (fun j => [.int .i64 (H j), .int .i64 (W j)]) n none)) (k2 : ∀ a ∈ l2, ToldOk P37 G37 17 a (.tup [.fresh true 1 b (fun j => [.int .i64 (Y j)]) b (some b), .int .i64 0])) (k3 : ∀ a ∈ l3, ToldOk P37 G37 18 a (.bool true)) (m1 : [T.view 2 np PQ none] ∈ l1) (m2 : [T.agg [.int .i64 S, .int .i64 R], .view 2 n (fun j => [.int .i64 (H (0 + j)), .int .i64 (W (0 + j))]) none] ∈ l2)
    (m3 : [T.view 1 b (fun j => [.int .i64 (Y (0 + j))]) (some b), .view 1 b (fun j => [.int .i64 (V (0 + j))]) none] ∈ l3) (hrow : roundF (R * top) 100 = Int.ofNat b) (hb : b ≠ 0) (hb4 : b ≤ 400)
    (o15 : LoopOk P37 G37 (A37 6) 6 15 (litS [.reg [.int .i64 S, .int .i64 R], .own 0 0 0 n none, .own 1 0 0 b (some b), .int .i64 0, .int .i64 top, .int .i64 b, .nils, .bool true, .int .i64 1] [⟨0, 2, n, fun j => [.int .i64 (H j), .int .i64 (W j)], true, false⟩, iblk b Y] (.exit 0) [.reg [.int .i64 S, .int .i64 R], .own 0 0 0 n none, .own 1 0 0 b (some b), .int .i64 0, .int .i64 top, .int .i64 b, .nils, .bool fl] [⟨0, 2, n, fun j => [.int .i64 (H j), .int .i64 (W j)], true, false⟩, iblk b Y]))
    (o19 : LoopOk P37 G37 (A37 6) 6 19 (litS [.reg [.int .i64 S, .int .i64 R], .own 0 0 0 n none, .own 1 0 0 b (some b), .int .i64 0, .int .i64 top, .int .i64 b, .nils, .bool fl, .int .i64 0] [⟨0, 2, n, fun j => [.int .i64 (H j), .int .i64 (W j)], true, false⟩, iblk b Y] (.exit 2) [.undef, .own 1 0 0 b (some b), .int .i64 0, .int .i64 b, .own 3 (b - 1) 0 b none, .bool fl] [⟨0, 2, n, fun j => [.int .i64 (H j), .int .i64 (W j)], true, false⟩, iblk b Y, tab, ⟨b - 1, 1, b, fun j => [.int .i64 (V j)], true, false⟩]))
    (o40 : LoopOk P37 G37 (A37 6) 6 40 (litS [.own 1 0 0 b (some b), .int .i64 b, .bool fl, .int .i64 1] [⟨0, 2, n, fun j => [.int .i64 (H j), .int .i64 (W j)], true, false⟩, iblk b Y, tab, ⟨b - 1, 1, b, fun j => [.int .i64 (V j)], true, false⟩] (.exit 6) [.undef] [⟨0, 2, n, fun j => [.int .i64 (H j), .int .i64 (W j)], true, false⟩, iblk b Y, tab, ⟨b - 1, 1, b, fun j => [.int .i64 (V j)], true, false⟩])) : ToldOk P37 G37 6 [.int .u16 a, .int .u16 c, .view 2 np PQ none] (.bool true) := by
  refine stepL_told hm37 hn37 (okK6 k1 k2 k3) (A := A37) (m := 0) (by kernel_rfl) (loopsC o15 (loopsC o19 (loops1 o40))) ?_
  rw [(show stepL P37 G37 A37 (K6 l1 (.fresh true 2 n (fun j => [.int .i64 (H j), .int .i64 (W j)]) n none) l2 (.tup [.fresh true 1 b (fun j => [.int .i64 (Y j)]) b (some b), .int .i64 0]) l3) 0 6 [(15, litS [.reg [.int .i64 S, .int .i64 R], .own 0 0 0 n none, .own 1 0 0 b (some b), .int .i64 0, .int .i64 top, .int .i64 b, .nils, .bool true, .int .i64 1] [⟨0, 2, n, fun j => [.int .i64 (H j), .int .i64 (W j)], true, false⟩, iblk b Y] (.exit 0) [.reg [.int .i64 S, .int .i64 R], .own 0 0 0 n none, .own 1 0 0 b (some b), .int .i64 0, .int .i64 top, .int .i64 b, .nils, .bool fl] [⟨0, 2, n, fun j => [.int .i64 (H j), .int .i64 (W j)], true, false⟩, iblk b Y]), (19, litS [.reg [.int .i64 S, .int .i64 R], .own 0 0 0 n none, .own 1 0 0 b (some b), .int .i64 0, .int .i64 top, .int .i64 b, .nils, .bool fl, .int .i64 0] [⟨0, 2, n, fun j => [.int .i64 (H j), .int .i64 (W j)], true, false⟩, iblk b Y] (.exit 2) [.undef, .own 1 0 0 b (some b), .int .i64 0, .int .i64 b, .own 3 (b - 1) 0 b none, .bool fl] [⟨0, 2, n, fun j => [.int .i64 (H j), .int .i64 (W j)], true, false⟩, iblk b Y, tab, ⟨b - 1, 1, b, fun j => [.int .i64 (V j)], true, false⟩]), (40, litS [.own 1 0 0 b (some b), .int .i64 b, .bool fl, .int .i64 1] [⟨0, 2, n, fun j => [.int .i64 (H j), .int .i64 (W j)], true, false⟩, iblk b Y, tab, ⟨b - 1, 1, b, fun j => [.int .i64 (V j)], true, false⟩] (.exit 6) [.undef] [⟨0, 2, n, fun j => [.int .i64 (H j), .int .i64 (W j)], true, false⟩, iblk b Y, tab, ⟨b - 1, 1, b, fun j => [.int .i64 (V j)], true, false⟩])] [.int .u16 a, .int .u16 c, .view 2 np PQ none] =
(    bif sameArgsF [T.view (2 : Nat) np PQ none] l1 then
    bif sameArgsF
      [T.agg
          [T.int IntKind.i64 (IntKind.i64.wrap ((1 : Int) + IntKind.i64.wrap (a.tmod (400 : Int)))),
            T.int IntKind.i64 (IntKind.i64.wrap ((1 : Int) + IntKind.i64.wrap (c.tmod (400 : Int))))],
        bif true && ((0 : Nat) + n).ble n then
          T.view (2 : Nat) n (fun j => [T.int IntKind.i64 (H ((0 : Nat) + j)), T.int IntKind.i64 (W ((0 : Nat) + j))]) none
        else T.undef]
      l2 then
    bif decide (Int.ofNat n < (2 : Int)) then
    some (T.bool false)
    else
    bif decide ((0 : Int) ≤ IntKind.i64.wrap (Int.ofNat n - (1 : Int))) &&
      decide (IntKind.i64.wrap (Int.ofNat n - (1 : Int)) < Int.ofNat n) then
    bif ((0 : Nat) + (IntKind.i64.wrap (Int.ofNat n - (1 : Int))).toNat).blt n then
    bif cntF (IntKind.i64.wrap ((1 : Int) + IntKind.i64.wrap (c.tmod (400 : Int))))
      (H ((0 : Nat) + (IntKind.i64.wrap (Int.ofNat n - (1 : Int))).toNat)) (20000 : Int) then
    bif decide
      ((400 : Int) <
        roundF
          (IntKind.i64.wrap ((1 : Int) + IntKind.i64.wrap (c.tmod (400 : Int))) *
            H ((0 : Nat) + (IntKind.i64.wrap (Int.ofNat n - (1 : Int))).toNat))
          (100 : Int)) then
    some (T.bool false)
    else
    bif sameStF
      [T.reg
          [T.int IntKind.i64 (IntKind.i64.wrap ((1 : Int) + IntKind.i64.wrap (a.tmod (400 : Int)))),
            T.int IntKind.i64 (IntKind.i64.wrap ((1 : Int) + IntKind.i64.wrap (c.tmod (400 : Int))))],
        T.own (0 : Nat) (0 : Nat) (0 : Nat) n none,
        T.own [Blk.mk (0 : Nat) (2 : Nat) n (fun j => [T.int IntKind.i64 (H j), T.int IntKind.i64 (W j)]) true false].length
          (0 : Nat) (0 : Nat) b (some b),
        T.int IntKind.i64 (0 : Int), T.int IntKind.i64 (H ((0 : Nat) + (IntKind.i64.wrap (Int.ofNat n - (1 : Int))).toNat)),
        T.int IntKind.i64
          (roundF
            (IntKind.i64.wrap ((1 : Int) + IntKind.i64.wrap (c.tmod (400 : Int))) *
              H ((0 : Nat) + (IntKind.i64.wrap (Int.ofNat n - (1 : Int))).toNat))
            (100 : Int)),
        T.nils, T.bool true, T.int IntKind.i64 (1 : Int)]
      [Blk.mk (0 : Nat) (2 : Nat) n (fun j => [T.int IntKind.i64 (H j), T.int IntKind.i64 (W j)]) true false,
        Blk.mk (0 : Nat) (1 : Nat) b (fun j => [T.int IntKind.i64 (Y j)]) true false]
      [T.reg [T.int IntKind.i64 S, T.int IntKind.i64 R], T.own (0 : Nat) (0 : Nat) (0 : Nat) n none,
        T.own (1 : Nat) (0 : Nat) (0 : Nat) b (some b), T.int IntKind.i64 (0 : Int), T.int IntKind.i64 top,
        T.int IntKind.i64 (Int.ofNat b), T.nils, T.bool true, T.int IntKind.i64 (1 : Int)]
      [Blk.mk (0 : Nat) (2 : Nat) n (fun j => [T.int IntKind.i64 (H j), T.int IntKind.i64 (W j)]) true false,
        Blk.mk (0 : Nat) (1 : Nat) b (fun j => [T.int IntKind.i64 (Y j)]) true false] then
    bif sameStF
      [T.reg [T.int IntKind.i64 S, T.int IntKind.i64 R], T.own (0 : Nat) (0 : Nat) (0 : Nat) n none,
        T.own (1 : Nat) (0 : Nat) (0 : Nat) b (some b), T.int IntKind.i64 (0 : Int), T.int IntKind.i64 top,
        T.int IntKind.i64 (Int.ofNat b), T.nils, T.bool fl, T.int IntKind.i64 (0 : Int)]
      [Blk.mk (0 : Nat) (2 : Nat) n (fun j => [T.int IntKind.i64 (H j), T.int IntKind.i64 (W j)]) true false,
        Blk.mk (0 : Nat) (1 : Nat) b (fun j => [T.int IntKind.i64 (Y j)]) true false]
      [T.reg [T.int IntKind.i64 S, T.int IntKind.i64 R], T.own (0 : Nat) (0 : Nat) (0 : Nat) n none,
        T.own (1 : Nat) (0 : Nat) (0 : Nat) b (some b), T.int IntKind.i64 (0 : Int), T.int IntKind.i64 top,
        T.int IntKind.i64 (Int.ofNat b), T.nils, T.bool fl, T.int IntKind.i64 (0 : Int)]
      [Blk.mk (0 : Nat) (2 : Nat) n (fun j => [T.int IntKind.i64 (H j), T.int IntKind.i64 (W j)]) true false,
        Blk.mk (0 : Nat) (1 : Nat) b (fun j => [T.int IntKind.i64 (Y j)]) true false] then
    bif decide (Int.ofNat b = (0 : Int)) then
    some (T.bool false)
    else
    bif sameArgsF
      [bif true && ((0 : Nat) + b).ble b then T.view (1 : Nat) b (fun j => [T.int IntKind.i64 (Y ((0 : Nat) + j))]) (some b)
        else T.undef,
        bif b - (1 : Nat) == b - (1 : Nat) && ((0 : Nat) + b).ble b then
          T.view (1 : Nat) b (fun j => [T.int IntKind.i64 (V ((0 : Nat) + j))]) none
        else T.undef]
      l3 then
    bif sameStF
      [T.own (1 : Nat) (0 : Nat) (0 : Nat) b (some b), T.int IntKind.i64 (Int.ofNat b), T.bool fl,
        T.int IntKind.i64 (1 : Int)]
      [Blk.mk (0 : Nat) (2 : Nat) n (fun j => [T.int IntKind.i64 (H j), T.int IntKind.i64 (W j)]) true false,
        Blk.mk (0 : Nat) (1 : Nat) b (fun j => [T.int IntKind.i64 (Y j)]) true false, tab,
        Blk.mk (b - (1 : Nat)) (1 : Nat) b (fun j => [T.int IntKind.i64 (V j)]) true false]
      [T.own (1 : Nat) (0 : Nat) (0 : Nat) b (some b), T.int IntKind.i64 (Int.ofNat b), T.bool fl,
        T.int IntKind.i64 (1 : Int)]
      [Blk.mk (0 : Nat) (2 : Nat) n (fun j => [T.int IntKind.i64 (H j), T.int IntKind.i64 (W j)]) true false,
        Blk.mk (0 : Nat) (1 : Nat) b (fun j => [T.int IntKind.i64 (Y j)]) true false, tab,
        Blk.mk (b - (1 : Nat)) (1 : Nat) b (fun j => [T.int IntKind.i64 (V j)]) true false] then
    some (T.bool true)
    else
    none
    else
    none
    else
    none
    else
    none
    else
    some (T.bool false)
    else
    none
    else
    none
    else
    none
    else
    none) from by kernel_rfl)]
  have en : (Int.ofNat n : Int) = (n : Int) := rfl
  have eb : (Int.ofNat b : Int) = (b : Int) := rfl
  have n9 := hs.n9
  have n2 := hs.n2
  have tb := hs.hb (n - 1) (by omega)
  have g4 := hs.g
  unfold Okg at g4
  have e1 : (Int.ofNat n - 1).toNat = n - 1 := by omega
  rw [args_yes m1]
  simp only [cond_true, Bool.true_and, hS, hR]
  rw [bleT (show 0 + n ≤ n by omega)]
  simp only [cond_true]
  rw [args_yes m2, dF (show ¬ Int.ofNat n < 2 by omega), wr64 (x := Int.ofNat n - 1) (by omega) (by omega), e1, Nat.zero_add (n - 1), dT (show (0 : Int) ≤ Int.ofNat n - 1 by omega), dT (show Int.ofNat n - 1 < Int.ofNat n by omega), bltT (show n - 1 < n by omega), ht, cntF_iff.2 (show 1 ≤ R ∧ R ≤ 400 ∧ 0 ≤ top ∧ top ≤ 20000 by omega)]
  simp only [Bool.and_self, cond_true, cond_false]
  rw [hrow, dF (show ¬ (400 : Int) < Int.ofNat b by omega)]
  simp only [cond_false]
  refine bift (sameStF_iff.2 ⟨rfl, .refl _⟩) ?_
  refine bift (sameStF_iff.2 ⟨rfl, .refl _⟩) ?_
  rw [dF (show ¬ Int.ofNat b = 0 by omega), bleT (show 0 + b ≤ b by omega)]
  simp only [beq_self_eq_true, Bool.and_self, cond_true, cond_false]
  rw [args_yes m3]
  simp only [cond_true]
  exact bift (sameStF_iff.2 ⟨rfl, .refl _⟩) rfl
theorem law6Many (S R top a c : Int) (H W Y V : Nat → Int) (PQ : Nat → List T) (n np b : Nat) (fl : Bool) (tab : Blk) (x : T) (hx : Heap) (l1 l2 l3 : List (List T)) (hs : Small S R H W n) (hS : IntKind.i64.wrap (1 + IntKind.i64.wrap (a.tmod 400)) = S) (hR : IntKind.i64.wrap (1 + IntKind.i64.wrap (c.tmod 400)) = R) (ht : H (n - 1) = top)
    (k1 : ∀ a ∈ l1, ToldOk P37 G37 16 a (.fresh true 2 n (fun j => [.int .i64 (H j), .int .i64 (W j)]) n none)) (k2 : ∀ a ∈ l2, ToldOk P37 G37 17 a (.tup [.nils, .int .i64 3])) (k3 : ∀ a ∈ l3, ToldOk P37 G37 18 a (.bool true)) (m1 : [T.view 2 np PQ none] ∈ l1) (m2 : [T.agg [.int .i64 S, .int .i64 R], .view 2 n (fun j => [.int .i64 (H (0 + j)), .int .i64 (W (0 + j))]) none] ∈ l2)
    (hrow : 400 < roundF (R * top) 100) : ToldOk P37 G37 6 [.int .u16 a, .int .u16 c, .view 2 np PQ none] (.bool true) := by
  refine stepV_told hm37 hn37 (okK6 k1 k2 k3) (A := A37) (m := 0) ?_
  rw [(show stepV P37 G37 A37 (K6 l1 (.fresh true 2 n (fun j => [.int .i64 (H j), .int .i64 (W j)]) n none) l2 (.tup [.nils, .int .i64 3]) l3) 0 6 [.int .u16 a, .int .u16 c, .view 2 np PQ none] =
(    bif sameArgsF [T.view (2 : Nat) np PQ none] l1 then
    bif sameArgsF
      [T.agg
          [T.int IntKind.i64 (IntKind.i64.wrap ((1 : Int) + IntKind.i64.wrap (a.tmod (400 : Int)))),
            T.int IntKind.i64 (IntKind.i64.wrap ((1 : Int) + IntKind.i64.wrap (c.tmod (400 : Int))))],
        bif true && ((0 : Nat) + n).ble n then
          T.view (2 : Nat) n (fun j => [T.int IntKind.i64 (H ((0 : Nat) + j)), T.int IntKind.i64 (W ((0 : Nat) + j))]) none
        else T.undef]
      l2 then
    bif decide (Int.ofNat n < (2 : Int)) then
    some (T.bool false)
    else
    bif decide ((0 : Int) ≤ IntKind.i64.wrap (Int.ofNat n - (1 : Int))) &&
      decide (IntKind.i64.wrap (Int.ofNat n - (1 : Int)) < Int.ofNat n) then
    bif ((0 : Nat) + (IntKind.i64.wrap (Int.ofNat n - (1 : Int))).toNat).blt n then
    bif cntF (IntKind.i64.wrap ((1 : Int) + IntKind.i64.wrap (c.tmod (400 : Int))))
      (H ((0 : Nat) + (IntKind.i64.wrap (Int.ofNat n - (1 : Int))).toNat)) (20000 : Int) then
    bif decide
      ((400 : Int) <
        roundF
          (IntKind.i64.wrap ((1 : Int) + IntKind.i64.wrap (c.tmod (400 : Int))) *
            H ((0 : Nat) + (IntKind.i64.wrap (Int.ofNat n - (1 : Int))).toNat))
          (100 : Int)) then
    some (T.bool true)
    else
    none
    else
    some (T.bool false)
    else
    none
    else
    none
    else
    none
    else
    none) from by kernel_rfl)]
  have en : (Int.ofNat n : Int) = (n : Int) := rfl
  have eb : (Int.ofNat b : Int) = (b : Int) := rfl
  have n9 := hs.n9
  have n2 := hs.n2
  have tb := hs.hb (n - 1) (by omega)
  have g4 := hs.g
  unfold Okg at g4
  have e1 : (Int.ofNat n - 1).toNat = n - 1 := by omega
  rw [args_yes m1]
  simp only [cond_true, Bool.true_and, hS, hR]
  rw [bleT (show 0 + n ≤ n by omega)]
  simp only [cond_true]
  rw [args_yes m2, dF (show ¬ Int.ofNat n < 2 by omega), wr64 (x := Int.ofNat n - 1) (by omega) (by omega), e1, Nat.zero_add (n - 1), dT (show (0 : Int) ≤ Int.ofNat n - 1 by omega), dT (show Int.ofNat n - 1 < Int.ofNat n by omega), bltT (show n - 1 < n by omega), ht, cntF_iff.2 (show 1 ≤ R ∧ R ≤ 400 ∧ 0 ≤ top ∧ top ≤ 20000 by omega)]
  simp only [Bool.and_self, cond_true, cond_false]
  rw [dT hrow]; rfl
theorem law6None (S R top a c : Int) (H W Y V : Nat → Int) (PQ : Nat → List T) (n np b : Nat) (fl : Bool) (tab : Blk) (x : T) (hx : Heap) (l1 l2 l3 : List (List T)) (hs : Small S R H W n) (hS : IntKind.i64.wrap (1 + IntKind.i64.wrap (a.tmod 400)) = S) (hR : IntKind.i64.wrap (1 + IntKind.i64.wrap (c.tmod 400)) = R) (ht : H (n - 1) = top)
    (k1 : ∀ a ∈ l1, ToldOk P37 G37 16 a (.fresh true 2 n (fun j => [.int .i64 (H j), .int .i64 (W j)]) n none)) (k2 : ∀ a ∈ l2, ToldOk P37 G37 17 a (.tup [.nils, .int .i64 14])) (k3 : ∀ a ∈ l3, ToldOk P37 G37 18 a (.bool true)) (m1 : [T.view 2 np PQ none] ∈ l1) (m2 : [T.agg [.int .i64 S, .int .i64 R], .view 2 n (fun j => [.int .i64 (H (0 + j)), .int .i64 (W (0 + j))]) none] ∈ l2)
    (hrow : roundF (R * top) 100 = 0)
    (o15 : LoopOk P37 G37 (A37 6) 6 15 (litS [.reg [.int .i64 S, .int .i64 R], .own 0 0 0 n none, .nils, .int .i64 14, .int .i64 top, .int .i64 0, .nils, .bool true, .int .i64 1] [⟨0, 2, n, fun j => [.int .i64 (H j), .int .i64 (W j)], true, false⟩] (.exit 0) [.reg [.int .i64 S, .int .i64 R], .own 0 0 0 n none, .nils, .int .i64 14, .int .i64 top, .int .i64 0, .nils, .bool fl] [⟨0, 2, n, fun j => [.int .i64 (H j), .int .i64 (W j)], true, false⟩]))
    (o19 : LoopOk P37 G37 (A37 6) 6 19 (litS [.reg [.int .i64 S, .int .i64 R], .own 0 0 0 n none, .nils, .int .i64 14, .int .i64 top, .int .i64 0, .nils, .bool fl, .int .i64 0] [⟨0, 2, n, fun j => [.int .i64 (H j), .int .i64 (W j)], true, false⟩] (.exit 2) [.undef, .nils, .int .i64 14, .int .i64 0, .nils, .bool fl] [⟨0, 2, n, fun j => [.int .i64 (H j), .int .i64 (W j)], true, false⟩])) : ToldOk P37 G37 6 [.int .u16 a, .int .u16 c, .view 2 np PQ none] (.bool true) := by
  refine stepL_told hm37 hn37 (okK6 k1 k2 k3) (A := A37) (m := 0) (by kernel_rfl) (loopsC o15 (loops1 o19)) ?_
  rw [(show stepL P37 G37 A37 (K6 l1 (.fresh true 2 n (fun j => [.int .i64 (H j), .int .i64 (W j)]) n none) l2 (.tup [.nils, .int .i64 14]) l3) 0 6 [(15, litS [.reg [.int .i64 S, .int .i64 R], .own 0 0 0 n none, .nils, .int .i64 14, .int .i64 top, .int .i64 0, .nils, .bool true, .int .i64 1] [⟨0, 2, n, fun j => [.int .i64 (H j), .int .i64 (W j)], true, false⟩] (.exit 0) [.reg [.int .i64 S, .int .i64 R], .own 0 0 0 n none, .nils, .int .i64 14, .int .i64 top, .int .i64 0, .nils, .bool fl] [⟨0, 2, n, fun j => [.int .i64 (H j), .int .i64 (W j)], true, false⟩]), (19, litS [.reg [.int .i64 S, .int .i64 R], .own 0 0 0 n none, .nils, .int .i64 14, .int .i64 top, .int .i64 0, .nils, .bool fl, .int .i64 0] [⟨0, 2, n, fun j => [.int .i64 (H j), .int .i64 (W j)], true, false⟩] (.exit 2) [.undef, .nils, .int .i64 14, .int .i64 0, .nils, .bool fl] [⟨0, 2, n, fun j => [.int .i64 (H j), .int .i64 (W j)], true, false⟩])] [.int .u16 a, .int .u16 c, .view 2 np PQ none] =
(    bif sameArgsF [T.view (2 : Nat) np PQ none] l1 then
    bif sameArgsF
      [T.agg
          [T.int IntKind.i64 (IntKind.i64.wrap ((1 : Int) + IntKind.i64.wrap (a.tmod (400 : Int)))),
            T.int IntKind.i64 (IntKind.i64.wrap ((1 : Int) + IntKind.i64.wrap (c.tmod (400 : Int))))],
        bif true && ((0 : Nat) + n).ble n then
          T.view (2 : Nat) n (fun j => [T.int IntKind.i64 (H ((0 : Nat) + j)), T.int IntKind.i64 (W ((0 : Nat) + j))]) none
        else T.undef]
      l2 then
    bif decide (Int.ofNat n < (2 : Int)) then
    some (T.bool false)
    else
    bif decide ((0 : Int) ≤ IntKind.i64.wrap (Int.ofNat n - (1 : Int))) &&
      decide (IntKind.i64.wrap (Int.ofNat n - (1 : Int)) < Int.ofNat n) then
    bif ((0 : Nat) + (IntKind.i64.wrap (Int.ofNat n - (1 : Int))).toNat).blt n then
    bif cntF (IntKind.i64.wrap ((1 : Int) + IntKind.i64.wrap (c.tmod (400 : Int))))
      (H ((0 : Nat) + (IntKind.i64.wrap (Int.ofNat n - (1 : Int))).toNat)) (20000 : Int) then
    bif decide
      ((400 : Int) <
        roundF
          (IntKind.i64.wrap ((1 : Int) + IntKind.i64.wrap (c.tmod (400 : Int))) *
            H ((0 : Nat) + (IntKind.i64.wrap (Int.ofNat n - (1 : Int))).toNat))
          (100 : Int)) then
    some (T.bool false)
    else
    bif sameStF
      [T.reg
          [T.int IntKind.i64 (IntKind.i64.wrap ((1 : Int) + IntKind.i64.wrap (a.tmod (400 : Int)))),
            T.int IntKind.i64 (IntKind.i64.wrap ((1 : Int) + IntKind.i64.wrap (c.tmod (400 : Int))))],
        T.own (0 : Nat) (0 : Nat) (0 : Nat) n none, T.nils, T.int IntKind.i64 (14 : Int),
        T.int IntKind.i64 (H ((0 : Nat) + (IntKind.i64.wrap (Int.ofNat n - (1 : Int))).toNat)),
        T.int IntKind.i64
          (roundF
            (IntKind.i64.wrap ((1 : Int) + IntKind.i64.wrap (c.tmod (400 : Int))) *
              H ((0 : Nat) + (IntKind.i64.wrap (Int.ofNat n - (1 : Int))).toNat))
            (100 : Int)),
        T.nils, T.bool true, T.int IntKind.i64 (1 : Int)]
      [Blk.mk (0 : Nat) (2 : Nat) n (fun j => [T.int IntKind.i64 (H j), T.int IntKind.i64 (W j)]) true false]
      [T.reg [T.int IntKind.i64 S, T.int IntKind.i64 R], T.own (0 : Nat) (0 : Nat) (0 : Nat) n none, T.nils,
        T.int IntKind.i64 (14 : Int), T.int IntKind.i64 top, T.int IntKind.i64 (0 : Int), T.nils, T.bool true,
        T.int IntKind.i64 (1 : Int)]
      [Blk.mk (0 : Nat) (2 : Nat) n (fun j => [T.int IntKind.i64 (H j), T.int IntKind.i64 (W j)]) true false] then
    bif sameStF
      [T.reg [T.int IntKind.i64 S, T.int IntKind.i64 R], T.own (0 : Nat) (0 : Nat) (0 : Nat) n none, T.nils,
        T.int IntKind.i64 (14 : Int), T.int IntKind.i64 top, T.int IntKind.i64 (0 : Int), T.nils, T.bool fl,
        T.int IntKind.i64 (0 : Int)]
      [Blk.mk (0 : Nat) (2 : Nat) n (fun j => [T.int IntKind.i64 (H j), T.int IntKind.i64 (W j)]) true false]
      [T.reg [T.int IntKind.i64 S, T.int IntKind.i64 R], T.own (0 : Nat) (0 : Nat) (0 : Nat) n none, T.nils,
        T.int IntKind.i64 (14 : Int), T.int IntKind.i64 top, T.int IntKind.i64 (0 : Int), T.nils, T.bool fl,
        T.int IntKind.i64 (0 : Int)]
      [Blk.mk (0 : Nat) (2 : Nat) n (fun j => [T.int IntKind.i64 (H j), T.int IntKind.i64 (W j)]) true false] then
    some (T.bool true)
    else
    none
    else
    none
    else
    some (T.bool false)
    else
    none
    else
    none
    else
    none
    else
    none) from by kernel_rfl)]
  have en : (Int.ofNat n : Int) = (n : Int) := rfl
  have eb : (Int.ofNat b : Int) = (b : Int) := rfl
  have n9 := hs.n9
  have n2 := hs.n2
  have tb := hs.hb (n - 1) (by omega)
  have g4 := hs.g
  unfold Okg at g4
  have e1 : (Int.ofNat n - 1).toNat = n - 1 := by omega
  rw [args_yes m1]
  simp only [cond_true, Bool.true_and, hS, hR]
  rw [bleT (show 0 + n ≤ n by omega)]
  simp only [cond_true]
  rw [args_yes m2, dF (show ¬ Int.ofNat n < 2 by omega), wr64 (x := Int.ofNat n - 1) (by omega) (by omega), e1, Nat.zero_add (n - 1), dT (show (0 : Int) ≤ Int.ofNat n - 1 by omega), dT (show Int.ofNat n - 1 < Int.ofNat n by omega), bltT (show n - 1 < n by omega), ht, cntF_iff.2 (show 1 ≤ R ∧ R ≤ 400 ∧ 0 ≤ top ∧ top ≤ 20000 by omega)]
  simp only [Bool.and_self, cond_true, cond_false]
  rw [hrow, dF (show ¬ (400 : Int) < 0 by omega)]
  simp only [cond_false]
  refine bift (sameStF_iff.2 ⟨rfl, .refl _⟩) ?_
  exact bift (sameStF_iff.2 ⟨rfl, .refl _⟩) rfl
theorem law6Zero (S R top a c : Int) (H W Y V : Nat → Int) (PQ : Nat → List T) (n np b : Nat) (fl : Bool) (tab : Blk) (x : T) (hx : Heap) (l1 l2 l3 : List (List T)) (hs : Small S R H W n) (hS : IntKind.i64.wrap (1 + IntKind.i64.wrap (a.tmod 400)) = S) (hR : IntKind.i64.wrap (1 + IntKind.i64.wrap (c.tmod 400)) = R) (ht : H (n - 1) = top)
    (k1 : ∀ a ∈ l1, ToldOk P37 G37 16 a (.fresh true 2 n (fun j => [.int .i64 (H j), .int .i64 (W j)]) n none)) (k2 : ∀ a ∈ l2, ToldOk P37 G37 17 a (.tup [.nils, .int .i64 14])) (k3 : ∀ a ∈ l3, ToldOk P37 G37 18 a (.bool true)) (m1 : [T.view 2 np PQ none] ∈ l1) (m2 : [T.agg [.int .i64 S, .int .i64 R], .view 2 n (fun j => [.int .i64 (H (0 + j)), .int .i64 (W (0 + j))]) none] ∈ l2)
    (hrow : roundF (R * top) 100 = Int.ofNat b) (hb4 : b ≤ 400)
    (o15 : LoopOk P37 G37 (A37 6) 6 15 (litS [.reg [.int .i64 S, .int .i64 R], .own 0 0 0 n none, .nils, .int .i64 14, .int .i64 top, .int .i64 b, .nils, .bool true, .int .i64 1] [⟨0, 2, n, fun j => [.int .i64 (H j), .int .i64 (W j)], true, false⟩] (.exit 0) [.reg [.int .i64 S, .int .i64 R], .own 0 0 0 n none, .nils, .int .i64 14, .int .i64 top, .int .i64 b, .nils, .bool fl] [⟨0, 2, n, fun j => [.int .i64 (H j), .int .i64 (W j)], true, false⟩]))
    (o19 : LoopOk P37 G37 (A37 6) 6 19 (litS [.reg [.int .i64 S, .int .i64 R], .own 0 0 0 n none, .nils, .int .i64 14, .int .i64 top, .int .i64 b, .nils, .bool fl, .int .i64 0] [⟨0, 2, n, fun j => [.int .i64 (H j), .int .i64 (W j)], true, false⟩] .ret [.bool true, .nils, .int .i64 14, .int .i64 b, x, .bool fl] hx)) : ToldOk P37 G37 6 [.int .u16 a, .int .u16 c, .view 2 np PQ none] (.bool true) := by
  refine stepL_told hm37 hn37 (okK6 k1 k2 k3) (A := A37) (m := 0) (by kernel_rfl) (loopsC o15 (loops1 o19)) ?_
  rw [(show stepL P37 G37 A37 (K6 l1 (.fresh true 2 n (fun j => [.int .i64 (H j), .int .i64 (W j)]) n none) l2 (.tup [.nils, .int .i64 14]) l3) 0 6 [(15, litS [.reg [.int .i64 S, .int .i64 R], .own 0 0 0 n none, .nils, .int .i64 14, .int .i64 top, .int .i64 b, .nils, .bool true, .int .i64 1] [⟨0, 2, n, fun j => [.int .i64 (H j), .int .i64 (W j)], true, false⟩] (.exit 0) [.reg [.int .i64 S, .int .i64 R], .own 0 0 0 n none, .nils, .int .i64 14, .int .i64 top, .int .i64 b, .nils, .bool fl] [⟨0, 2, n, fun j => [.int .i64 (H j), .int .i64 (W j)], true, false⟩]), (19, litS [.reg [.int .i64 S, .int .i64 R], .own 0 0 0 n none, .nils, .int .i64 14, .int .i64 top, .int .i64 b, .nils, .bool fl, .int .i64 0] [⟨0, 2, n, fun j => [.int .i64 (H j), .int .i64 (W j)], true, false⟩] .ret [.bool true, .nils, .int .i64 14, .int .i64 b, x, .bool fl] hx)] [.int .u16 a, .int .u16 c, .view 2 np PQ none] =
(    bif sameArgsF [T.view (2 : Nat) np PQ none] l1 then
    bif sameArgsF
      [T.agg
          [T.int IntKind.i64 (IntKind.i64.wrap ((1 : Int) + IntKind.i64.wrap (a.tmod (400 : Int)))),
            T.int IntKind.i64 (IntKind.i64.wrap ((1 : Int) + IntKind.i64.wrap (c.tmod (400 : Int))))],
        bif true && ((0 : Nat) + n).ble n then
          T.view (2 : Nat) n (fun j => [T.int IntKind.i64 (H ((0 : Nat) + j)), T.int IntKind.i64 (W ((0 : Nat) + j))]) none
        else T.undef]
      l2 then
    bif decide (Int.ofNat n < (2 : Int)) then
    some (T.bool false)
    else
    bif decide ((0 : Int) ≤ IntKind.i64.wrap (Int.ofNat n - (1 : Int))) &&
      decide (IntKind.i64.wrap (Int.ofNat n - (1 : Int)) < Int.ofNat n) then
    bif ((0 : Nat) + (IntKind.i64.wrap (Int.ofNat n - (1 : Int))).toNat).blt n then
    bif cntF (IntKind.i64.wrap ((1 : Int) + IntKind.i64.wrap (c.tmod (400 : Int))))
      (H ((0 : Nat) + (IntKind.i64.wrap (Int.ofNat n - (1 : Int))).toNat)) (20000 : Int) then
    bif decide
      ((400 : Int) <
        roundF
          (IntKind.i64.wrap ((1 : Int) + IntKind.i64.wrap (c.tmod (400 : Int))) *
            H ((0 : Nat) + (IntKind.i64.wrap (Int.ofNat n - (1 : Int))).toNat))
          (100 : Int)) then
    some (T.bool false)
    else
    bif sameStF
      [T.reg
          [T.int IntKind.i64 (IntKind.i64.wrap ((1 : Int) + IntKind.i64.wrap (a.tmod (400 : Int)))),
            T.int IntKind.i64 (IntKind.i64.wrap ((1 : Int) + IntKind.i64.wrap (c.tmod (400 : Int))))],
        T.own (0 : Nat) (0 : Nat) (0 : Nat) n none, T.nils, T.int IntKind.i64 (14 : Int),
        T.int IntKind.i64 (H ((0 : Nat) + (IntKind.i64.wrap (Int.ofNat n - (1 : Int))).toNat)),
        T.int IntKind.i64
          (roundF
            (IntKind.i64.wrap ((1 : Int) + IntKind.i64.wrap (c.tmod (400 : Int))) *
              H ((0 : Nat) + (IntKind.i64.wrap (Int.ofNat n - (1 : Int))).toNat))
            (100 : Int)),
        T.nils, T.bool true, T.int IntKind.i64 (1 : Int)]
      [Blk.mk (0 : Nat) (2 : Nat) n (fun j => [T.int IntKind.i64 (H j), T.int IntKind.i64 (W j)]) true false]
      [T.reg [T.int IntKind.i64 S, T.int IntKind.i64 R], T.own (0 : Nat) (0 : Nat) (0 : Nat) n none, T.nils,
        T.int IntKind.i64 (14 : Int), T.int IntKind.i64 top, T.int IntKind.i64 (Int.ofNat b), T.nils, T.bool true,
        T.int IntKind.i64 (1 : Int)]
      [Blk.mk (0 : Nat) (2 : Nat) n (fun j => [T.int IntKind.i64 (H j), T.int IntKind.i64 (W j)]) true false] then
    bif sameStF
      [T.reg [T.int IntKind.i64 S, T.int IntKind.i64 R], T.own (0 : Nat) (0 : Nat) (0 : Nat) n none, T.nils,
        T.int IntKind.i64 (14 : Int), T.int IntKind.i64 top, T.int IntKind.i64 (Int.ofNat b), T.nils, T.bool fl,
        T.int IntKind.i64 (0 : Int)]
      [Blk.mk (0 : Nat) (2 : Nat) n (fun j => [T.int IntKind.i64 (H j), T.int IntKind.i64 (W j)]) true false]
      [T.reg [T.int IntKind.i64 S, T.int IntKind.i64 R], T.own (0 : Nat) (0 : Nat) (0 : Nat) n none, T.nils,
        T.int IntKind.i64 (14 : Int), T.int IntKind.i64 top, T.int IntKind.i64 (Int.ofNat b), T.nils, T.bool fl,
        T.int IntKind.i64 (0 : Int)]
      [Blk.mk (0 : Nat) (2 : Nat) n (fun j => [T.int IntKind.i64 (H j), T.int IntKind.i64 (W j)]) true false] then
    some (T.bool true)
    else
    none
    else
    none
    else
    some (T.bool false)
    else
    none
    else
    none
    else
    none
    else
    none) from by kernel_rfl)]
  have en : (Int.ofNat n : Int) = (n : Int) := rfl
  have eb : (Int.ofNat b : Int) = (b : Int) := rfl
  have n9 := hs.n9
  have n2 := hs.n2
  have tb := hs.hb (n - 1) (by omega)
  have g4 := hs.g
  unfold Okg at g4
  have e1 : (Int.ofNat n - 1).toNat = n - 1 := by omega
  rw [args_yes m1]
  simp only [cond_true, Bool.true_and, hS, hR]
  rw [bleT (show 0 + n ≤ n by omega)]
  simp only [cond_true]
  rw [args_yes m2, dF (show ¬ Int.ofNat n < 2 by omega), wr64 (x := Int.ofNat n - 1) (by omega) (by omega), e1, Nat.zero_add (n - 1), dT (show (0 : Int) ≤ Int.ofNat n - 1 by omega), dT (show Int.ofNat n - 1 < Int.ofNat n by omega), bltT (show n - 1 < n by omega), ht, cntF_iff.2 (show 1 ≤ R ∧ R ≤ 400 ∧ 0 ≤ top ∧ top ≤ 20000 by omega)]
  simp only [Bool.and_self, cond_true, cond_false]
  rw [hrow, dF (show ¬ (400 : Int) < Int.ofNat b by omega)]
  simp only [cond_false]
  refine bift (sameStF_iff.2 ⟨rfl, .refl _⟩) ?_
  exact bift (sameStF_iff.2 ⟨rfl, .refl _⟩) rfl
end Go.Ab

namespace Go.Ab
open Go.Proofs
def a1L (S R : Int) : List T := [.agg [.int .i64 S, .int .i64 R], .view 2 1 (fun j => [[T.int .i64 0, .int .i64 40]].getD (0 + (0 + j)) []) (some 1)]
theorem valid1 (S R : Int) : ToldOk P37 G37 23 (a1L S R) (.bool false) := by
  refine stepV_told hm37 hn37 okK37b (A := A37) (m := 0) ?_
  unfold a1L
  rw [(show stepV P37 G37 A37 K37b 0 23 [.agg [.int .i64 S, .int .i64 R], .view 2 1 (fun j => [[T.int .i64 0, .int .i64 40]].getD (0 + (0 + j)) []) (some 1)] =
(    bif decide ((1 : Int) ≤ S) && decide (S ≤ (400 : Int)) then
    bif decide ((1 : Int) ≤ R) && decide (R ≤ (400 : Int)) then
    some (T.bool false)
    else
    some (T.bool false)
    else
    some (T.bool false)) from by kernel_rfl)]
  simp only [← Bool.decide_and]
  repeat' first | refine bifd (fun _ => ?_) (fun _ => ?_) | rfl
theorem widths1 (S R : Int) : ToldOk P37 G37 17 (a1L S R) bad1 := by
  refine stepV_told hm37 hn37 (K := KV7 [a1L S R]) (told_add okK37b (callS_told fun a h => by obtain rfl := List.mem_singleton.1 h; exact valid1 S R)) (A := A37) (m := 0) ?_
  generalize hL : [a1L S R] = l2
  unfold a1L at *
  rw [(show stepV P37 G37 A37 (KV7 l2) 0 17 [.agg [.int .i64 S, .int .i64 R], .view 2 1 (fun j => [[T.int .i64 0, .int .i64 40]].getD (0 + (0 + j)) []) (some 1)] =
(    bif sameArgsF
      [T.agg [T.int IntKind.i64 S, T.int IntKind.i64 R],
        T.view (2 : Nat) (1 : Nat)
          (fun j => [[T.int IntKind.i64 (0 : Int), T.int IntKind.i64 (40 : Int)]].getD ((0 : Nat) + ((0 : Nat) + j)) [])
          (some (1 : Nat))]
      l2 then
    some (T.tup [T.nils, T.int IntKind.i64 (1 : Int)])
    else
    none) from by kernel_rfl)]
  rw [args_yes (by rw [← hL]; exact List.mem_singleton.2 rfl)]
  rfl
theorem law6z (a c : Int) (x : T) (hx : x = .nils ∨ ∃ PQ, x = .view 2 0 PQ none) (h : ToldOk P37 G37 16 [x] out0) : ToldOk P37 G37 6 [.int .u16 a, .int .u16 c, x] (.bool true) := by
  have k1 : ∀ a ∈ [[x]], ToldOk P37 G37 16 a out0 := fun a h2 => by obtain rfl := List.mem_singleton.1 h2; exact h
  have m1 := List.mem_singleton.2 (rfl : [x] = [x])
  have k2 : ∀ b ∈ [a1L (IntKind.i64.wrap (1 + IntKind.i64.wrap (a.tmod 400))) (IntKind.i64.wrap (1 + IntKind.i64.wrap (c.tmod 400)))], ToldOk P37 G37 17 b bad1 := fun b h2 => by obtain rfl := List.mem_singleton.1 h2; exact widths1 _ _
  have m2 := List.mem_singleton.2 (rfl : a1L (IntKind.i64.wrap (1 + IntKind.i64.wrap (a.tmod 400))) (IntKind.i64.wrap (1 + IntKind.i64.wrap (c.tmod 400))) = a1L (IntKind.i64.wrap (1 + IntKind.i64.wrap (a.tmod 400))) (IntKind.i64.wrap (1 + IntKind.i64.wrap (c.tmod 400))))
  generalize [[x]] = l1 at k1 m1
  generalize [a1L (IntKind.i64.wrap (1 + IntKind.i64.wrap (a.tmod 400))) (IntKind.i64.wrap (1 + IntKind.i64.wrap (c.tmod 400)))] = l2 at k2 m2
  refine stepV_told hm37 hn37 (okK6 (l3 := []) k1 k2 (fun _ h => by cases h)) (A := A37) (m := 0) ?_
  unfold a1L at m2
  rcases hx with rfl | ⟨PQ, rfl⟩
  · rw [(show stepV P37 G37 A37 (K6 l1 out0 l2 bad1 []) 0 6 [.int .u16 a, .int .u16 c, .nils] =
(    bif sameArgsF [T.nils] l1 then
    bif sameArgsF
      [T.agg
          [T.int IntKind.i64 (IntKind.i64.wrap ((1 : Int) + IntKind.i64.wrap (a.tmod (400 : Int)))),
            T.int IntKind.i64 (IntKind.i64.wrap ((1 : Int) + IntKind.i64.wrap (c.tmod (400 : Int))))],
        T.view (2 : Nat) (1 : Nat)
          (fun j => [[T.int IntKind.i64 (0 : Int), T.int IntKind.i64 (40 : Int)]].getD ((0 : Nat) + ((0 : Nat) + j)) [])
          (some (1 : Nat))]
      l2 then
    some (T.bool true)
    else
    none
    else
    none) from by kernel_rfl)]
    rw [args_yes m1, args_yes m2]; rfl
  · rw [(show stepV P37 G37 A37 (K6 l1 out0 l2 bad1 []) 0 6 [.int .u16 a, .int .u16 c, .view 2 0 PQ none] =
(    bif sameArgsF [T.view (2 : Nat) (0 : Nat) PQ none] l1 then
    bif sameArgsF
      [T.agg
          [T.int IntKind.i64 (IntKind.i64.wrap ((1 : Int) + IntKind.i64.wrap (a.tmod (400 : Int)))),
            T.int IntKind.i64 (IntKind.i64.wrap ((1 : Int) + IntKind.i64.wrap (c.tmod (400 : Int))))],
        T.view (2 : Nat) (1 : Nat)
          (fun j => [[T.int IntKind.i64 (0 : Int), T.int IntKind.i64 (40 : Int)]].getD ((0 : Nat) + ((0 : Nat) + j)) [])
          (some (1 : Nat))]
      l2 then
    some (T.bool true)
    else
    none
    else
    none) from by kernel_rfl)]
    rw [args_yes m1, args_yes m2]; rfl
theorem wr400 {a : Int} (h : 0 ≤ a ∧ a ≤ 65535) : ∃ S, 1 ≤ S ∧ S ≤ 400 ∧ IntKind.i64.wrap (1 + IntKind.i64.wrap (a.tmod 400)) = S := by
  refine ⟨1 + a % 400, by omega, by omega, ?_⟩
  rw [Int.tmod_eq_emod_of_nonneg h.1, wr64 (x := a % 400) (by omega) (by omega), wr64 (by omega) (by omega)]
theorem law6 (a c : Int) (P Q : Nat → Int) (np : Nat) (ha : 0 ≤ a ∧ a ≤ 65535) (hc : 0 ≤ c ∧ c ≤ 65535) (hp : ∀ j, j < np → 0 ≤ P j ∧ P j ≤ 255) (hq : ∀ j, j < np → 0 ≤ Q j ∧ Q j ≤ 255) :
    ToldOk P37 G37 6 [.int .u16 a, .int .u16 c, .view 2 np (fun j => [.int .u8 (P j), .int .u8 (Q j)]) none] (.bool true) := by
  by_cases h0 : np = 0
  · subst h0
    exact law6z a c _ (.inr ⟨_, rfl⟩) (outZ P Q none)
  obtain ⟨S, s1, s2, hS⟩ := wr400 ha
  obtain ⟨R, r1, r2, hR⟩ := wr400 hc
  have ot := outT P Q np none (by omega) hp hq
  have hk : np.min 8 ≤ np ∧ np.min 8 ≤ 8 ∧ 1 ≤ np.min 8 := by rw [show np.min 8 = min np 8 from rfl]; omega
  generalize np.min 8 = k at ot hk
  obtain ⟨k1, k2, k3⟩ := hk
  have ez : ∀ (F : Nat → Int), (fun j => F (0 + j)) = F := fun F => funext fun j => by rw [Nat.zero_add]
  have ot : ToldOk P37 G37 16 [.view 2 np (fun j => [.int .u8 (P j), .int .u8 (Q j)]) none] (.fresh true 2 (k + 1) (fun j => [.int .i64 (oH P j), .int .i64 (oW Q j)]) (k + 1) none) := by
    have e : (fun j => [T.int .i64 (oH P (0 + j)), .int .i64 (oW Q (0 + j))]) = fun j => [.int .i64 (oH P j), .int .i64 (oW Q j)] := funext fun j => by rw [Nat.zero_add]
    rwa [e] at ot
  have hs : Small S R (oH P) (oW Q) (k + 1) := by
    have hb := oH_bd (P := P) (n := np) hp
    refine ⟨⟨s1, s2, r1, r2⟩, by omega, by omega, rfl, fun j hj => ?_, fun j hj => ?_, fun j hj => ?_⟩
    · have := hp j (by omega); simp only [oH]; omega
    · have := hb j (by omega); omega
    · cases j with
      | zero => simp [oW]
      | succ j => exact hq j (by omega)
  generalize oH P = H at *
  generalize oW Q = W at *
  generalize k + 1 = n at *
  have n9 := hs.n9
  obtain ⟨r, hr, wt⟩ := widthsT S R H W n none (by omega)
  have wt : ToldOk P37 G37 17 [.agg [.int .i64 S, .int .i64 R], .view 2 n (fun j => [.int .i64 (H (0 + j)), .int .i64 (W (0 + j))]) none] r := by
    have e : (fun j => [T.int .i64 (H (0 + j)), .int .i64 (W (0 + j))]) = fun j => [.int .i64 (H j), .int .i64 (W j)] := funext fun j => by rw [Nat.zero_add]
    rw [e]; exact wt
  have o1 : ∀ z ∈ [[T.view 2 np (fun j => [.int .u8 (P j), .int .u8 (Q j)]) none]], ToldOk P37 G37 16 z (.fresh true 2 n (fun j => [.int .i64 (H j), .int .i64 (W j)]) n none) := fun z h2 => by obtain rfl := List.mem_singleton.1 h2; exact ot
  have o2 : ∀ z ∈ [[T.agg [.int .i64 S, .int .i64 R], .view 2 n (fun j => [.int .i64 (H (0 + j)), .int .i64 (W (0 + j))]) none]], ToldOk P37 G37 17 z r := fun z h2 => by obtain rfl := List.mem_singleton.1 h2; exact wt
  have m1 := List.mem_singleton.2 (rfl : [T.view 2 np (fun j => [.int .u8 (P j), .int .u8 (Q j)]) none] = _)
  have m2 := List.mem_singleton.2 (rfl : [T.agg [.int .i64 S, .int .i64 R], .view 2 n (fun j => [.int .i64 (H (0 + j)), .int .i64 (W (0 + j))]) none] = _)
  have etop : bf H n = H (n - 1) := by
    cases n with
    | zero => have := hs.n2; omega
    | succ n => rfl
  have erow : rowsV R H n = roundF (R * H (n - 1)) 100 := by unfold rowsV; rw [etop]
  have n2 := hs.n2
  have k3 : ∀ z ∈ ([] : List (List T)), ToldOk P37 G37 18 z (.bool true) := fun _ h => by cases h
  have f15 := fun e (b : Nat) x9 h => l15_6 S R e (H (n - 1)) H W n b x9 h n9 n2
  cases hr with
  | bad h => exact absurd ⟨hs.g, hs.okp⟩ h
  | none h1 h2 h3 =>
    exact law6None S R _ a c H W W W _ n np 0 _ lit0 .nils [] _ _ [] hs hS hR rfl o1 o2 k3 m1 m2 (by rw [← erow]; exact h3) (f15 14 0 .nils []) (l19none S R _ H W n _)
  | many h1 h2 h3 =>
    exact law6Many S R _ a c H W W W _ n np 0 true lit0 .nils [] _ _ [] hs hS hR rfl o1 o2 k3 m1 m2 (by rw [← erow]; exact h3)
  | zero h1 h2 b k h3 h4 h5 h6 h7 h8 =>
    obtain ⟨x, hx, l19⟩ := l19z (fl := fD W (n - 1)) hs rfl h6 h5 h7 h8
    exact law6Zero S R _ a c H W W W _ n np b _ lit0 x hx _ _ [] hs hS hR rfl o1 o2 k3 m1 m2 (by rw [← erow]; exact h3) h5 (f15 14 b .nils []) l19
  | good h1 h2 b h3 h4 h5 h6 =>
    obtain ⟨tab, l19⟩ := l19g (fl := fD W (n - 1)) (Y := fun j => wvb S R H W n b (0 + j)) hs rfl (by omega) h5 h6
    have sm := sameN b (fun j => (fun j => wvb S R H W n b (0 + j)) (0 + j)) (fun j => wS S R H W n (0 + j)) none (by omega) (fun j hj => by simp only [Nat.zero_add, wvb, wS, if_pos hj])
    have o3 : ∀ z ∈ [[T.view 1 b (fun j => [.int .i64 ((fun j => wvb S R H W n b (0 + j)) (0 + j))]) (some b), .view 1 b (fun j => [.int .i64 (wS S R H W n (0 + j))]) none]], ToldOk P37 G37 18 z (.bool true) := fun z h2 => by obtain rfl := List.mem_singleton.1 h2; exact sm
    exact law6Good S R _ a c H W (fun j => wvb S R H W n b (0 + j)) (wS S R H W n) _ n np b _ tab .nils [] _ _ _ hs hS hR rfl o1 o2 o3 m1 m2 (List.mem_singleton.2 rfl) (by rw [← erow]; exact h3) (by omega) h5 (f15 0 b _ [iblk b _]) l19
      (l40 _ b _ _ _ h5 (by omega) fun hf q hqb => by
        have hw := fD_iff.1 hf
        have := wv_mono hs (fun j hj => hw j (by omega)) q (by omega)
        simp only [Nat.zero_add, wvb, if_pos hqb, if_pos (show q < b by omega)]
        exact this)
end Go.Ab

namespace Go.Ab
open Go.Proofs
section
variable {Hp : Type}
theorem agg35 : aggTy P37 35 = false := by kernel_rfl
theorem cells49_37 : P37.cellsOf 49 = 2 := by kernel_rfl
theorem inv49 {ts : List T} {d : DataW Hp} (h : CT P37 49 ts d) : ∃ a b, ts = [.int .u8 a, .int .u8 b] ∧ (0 ≤ a ∧ a ≤ 255) ∧ (0 ≤ b ∧ b ≤ 255) := by
  obtain ⟨parts, ds, rfl, rfl, hs⟩ := CT.struct_inv Try.underlying49 h; clear h; rename _ => h
  change CTs P37 [5, 5] parts ds at h
  obtain ⟨p1, _, d1, _, rfl, rfl, h1, h⟩ := h.cons
  obtain ⟨p2, _, d2, _, rfl, rfl, h2, h⟩ := h.cons
  obtain ⟨rfl, rfl⟩ := h.nil
  obtain ⟨a, rfl, rfl, w1⟩ := h1.int_inv Try.underlying5
  obtain ⟨b, rfl, rfl, w2⟩ := h2.int_inv Try.underlying5
  exact ⟨a, b, by simp, wf_u8 w1, wf_u8 w2⟩
theorem inv35 {ts : List T} {d : DataW Hp} (h : CT P37 35 ts d) : topT P37 35 ts = .nils ∨ ∃ (n : Nat) (x y : Nat → Int), Sim (topT P37 35 ts) (.view 2 n (fun j => [.int .u8 (x j), .int .u8 (y j)]) none) ∧ (∀ j, j < n → 0 ≤ x j ∧ x j ≤ 255) ∧ (∀ j, j < n → 0 ≤ y j ∧ y j ≤ 255) := by
  rcases h.slice_inv Try.underlying35 (by rw [cells49_37]; omega) with ⟨rfl, rfl⟩ | ⟨n, c, g, elems, spare, rfl, rfl, he, hs, hn, hc, hg⟩
  · exact .inl (by simp [topT, agg35])
  · have key : ∀ j, j < n → ∃ a b, g j = [.int .u8 a, .int .u8 b] ∧ (0 ≤ a ∧ a ≤ 255) ∧ (0 ≤ b ∧ b ≤ 255) := fun j hj => inv49 (hg j elems[j] (by simp [show j < elems.length by omega]))
    refine .inr ⟨n, fun j => int0 (g j), fun j => int1 (g j), ?_, fun j hj => ?_, fun j hj => ?_⟩
    · have e : topT P37 35 [.view (P37.cellsOf 49) n g (some c)] = .view 2 n g (some c) := by simp [topT, agg35, cells49_37]
      rw [e]
      refine .view (.inr rfl) fun j hj => ?_
      obtain ⟨a, b, hv, _, _⟩ := key j hj
      show Sims (g j) [.int .u8 (int0 (g j)), .int .u8 (int1 (g j))]
      rw [hv]
      exact .refl _
    · obtain ⟨a, b, hv, q, _⟩ := key j hj
      dsimp only; rw [hv]; exact q
    · obtain ⟨a, b, hv, _, q⟩ := key j hj
      dsimp only; rw [hv]; exact q
theorem law6nil (a c : Int) : ToldOk P37 G37 6 [.int .u16 a, .int .u16 c, .nils] (.bool true) := law6z a c _ (.inl rfl) outN
end
end Go.Ab

namespace Go.Ab
noncomputable def K9 (l6 l4 l5 l8 : List (List T)) : Orc := (((K37b.add 6 (callS l6 (.bool true))).add 4 (callS l4 (.bool true))).add 5 (callS l5 (.bool true))).add 8 (callS l8 (.bool true))
noncomputable def K9b (l1 : List (List T)) (r1 : T) (l2 : List (List T)) (r2 : T) (l17 : List (List T)) (l3 : List (List T)) : Orc := ((K37b.add 19 (even1 l1 r1 l2 r2)).add 17 (callS l17 (.tup [.nils, .int .i64 3]))).add 3 (callS l3 (.bool true))
end Go.Ab

namespace Go.Ab
open Go.Proofs
noncomputable def A3 : FuncId → Ann := annWith A37 3 [(5, 62, false), (7, 108, false), (10, 165, true)]
theorem ms_good {x y : Int} (h3 : 1 ≤ y) : (1 ≤ roundF (100 * x) y ↔ y ≤ 200 * x) ∧ (roundF (100 * x) y ≤ 400 ↔ 200 * x < 801 * y) := by
  unfold roundF
  constructor
  · rw [Int.le_ediv_iff_mul_le (by omega)]; omega
  · rw [← Int.lt_add_one_iff, Int.ediv_lt_iff_lt_mul (by omega)]; omega
set_option maxHeartbeats 4000000 in
theorem law3 (x y : Int) : stepV P37 G37 A3 K37b 0 3 [.int .i64 x, .int .i64 y] = some (.bool true) := by
  rw [(show stepV P37 G37 A3 K37b 0 3 [.int .i64 x, .int .i64 y] =
(    bif cntF x y (20000 : Int) then
    bif cntF x y (80000 : Int) then
    bif msF x y then
    bif decide ((1 : Int) ≤ x) then
    bif decide (x ≤ (400 : Int)) then
    bif decide ((0 : Int) ≤ y) then
    bif decide (y ≤ (20000 : Int)) then
    bif decide ((0 : Int) ≤ y) then
    bif decide (y ≤ (80000 : Int)) then
    bif nokF (roundF (x * y) (100 : Int)) (IntKind.i64.wrap (x * y)) (100 : Int) then
    bif nearF (roundF (x * y) (100 : Int)) (IntKind.i64.wrap (x * y)) (100 : Int) then
    bif nokF (roundF ((100 : Int) * y) x) (IntKind.i64.wrap ((100 : Int) * y)) x then
    bif nearF (roundF ((100 : Int) * y) x) (IntKind.i64.wrap ((100 : Int) * y)) x then
    bif decide ((0 : Int) ≤ x) then
    bif decide (x ≤ (80000 : Int)) then
    bif decide ((1 : Int) ≤ y) then
    bif decide (y ≤ (20000 : Int)) then
    bif decide (y ≤ IntKind.i64.wrap ((200 : Int) * x)) then
    bif decide (IntKind.i64.wrap ((200 : Int) * x) < IntKind.i64.wrap ((801 : Int) * y)) then
    bif nokF (roundF ((100 : Int) * x) y) (IntKind.i64.wrap ((100 : Int) * x)) y then
    bif nearF (roundF ((100 : Int) * x) y) (IntKind.i64.wrap ((100 : Int) * x)) y then
    some (T.bool true)
    else
    none
    else
    none
    else
    none
    else
    none
    else
    none
    else
    none
    else
    none
    else
    none
    else
    none
    else
    none
    else
    none
    else
    none
    else
    none
    else
    none
    else
    none
    else
    none
    else
    none
    else
    none
    else
    bif decide ((1 : Int) ≤ x) then
    bif decide (x ≤ (400 : Int)) then
    bif decide ((0 : Int) ≤ y) then
    bif decide (y ≤ (20000 : Int)) then
    bif decide ((0 : Int) ≤ y) then
    bif decide (y ≤ (80000 : Int)) then
    bif nokF (roundF (x * y) (100 : Int)) (IntKind.i64.wrap (x * y)) (100 : Int) then
    bif nearF (roundF (x * y) (100 : Int)) (IntKind.i64.wrap (x * y)) (100 : Int) then
    bif nokF (roundF ((100 : Int) * y) x) (IntKind.i64.wrap ((100 : Int) * y)) x then
    bif nearF (roundF ((100 : Int) * y) x) (IntKind.i64.wrap ((100 : Int) * y)) x then
    bif decide ((0 : Int) ≤ x) then
    bif decide (x ≤ (80000 : Int)) then
    bif decide ((1 : Int) ≤ y) then
    bif decide (y ≤ (20000 : Int)) then
    bif decide (y ≤ IntKind.i64.wrap ((200 : Int) * x)) then
    bif decide (IntKind.i64.wrap ((200 : Int) * x) < IntKind.i64.wrap ((801 : Int) * y)) then
    none
    else
    some (T.bool true)
    else
    some (T.bool true)
    else
    some (T.bool true)
    else
    some (T.bool true)
    else
    some (T.bool true)
    else
    some (T.bool true)
    else
    none
    else
    none
    else
    none
    else
    none
    else
    none
    else
    none
    else
    none
    else
    none
    else
    none
    else
    none
    else
    bif msF x y then
    bif decide ((1 : Int) ≤ x) then
    bif decide (x ≤ (400 : Int)) then
    bif decide ((0 : Int) ≤ y) then
    bif decide (y ≤ (20000 : Int)) then
    bif decide ((0 : Int) ≤ y) then
    bif decide (y ≤ (80000 : Int)) then
    none
    else
    bif nokF (roundF (x * y) (100 : Int)) (IntKind.i64.wrap (x * y)) (100 : Int) then
    bif nearF (roundF (x * y) (100 : Int)) (IntKind.i64.wrap (x * y)) (100 : Int) then
    bif decide ((0 : Int) ≤ x) then
    bif decide (x ≤ (80000 : Int)) then
    bif decide ((1 : Int) ≤ y) then
    bif decide (y ≤ (20000 : Int)) then
    bif decide (y ≤ IntKind.i64.wrap ((200 : Int) * x)) then
    bif decide (IntKind.i64.wrap ((200 : Int) * x) < IntKind.i64.wrap ((801 : Int) * y)) then
    bif nokF (roundF ((100 : Int) * x) y) (IntKind.i64.wrap ((100 : Int) * x)) y then
    bif nearF (roundF ((100 : Int) * x) y) (IntKind.i64.wrap ((100 : Int) * x)) y then
    some (T.bool true)
    else
    none
    else
    none
    else
    none
    else
    none
    else
    none
    else
    none
    else
    none
    else
    none
    else
    none
    else
    none
    else
    bif nokF (roundF (x * y) (100 : Int)) (IntKind.i64.wrap (x * y)) (100 : Int) then
    bif nearF (roundF (x * y) (100 : Int)) (IntKind.i64.wrap (x * y)) (100 : Int) then
    bif decide ((0 : Int) ≤ x) then
    bif decide (x ≤ (80000 : Int)) then
    bif decide ((1 : Int) ≤ y) then
    bif decide (y ≤ (20000 : Int)) then
    bif decide (y ≤ IntKind.i64.wrap ((200 : Int) * x)) then
    bif decide (IntKind.i64.wrap ((200 : Int) * x) < IntKind.i64.wrap ((801 : Int) * y)) then
    bif nokF (roundF ((100 : Int) * x) y) (IntKind.i64.wrap ((100 : Int) * x)) y then
    bif nearF (roundF ((100 : Int) * x) y) (IntKind.i64.wrap ((100 : Int) * x)) y then
    some (T.bool true)
    else
    none
    else
    none
    else
    none
    else
    none
    else
    none
    else
    none
    else
    none
    else
    none
    else
    none
    else
    none
    else
    none
    else
    none
    else
    none
    else
    none
    else
    bif decide ((1 : Int) ≤ x) then
    bif decide (x ≤ (400 : Int)) then
    bif decide ((0 : Int) ≤ y) then
    bif decide (y ≤ (20000 : Int)) then
    bif decide ((0 : Int) ≤ y) then
    bif decide (y ≤ (80000 : Int)) then
    none
    else
    bif nokF (roundF (x * y) (100 : Int)) (IntKind.i64.wrap (x * y)) (100 : Int) then
    bif nearF (roundF (x * y) (100 : Int)) (IntKind.i64.wrap (x * y)) (100 : Int) then
    bif decide ((0 : Int) ≤ x) then
    bif decide (x ≤ (80000 : Int)) then
    bif decide ((1 : Int) ≤ y) then
    bif decide (y ≤ (20000 : Int)) then
    bif decide (y ≤ IntKind.i64.wrap ((200 : Int) * x)) then
    bif decide (IntKind.i64.wrap ((200 : Int) * x) < IntKind.i64.wrap ((801 : Int) * y)) then
    none
    else
    some (T.bool true)
    else
    some (T.bool true)
    else
    some (T.bool true)
    else
    some (T.bool true)
    else
    some (T.bool true)
    else
    some (T.bool true)
    else
    none
    else
    none
    else
    bif nokF (roundF (x * y) (100 : Int)) (IntKind.i64.wrap (x * y)) (100 : Int) then
    bif nearF (roundF (x * y) (100 : Int)) (IntKind.i64.wrap (x * y)) (100 : Int) then
    bif decide ((0 : Int) ≤ x) then
    bif decide (x ≤ (80000 : Int)) then
    bif decide ((1 : Int) ≤ y) then
    bif decide (y ≤ (20000 : Int)) then
    bif decide (y ≤ IntKind.i64.wrap ((200 : Int) * x)) then
    bif decide (IntKind.i64.wrap ((200 : Int) * x) < IntKind.i64.wrap ((801 : Int) * y)) then
    none
    else
    some (T.bool true)
    else
    some (T.bool true)
    else
    some (T.bool true)
    else
    some (T.bool true)
    else
    some (T.bool true)
    else
    some (T.bool true)
    else
    none
    else
    none
    else
    none
    else
    none
    else
    none
    else
    none
    else
    bif cntF x y (80000 : Int) then
    bif msF x y then
    bif decide ((1 : Int) ≤ x) then
    bif decide (x ≤ (400 : Int)) then
    bif decide ((0 : Int) ≤ y) then
    bif decide (y ≤ (20000 : Int)) then
    none
    else
    bif decide ((0 : Int) ≤ y) then
    bif decide (y ≤ (80000 : Int)) then
    bif nokF (roundF ((100 : Int) * y) x) (IntKind.i64.wrap ((100 : Int) * y)) x then
    bif nearF (roundF ((100 : Int) * y) x) (IntKind.i64.wrap ((100 : Int) * y)) x then
    bif decide ((0 : Int) ≤ x) then
    bif decide (x ≤ (80000 : Int)) then
    bif decide ((1 : Int) ≤ y) then
    bif decide (y ≤ (20000 : Int)) then
    bif decide (y ≤ IntKind.i64.wrap ((200 : Int) * x)) then
    bif decide (IntKind.i64.wrap ((200 : Int) * x) < IntKind.i64.wrap ((801 : Int) * y)) then
    bif nokF (roundF ((100 : Int) * x) y) (IntKind.i64.wrap ((100 : Int) * x)) y then
    bif nearF (roundF ((100 : Int) * x) y) (IntKind.i64.wrap ((100 : Int) * x)) y then
    some (T.bool true)
    else
    none
    else
    none
    else
    none
    else
    none
    else
    none
    else
    none
    else
    none
    else
    none
    else
    none
    else
    none
    else
    none
    else
    none
    else
    bif decide ((0 : Int) ≤ y) then
    bif decide (y ≤ (80000 : Int)) then
    bif nokF (roundF ((100 : Int) * y) x) (IntKind.i64.wrap ((100 : Int) * y)) x then
    bif nearF (roundF ((100 : Int) * y) x) (IntKind.i64.wrap ((100 : Int) * y)) x then
    bif decide ((0 : Int) ≤ x) then
    bif decide (x ≤ (80000 : Int)) then
    bif decide ((1 : Int) ≤ y) then
    bif decide (y ≤ (20000 : Int)) then
    bif decide (y ≤ IntKind.i64.wrap ((200 : Int) * x)) then
    bif decide (IntKind.i64.wrap ((200 : Int) * x) < IntKind.i64.wrap ((801 : Int) * y)) then
    bif nokF (roundF ((100 : Int) * x) y) (IntKind.i64.wrap ((100 : Int) * x)) y then
    bif nearF (roundF ((100 : Int) * x) y) (IntKind.i64.wrap ((100 : Int) * x)) y then
    some (T.bool true)
    else
    none
    else
    none
    else
    none
    else
    none
    else
    none
    else
    none
    else
    none
    else
    none
    else
    none
    else
    none
    else
    none
    else
    none
    else
    none
    else
    none
    else
    bif decide ((1 : Int) ≤ x) then
    bif decide (x ≤ (400 : Int)) then
    bif decide ((0 : Int) ≤ y) then
    bif decide (y ≤ (20000 : Int)) then
    none
    else
    bif decide ((0 : Int) ≤ y) then
    bif decide (y ≤ (80000 : Int)) then
    bif nokF (roundF ((100 : Int) * y) x) (IntKind.i64.wrap ((100 : Int) * y)) x then
    bif nearF (roundF ((100 : Int) * y) x) (IntKind.i64.wrap ((100 : Int) * y)) x then
    bif decide ((0 : Int) ≤ x) then
    bif decide (x ≤ (80000 : Int)) then
    bif decide ((1 : Int) ≤ y) then
    bif decide (y ≤ (20000 : Int)) then
    bif decide (y ≤ IntKind.i64.wrap ((200 : Int) * x)) then
    bif decide (IntKind.i64.wrap ((200 : Int) * x) < IntKind.i64.wrap ((801 : Int) * y)) then
    none
    else
    some (T.bool true)
    else
    some (T.bool true)
    else
    some (T.bool true)
    else
    some (T.bool true)
    else
    some (T.bool true)
    else
    some (T.bool true)
    else
    none
    else
    none
    else
    none
    else
    none
    else
    bif decide ((0 : Int) ≤ y) then
    bif decide (y ≤ (80000 : Int)) then
    bif nokF (roundF ((100 : Int) * y) x) (IntKind.i64.wrap ((100 : Int) * y)) x then
    bif nearF (roundF ((100 : Int) * y) x) (IntKind.i64.wrap ((100 : Int) * y)) x then
    bif decide ((0 : Int) ≤ x) then
    bif decide (x ≤ (80000 : Int)) then
    bif decide ((1 : Int) ≤ y) then
    bif decide (y ≤ (20000 : Int)) then
    bif decide (y ≤ IntKind.i64.wrap ((200 : Int) * x)) then
    bif decide (IntKind.i64.wrap ((200 : Int) * x) < IntKind.i64.wrap ((801 : Int) * y)) then
    none
    else
    some (T.bool true)
    else
    some (T.bool true)
    else
    some (T.bool true)
    else
    some (T.bool true)
    else
    some (T.bool true)
    else
    some (T.bool true)
    else
    none
    else
    none
    else
    none
    else
    none
    else
    none
    else
    none
    else
    bif msF x y then
    bif decide ((1 : Int) ≤ x) then
    bif decide (x ≤ (400 : Int)) then
    bif decide ((0 : Int) ≤ y) then
    bif decide (y ≤ (20000 : Int)) then
    none
    else
    bif decide ((0 : Int) ≤ y) then
    bif decide (y ≤ (80000 : Int)) then
    none
    else
    bif decide ((0 : Int) ≤ x) then
    bif decide (x ≤ (80000 : Int)) then
    bif decide ((1 : Int) ≤ y) then
    bif decide (y ≤ (20000 : Int)) then
    bif decide (y ≤ IntKind.i64.wrap ((200 : Int) * x)) then
    bif decide (IntKind.i64.wrap ((200 : Int) * x) < IntKind.i64.wrap ((801 : Int) * y)) then
    bif nokF (roundF ((100 : Int) * x) y) (IntKind.i64.wrap ((100 : Int) * x)) y then
    bif nearF (roundF ((100 : Int) * x) y) (IntKind.i64.wrap ((100 : Int) * x)) y then
    some (T.bool true)
    else
    none
    else
    none
    else
    none
    else
    none
    else
    none
    else
    none
    else
    none
    else
    none
    else
    bif decide ((0 : Int) ≤ x) then
    bif decide (x ≤ (80000 : Int)) then
    bif decide ((1 : Int) ≤ y) then
    bif decide (y ≤ (20000 : Int)) then
    bif decide (y ≤ IntKind.i64.wrap ((200 : Int) * x)) then
    bif decide (IntKind.i64.wrap ((200 : Int) * x) < IntKind.i64.wrap ((801 : Int) * y)) then
    bif nokF (roundF ((100 : Int) * x) y) (IntKind.i64.wrap ((100 : Int) * x)) y then
    bif nearF (roundF ((100 : Int) * x) y) (IntKind.i64.wrap ((100 : Int) * x)) y then
    some (T.bool true)
    else
    none
    else
    none
    else
    none
    else
    none
    else
    none
    else
    none
    else
    none
    else
    none
    else
    bif decide ((0 : Int) ≤ y) then
    bif decide (y ≤ (80000 : Int)) then
    none
    else
    bif decide ((0 : Int) ≤ x) then
    bif decide (x ≤ (80000 : Int)) then
    bif decide ((1 : Int) ≤ y) then
    bif decide (y ≤ (20000 : Int)) then
    bif decide (y ≤ IntKind.i64.wrap ((200 : Int) * x)) then
    bif decide (IntKind.i64.wrap ((200 : Int) * x) < IntKind.i64.wrap ((801 : Int) * y)) then
    bif nokF (roundF ((100 : Int) * x) y) (IntKind.i64.wrap ((100 : Int) * x)) y then
    bif nearF (roundF ((100 : Int) * x) y) (IntKind.i64.wrap ((100 : Int) * x)) y then
    some (T.bool true)
    else
    none
    else
    none
    else
    none
    else
    none
    else
    none
    else
    none
    else
    none
    else
    none
    else
    bif decide ((0 : Int) ≤ x) then
    bif decide (x ≤ (80000 : Int)) then
    bif decide ((1 : Int) ≤ y) then
    bif decide (y ≤ (20000 : Int)) then
    bif decide (y ≤ IntKind.i64.wrap ((200 : Int) * x)) then
    bif decide (IntKind.i64.wrap ((200 : Int) * x) < IntKind.i64.wrap ((801 : Int) * y)) then
    bif nokF (roundF ((100 : Int) * x) y) (IntKind.i64.wrap ((100 : Int) * x)) y then
    bif nearF (roundF ((100 : Int) * x) y) (IntKind.i64.wrap ((100 : Int) * x)) y then
    some (T.bool true)
    else
    none
    else
    none
    else
    none
    else
    none
    else
    none
    else
    none
    else
    none
    else
    none
    else
    bif decide ((0 : Int) ≤ x) then
    bif decide (x ≤ (80000 : Int)) then
    bif decide ((1 : Int) ≤ y) then
    bif decide (y ≤ (20000 : Int)) then
    bif decide (y ≤ IntKind.i64.wrap ((200 : Int) * x)) then
    bif decide (IntKind.i64.wrap ((200 : Int) * x) < IntKind.i64.wrap ((801 : Int) * y)) then
    bif nokF (roundF ((100 : Int) * x) y) (IntKind.i64.wrap ((100 : Int) * x)) y then
    bif nearF (roundF ((100 : Int) * x) y) (IntKind.i64.wrap ((100 : Int) * x)) y then
    some (T.bool true)
    else
    none
    else
    none
    else
    none
    else
    none
    else
    none
    else
    none
    else
    none
    else
    none
    else
    bif decide ((0 : Int) ≤ x) then
    bif decide (x ≤ (80000 : Int)) then
    bif decide ((1 : Int) ≤ y) then
    bif decide (y ≤ (20000 : Int)) then
    bif decide (y ≤ IntKind.i64.wrap ((200 : Int) * x)) then
    bif decide (IntKind.i64.wrap ((200 : Int) * x) < IntKind.i64.wrap ((801 : Int) * y)) then
    bif nokF (roundF ((100 : Int) * x) y) (IntKind.i64.wrap ((100 : Int) * x)) y then
    bif nearF (roundF ((100 : Int) * x) y) (IntKind.i64.wrap ((100 : Int) * x)) y then
    some (T.bool true)
    else
    none
    else
    none
    else
    none
    else
    none
    else
    none
    else
    none
    else
    none
    else
    none
    else
    bif decide ((1 : Int) ≤ x) then
    bif decide (x ≤ (400 : Int)) then
    bif decide ((0 : Int) ≤ y) then
    bif decide (y ≤ (20000 : Int)) then
    none
    else
    bif decide ((0 : Int) ≤ y) then
    bif decide (y ≤ (80000 : Int)) then
    none
    else
    bif decide ((0 : Int) ≤ x) then
    bif decide (x ≤ (80000 : Int)) then
    bif decide ((1 : Int) ≤ y) then
    bif decide (y ≤ (20000 : Int)) then
    bif decide (y ≤ IntKind.i64.wrap ((200 : Int) * x)) then
    bif decide (IntKind.i64.wrap ((200 : Int) * x) < IntKind.i64.wrap ((801 : Int) * y)) then
    none
    else
    some (T.bool true)
    else
    some (T.bool true)
    else
    some (T.bool true)
    else
    some (T.bool true)
    else
    some (T.bool true)
    else
    some (T.bool true)
    else
    bif decide ((0 : Int) ≤ x) then
    bif decide (x ≤ (80000 : Int)) then
    bif decide ((1 : Int) ≤ y) then
    bif decide (y ≤ (20000 : Int)) then
    bif decide (y ≤ IntKind.i64.wrap ((200 : Int) * x)) then
    bif decide (IntKind.i64.wrap ((200 : Int) * x) < IntKind.i64.wrap ((801 : Int) * y)) then
    none
    else
    some (T.bool true)
    else
    some (T.bool true)
    else
    some (T.bool true)
    else
    some (T.bool true)
    else
    some (T.bool true)
    else
    some (T.bool true)
    else
    bif decide ((0 : Int) ≤ y) then
    bif decide (y ≤ (80000 : Int)) then
    none
    else
    bif decide ((0 : Int) ≤ x) then
    bif decide (x ≤ (80000 : Int)) then
    bif decide ((1 : Int) ≤ y) then
    bif decide (y ≤ (20000 : Int)) then
    bif decide (y ≤ IntKind.i64.wrap ((200 : Int) * x)) then
    bif decide (IntKind.i64.wrap ((200 : Int) * x) < IntKind.i64.wrap ((801 : Int) * y)) then
    none
    else
    some (T.bool true)
    else
    some (T.bool true)
    else
    some (T.bool true)
    else
    some (T.bool true)
    else
    some (T.bool true)
    else
    some (T.bool true)
    else
    bif decide ((0 : Int) ≤ x) then
    bif decide (x ≤ (80000 : Int)) then
    bif decide ((1 : Int) ≤ y) then
    bif decide (y ≤ (20000 : Int)) then
    bif decide (y ≤ IntKind.i64.wrap ((200 : Int) * x)) then
    bif decide (IntKind.i64.wrap ((200 : Int) * x) < IntKind.i64.wrap ((801 : Int) * y)) then
    none
    else
    some (T.bool true)
    else
    some (T.bool true)
    else
    some (T.bool true)
    else
    some (T.bool true)
    else
    some (T.bool true)
    else
    some (T.bool true)
    else
    bif decide ((0 : Int) ≤ x) then
    bif decide (x ≤ (80000 : Int)) then
    bif decide ((1 : Int) ≤ y) then
    bif decide (y ≤ (20000 : Int)) then
    bif decide (y ≤ IntKind.i64.wrap ((200 : Int) * x)) then
    bif decide (IntKind.i64.wrap ((200 : Int) * x) < IntKind.i64.wrap ((801 : Int) * y)) then
    none
    else
    some (T.bool true)
    else
    some (T.bool true)
    else
    some (T.bool true)
    else
    some (T.bool true)
    else
    some (T.bool true)
    else
    some (T.bool true)
    else
    bif decide ((0 : Int) ≤ x) then
    bif decide (x ≤ (80000 : Int)) then
    bif decide ((1 : Int) ≤ y) then
    bif decide (y ≤ (20000 : Int)) then
    bif decide (y ≤ IntKind.i64.wrap ((200 : Int) * x)) then
    bif decide (IntKind.i64.wrap ((200 : Int) * x) < IntKind.i64.wrap ((801 : Int) * y)) then
    none
    else
    some (T.bool true)
    else
    some (T.bool true)
    else
    some (T.bool true)
    else
    some (T.bool true)
    else
    some (T.bool true)
    else
    some (T.bool true)) from by kernel_rfl)]
  have hx : x < 0 ∨ x = 0 ∨ (1 ≤ x ∧ x ≤ 400) ∨ (400 < x ∧ x ≤ 80000) ∨ 80000 < x := by omega
  have hy : y < 0 ∨ y = 0 ∨ (1 ≤ y ∧ y ≤ 20000) ∨ (20000 < y ∧ y ≤ 80000) ∨ 80000 < y := by omega
  have hn1 : 1 ≤ x → x ≤ 400 → 0 ≤ y → y ≤ 20000 → nokF (roundF (x * y) 100) (IntKind.i64.wrap (x * y)) 100 = true ∧ nearF (roundF (x * y) 100) (IntKind.i64.wrap (x * y)) 100 = true := by
    intro h1 h2 h3 h4
    have hm := mul_bd (p := x) (m := y) (by omega) h2 h3 h4
    rw [wr64 (by omega) (by omega)]
    have := roundF_bd (a := x * y) (b := 100) (by omega) (by omega)
    exact ⟨nokF_iff.2 (by omega), near_round (by omega) (by omega)⟩
  have hn2 : 1 ≤ x → x ≤ 400 → 0 ≤ y → y ≤ 80000 → nokF (roundF (100 * y) x) (IntKind.i64.wrap (100 * y)) x = true ∧ nearF (roundF (100 * y) x) (IntKind.i64.wrap (100 * y)) x = true := by
    intro h1 h2 h3 h4
    rw [wr64 (by omega) (by omega)]
    have := roundF_bd (a := 100 * y) (b := x) (by omega) (by omega)
    exact ⟨nokF_iff.2 (by omega), near_round (by omega) (by omega)⟩
  have hn3 : 0 ≤ x → x ≤ 80000 → 1 ≤ y → y ≤ 20000 → (nokF (roundF (100 * x) y) (IntKind.i64.wrap (100 * x)) y = true ∧ nearF (roundF (100 * x) y) (IntKind.i64.wrap (100 * x)) y = true) ∧ IntKind.i64.wrap (200 * x) = 200 * x ∧ IntKind.i64.wrap (801 * y) = 801 * y := by
    intro h1 h2 h3 h4
    rw [wr64 (x := 100 * x) (by omega) (by omega)]
    have := roundF_bd (a := 100 * x) (b := y) (by omega) (by omega)
    exact ⟨⟨nokF_iff.2 (by omega), near_round (by omega) (by omega)⟩, wr64 (by omega) (by omega), wr64 (by omega) (by omega)⟩
  have hg : 1 ≤ y → (1 ≤ roundF (100 * x) y ↔ y ≤ 200 * x) ∧ (roundF (100 * x) y ≤ 400 ↔ 200 * x < 801 * y) := ms_good
  repeat' first
    | refine bifi cntF_iff (fun _ => ?_) (fun _ => ?_)
    | refine bifi msF_iff (fun _ => ?_) (fun _ => ?_)
    | refine bift (hn1 (by omega) (by omega) (by omega) (by omega)).1 ?_
    | refine bift (hn1 (by omega) (by omega) (by omega) (by omega)).2 ?_
    | refine bift (hn2 (by omega) (by omega) (by omega) (by omega)).1 ?_
    | refine bift (hn2 (by omega) (by omega) (by omega) (by omega)).2 ?_
    | refine bift (hn3 (by omega) (by omega) (by omega) (by omega)).1.1 ?_
    | refine bift (hn3 (by omega) (by omega) (by omega) (by omega)).1.2 ?_
    | refine bifd (fun _ => ?_) (fun _ => ?_)
    | rfl
  all_goals exfalso
  all_goals first
    | omega
    | (have := hn3 (by omega) (by omega) (by omega) (by omega); have := hg (by omega); omega)
end Go.Ab

