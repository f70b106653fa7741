/- A part of the proof: nothing is assumed. -/
import Derived.Test.YtkiedolofnakoaaDoorS12c
namespace Go.Ab
open Go.Proofs
theorem e18 (k y a b : Int) (f : Bool) : stepV P12 G12 A12 K17 100 18 [stT k y a b f] = some (.int .i64 (needsF k y a b f)) := by
  rw [(show stepV P12 G12 A12 K17 100 18 [stT k y a b f] =
(    bif !decide (checkF k y a b f = (0 : Int)) then
    some (T.int IntKind.i64 (0 : Int))
    else
    bif decide (k = (3 : Int)) then
    some (T.int IntKind.i64 (0 : Int))
    else
    bif decide (k = (4 : Int)) then
    some (T.int IntKind.i64 (2 : Int))
    else
    bif decide (k = (5 : Int)) then
    some (T.int IntKind.i64 (2 : Int))
    else
    bif decide (k = (8 : Int)) then
    some (T.int IntKind.i64 (IntKind.i64.wrap (a + b)))
    else
    some (T.int IntKind.i64 (1 : Int))) from by kernel_rfl)]
  by_cases h : 1 ≤ a ∧ 1 ≤ b ∧ a + b ≤ 4
  · rw [wr64 (by omega) (by omega)]
    grind [needsF, checkF]
  · grind [needsF, checkF, valid]
theorem e15 (k y a b : Int) (f : Bool) : stepV P12 G12 A12 K17 100 15 [stT k y a b f] = some (.int .i64 (makesF k y a b f)) := by
  rw [(show stepV P12 G12 A12 K17 100 15 [stT k y a b f] =
(    bif !decide (checkF k y a b f = (0 : Int)) then
    some (T.int IntKind.i64 (0 : Int))
    else
    bif decide (k = (8 : Int)) then
    some (T.int IntKind.i64 (IntKind.i64.wrap (a + b)))
    else
    some (T.int IntKind.i64 (1 : Int))) from by kernel_rfl)]
  by_cases h : 1 ≤ a ∧ 1 ≤ b ∧ a + b ≤ 4
  · rw [wr64 (by omega) (by omega)]
    grind [makesF, checkF]
  · grind [makesF, checkF, valid]
theorem e14 (k y a b : Int) (f : Bool) (hp : posF k y = true) : stepV P12 G12 A12 K22 100 14 [stT k y a b f] = some (.int .i64 (needsF k y a b f)) := by
  rw [(show stepV P12 G12 A12 K22 100 14 [stT k y a b f] =
(    bif posF k y then
    bif decide ((1 : Int) - checkF k y a b f = (0 : Int)) then
    some (T.int IntKind.i64 (0 : Int))
    else
    bif decide (k = (3 : Int)) then
    some (T.int IntKind.i64 (0 : Int))
    else
    bif decide (k = (8 : Int)) then
    some (T.int IntKind.i64 (IntKind.i64.wrap (a + b)))
    else
    bif decide (k = (4 : Int)) then
    some (T.int IntKind.i64 (2 : Int))
    else
    bif decide (k = (5 : Int)) then
    some (T.int IntKind.i64 (2 : Int))
    else
    some (T.int IntKind.i64 (1 : Int))
    else
    none) from by kernel_rfl)]
  rw [hp]
  by_cases h : 1 ≤ a ∧ 1 ≤ b ∧ a + b ≤ 4
  · rw [wr64 (by omega) (by omega)]
    grind [needsF, checkF]
  · grind [needsF, checkF, valid]
theorem e23 (k y a b : Int) (f : Bool) (hp : posF k y = true) : stepV P12 G12 A12 K22 100 23 [stT k y a b f] = some (.int .i64 (makesF k y a b f)) := by
  rw [(show stepV P12 G12 A12 K22 100 23 [stT k y a b f] =
(    bif posF k y then
    bif decide ((1 : Int) - checkF k y a b f = (0 : Int)) then
    some (T.int IntKind.i64 (0 : Int))
    else
    bif decide (k = (8 : Int)) then
    some (T.int IntKind.i64 (IntKind.i64.wrap (a + b)))
    else
    some (T.int IntKind.i64 (1 : Int))
    else
    none) from by kernel_rfl)]
  rw [hp]
  by_cases h : 1 ≤ a ∧ 1 ≤ b ∧ a + b ≤ 4
  · rw [wr64 (by omega) (by omega)]
    grind [makesF, checkF]
  · grind [makesF, checkF, valid]
def bedF (k y a b : Int) (f : Bool) : Int := bif valid k y a b f && (decide (k = 2) || decide (k = 5)) then 1 else 0
theorem e24 (k y a b : Int) (f : Bool) : stepV P12 G12 A12 K17 100 24 [stT k y a b f] = some (.int .u8 (bedF k y a b f)) := by
  rw [(show stepV P12 G12 A12 K17 100 24 [stT k y a b f] =
(    bif decide (checkF k y a b f = (0 : Int)) then
    bif decide (k = (2 : Int)) then
    some (T.int IntKind.u8 (1 : Int))
    else
    bif decide (k = (5 : Int)) then
    some (T.int IntKind.u8 (1 : Int))
    else
    some (T.int IntKind.u8 (0 : Int))
    else
    some (T.int IntKind.u8 (0 : Int))) from by kernel_rfl)]
  grind [bedF, checkF]
def mirT (k y a b : Int) (f : Bool) : T := stT k y (bif decide (k = 8) then b else a) (bif decide (k = 8) then a else b) (bif decide (k = 8) then !f else f)
theorem e16 (k y a b : Int) (f : Bool) : stepV P12 G12 A12 noneO 100 16 [stT k y a b f] = some (mirT k y a b f) := by
  rw [(show stepV P12 G12 A12 noneO 100 16 [stT k y a b f] =
(    bif decide (k = (8 : Int)) then
    bif f then
    some (T.agg [T.int IntKind.u8 k, T.int IntKind.u8 y, T.int IntKind.i64 b, T.int IntKind.i64 a, T.bool false])
    else
    some (T.agg [T.int IntKind.u8 k, T.int IntKind.u8 y, T.int IntKind.i64 b, T.int IntKind.i64 a, T.bool true])
    else
    some (T.agg [T.int IntKind.u8 k, T.int IntKind.u8 y, T.int IntKind.i64 a, T.int IntKind.i64 b, T.bool f])) from by kernel_rfl)]
  by_cases h : k = 8 <;> cases f <;> simp [mirT, stT, h]
theorem e22 (k y a b : Int) (f : Bool) (hp : posF k y = true) : stepV P12 G12 A12 noneO 100 22 [stT k y a b f] = some (.int .i64 (1 - checkF k y a b f)) := by
  rw [(show stepV P12 G12 A12 noneO 100 22 [stT k y a b f] =
(    bif decide (y = (0 : Int)) then
    some (T.int IntKind.i64 (0 : Int))
    else
    bif decide ((6 : Int) < y) then
    some (T.int IntKind.i64 (0 : Int))
    else
    bif decide (k = (0 : Int)) then
    some (T.int IntKind.i64 (0 : Int))
    else
    bif decide ((8 : Int) < k) then
    some (T.int IntKind.i64 (0 : Int))
    else
    bif decide (k = (8 : Int)) then
    bif decide (a = (1 : Int)) then
    bif decide (b = (1 : Int)) then
    some (T.int IntKind.i64 (1 : Int))
    else
    bif decide (a = (1 : Int)) then
    bif decide (b = (2 : Int)) then
    some (T.int IntKind.i64 (1 : Int))
    else
    bif decide (a = (1 : Int)) then
    bif decide (b = (3 : Int)) then
    some (T.int IntKind.i64 (1 : Int))
    else
    bif decide (a = (2 : Int)) then
    bif decide (b = (1 : Int)) then
    some (T.int IntKind.i64 (1 : Int))
    else
    bif decide (a = (2 : Int)) then
    bif decide (b = (2 : Int)) then
    some (T.int IntKind.i64 (1 : Int))
    else
    bif decide (a = (3 : Int)) then
    bif decide (b = (1 : Int)) then
    some (T.int IntKind.i64 (1 : Int))
    else
    some (T.int IntKind.i64 (0 : Int))
    else
    some (T.int IntKind.i64 (0 : Int))
    else
    bif decide (a = (3 : Int)) then
    bif decide (b = (1 : Int)) then
    some (T.int IntKind.i64 (1 : Int))
    else
    some (T.int IntKind.i64 (0 : Int))
    else
    some (T.int IntKind.i64 (0 : Int))
    else
    bif decide (a = (2 : Int)) then
    bif decide (b = (2 : Int)) then
    some (T.int IntKind.i64 (1 : Int))
    else
    bif decide (a = (3 : Int)) then
    bif decide (b = (1 : Int)) then
    some (T.int IntKind.i64 (1 : Int))
    else
    some (T.int IntKind.i64 (0 : Int))
    else
    some (T.int IntKind.i64 (0 : Int))
    else
    bif decide (a = (3 : Int)) then
    bif decide (b = (1 : Int)) then
    some (T.int IntKind.i64 (1 : Int))
    else
    some (T.int IntKind.i64 (0 : Int))
    else
    some (T.int IntKind.i64 (0 : Int))
    else
    bif decide (a = (2 : Int)) then
    bif decide (b = (1 : Int)) then
    some (T.int IntKind.i64 (1 : Int))
    else
    bif decide (a = (2 : Int)) then
    bif decide (b = (2 : Int)) then
    some (T.int IntKind.i64 (1 : Int))
    else
    bif decide (a = (3 : Int)) then
    bif decide (b = (1 : Int)) then
    some (T.int IntKind.i64 (1 : Int))
    else
    some (T.int IntKind.i64 (0 : Int))
    else
    some (T.int IntKind.i64 (0 : Int))
    else
    bif decide (a = (3 : Int)) then
    bif decide (b = (1 : Int)) then
    some (T.int IntKind.i64 (1 : Int))
    else
    some (T.int IntKind.i64 (0 : Int))
    else
    some (T.int IntKind.i64 (0 : Int))
    else
    bif decide (a = (2 : Int)) then
    bif decide (b = (2 : Int)) then
    some (T.int IntKind.i64 (1 : Int))
    else
    bif decide (a = (3 : Int)) then
    bif decide (b = (1 : Int)) then
    some (T.int IntKind.i64 (1 : Int))
    else
    some (T.int IntKind.i64 (0 : Int))
    else
    some (T.int IntKind.i64 (0 : Int))
    else
    bif decide (a = (3 : Int)) then
    bif decide (b = (1 : Int)) then
    some (T.int IntKind.i64 (1 : Int))
    else
    some (T.int IntKind.i64 (0 : Int))
    else
    some (T.int IntKind.i64 (0 : Int))
    else
    bif decide (a = (1 : Int)) then
    bif decide (b = (3 : Int)) then
    some (T.int IntKind.i64 (1 : Int))
    else
    bif decide (a = (2 : Int)) then
    bif decide (b = (1 : Int)) then
    some (T.int IntKind.i64 (1 : Int))
    else
    bif decide (a = (2 : Int)) then
    bif decide (b = (2 : Int)) then
    some (T.int IntKind.i64 (1 : Int))
    else
    bif decide (a = (3 : Int)) then
    bif decide (b = (1 : Int)) then
    some (T.int IntKind.i64 (1 : Int))
    else
    some (T.int IntKind.i64 (0 : Int))
    else
    some (T.int IntKind.i64 (0 : Int))
    else
    bif decide (a = (3 : Int)) then
    bif decide (b = (1 : Int)) then
    some (T.int IntKind.i64 (1 : Int))
    else
    some (T.int IntKind.i64 (0 : Int))
    else
    some (T.int IntKind.i64 (0 : Int))
    else
    bif decide (a = (2 : Int)) then
    bif decide (b = (2 : Int)) then
    some (T.int IntKind.i64 (1 : Int))
    else
    bif decide (a = (3 : Int)) then
    bif decide (b = (1 : Int)) then
    some (T.int IntKind.i64 (1 : Int))
    else
    some (T.int IntKind.i64 (0 : Int))
    else
    some (T.int IntKind.i64 (0 : Int))
    else
    bif decide (a = (3 : Int)) then
    bif decide (b = (1 : Int)) then
    some (T.int IntKind.i64 (1 : Int))
    else
    some (T.int IntKind.i64 (0 : Int))
    else
    some (T.int IntKind.i64 (0 : Int))
    else
    bif decide (a = (2 : Int)) then
    bif decide (b = (1 : Int)) then
    some (T.int IntKind.i64 (1 : Int))
    else
    bif decide (a = (2 : Int)) then
    bif decide (b = (2 : Int)) then
    some (T.int IntKind.i64 (1 : Int))
    else
    bif decide (a = (3 : Int)) then
    bif decide (b = (1 : Int)) then
    some (T.int IntKind.i64 (1 : Int))
    else
    some (T.int IntKind.i64 (0 : Int))
    else
    some (T.int IntKind.i64 (0 : Int))
    else
    bif decide (a = (3 : Int)) then
    bif decide (b = (1 : Int)) then
    some (T.int IntKind.i64 (1 : Int))
    else
    some (T.int IntKind.i64 (0 : Int))
    else
    some (T.int IntKind.i64 (0 : Int))
    else
    bif decide (a = (2 : Int)) then
    bif decide (b = (2 : Int)) then
    some (T.int IntKind.i64 (1 : Int))
    else
    bif decide (a = (3 : Int)) then
    bif decide (b = (1 : Int)) then
    some (T.int IntKind.i64 (1 : Int))
    else
    some (T.int IntKind.i64 (0 : Int))
    else
    some (T.int IntKind.i64 (0 : Int))
    else
    bif decide (a = (3 : Int)) then
    bif decide (b = (1 : Int)) then
    some (T.int IntKind.i64 (1 : Int))
    else
    some (T.int IntKind.i64 (0 : Int))
    else
    some (T.int IntKind.i64 (0 : Int))
    else
    bif decide (a = (1 : Int)) then
    bif decide (b = (2 : Int)) then
    some (T.int IntKind.i64 (1 : Int))
    else
    bif decide (a = (1 : Int)) then
    bif decide (b = (3 : Int)) then
    some (T.int IntKind.i64 (1 : Int))
    else
    bif decide (a = (2 : Int)) then
    bif decide (b = (1 : Int)) then
    some (T.int IntKind.i64 (1 : Int))
    else
    bif decide (a = (2 : Int)) then
    bif decide (b = (2 : Int)) then
    some (T.int IntKind.i64 (1 : Int))
    else
    bif decide (a = (3 : Int)) then
    bif decide (b = (1 : Int)) then
    some (T.int IntKind.i64 (1 : Int))
    else
    some (T.int IntKind.i64 (0 : Int))
    else
    some (T.int IntKind.i64 (0 : Int))
    else
    bif decide (a = (3 : Int)) then
    bif decide (b = (1 : Int)) then
    some (T.int IntKind.i64 (1 : Int))
    else
    some (T.int IntKind.i64 (0 : Int))
    else
    some (T.int IntKind.i64 (0 : Int))
    else
    bif decide (a = (2 : Int)) then
    bif decide (b = (2 : Int)) then
    some (T.int IntKind.i64 (1 : Int))
    else
    bif decide (a = (3 : Int)) then
    bif decide (b = (1 : Int)) then
    some (T.int IntKind.i64 (1 : Int))
    else
    some (T.int IntKind.i64 (0 : Int))
    else
    some (T.int IntKind.i64 (0 : Int))
    else
    bif decide (a = (3 : Int)) then
    bif decide (b = (1 : Int)) then
    some (T.int IntKind.i64 (1 : Int))
    else
    some (T.int IntKind.i64 (0 : Int))
    else
    some (T.int IntKind.i64 (0 : Int))
    else
    bif decide (a = (2 : Int)) then
    bif decide (b = (1 : Int)) then
    some (T.int IntKind.i64 (1 : Int))
    else
    bif decide (a = (2 : Int)) then
    bif decide (b = (2 : Int)) then
    some (T.int IntKind.i64 (1 : Int))
    else
    bif decide (a = (3 : Int)) then
    bif decide (b = (1 : Int)) then
    some (T.int IntKind.i64 (1 : Int))
    else
    some (T.int IntKind.i64 (0 : Int))
    else
    some (T.int IntKind.i64 (0 : Int))
    else
    bif decide (a = (3 : Int)) then
    bif decide (b = (1 : Int)) then
    some (T.int IntKind.i64 (1 : Int))
    else
    some (T.int IntKind.i64 (0 : Int))
    else
    some (T.int IntKind.i64 (0 : Int))
    else
    bif decide (a = (2 : Int)) then
    bif decide (b = (2 : Int)) then
    some (T.int IntKind.i64 (1 : Int))
    else
    bif decide (a = (3 : Int)) then
    bif decide (b = (1 : Int)) then
    some (T.int IntKind.i64 (1 : Int))
    else
    some (T.int IntKind.i64 (0 : Int))
    else
    some (T.int IntKind.i64 (0 : Int))
    else
    bif decide (a = (3 : Int)) then
    bif decide (b = (1 : Int)) then
    some (T.int IntKind.i64 (1 : Int))
    else
    some (T.int IntKind.i64 (0 : Int))
    else
    some (T.int IntKind.i64 (0 : Int))
    else
    bif decide (a = (1 : Int)) then
    bif decide (b = (3 : Int)) then
    some (T.int IntKind.i64 (1 : Int))
    else
    bif decide (a = (2 : Int)) then
    bif decide (b = (1 : Int)) then
    some (T.int IntKind.i64 (1 : Int))
    else
    bif decide (a = (2 : Int)) then
    bif decide (b = (2 : Int)) then
    some (T.int IntKind.i64 (1 : Int))
    else
    bif decide (a = (3 : Int)) then
    bif decide (b = (1 : Int)) then
    some (T.int IntKind.i64 (1 : Int))
    else
    some (T.int IntKind.i64 (0 : Int))
    else
    some (T.int IntKind.i64 (0 : Int))
    else
    bif decide (a = (3 : Int)) then
    bif decide (b = (1 : Int)) then
    some (T.int IntKind.i64 (1 : Int))
    else
    some (T.int IntKind.i64 (0 : Int))
    else
    some (T.int IntKind.i64 (0 : Int))
    else
    bif decide (a = (2 : Int)) then
    bif decide (b = (2 : Int)) then
    some (T.int IntKind.i64 (1 : Int))
    else
    bif decide (a = (3 : Int)) then
    bif decide (b = (1 : Int)) then
    some (T.int IntKind.i64 (1 : Int))
    else
    some (T.int IntKind.i64 (0 : Int))
    else
    some (T.int IntKind.i64 (0 : Int))
    else
    bif decide (a = (3 : Int)) then
    bif decide (b = (1 : Int)) then
    some (T.int IntKind.i64 (1 : Int))
    else
    some (T.int IntKind.i64 (0 : Int))
    else
    some (T.int IntKind.i64 (0 : Int))
    else
    bif decide (a = (2 : Int)) then
    bif decide (b = (1 : Int)) then
    some (T.int IntKind.i64 (1 : Int))
    else
    bif decide (a = (2 : Int)) then
    bif decide (b = (2 : Int)) then
    some (T.int IntKind.i64 (1 : Int))
    else
    bif decide (a = (3 : Int)) then
    bif decide (b = (1 : Int)) then
    some (T.int IntKind.i64 (1 : Int))
    else
    some (T.int IntKind.i64 (0 : Int))
    else
    some (T.int IntKind.i64 (0 : Int))
    else
    bif decide (a = (3 : Int)) then
    bif decide (b = (1 : Int)) then
    some (T.int IntKind.i64 (1 : Int))
    else
    some (T.int IntKind.i64 (0 : Int))
    else
    some (T.int IntKind.i64 (0 : Int))
    else
    bif decide (a = (2 : Int)) then
    bif decide (b = (2 : Int)) then
    some (T.int IntKind.i64 (1 : Int))
    else
    bif decide (a = (3 : Int)) then
    bif decide (b = (1 : Int)) then
    some (T.int IntKind.i64 (1 : Int))
    else
    some (T.int IntKind.i64 (0 : Int))
    else
    some (T.int IntKind.i64 (0 : Int))
    else
    bif decide (a = (3 : Int)) then
    bif decide (b = (1 : Int)) then
    some (T.int IntKind.i64 (1 : Int))
    else
    some (T.int IntKind.i64 (0 : Int))
    else
    some (T.int IntKind.i64 (0 : Int))
    else
    bif !decide (a = (0 : Int)) then
    some (T.int IntKind.i64 (0 : Int))
    else
    bif !decide (b = (0 : Int)) then
    some (T.int IntKind.i64 (0 : Int))
    else
    bif f then
    some (T.int IntKind.i64 (0 : Int))
    else
    some (T.int IntKind.i64 (1 : Int))) from by kernel_rfl)]
  simp only [posF, Bool.and_eq_true, decide_eq_true_eq] at hp
  by_cases hy0 : y = 0
  · subst hy0; simp [checkF, valid]
  by_cases hy : 6 < y
  · simp [checkF, valid, hy0, hy, show ¬ y ≤ 6 by omega]
  by_cases hk0 : k = 0
  · subst hk0; simp [checkF, valid, hy0, hy]
  by_cases hk : 8 < k
  · simp [checkF, valid, hy0, hy, hk0, hk, show ¬ k ≤ 8 by omega]
  by_cases h8 : k = 8
  · subst h8
    have e1 : (1 ≤ y) := by omega
    have e2 : (y ≤ 6) := by omega
    by_cases h1 : a = 1
    · subst h1
      by_cases b1 : b = 1
      · subst b1; simp [checkF, valid, hy0, hy, e1, e2]
      by_cases b2 : b = 2
      · subst b2; simp [checkF, valid, hy0, hy, e1, e2]
      by_cases b3 : b = 3
      · subst b3; simp [checkF, valid, hy0, hy, e1, e2]
      have e3 : ¬ (1 ≤ b ∧ 1 + b ≤ 4) := by omega
      simp [checkF, valid, hy0, hy, e1, e2, b1, b2, b3]
      grind
    by_cases h2 : a = 2
    · subst h2
      by_cases b1 : b = 1
      · subst b1; simp [checkF, valid, hy0, hy, e1, e2]
      by_cases b2 : b = 2
      · subst b2; simp [checkF, valid, hy0, hy, e1, e2]
      simp [checkF, valid, hy0, hy, e1, e2, b1, b2]
      grind
    by_cases h3 : a = 3
    · subst h3
      by_cases b1 : b = 1
      · subst b1; simp [checkF, valid, hy0, hy, e1, e2]
      simp [checkF, valid, hy0, hy, e1, e2, b1]
      grind
    simp [checkF, valid, hy0, hy, e1, e2, h1, h2, h3]
    grind
  · have e1 : (1 ≤ y) := by omega
    have e2 : (y ≤ 6) := by omega
    have e3 : (1 ≤ k) := by omega
    have e4 : (k ≤ 8) := by omega
    by_cases ha : a = 0 <;> by_cases hb : b = 0 <;> cases f <;> simp [checkF, valid, hy0, hy, e1, e2, hk0, hk, e3, e4, h8, ha, hb]
theorem lives12 : stepV P12 G12 A12 (arunO P12 G12 A12 1000 7) 1000 12 [] = some (.bool true) := by kernel_rfl
end Go.Ab
