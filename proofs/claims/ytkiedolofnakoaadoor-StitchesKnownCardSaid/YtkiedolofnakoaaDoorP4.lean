/- A part of the proof: nothing is assumed. -/
import Derived.Test.YtkiedolofnakoaaDoorP3
import Derived.Test.YtkiedolofnakoaaDoorProg
import Derived.KernelRfl
set_option linter.all false
namespace Go.Ab
open Go.Proofs
def G12 : Nat → Option (List T) := gOf [(0, [.int .u8 107, .int .u8 112, .int .u8 111, .int .u8 47, .int .u8 118, .int .u8 116, .int .u8 115, .int .u8 99])]
def A12 : FuncId → Ann := fun f => match f with
  | 3 => ⟨[2], fun r o => match r with | 9 => bif o then [1, 4, 5] else [1, 5, 6, 8, 10] | 14 => bif o then [4] else [1, 5, 11] | _ => [], false⟩
  | 4 => ⟨[2, 3, 5], fun r o => match r with | 8 => bif o then [5, 9] else [3, 5, 6, 9, 10] | 13 => bif o then [4, 11, 12] else [11, 12, 13] | _ => [], false⟩
  | 5 => ⟨[1, 3], fun r _o => match r with | _ => [], false⟩
  | 6 => ⟨[2, 6, 8, 11], fun r o => match r with | 14 => bif o then [4] else [1, 10] | _ => [], false⟩
  | 7 => ⟨[2, 3, 5, 6], fun r _o => match r with | _ => [], false⟩
  | 8 => ⟨[1], fun r _o => match r with | _ => [], false⟩
  | 9 => ⟨[3, 4], fun r o => match r with | 3 => bif o then [0] else [1, 2] | _ => [], false⟩
  | 10 => ⟨[2], fun r o => match r with | 6 => bif o then [1, 2, 4, 5] else [1, 2, 18, 19, 20] | 13 => bif o then [1, 2, 8] else [1, 2, 8, 35, 36] | _ => [], false⟩
  | 11 => ⟨[2], fun r o => match r with | 6 => bif o then [1, 2, 4, 5] else [1, 2, 6] | 22 => bif o then [7] else [2, 7, 8] | _ => [], false⟩
  | 12 => ⟨[1, 2, 4, 6, 8, 10], fun r _o => match r with | _ => [], false⟩
  | 13 => ⟨[1, 2, 3, 4], fun r _o => match r with | _ => [], false⟩
  | 14 => ⟨[1], fun r _o => match r with | _ => [], false⟩
  | 15 => ⟨[1], fun r _o => match r with | _ => [], false⟩
  | 16 => ⟨[1, 2], fun r _o => match r with | _ => [], false⟩
  | 17 => ⟨[1], fun r _o => match r with | _ => [], false⟩
  | 18 => ⟨[1], fun r _o => match r with | _ => [], false⟩
  | 19 => ⟨[1], fun r _o => match r with | _ => [], false⟩
  | 20 => ⟨[2, 4], fun r o => match r with | 5 => bif o then [0, 2, 4] else [0, 2, 4, 12, 13] | _ => [], false⟩
  | 21 => ⟨[1], fun r _o => match r with | _ => [], false⟩
  | 22 => ⟨[1], fun r o => match r with | 5 => bif o then [2] else [1, 3] | 8 => bif o then [1, 2, 3] else [1, 3, 4] | _ => [], false⟩
  | 23 => ⟨[1], fun r _o => match r with | _ => [], false⟩
  | 24 => ⟨[1], fun r _o => match r with | _ => [], false⟩
  | 25 => ⟨[], fun r _o => match r with | _ => [], false⟩
  | 26 => ⟨[], fun r _o => match r with | _ => [], false⟩
  | _ => ⟨[], fun _ _ => [], false⟩
noncomputable abbrev P12 : Program := Tryd.prog
def stT (k y a b : Int) (f : Bool) : T := .agg [.int .u8 k, .int .u8 y, .int .i64 a, .int .i64 b, .bool f]
def kT (k y a : Int) (f : Bool) : T := .agg [.int .u8 k, .int .u8 y, .int .u8 a, .bool f]
def valid (k y a b : Int) (f : Bool) : Bool :=
  decide (1 ≤ y) && (decide (y ≤ 6) && (decide (1 ≤ k) && (decide (k ≤ 8) && (bif decide (k = 8) then decide (1 ≤ a) && (decide (1 ≤ b) && decide (a + b ≤ 4)) else decide (a = 0) && (decide (b = 0) && !f)))))
def checkF (k y a b : Int) (f : Bool) : Int := bif valid k y a b f then 0 else 1
def needsF (k y a b : Int) (f : Bool) : Int := bif valid k y a b f then (bif decide (k = 3) then 0 else bif decide (k = 4) || decide (k = 5) then 2 else bif decide (k = 8) then a + b else 1) else 0
def makesF (k y a b : Int) (f : Bool) : Int := bif valid k y a b f then (bif decide (k = 8) then a + b else 1) else 0
end Go.Ab

namespace Go.Ab
open Go.Proofs

theorem wr64 {x : Int} (h1 : -9223372036854775808 ≤ x) (h2 : x ≤ 9223372036854775807) : IntKind.i64.wrap x = x := by
  simp only [IntKind.wrap, IntKind.signed, IntKind.bits]
  simp
  omega
theorem wr8 {x : Int} (h1 : 0 ≤ x) (h2 : x ≤ 255) : IntKind.u8.wrap x = x := by
  simp only [IntKind.wrap, IntKind.signed, IntKind.bits]
  simp
  omega

theorem e17 (k y a b : Int) (f : Bool) : stepV P12 G12 A12 noneO 100 17 [stT k y a b f] = some (.int .i64 (checkF k y a b f)) := by
  rw [show stepV P12 G12 A12 noneO 100 17 [stT k y a b f] =
    (bif decide (k < 1) then some (T.int IntKind.i64 1) else
     bif decide (8 < k) then some (T.int IntKind.i64 1) else
     bif decide (y < 1) then some (T.int IntKind.i64 1) else
     bif decide (6 < y) then some (T.int IntKind.i64 1) else
     bif !decide (k = 8) then
      bif !decide (a = 0) then some (T.int IntKind.i64 1) else
      bif !decide (b = 0) then some (T.int IntKind.i64 1) else
      bif f then some (T.int IntKind.i64 1) else some (T.int IntKind.i64 0)
     else
      bif decide (a < 1) then some (T.int IntKind.i64 1) else
      bif decide (4 < a) then some (T.int IntKind.i64 1) else
      bif decide (b < 1) then some (T.int IntKind.i64 1) else
      bif decide (IntKind.i64.wrap (4 - a) < b) then some (T.int IntKind.i64 1) else some (T.int IntKind.i64 0)) from by kernel_rfl]
  by_cases ha : 1 ≤ a ∧ a ≤ 4
  · rw [wr64 (by omega) (by omega)]
    grind [checkF, valid]
  · grind [checkF, valid]
end Go.Ab

namespace Go.Ab
open Go.Proofs
/-- What a stitch's numbers give. -/
def spec17 : List T → Tree
  | [.agg [.int .u8 k, .int .u8 y, .int .i64 a, .int .i64 b, .bool f]] => .ret (.int .i64 (checkF k y a b f))
  | _ => .none
noncomputable def K17 : Orc := noneO.add 17 spec17
def posF (k y : Int) : Bool := decide (0 ≤ k) && decide (0 ≤ y)
def spec22 : List T → Tree
  | [.agg [.int .u8 k, .int .u8 y, .int .i64 a, .int .i64 b, .bool f]] => .ite (posF k y) (.ret (.int .i64 (1 - checkF k y a b f))) .none
  | _ => .none
noncomputable def K22 : Orc := noneO.add 22 spec22
end Go.Ab

namespace Go.Ab
open Go.Proofs
theorem e18 (k y a b : Int) (f : Bool) : stepV P12 G12 A12 K17 100 18 [stT k y a b f] = some (.int .i64 (needsF k y a b f)) := by
  rw [(show stepV P12 G12 A12 K17 100 18 [stT k y a b f] =
(    bif !decide (checkF k y a b f = (0 : Int)) then
    some (T.int IntKind.i64 (0 : Int))
    else
    bif decide (k = (3 : Int)) then
    some (T.int IntKind.i64 (0 : Int))
    else
    bif decide (k = (4 : Int)) then
    some (T.int IntKind.i64 (2 : Int))
    else
    bif decide (k = (5 : Int)) then
    some (T.int IntKind.i64 (2 : Int))
    else
    bif decide (k = (8 : Int)) then
    some (T.int IntKind.i64 (IntKind.i64.wrap (a + b)))
    else
    some (T.int IntKind.i64 (1 : Int))) from by kernel_rfl)]
  by_cases h : 1 ≤ a ∧ 1 ≤ b ∧ a + b ≤ 4
  · rw [wr64 (by omega) (by omega)]
    grind [needsF, checkF]
  · grind [needsF, checkF, valid]
theorem e15 (k y a b : Int) (f : Bool) : stepV P12 G12 A12 K17 100 15 [stT k y a b f] = some (.int .i64 (makesF k y a b f)) := by
  rw [(show stepV P12 G12 A12 K17 100 15 [stT k y a b f] =
(    bif !decide (checkF k y a b f = (0 : Int)) then
    some (T.int IntKind.i64 (0 : Int))
    else
    bif decide (k = (8 : Int)) then
    some (T.int IntKind.i64 (IntKind.i64.wrap (a + b)))
    else
    some (T.int IntKind.i64 (1 : Int))) from by kernel_rfl)]
  by_cases h : 1 ≤ a ∧ 1 ≤ b ∧ a + b ≤ 4
  · rw [wr64 (by omega) (by omega)]
    grind [makesF, checkF]
  · grind [makesF, checkF, valid]
theorem e14 (k y a b : Int) (f : Bool) (hp : posF k y = true) : stepV P12 G12 A12 K22 100 14 [stT k y a b f] = some (.int .i64 (needsF k y a b f)) := by
  rw [(show stepV P12 G12 A12 K22 100 14 [stT k y a b f] =
(    bif posF k y then
    bif decide ((1 : Int) - checkF k y a b f = (0 : Int)) then
    some (T.int IntKind.i64 (0 : Int))
    else
    bif decide (k = (3 : Int)) then
    some (T.int IntKind.i64 (0 : Int))
    else
    bif decide (k = (8 : Int)) then
    some (T.int IntKind.i64 (IntKind.i64.wrap (a + b)))
    else
    bif decide (k = (4 : Int)) then
    some (T.int IntKind.i64 (2 : Int))
    else
    bif decide (k = (5 : Int)) then
    some (T.int IntKind.i64 (2 : Int))
    else
    some (T.int IntKind.i64 (1 : Int))
    else
    none) from by kernel_rfl)]
  rw [hp]
  by_cases h : 1 ≤ a ∧ 1 ≤ b ∧ a + b ≤ 4
  · rw [wr64 (by omega) (by omega)]
    grind [needsF, checkF]
  · grind [needsF, checkF, valid]
theorem e23 (k y a b : Int) (f : Bool) (hp : posF k y = true) : stepV P12 G12 A12 K22 100 23 [stT k y a b f] = some (.int .i64 (makesF k y a b f)) := by
  rw [(show stepV P12 G12 A12 K22 100 23 [stT k y a b f] =
(    bif posF k y then
    bif decide ((1 : Int) - checkF k y a b f = (0 : Int)) then
    some (T.int IntKind.i64 (0 : Int))
    else
    bif decide (k = (8 : Int)) then
    some (T.int IntKind.i64 (IntKind.i64.wrap (a + b)))
    else
    some (T.int IntKind.i64 (1 : Int))
    else
    none) from by kernel_rfl)]
  rw [hp]
  by_cases h : 1 ≤ a ∧ 1 ≤ b ∧ a + b ≤ 4
  · rw [wr64 (by omega) (by omega)]
    grind [makesF, checkF]
  · grind [makesF, checkF, valid]
def bedF (k y a b : Int) (f : Bool) : Int := bif valid k y a b f && (decide (k = 2) || decide (k = 5)) then 1 else 0
theorem e24 (k y a b : Int) (f : Bool) : stepV P12 G12 A12 K17 100 24 [stT k y a b f] = some (.int .u8 (bedF k y a b f)) := by
  rw [(show stepV P12 G12 A12 K17 100 24 [stT k y a b f] =
(    bif decide (checkF k y a b f = (0 : Int)) then
    bif decide (k = (2 : Int)) then
    some (T.int IntKind.u8 (1 : Int))
    else
    bif decide (k = (5 : Int)) then
    some (T.int IntKind.u8 (1 : Int))
    else
    some (T.int IntKind.u8 (0 : Int))
    else
    some (T.int IntKind.u8 (0 : Int))) from by kernel_rfl)]
  grind [bedF, checkF]
def mirT (k y a b : Int) (f : Bool) : T := stT k y (bif decide (k = 8) then b else a) (bif decide (k = 8) then a else b) (bif decide (k = 8) then !f else f)
theorem e16 (k y a b : Int) (f : Bool) : stepV P12 G12 A12 noneO 100 16 [stT k y a b f] = some (mirT k y a b f) := by
  rw [(show stepV P12 G12 A12 noneO 100 16 [stT k y a b f] =
(    bif decide (k = (8 : Int)) then
    bif f then
    some (T.agg [T.int IntKind.u8 k, T.int IntKind.u8 y, T.int IntKind.i64 b, T.int IntKind.i64 a, T.bool false])
    else
    some (T.agg [T.int IntKind.u8 k, T.int IntKind.u8 y, T.int IntKind.i64 b, T.int IntKind.i64 a, T.bool true])
    else
    some (T.agg [T.int IntKind.u8 k, T.int IntKind.u8 y, T.int IntKind.i64 a, T.int IntKind.i64 b, T.bool f])) from by kernel_rfl)]
  by_cases h : k = 8 <;> cases f <;> simp [mirT, stT, h]
theorem e22 (k y a b : Int) (f : Bool) (hp : posF k y = true) : stepV P12 G12 A12 noneO 100 22 [stT k y a b f] = some (.int .i64 (1 - checkF k y a b f)) := by
  rw [(show stepV P12 G12 A12 noneO 100 22 [stT k y a b f] =
(    bif decide (y = (0 : Int)) then
    some (T.int IntKind.i64 (0 : Int))
    else
    bif decide ((6 : Int) < y) then
    some (T.int IntKind.i64 (0 : Int))
    else
    bif decide (k = (0 : Int)) then
    some (T.int IntKind.i64 (0 : Int))
    else
    bif decide ((8 : Int) < k) then
    some (T.int IntKind.i64 (0 : Int))
    else
    bif decide (k = (8 : Int)) then
    bif decide (a = (1 : Int)) then
    bif decide (b = (1 : Int)) then
    some (T.int IntKind.i64 (1 : Int))
    else
    bif decide (a = (1 : Int)) then
    bif decide (b = (2 : Int)) then
    some (T.int IntKind.i64 (1 : Int))
    else
    bif decide (a = (1 : Int)) then
    bif decide (b = (3 : Int)) then
    some (T.int IntKind.i64 (1 : Int))
    else
    bif decide (a = (2 : Int)) then
    bif decide (b = (1 : Int)) then
    some (T.int IntKind.i64 (1 : Int))
    else
    bif decide (a = (2 : Int)) then
    bif decide (b = (2 : Int)) then
    some (T.int IntKind.i64 (1 : Int))
    else
    bif decide (a = (3 : Int)) then
    bif decide (b = (1 : Int)) then
    some (T.int IntKind.i64 (1 : Int))
    else
    some (T.int IntKind.i64 (0 : Int))
    else
    some (T.int IntKind.i64 (0 : Int))
    else
    bif decide (a = (3 : Int)) then
    bif decide (b = (1 : Int)) then
    some (T.int IntKind.i64 (1 : Int))
    else
    some (T.int IntKind.i64 (0 : Int))
    else
    some (T.int IntKind.i64 (0 : Int))
    else
    bif decide (a = (2 : Int)) then
    bif decide (b = (2 : Int)) then
    some (T.int IntKind.i64 (1 : Int))
    else
    bif decide (a = (3 : Int)) then
    bif decide (b = (1 : Int)) then
    some (T.int IntKind.i64 (1 : Int))
    else
    some (T.int IntKind.i64 (0 : Int))
    else
    some (T.int IntKind.i64 (0 : Int))
    else
    bif decide (a = (3 : Int)) then
    bif decide (b = (1 : Int)) then
    some (T.int IntKind.i64 (1 : Int))
    else
    some (T.int IntKind.i64 (0 : Int))
    else
    some (T.int IntKind.i64 (0 : Int))
    else
    bif decide (a = (2 : Int)) then
    bif decide (b = (1 : Int)) then
    some (T.int IntKind.i64 (1 : Int))
    else
    bif decide (a = (2 : Int)) then
    bif decide (b = (2 : Int)) then
    some (T.int IntKind.i64 (1 : Int))
    else
    bif decide (a = (3 : Int)) then
    bif decide (b = (1 : Int)) then
    some (T.int IntKind.i64 (1 : Int))
    else
    some (T.int IntKind.i64 (0 : Int))
    else
    some (T.int IntKind.i64 (0 : Int))
    else
    bif decide (a = (3 : Int)) then
    bif decide (b = (1 : Int)) then
    some (T.int IntKind.i64 (1 : Int))
    else
    some (T.int IntKind.i64 (0 : Int))
    else
    some (T.int IntKind.i64 (0 : Int))
    else
    bif decide (a = (2 : Int)) then
    bif decide (b = (2 : Int)) then
    some (T.int IntKind.i64 (1 : Int))
    else
    bif decide (a = (3 : Int)) then
    bif decide (b = (1 : Int)) then
    some (T.int IntKind.i64 (1 : Int))
    else
    some (T.int IntKind.i64 (0 : Int))
    else
    some (T.int IntKind.i64 (0 : Int))
    else
    bif decide (a = (3 : Int)) then
    bif decide (b = (1 : Int)) then
    some (T.int IntKind.i64 (1 : Int))
    else
    some (T.int IntKind.i64 (0 : Int))
    else
    some (T.int IntKind.i64 (0 : Int))
    else
    bif decide (a = (1 : Int)) then
    bif decide (b = (3 : Int)) then
    some (T.int IntKind.i64 (1 : Int))
    else
    bif decide (a = (2 : Int)) then
    bif decide (b = (1 : Int)) then
    some (T.int IntKind.i64 (1 : Int))
    else
    bif decide (a = (2 : Int)) then
    bif decide (b = (2 : Int)) then
    some (T.int IntKind.i64 (1 : Int))
    else
    bif decide (a = (3 : Int)) then
    bif decide (b = (1 : Int)) then
    some (T.int IntKind.i64 (1 : Int))
    else
    some (T.int IntKind.i64 (0 : Int))
    else
    some (T.int IntKind.i64 (0 : Int))
    else
    bif decide (a = (3 : Int)) then
    bif decide (b = (1 : Int)) then
    some (T.int IntKind.i64 (1 : Int))
    else
    some (T.int IntKind.i64 (0 : Int))
    else
    some (T.int IntKind.i64 (0 : Int))
    else
    bif decide (a = (2 : Int)) then
    bif decide (b = (2 : Int)) then
    some (T.int IntKind.i64 (1 : Int))
    else
    bif decide (a = (3 : Int)) then
    bif decide (b = (1 : Int)) then
    some (T.int IntKind.i64 (1 : Int))
    else
    some (T.int IntKind.i64 (0 : Int))
    else
    some (T.int IntKind.i64 (0 : Int))
    else
    bif decide (a = (3 : Int)) then
    bif decide (b = (1 : Int)) then
    some (T.int IntKind.i64 (1 : Int))
    else
    some (T.int IntKind.i64 (0 : Int))
    else
    some (T.int IntKind.i64 (0 : Int))
    else
    bif decide (a = (2 : Int)) then
    bif decide (b = (1 : Int)) then
    some (T.int IntKind.i64 (1 : Int))
    else
    bif decide (a = (2 : Int)) then
    bif decide (b = (2 : Int)) then
    some (T.int IntKind.i64 (1 : Int))
    else
    bif decide (a = (3 : Int)) then
    bif decide (b = (1 : Int)) then
    some (T.int IntKind.i64 (1 : Int))
    else
    some (T.int IntKind.i64 (0 : Int))
    else
    some (T.int IntKind.i64 (0 : Int))
    else
    bif decide (a = (3 : Int)) then
    bif decide (b = (1 : Int)) then
    some (T.int IntKind.i64 (1 : Int))
    else
    some (T.int IntKind.i64 (0 : Int))
    else
    some (T.int IntKind.i64 (0 : Int))
    else
    bif decide (a = (2 : Int)) then
    bif decide (b = (2 : Int)) then
    some (T.int IntKind.i64 (1 : Int))
    else
    bif decide (a = (3 : Int)) then
    bif decide (b = (1 : Int)) then
    some (T.int IntKind.i64 (1 : Int))
    else
    some (T.int IntKind.i64 (0 : Int))
    else
    some (T.int IntKind.i64 (0 : Int))
    else
    bif decide (a = (3 : Int)) then
    bif decide (b = (1 : Int)) then
    some (T.int IntKind.i64 (1 : Int))
    else
    some (T.int IntKind.i64 (0 : Int))
    else
    some (T.int IntKind.i64 (0 : Int))
    else
    bif decide (a = (1 : Int)) then
    bif decide (b = (2 : Int)) then
    some (T.int IntKind.i64 (1 : Int))
    else
    bif decide (a = (1 : Int)) then
    bif decide (b = (3 : Int)) then
    some (T.int IntKind.i64 (1 : Int))
    else
    bif decide (a = (2 : Int)) then
    bif decide (b = (1 : Int)) then
    some (T.int IntKind.i64 (1 : Int))
    else
    bif decide (a = (2 : Int)) then
    bif decide (b = (2 : Int)) then
    some (T.int IntKind.i64 (1 : Int))
    else
    bif decide (a = (3 : Int)) then
    bif decide (b = (1 : Int)) then
    some (T.int IntKind.i64 (1 : Int))
    else
    some (T.int IntKind.i64 (0 : Int))
    else
    some (T.int IntKind.i64 (0 : Int))
    else
    bif decide (a = (3 : Int)) then
    bif decide (b = (1 : Int)) then
    some (T.int IntKind.i64 (1 : Int))
    else
    some (T.int IntKind.i64 (0 : Int))
    else
    some (T.int IntKind.i64 (0 : Int))
    else
    bif decide (a = (2 : Int)) then
    bif decide (b = (2 : Int)) then
    some (T.int IntKind.i64 (1 : Int))
    else
    bif decide (a = (3 : Int)) then
    bif decide (b = (1 : Int)) then
    some (T.int IntKind.i64 (1 : Int))
    else
    some (T.int IntKind.i64 (0 : Int))
    else
    some (T.int IntKind.i64 (0 : Int))
    else
    bif decide (a = (3 : Int)) then
    bif decide (b = (1 : Int)) then
    some (T.int IntKind.i64 (1 : Int))
    else
    some (T.int IntKind.i64 (0 : Int))
    else
    some (T.int IntKind.i64 (0 : Int))
    else
    bif decide (a = (2 : Int)) then
    bif decide (b = (1 : Int)) then
    some (T.int IntKind.i64 (1 : Int))
    else
    bif decide (a = (2 : Int)) then
    bif decide (b = (2 : Int)) then
    some (T.int IntKind.i64 (1 : Int))
    else
    bif decide (a = (3 : Int)) then
    bif decide (b = (1 : Int)) then
    some (T.int IntKind.i64 (1 : Int))
    else
    some (T.int IntKind.i64 (0 : Int))
    else
    some (T.int IntKind.i64 (0 : Int))
    else
    bif decide (a = (3 : Int)) then
    bif decide (b = (1 : Int)) then
    some (T.int IntKind.i64 (1 : Int))
    else
    some (T.int IntKind.i64 (0 : Int))
    else
    some (T.int IntKind.i64 (0 : Int))
    else
    bif decide (a = (2 : Int)) then
    bif decide (b = (2 : Int)) then
    some (T.int IntKind.i64 (1 : Int))
    else
    bif decide (a = (3 : Int)) then
    bif decide (b = (1 : Int)) then
    some (T.int IntKind.i64 (1 : Int))
    else
    some (T.int IntKind.i64 (0 : Int))
    else
    some (T.int IntKind.i64 (0 : Int))
    else
    bif decide (a = (3 : Int)) then
    bif decide (b = (1 : Int)) then
    some (T.int IntKind.i64 (1 : Int))
    else
    some (T.int IntKind.i64 (0 : Int))
    else
    some (T.int IntKind.i64 (0 : Int))
    else
    bif decide (a = (1 : Int)) then
    bif decide (b = (3 : Int)) then
    some (T.int IntKind.i64 (1 : Int))
    else
    bif decide (a = (2 : Int)) then
    bif decide (b = (1 : Int)) then
    some (T.int IntKind.i64 (1 : Int))
    else
    bif decide (a = (2 : Int)) then
    bif decide (b = (2 : Int)) then
    some (T.int IntKind.i64 (1 : Int))
    else
    bif decide (a = (3 : Int)) then
    bif decide (b = (1 : Int)) then
    some (T.int IntKind.i64 (1 : Int))
    else
    some (T.int IntKind.i64 (0 : Int))
    else
    some (T.int IntKind.i64 (0 : Int))
    else
    bif decide (a = (3 : Int)) then
    bif decide (b = (1 : Int)) then
    some (T.int IntKind.i64 (1 : Int))
    else
    some (T.int IntKind.i64 (0 : Int))
    else
    some (T.int IntKind.i64 (0 : Int))
    else
    bif decide (a = (2 : Int)) then
    bif decide (b = (2 : Int)) then
    some (T.int IntKind.i64 (1 : Int))
    else
    bif decide (a = (3 : Int)) then
    bif decide (b = (1 : Int)) then
    some (T.int IntKind.i64 (1 : Int))
    else
    some (T.int IntKind.i64 (0 : Int))
    else
    some (T.int IntKind.i64 (0 : Int))
    else
    bif decide (a = (3 : Int)) then
    bif decide (b = (1 : Int)) then
    some (T.int IntKind.i64 (1 : Int))
    else
    some (T.int IntKind.i64 (0 : Int))
    else
    some (T.int IntKind.i64 (0 : Int))
    else
    bif decide (a = (2 : Int)) then
    bif decide (b = (1 : Int)) then
    some (T.int IntKind.i64 (1 : Int))
    else
    bif decide (a = (2 : Int)) then
    bif decide (b = (2 : Int)) then
    some (T.int IntKind.i64 (1 : Int))
    else
    bif decide (a = (3 : Int)) then
    bif decide (b = (1 : Int)) then
    some (T.int IntKind.i64 (1 : Int))
    else
    some (T.int IntKind.i64 (0 : Int))
    else
    some (T.int IntKind.i64 (0 : Int))
    else
    bif decide (a = (3 : Int)) then
    bif decide (b = (1 : Int)) then
    some (T.int IntKind.i64 (1 : Int))
    else
    some (T.int IntKind.i64 (0 : Int))
    else
    some (T.int IntKind.i64 (0 : Int))
    else
    bif decide (a = (2 : Int)) then
    bif decide (b = (2 : Int)) then
    some (T.int IntKind.i64 (1 : Int))
    else
    bif decide (a = (3 : Int)) then
    bif decide (b = (1 : Int)) then
    some (T.int IntKind.i64 (1 : Int))
    else
    some (T.int IntKind.i64 (0 : Int))
    else
    some (T.int IntKind.i64 (0 : Int))
    else
    bif decide (a = (3 : Int)) then
    bif decide (b = (1 : Int)) then
    some (T.int IntKind.i64 (1 : Int))
    else
    some (T.int IntKind.i64 (0 : Int))
    else
    some (T.int IntKind.i64 (0 : Int))
    else
    bif !decide (a = (0 : Int)) then
    some (T.int IntKind.i64 (0 : Int))
    else
    bif !decide (b = (0 : Int)) then
    some (T.int IntKind.i64 (0 : Int))
    else
    bif f then
    some (T.int IntKind.i64 (0 : Int))
    else
    some (T.int IntKind.i64 (1 : Int))) from by kernel_rfl)]
  simp only [posF, Bool.and_eq_true, decide_eq_true_eq] at hp
  by_cases hy0 : y = 0
  · subst hy0; simp [checkF, valid]
  by_cases hy : 6 < y
  · simp [checkF, valid, hy0, hy, show ¬ y ≤ 6 by omega]
  by_cases hk0 : k = 0
  · subst hk0; simp [checkF, valid, hy0, hy]
  by_cases hk : 8 < k
  · simp [checkF, valid, hy0, hy, hk0, hk, show ¬ k ≤ 8 by omega]
  by_cases h8 : k = 8
  · subst h8
    have e1 : (1 ≤ y) := by omega
    have e2 : (y ≤ 6) := by omega
    by_cases h1 : a = 1
    · subst h1
      by_cases b1 : b = 1
      · subst b1; simp [checkF, valid, hy0, hy, e1, e2]
      by_cases b2 : b = 2
      · subst b2; simp [checkF, valid, hy0, hy, e1, e2]
      by_cases b3 : b = 3
      · subst b3; simp [checkF, valid, hy0, hy, e1, e2]
      have e3 : ¬ (1 ≤ b ∧ 1 + b ≤ 4) := by omega
      simp [checkF, valid, hy0, hy, e1, e2, b1, b2, b3]
      grind
    by_cases h2 : a = 2
    · subst h2
      by_cases b1 : b = 1
      · subst b1; simp [checkF, valid, hy0, hy, e1, e2]
      by_cases b2 : b = 2
      · subst b2; simp [checkF, valid, hy0, hy, e1, e2]
      simp [checkF, valid, hy0, hy, e1, e2, b1, b2]
      grind
    by_cases h3 : a = 3
    · subst h3
      by_cases b1 : b = 1
      · subst b1; simp [checkF, valid, hy0, hy, e1, e2]
      simp [checkF, valid, hy0, hy, e1, e2, b1]
      grind
    simp [checkF, valid, hy0, hy, e1, e2, h1, h2, h3]
    grind
  · have e1 : (1 ≤ y) := by omega
    have e2 : (y ≤ 6) := by omega
    have e3 : (1 ≤ k) := by omega
    have e4 : (k ≤ 8) := by omega
    by_cases ha : a = 0 <;> by_cases hb : b = 0 <;> cases f <;> simp [checkF, valid, hy0, hy, e1, e2, hk0, hk, e3, e4, h8, ha, hb]
theorem lives12 : stepV P12 G12 A12 (arunO P12 G12 A12 1000 7) 1000 12 [] = some (.bool true) := by kernel_rfl
end Go.Ab

namespace Go.Ab
open Go.Proofs
theorem hm12 : P12.follows .mixedOrders = true := by kernel_rfl
theorem hn12 : namesOk P12 = true := by kernel_rfl
theorem hl12 : laidOutB P12 = true := by kernel_rfl

def spec18 : List T → Tree
  | [.agg [.int .u8 k, .int .u8 y, .int .i64 a, .int .i64 b, .bool f]] => .ret (.int .i64 (needsF k y a b f))
  | _ => .none
def spec15 : List T → Tree
  | [.agg [.int .u8 k, .int .u8 y, .int .i64 a, .int .i64 b, .bool f]] => .ret (.int .i64 (makesF k y a b f))
  | _ => .none
def spec14 : List T → Tree
  | [.agg [.int .u8 k, .int .u8 y, .int .i64 a, .int .i64 b, .bool f]] => .ite (posF k y) (.ret (.int .i64 (needsF k y a b f))) .none
  | _ => .none
def spec23 : List T → Tree
  | [.agg [.int .u8 k, .int .u8 y, .int .i64 a, .int .i64 b, .bool f]] => .ite (posF k y) (.ret (.int .i64 (makesF k y a b f))) .none
  | _ => .none
def spec24 : List T → Tree
  | [.agg [.int .u8 k, .int .u8 y, .int .i64 a, .int .i64 b, .bool f]] => .ret (.int .u8 (bedF k y a b f))
  | _ => .none
def spec16 : List T → Tree
  | [.agg [.int .u8 k, .int .u8 y, .int .i64 a, .int .i64 b, .bool f]] => .ret (mirT k y a b f)
  | _ => .none
def spec12 : List T → Tree
  | [] => .ret (.bool true)
  | _ => .none

theorem ite_run {c : Bool} {x : Tree} {r : T} (h : (Tree.ite c x .none).run some = some r) : c = true ∧ x.run some = some r := by
  simp only [Tree.run] at h
  cases c with
  | false => cases h
  | true => exact ⟨rfl, h⟩

theorem ok17 : OrcOk P12 G12 K17 := step_add hm12 hn12 none_ok none_ok fun args r h => by
  unfold spec17 at h; split at h
  · obtain rfl := Option.some.inj h; exact ⟨A12, 100, .inl (e17 _ _ _ _ _)⟩
  · cases h
theorem ok22 : OrcOk P12 G12 K22 := step_add hm12 hn12 none_ok none_ok fun args r h => by
  unfold spec22 at h; split at h
  · obtain ⟨hc, h⟩ := ite_run h
    obtain rfl := Option.some.inj h; exact ⟨A12, 100, .inl (e22 _ _ _ _ _ hc)⟩
  · cases h
noncomputable def Ka : Orc := ((((((((noneO.add 17 spec17).add 22 spec22).add 18 spec18).add 15 spec15).add 14 spec14).add 23 spec23).add 24 spec24).add 16 spec16).add 12 spec12
theorem okA : OrcOk P12 G12 Ka := by
  refine step_add hm12 hn12 (step_add hm12 hn12 (step_add hm12 hn12 (step_add hm12 hn12 (step_add hm12 hn12 (step_add hm12 hn12 (step_add hm12 hn12 (step_add hm12 hn12 ok17 none_ok ?_) ok17 ?_) ok17 ?_) ok22 ?_) ok22 ?_) ok17 ?_) none_ok ?_) (arun_ok (A := A12) hm12 hn12 1000 7) ?_ <;> intro args r h
  · unfold spec22 at h; split at h
    · obtain ⟨hc, h⟩ := ite_run h
      obtain rfl := Option.some.inj h; exact ⟨A12, 100, .inl (e22 _ _ _ _ _ hc)⟩
    · cases h
  · unfold spec18 at h; split at h
    · obtain rfl := Option.some.inj h; exact ⟨A12, 100, .inl (e18 _ _ _ _ _)⟩
    · cases h
  · unfold spec15 at h; split at h
    · obtain rfl := Option.some.inj h; exact ⟨A12, 100, .inl (e15 _ _ _ _ _)⟩
    · cases h
  · unfold spec14 at h; split at h
    · obtain ⟨hc, h⟩ := ite_run h
      obtain rfl := Option.some.inj h; exact ⟨A12, 100, .inl (e14 _ _ _ _ _ hc)⟩
    · cases h
  · unfold spec23 at h; split at h
    · obtain ⟨hc, h⟩ := ite_run h
      obtain rfl := Option.some.inj h; exact ⟨A12, 100, .inl (e23 _ _ _ _ _ hc)⟩
    · cases h
  · unfold spec24 at h; split at h
    · obtain rfl := Option.some.inj h; exact ⟨A12, 100, .inl (e24 _ _ _ _ _)⟩
    · cases h
  · unfold spec16 at h; split at h
    · obtain rfl := Option.some.inj h; exact ⟨A12, 100, .inl (e16 _ _ _ _ _)⟩
    · cases h
  · unfold spec12 at h; split at h
    · obtain rfl := Option.some.inj h; exact ⟨A12, 1000, .inl lives12⟩
    · cases h

end Go.Ab

namespace Go.Ab
open Go.Proofs
/-- All valid stitches. -/
def all12 : List (Int × Int × Int × Int × Bool) :=
  ([1, 2, 3, 4, 5, 6] : List Int).flatMap fun y => (([1, 2, 3, 4, 5, 6, 7] : List Int).map fun k => (k, y, 0, 0, false)) ++
    ([(1, 1), (1, 2), (2, 1), (2, 2), (1, 3), (3, 1)] : List (Int × Int)).flatMap fun p => [(8, y, p.1, p.2, false), (8, y, p.1, p.2, true)]
def u8F (n : Int) : UInt8 := UInt8.ofNat n.toNat
/-- The text of a stitch. -/
def textF (k y a b : Int) (f : Bool) : List UInt8 :=
  bif valid k y a b f then
    (u8F (([107, 112, 111, 47, 118, 116, 115, 99] : List Int).getD (k - 1).toNat 0)) :: ((bif decide (k = 8) then [u8F (48 + a), u8F (48 + b), bif f then 70 else 66] else []) ++ (bif decide (y = 1) then [] else [u8F (48 + y)]))
  else []
theorem all_valid : all12.all (fun c => valid c.1 c.2.1 c.2.2.1 c.2.2.2.1 c.2.2.2.2) = true := by kernel_rfl
theorem mem_all {k y a b : Int} {f : Bool} (h : valid k y a b f = true) : (k, y, a, b, f) ∈ all12 := by
  simp only [valid, Bool.and_eq_true, decide_eq_true_eq] at h
  obtain ⟨h1, h2, h3, h4, h5⟩ := h
  have hy : y = 1 ∨ y = 2 ∨ y = 3 ∨ y = 4 ∨ y = 5 ∨ y = 6 := by omega
  by_cases h8 : k = 8
  · subst h8
    simp only [decide_true, cond_true, Bool.and_eq_true, decide_eq_true_eq] at h5
    have hab : (a = 1 ∧ b = 1) ∨ (a = 1 ∧ b = 2) ∨ (a = 2 ∧ b = 1) ∨ (a = 2 ∧ b = 2) ∨ (a = 1 ∧ b = 3) ∨ (a = 3 ∧ b = 1) := by omega
    rcases hy with rfl | rfl | rfl | rfl | rfl | rfl <;> rcases hab with ⟨rfl, rfl⟩ | ⟨rfl, rfl⟩ | ⟨rfl, rfl⟩ | ⟨rfl, rfl⟩ | ⟨rfl, rfl⟩ | ⟨rfl, rfl⟩ <;> cases f <;> decide +kernel
  · simp only [h8, decide_false, cond_false, Bool.and_eq_true, decide_eq_true_eq, Bool.not_eq_true'] at h5
    obtain ⟨rfl, rfl, rfl⟩ := h5
    have hk : k = 1 ∨ k = 2 ∨ k = 3 ∨ k = 4 ∨ k = 5 ∨ k = 6 ∨ k = 7 := by omega
    rcases hy with rfl | rfl | rfl | rfl | rfl | rfl <;> rcases hk with rfl | rfl | rfl | rfl | rfl | rfl | rfl <;> decide +kernel
/-- What holds of all valid stitches, by trying. -/
theorem of_all {p : Int → Int → Int → Int → Bool → Bool} (h : all12.all (fun c => p c.1 c.2.1 c.2.2.1 c.2.2.2.1 c.2.2.2.2) = true) {k y a b : Int} {f : Bool} (hv : valid k y a b f = true) : p k y a b f = true :=
  List.all_eq_true.1 h _ (mem_all hv)
def sameF (k y a b : Int) (f : Bool) (k' y' a' b' : Int) (f' : Bool) : Bool := decide (k = k') && decide (y = y') && decide (a = a') && decide (b = b') && (f == f')
theorem text_inj0 : all12.all (fun c => all12.all fun d => !(textF c.1 c.2.1 c.2.2.1 c.2.2.2.1 c.2.2.2.2 == textF d.1 d.2.1 d.2.2.1 d.2.2.2.1 d.2.2.2.2) || sameF c.1 c.2.1 c.2.2.1 c.2.2.2.1 c.2.2.2.2 d.1 d.2.1 d.2.2.1 d.2.2.2.1 d.2.2.2.2) = true := by kernel_rfl
theorem text_inj {k y a b : Int} {f : Bool} {k' y' a' b' : Int} {f' : Bool} (h : valid k y a b f = true) (h' : valid k' y' a' b' f' = true) (e : textF k y a b f = textF k' y' a' b' f') : k = k' ∧ y = y' ∧ a = a' ∧ b = b' ∧ f = f' := by
  have h1 := List.all_eq_true.1 (List.all_eq_true.1 text_inj0 _ (mem_all h)) _ (mem_all h')
  simp only [e, beq_self_eq_true, Bool.not_true, Bool.false_or, sameF, Bool.and_eq_true, decide_eq_true_eq, beq_iff_eq] at h1
  obtain ⟨⟨⟨⟨a1, a2⟩, a3⟩, a4⟩, a5⟩ := h1
  exact ⟨a1, a2, a3, a4, a5⟩
def strIs (o : Option T) (s : List UInt8) : Bool := match o with
  | some (.str t) => t == s
  | _ => false
theorem strIs_eq {o : Option T} {s : List UInt8} (h : strIs o s = true) : o = some (.str s) := by
  unfold strIs at h
  split at h
  · rw [eq_of_beq h]
  · cases h
end Go.Ab

