/- A part of the proof: nothing is assumed. -/
import Derived.Test.YtkiedolofnakoaaDoorS12
namespace Go.Ab
open Go.Proofs

theorem wr64 {x : Int} (h1 : -9223372036854775808 ≤ x) (h2 : x ≤ 9223372036854775807) : IntKind.i64.wrap x = x := by
  simp only [IntKind.wrap, IntKind.signed, IntKind.bits]
  simp
  omega
theorem wr8 {x : Int} (h1 : 0 ≤ x) (h2 : x ≤ 255) : IntKind.u8.wrap x = x := by
  simp only [IntKind.wrap, IntKind.signed, IntKind.bits]
  simp
  omega

theorem e17 (k y a b : Int) (f : Bool) : stepV P12 G12 A12 noneO 100 17 [stT k y a b f] = some (.int .i64 (checkF k y a b f)) := by
  rw [show stepV P12 G12 A12 noneO 100 17 [stT k y a b f] =
    (bif decide (k < 1) then some (T.int IntKind.i64 1) else
     bif decide (8 < k) then some (T.int IntKind.i64 1) else
     bif decide (y < 1) then some (T.int IntKind.i64 1) else
     bif decide (6 < y) then some (T.int IntKind.i64 1) else
     bif !decide (k = 8) then
      bif !decide (a = 0) then some (T.int IntKind.i64 1) else
      bif !decide (b = 0) then some (T.int IntKind.i64 1) else
      bif f then some (T.int IntKind.i64 1) else some (T.int IntKind.i64 0)
     else
      bif decide (a < 1) then some (T.int IntKind.i64 1) else
      bif decide (4 < a) then some (T.int IntKind.i64 1) else
      bif decide (b < 1) then some (T.int IntKind.i64 1) else
      bif decide (IntKind.i64.wrap (4 - a) < b) then some (T.int IntKind.i64 1) else some (T.int IntKind.i64 0)) from by kernel_rfl]
  by_cases ha : 1 ≤ a ∧ a ≤ 4
  · rw [wr64 (by omega) (by omega)]
    grind [checkF, valid]
  · grind [checkF, valid]
end Go.Ab
