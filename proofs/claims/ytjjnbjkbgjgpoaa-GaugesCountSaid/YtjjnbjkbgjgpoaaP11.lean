/- A part of the proof: nothing is assumed. -/
import Derived.Test.YtjjnbjkbgjgpoaaP10
set_option linter.all false
namespace Go.Ab
open Go.Proofs
noncomputable def A3 : FuncId → Ann := annWith A37 3 [(5, 62, false), (7, 108, false), (10, 165, true)]
theorem ms_good {x y : Int} (h3 : 1 ≤ y) : (1 ≤ roundF (100 * x) y ↔ y ≤ 200 * x) ∧ (roundF (100 * x) y ≤ 400 ↔ 200 * x < 801 * y) := by
  unfold roundF
  constructor
  · rw [Int.le_ediv_iff_mul_le (by omega)]; omega
  · rw [← Int.lt_add_one_iff, Int.ediv_lt_iff_lt_mul (by omega)]; omega
set_option maxHeartbeats 4000000 in
theorem law3 (x y : Int) : stepV P37 G37 A3 K37b 0 3 [.int .i64 x, .int .i64 y] = some (.bool true) := by
  rw [(show stepV P37 G37 A3 K37b 0 3 [.int .i64 x, .int .i64 y] =
(    bif cntF x y (20000 : Int) then
    bif cntF x y (80000 : Int) then
    bif msF x y then
    bif decide ((1 : Int) ≤ x) then
    bif decide (x ≤ (400 : Int)) then
    bif decide ((0 : Int) ≤ y) then
    bif decide (y ≤ (20000 : Int)) then
    bif decide ((0 : Int) ≤ y) then
    bif decide (y ≤ (80000 : Int)) then
    bif nokF (roundF (x * y) (100 : Int)) (IntKind.i64.wrap (x * y)) (100 : Int) then
    bif nearF (roundF (x * y) (100 : Int)) (IntKind.i64.wrap (x * y)) (100 : Int) then
    bif nokF (roundF ((100 : Int) * y) x) (IntKind.i64.wrap ((100 : Int) * y)) x then
    bif nearF (roundF ((100 : Int) * y) x) (IntKind.i64.wrap ((100 : Int) * y)) x then
    bif decide ((0 : Int) ≤ x) then
    bif decide (x ≤ (80000 : Int)) then
    bif decide ((1 : Int) ≤ y) then
    bif decide (y ≤ (20000 : Int)) then
    bif decide (y ≤ IntKind.i64.wrap ((200 : Int) * x)) then
    bif decide (IntKind.i64.wrap ((200 : Int) * x) < IntKind.i64.wrap ((801 : Int) * y)) then
    bif nokF (roundF ((100 : Int) * x) y) (IntKind.i64.wrap ((100 : Int) * x)) y then
    bif nearF (roundF ((100 : Int) * x) y) (IntKind.i64.wrap ((100 : Int) * x)) y then
    some (T.bool true)
    else
    none
    else
    none
    else
    none
    else
    none
    else
    none
    else
    none
    else
    none
    else
    none
    else
    none
    else
    none
    else
    none
    else
    none
    else
    none
    else
    none
    else
    none
    else
    none
    else
    none
    else
    none
    else
    bif decide ((1 : Int) ≤ x) then
    bif decide (x ≤ (400 : Int)) then
    bif decide ((0 : Int) ≤ y) then
    bif decide (y ≤ (20000 : Int)) then
    bif decide ((0 : Int) ≤ y) then
    bif decide (y ≤ (80000 : Int)) then
    bif nokF (roundF (x * y) (100 : Int)) (IntKind.i64.wrap (x * y)) (100 : Int) then
    bif nearF (roundF (x * y) (100 : Int)) (IntKind.i64.wrap (x * y)) (100 : Int) then
    bif nokF (roundF ((100 : Int) * y) x) (IntKind.i64.wrap ((100 : Int) * y)) x then
    bif nearF (roundF ((100 : Int) * y) x) (IntKind.i64.wrap ((100 : Int) * y)) x then
    bif decide ((0 : Int) ≤ x) then
    bif decide (x ≤ (80000 : Int)) then
    bif decide ((1 : Int) ≤ y) then
    bif decide (y ≤ (20000 : Int)) then
    bif decide (y ≤ IntKind.i64.wrap ((200 : Int) * x)) then
    bif decide (IntKind.i64.wrap ((200 : Int) * x) < IntKind.i64.wrap ((801 : Int) * y)) then
    none
    else
    some (T.bool true)
    else
    some (T.bool true)
    else
    some (T.bool true)
    else
    some (T.bool true)
    else
    some (T.bool true)
    else
    some (T.bool true)
    else
    none
    else
    none
    else
    none
    else
    none
    else
    none
    else
    none
    else
    none
    else
    none
    else
    none
    else
    none
    else
    bif msF x y then
    bif decide ((1 : Int) ≤ x) then
    bif decide (x ≤ (400 : Int)) then
    bif decide ((0 : Int) ≤ y) then
    bif decide (y ≤ (20000 : Int)) then
    bif decide ((0 : Int) ≤ y) then
    bif decide (y ≤ (80000 : Int)) then
    none
    else
    bif nokF (roundF (x * y) (100 : Int)) (IntKind.i64.wrap (x * y)) (100 : Int) then
    bif nearF (roundF (x * y) (100 : Int)) (IntKind.i64.wrap (x * y)) (100 : Int) then
    bif decide ((0 : Int) ≤ x) then
    bif decide (x ≤ (80000 : Int)) then
    bif decide ((1 : Int) ≤ y) then
    bif decide (y ≤ (20000 : Int)) then
    bif decide (y ≤ IntKind.i64.wrap ((200 : Int) * x)) then
    bif decide (IntKind.i64.wrap ((200 : Int) * x) < IntKind.i64.wrap ((801 : Int) * y)) then
    bif nokF (roundF ((100 : Int) * x) y) (IntKind.i64.wrap ((100 : Int) * x)) y then
    bif nearF (roundF ((100 : Int) * x) y) (IntKind.i64.wrap ((100 : Int) * x)) y then
    some (T.bool true)
    else
    none
    else
    none
    else
    none
    else
    none
    else
    none
    else
    none
    else
    none
    else
    none
    else
    none
    else
    none
    else
    bif nokF (roundF (x * y) (100 : Int)) (IntKind.i64.wrap (x * y)) (100 : Int) then
    bif nearF (roundF (x * y) (100 : Int)) (IntKind.i64.wrap (x * y)) (100 : Int) then
    bif decide ((0 : Int) ≤ x) then
    bif decide (x ≤ (80000 : Int)) then
    bif decide ((1 : Int) ≤ y) then
    bif decide (y ≤ (20000 : Int)) then
    bif decide (y ≤ IntKind.i64.wrap ((200 : Int) * x)) then
    bif decide (IntKind.i64.wrap ((200 : Int) * x) < IntKind.i64.wrap ((801 : Int) * y)) then
    bif nokF (roundF ((100 : Int) * x) y) (IntKind.i64.wrap ((100 : Int) * x)) y then
    bif nearF (roundF ((100 : Int) * x) y) (IntKind.i64.wrap ((100 : Int) * x)) y then
    some (T.bool true)
    else
    none
    else
    none
    else
    none
    else
    none
    else
    none
    else
    none
    else
    none
    else
    none
    else
    none
    else
    none
    else
    none
    else
    none
    else
    none
    else
    none
    else
    bif decide ((1 : Int) ≤ x) then
    bif decide (x ≤ (400 : Int)) then
    bif decide ((0 : Int) ≤ y) then
    bif decide (y ≤ (20000 : Int)) then
    bif decide ((0 : Int) ≤ y) then
    bif decide (y ≤ (80000 : Int)) then
    none
    else
    bif nokF (roundF (x * y) (100 : Int)) (IntKind.i64.wrap (x * y)) (100 : Int) then
    bif nearF (roundF (x * y) (100 : Int)) (IntKind.i64.wrap (x * y)) (100 : Int) then
    bif decide ((0 : Int) ≤ x) then
    bif decide (x ≤ (80000 : Int)) then
    bif decide ((1 : Int) ≤ y) then
    bif decide (y ≤ (20000 : Int)) then
    bif decide (y ≤ IntKind.i64.wrap ((200 : Int) * x)) then
    bif decide (IntKind.i64.wrap ((200 : Int) * x) < IntKind.i64.wrap ((801 : Int) * y)) then
    none
    else
    some (T.bool true)
    else
    some (T.bool true)
    else
    some (T.bool true)
    else
    some (T.bool true)
    else
    some (T.bool true)
    else
    some (T.bool true)
    else
    none
    else
    none
    else
    bif nokF (roundF (x * y) (100 : Int)) (IntKind.i64.wrap (x * y)) (100 : Int) then
    bif nearF (roundF (x * y) (100 : Int)) (IntKind.i64.wrap (x * y)) (100 : Int) then
    bif decide ((0 : Int) ≤ x) then
    bif decide (x ≤ (80000 : Int)) then
    bif decide ((1 : Int) ≤ y) then
    bif decide (y ≤ (20000 : Int)) then
    bif decide (y ≤ IntKind.i64.wrap ((200 : Int) * x)) then
    bif decide (IntKind.i64.wrap ((200 : Int) * x) < IntKind.i64.wrap ((801 : Int) * y)) then
    none
    else
    some (T.bool true)
    else
    some (T.bool true)
    else
    some (T.bool true)
    else
    some (T.bool true)
    else
    some (T.bool true)
    else
    some (T.bool true)
    else
    none
    else
    none
    else
    none
    else
    none
    else
    none
    else
    none
    else
    bif cntF x y (80000 : Int) then
    bif msF x y then
    bif decide ((1 : Int) ≤ x) then
    bif decide (x ≤ (400 : Int)) then
    bif decide ((0 : Int) ≤ y) then
    bif decide (y ≤ (20000 : Int)) then
    none
    else
    bif decide ((0 : Int) ≤ y) then
    bif decide (y ≤ (80000 : Int)) then
    bif nokF (roundF ((100 : Int) * y) x) (IntKind.i64.wrap ((100 : Int) * y)) x then
    bif nearF (roundF ((100 : Int) * y) x) (IntKind.i64.wrap ((100 : Int) * y)) x then
    bif decide ((0 : Int) ≤ x) then
    bif decide (x ≤ (80000 : Int)) then
    bif decide ((1 : Int) ≤ y) then
    bif decide (y ≤ (20000 : Int)) then
    bif decide (y ≤ IntKind.i64.wrap ((200 : Int) * x)) then
    bif decide (IntKind.i64.wrap ((200 : Int) * x) < IntKind.i64.wrap ((801 : Int) * y)) then
    bif nokF (roundF ((100 : Int) * x) y) (IntKind.i64.wrap ((100 : Int) * x)) y then
    bif nearF (roundF ((100 : Int) * x) y) (IntKind.i64.wrap ((100 : Int) * x)) y then
    some (T.bool true)
    else
    none
    else
    none
    else
    none
    else
    none
    else
    none
    else
    none
    else
    none
    else
    none
    else
    none
    else
    none
    else
    none
    else
    none
    else
    bif decide ((0 : Int) ≤ y) then
    bif decide (y ≤ (80000 : Int)) then
    bif nokF (roundF ((100 : Int) * y) x) (IntKind.i64.wrap ((100 : Int) * y)) x then
    bif nearF (roundF ((100 : Int) * y) x) (IntKind.i64.wrap ((100 : Int) * y)) x then
    bif decide ((0 : Int) ≤ x) then
    bif decide (x ≤ (80000 : Int)) then
    bif decide ((1 : Int) ≤ y) then
    bif decide (y ≤ (20000 : Int)) then
    bif decide (y ≤ IntKind.i64.wrap ((200 : Int) * x)) then
    bif decide (IntKind.i64.wrap ((200 : Int) * x) < IntKind.i64.wrap ((801 : Int) * y)) then
    bif nokF (roundF ((100 : Int) * x) y) (IntKind.i64.wrap ((100 : Int) * x)) y then
    bif nearF (roundF ((100 : Int) * x) y) (IntKind.i64.wrap ((100 : Int) * x)) y then
    some (T.bool true)
    else
    none
    else
    none
    else
    none
    else
    none
    else
    none
    else
    none
    else
    none
    else
    none
    else
    none
    else
    none
    else
    none
    else
    none
    else
    none
    else
    none
    else
    bif decide ((1 : Int) ≤ x) then
    bif decide (x ≤ (400 : Int)) then
    bif decide ((0 : Int) ≤ y) then
    bif decide (y ≤ (20000 : Int)) then
    none
    else
    bif decide ((0 : Int) ≤ y) then
    bif decide (y ≤ (80000 : Int)) then
    bif nokF (roundF ((100 : Int) * y) x) (IntKind.i64.wrap ((100 : Int) * y)) x then
    bif nearF (roundF ((100 : Int) * y) x) (IntKind.i64.wrap ((100 : Int) * y)) x then
    bif decide ((0 : Int) ≤ x) then
    bif decide (x ≤ (80000 : Int)) then
    bif decide ((1 : Int) ≤ y) then
    bif decide (y ≤ (20000 : Int)) then
    bif decide (y ≤ IntKind.i64.wrap ((200 : Int) * x)) then
    bif decide (IntKind.i64.wrap ((200 : Int) * x) < IntKind.i64.wrap ((801 : Int) * y)) then
    none
    else
    some (T.bool true)
    else
    some (T.bool true)
    else
    some (T.bool true)
    else
    some (T.bool true)
    else
    some (T.bool true)
    else
    some (T.bool true)
    else
    none
    else
    none
    else
    none
    else
    none
    else
    bif decide ((0 : Int) ≤ y) then
    bif decide (y ≤ (80000 : Int)) then
    bif nokF (roundF ((100 : Int) * y) x) (IntKind.i64.wrap ((100 : Int) * y)) x then
    bif nearF (roundF ((100 : Int) * y) x) (IntKind.i64.wrap ((100 : Int) * y)) x then
    bif decide ((0 : Int) ≤ x) then
    bif decide (x ≤ (80000 : Int)) then
    bif decide ((1 : Int) ≤ y) then
    bif decide (y ≤ (20000 : Int)) then
    bif decide (y ≤ IntKind.i64.wrap ((200 : Int) * x)) then
    bif decide (IntKind.i64.wrap ((200 : Int) * x) < IntKind.i64.wrap ((801 : Int) * y)) then
    none
    else
    some (T.bool true)
    else
    some (T.bool true)
    else
    some (T.bool true)
    else
    some (T.bool true)
    else
    some (T.bool true)
    else
    some (T.bool true)
    else
    none
    else
    none
    else
    none
    else
    none
    else
    none
    else
    none
    else
    bif msF x y then
    bif decide ((1 : Int) ≤ x) then
    bif decide (x ≤ (400 : Int)) then
    bif decide ((0 : Int) ≤ y) then
    bif decide (y ≤ (20000 : Int)) then
    none
    else
    bif decide ((0 : Int) ≤ y) then
    bif decide (y ≤ (80000 : Int)) then
    none
    else
    bif decide ((0 : Int) ≤ x) then
    bif decide (x ≤ (80000 : Int)) then
    bif decide ((1 : Int) ≤ y) then
    bif decide (y ≤ (20000 : Int)) then
    bif decide (y ≤ IntKind.i64.wrap ((200 : Int) * x)) then
    bif decide (IntKind.i64.wrap ((200 : Int) * x) < IntKind.i64.wrap ((801 : Int) * y)) then
    bif nokF (roundF ((100 : Int) * x) y) (IntKind.i64.wrap ((100 : Int) * x)) y then
    bif nearF (roundF ((100 : Int) * x) y) (IntKind.i64.wrap ((100 : Int) * x)) y then
    some (T.bool true)
    else
    none
    else
    none
    else
    none
    else
    none
    else
    none
    else
    none
    else
    none
    else
    none
    else
    bif decide ((0 : Int) ≤ x) then
    bif decide (x ≤ (80000 : Int)) then
    bif decide ((1 : Int) ≤ y) then
    bif decide (y ≤ (20000 : Int)) then
    bif decide (y ≤ IntKind.i64.wrap ((200 : Int) * x)) then
    bif decide (IntKind.i64.wrap ((200 : Int) * x) < IntKind.i64.wrap ((801 : Int) * y)) then
    bif nokF (roundF ((100 : Int) * x) y) (IntKind.i64.wrap ((100 : Int) * x)) y then
    bif nearF (roundF ((100 : Int) * x) y) (IntKind.i64.wrap ((100 : Int) * x)) y then
    some (T.bool true)
    else
    none
    else
    none
    else
    none
    else
    none
    else
    none
    else
    none
    else
    none
    else
    none
    else
    bif decide ((0 : Int) ≤ y) then
    bif decide (y ≤ (80000 : Int)) then
    none
    else
    bif decide ((0 : Int) ≤ x) then
    bif decide (x ≤ (80000 : Int)) then
    bif decide ((1 : Int) ≤ y) then
    bif decide (y ≤ (20000 : Int)) then
    bif decide (y ≤ IntKind.i64.wrap ((200 : Int) * x)) then
    bif decide (IntKind.i64.wrap ((200 : Int) * x) < IntKind.i64.wrap ((801 : Int) * y)) then
    bif nokF (roundF ((100 : Int) * x) y) (IntKind.i64.wrap ((100 : Int) * x)) y then
    bif nearF (roundF ((100 : Int) * x) y) (IntKind.i64.wrap ((100 : Int) * x)) y then
    some (T.bool true)
    else
    none
    else
    none
    else
    none
    else
    none
    else
    none
    else
    none
    else
    none
    else
    none
    else
    bif decide ((0 : Int) ≤ x) then
    bif decide (x ≤ (80000 : Int)) then
    bif decide ((1 : Int) ≤ y) then
    bif decide (y ≤ (20000 : Int)) then
    bif decide (y ≤ IntKind.i64.wrap ((200 : Int) * x)) then
    bif decide (IntKind.i64.wrap ((200 : Int) * x) < IntKind.i64.wrap ((801 : Int) * y)) then
    bif nokF (roundF ((100 : Int) * x) y) (IntKind.i64.wrap ((100 : Int) * x)) y then
    bif nearF (roundF ((100 : Int) * x) y) (IntKind.i64.wrap ((100 : Int) * x)) y then
    some (T.bool true)
    else
    none
    else
    none
    else
    none
    else
    none
    else
    none
    else
    none
    else
    none
    else
    none
    else
    bif decide ((0 : Int) ≤ x) then
    bif decide (x ≤ (80000 : Int)) then
    bif decide ((1 : Int) ≤ y) then
    bif decide (y ≤ (20000 : Int)) then
    bif decide (y ≤ IntKind.i64.wrap ((200 : Int) * x)) then
    bif decide (IntKind.i64.wrap ((200 : Int) * x) < IntKind.i64.wrap ((801 : Int) * y)) then
    bif nokF (roundF ((100 : Int) * x) y) (IntKind.i64.wrap ((100 : Int) * x)) y then
    bif nearF (roundF ((100 : Int) * x) y) (IntKind.i64.wrap ((100 : Int) * x)) y then
    some (T.bool true)
    else
    none
    else
    none
    else
    none
    else
    none
    else
    none
    else
    none
    else
    none
    else
    none
    else
    bif decide ((0 : Int) ≤ x) then
    bif decide (x ≤ (80000 : Int)) then
    bif decide ((1 : Int) ≤ y) then
    bif decide (y ≤ (20000 : Int)) then
    bif decide (y ≤ IntKind.i64.wrap ((200 : Int) * x)) then
    bif decide (IntKind.i64.wrap ((200 : Int) * x) < IntKind.i64.wrap ((801 : Int) * y)) then
    bif nokF (roundF ((100 : Int) * x) y) (IntKind.i64.wrap ((100 : Int) * x)) y then
    bif nearF (roundF ((100 : Int) * x) y) (IntKind.i64.wrap ((100 : Int) * x)) y then
    some (T.bool true)
    else
    none
    else
    none
    else
    none
    else
    none
    else
    none
    else
    none
    else
    none
    else
    none
    else
    bif decide ((1 : Int) ≤ x) then
    bif decide (x ≤ (400 : Int)) then
    bif decide ((0 : Int) ≤ y) then
    bif decide (y ≤ (20000 : Int)) then
    none
    else
    bif decide ((0 : Int) ≤ y) then
    bif decide (y ≤ (80000 : Int)) then
    none
    else
    bif decide ((0 : Int) ≤ x) then
    bif decide (x ≤ (80000 : Int)) then
    bif decide ((1 : Int) ≤ y) then
    bif decide (y ≤ (20000 : Int)) then
    bif decide (y ≤ IntKind.i64.wrap ((200 : Int) * x)) then
    bif decide (IntKind.i64.wrap ((200 : Int) * x) < IntKind.i64.wrap ((801 : Int) * y)) then
    none
    else
    some (T.bool true)
    else
    some (T.bool true)
    else
    some (T.bool true)
    else
    some (T.bool true)
    else
    some (T.bool true)
    else
    some (T.bool true)
    else
    bif decide ((0 : Int) ≤ x) then
    bif decide (x ≤ (80000 : Int)) then
    bif decide ((1 : Int) ≤ y) then
    bif decide (y ≤ (20000 : Int)) then
    bif decide (y ≤ IntKind.i64.wrap ((200 : Int) * x)) then
    bif decide (IntKind.i64.wrap ((200 : Int) * x) < IntKind.i64.wrap ((801 : Int) * y)) then
    none
    else
    some (T.bool true)
    else
    some (T.bool true)
    else
    some (T.bool true)
    else
    some (T.bool true)
    else
    some (T.bool true)
    else
    some (T.bool true)
    else
    bif decide ((0 : Int) ≤ y) then
    bif decide (y ≤ (80000 : Int)) then
    none
    else
    bif decide ((0 : Int) ≤ x) then
    bif decide (x ≤ (80000 : Int)) then
    bif decide ((1 : Int) ≤ y) then
    bif decide (y ≤ (20000 : Int)) then
    bif decide (y ≤ IntKind.i64.wrap ((200 : Int) * x)) then
    bif decide (IntKind.i64.wrap ((200 : Int) * x) < IntKind.i64.wrap ((801 : Int) * y)) then
    none
    else
    some (T.bool true)
    else
    some (T.bool true)
    else
    some (T.bool true)
    else
    some (T.bool true)
    else
    some (T.bool true)
    else
    some (T.bool true)
    else
    bif decide ((0 : Int) ≤ x) then
    bif decide (x ≤ (80000 : Int)) then
    bif decide ((1 : Int) ≤ y) then
    bif decide (y ≤ (20000 : Int)) then
    bif decide (y ≤ IntKind.i64.wrap ((200 : Int) * x)) then
    bif decide (IntKind.i64.wrap ((200 : Int) * x) < IntKind.i64.wrap ((801 : Int) * y)) then
    none
    else
    some (T.bool true)
    else
    some (T.bool true)
    else
    some (T.bool true)
    else
    some (T.bool true)
    else
    some (T.bool true)
    else
    some (T.bool true)
    else
    bif decide ((0 : Int) ≤ x) then
    bif decide (x ≤ (80000 : Int)) then
    bif decide ((1 : Int) ≤ y) then
    bif decide (y ≤ (20000 : Int)) then
    bif decide (y ≤ IntKind.i64.wrap ((200 : Int) * x)) then
    bif decide (IntKind.i64.wrap ((200 : Int) * x) < IntKind.i64.wrap ((801 : Int) * y)) then
    none
    else
    some (T.bool true)
    else
    some (T.bool true)
    else
    some (T.bool true)
    else
    some (T.bool true)
    else
    some (T.bool true)
    else
    some (T.bool true)
    else
    bif decide ((0 : Int) ≤ x) then
    bif decide (x ≤ (80000 : Int)) then
    bif decide ((1 : Int) ≤ y) then
    bif decide (y ≤ (20000 : Int)) then
    bif decide (y ≤ IntKind.i64.wrap ((200 : Int) * x)) then
    bif decide (IntKind.i64.wrap ((200 : Int) * x) < IntKind.i64.wrap ((801 : Int) * y)) then
    none
    else
    some (T.bool true)
    else
    some (T.bool true)
    else
    some (T.bool true)
    else
    some (T.bool true)
    else
    some (T.bool true)
    else
    some (T.bool true)) from by kernel_rfl)]
  have hx : x < 0 ∨ x = 0 ∨ (1 ≤ x ∧ x ≤ 400) ∨ (400 < x ∧ x ≤ 80000) ∨ 80000 < x := by omega
  have hy : y < 0 ∨ y = 0 ∨ (1 ≤ y ∧ y ≤ 20000) ∨ (20000 < y ∧ y ≤ 80000) ∨ 80000 < y := by omega
  have hn1 : 1 ≤ x → x ≤ 400 → 0 ≤ y → y ≤ 20000 → nokF (roundF (x * y) 100) (IntKind.i64.wrap (x * y)) 100 = true ∧ nearF (roundF (x * y) 100) (IntKind.i64.wrap (x * y)) 100 = true := by
    intro h1 h2 h3 h4
    have hm := mul_bd (p := x) (m := y) (by omega) h2 h3 h4
    rw [wr64 (by omega) (by omega)]
    have := roundF_bd (a := x * y) (b := 100) (by omega) (by omega)
    exact ⟨nokF_iff.2 (by omega), near_round (by omega) (by omega)⟩
  have hn2 : 1 ≤ x → x ≤ 400 → 0 ≤ y → y ≤ 80000 → nokF (roundF (100 * y) x) (IntKind.i64.wrap (100 * y)) x = true ∧ nearF (roundF (100 * y) x) (IntKind.i64.wrap (100 * y)) x = true := by
    intro h1 h2 h3 h4
    rw [wr64 (by omega) (by omega)]
    have := roundF_bd (a := 100 * y) (b := x) (by omega) (by omega)
    exact ⟨nokF_iff.2 (by omega), near_round (by omega) (by omega)⟩
  have hn3 : 0 ≤ x → x ≤ 80000 → 1 ≤ y → y ≤ 20000 → (nokF (roundF (100 * x) y) (IntKind.i64.wrap (100 * x)) y = true ∧ nearF (roundF (100 * x) y) (IntKind.i64.wrap (100 * x)) y = true) ∧ IntKind.i64.wrap (200 * x) = 200 * x ∧ IntKind.i64.wrap (801 * y) = 801 * y := by
    intro h1 h2 h3 h4
    rw [wr64 (x := 100 * x) (by omega) (by omega)]
    have := roundF_bd (a := 100 * x) (b := y) (by omega) (by omega)
    exact ⟨⟨nokF_iff.2 (by omega), near_round (by omega) (by omega)⟩, wr64 (by omega) (by omega), wr64 (by omega) (by omega)⟩
  have hg : 1 ≤ y → (1 ≤ roundF (100 * x) y ↔ y ≤ 200 * x) ∧ (roundF (100 * x) y ≤ 400 ↔ 200 * x < 801 * y) := ms_good
  repeat' first
    | refine bifi cntF_iff (fun _ => ?_) (fun _ => ?_)
    | refine bifi msF_iff (fun _ => ?_) (fun _ => ?_)
    | refine bift (hn1 (by omega) (by omega) (by omega) (by omega)).1 ?_
    | refine bift (hn1 (by omega) (by omega) (by omega) (by omega)).2 ?_
    | refine bift (hn2 (by omega) (by omega) (by omega) (by omega)).1 ?_
    | refine bift (hn2 (by omega) (by omega) (by omega) (by omega)).2 ?_
    | refine bift (hn3 (by omega) (by omega) (by omega) (by omega)).1.1 ?_
    | refine bift (hn3 (by omega) (by omega) (by omega) (by omega)).1.2 ?_
    | refine bifd (fun _ => ?_) (fun _ => ?_)
    | rfl
  all_goals exfalso
  all_goals first
    | omega
    | (have := hn3 (by omega) (by omega) (by omega) (by omega); have := hg (by omega); omega)
end Go.Ab

