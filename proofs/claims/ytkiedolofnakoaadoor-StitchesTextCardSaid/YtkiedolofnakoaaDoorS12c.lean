/- A part of the proof: nothing is assumed. -/
import Derived.Test.YtkiedolofnakoaaDoorS12b
namespace Go.Ab
open Go.Proofs
/-- What a stitch's numbers give. -/
def spec17 : List T → Tree
  | [.agg [.int .u8 k, .int .u8 y, .int .i64 a, .int .i64 b, .bool f]] => .ret (.int .i64 (checkF k y a b f))
  | _ => .none
noncomputable def K17 : Orc := noneO.add 17 spec17
def posF (k y : Int) : Bool := decide (0 ≤ k) && decide (0 ≤ y)
def spec22 : List T → Tree
  | [.agg [.int .u8 k, .int .u8 y, .int .i64 a, .int .i64 b, .bool f]] => .ite (posF k y) (.ret (.int .i64 (1 - checkF k y a b f))) .none
  | _ => .none
noncomputable def K22 : Orc := noneO.add 22 spec22
end Go.Ab
