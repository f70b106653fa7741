/- A part of the proof: nothing is assumed. -/
import Derived.Test.YtkiedolofnakoaaDoorAbLaw
import Derived.Test.YtkiedolofnakoaaDoorProg
import Derived.KernelRfl
namespace Go.Ab
open Go.Proofs
def G12 : Nat → Option (List T) := gOf [(0, [.int .u8 107, .int .u8 112, .int .u8 111, .int .u8 47, .int .u8 118, .int .u8 116, .int .u8 115, .int .u8 99])]
def A12 : FuncId → Ann := fun f => match f with
  | 3 => ⟨[2], fun r o => match r with | 9 => bif o then [1, 4, 5] else [1, 5, 6, 8, 10] | 14 => bif o then [4] else [1, 5, 11] | _ => [], false⟩
  | 4 => ⟨[2, 3, 5], fun r o => match r with | 8 => bif o then [5, 9] else [3, 5, 6, 9, 10] | 13 => bif o then [4, 11, 12] else [11, 12, 13] | _ => [], false⟩
  | 5 => ⟨[1, 3], fun r _o => match r with | _ => [], false⟩
  | 6 => ⟨[2, 6, 8, 11], fun r o => match r with | 14 => bif o then [4] else [1, 10] | _ => [], false⟩
  | 7 => ⟨[2, 3, 5, 6], fun r _o => match r with | _ => [], false⟩
  | 8 => ⟨[1], fun r _o => match r with | _ => [], false⟩
  | 9 => ⟨[3, 4], fun r o => match r with | 3 => bif o then [0] else [1, 2] | _ => [], false⟩
  | 10 => ⟨[2], fun r o => match r with | 6 => bif o then [1, 2, 4, 5] else [1, 2, 18, 19, 20] | 13 => bif o then [1, 2, 8] else [1, 2, 8, 35, 36] | _ => [], false⟩
  | 11 => ⟨[2], fun r o => match r with | 6 => bif o then [1, 2, 4, 5] else [1, 2, 6] | 22 => bif o then [7] else [2, 7, 8] | _ => [], false⟩
  | 12 => ⟨[1, 2, 4, 6, 8, 10], fun r _o => match r with | _ => [], false⟩
  | 13 => ⟨[1, 2, 3, 4], fun r _o => match r with | _ => [], false⟩
  | 14 => ⟨[1], fun r _o => match r with | _ => [], false⟩
  | 15 => ⟨[1], fun r _o => match r with | _ => [], false⟩
  | 16 => ⟨[1, 2], fun r _o => match r with | _ => [], false⟩
  | 17 => ⟨[1], fun r _o => match r with | _ => [], false⟩
  | 18 => ⟨[1], fun r _o => match r with | _ => [], false⟩
  | 19 => ⟨[1], fun r _o => match r with | _ => [], false⟩
  | 20 => ⟨[2, 4], fun r o => match r with | 5 => bif o then [0, 2, 4] else [0, 2, 4, 12, 13] | _ => [], false⟩
  | 21 => ⟨[1], fun r _o => match r with | _ => [], false⟩
  | 22 => ⟨[1], fun r o => match r with | 5 => bif o then [2] else [1, 3] | 8 => bif o then [1, 2, 3] else [1, 3, 4] | _ => [], false⟩
  | 23 => ⟨[1], fun r _o => match r with | _ => [], false⟩
  | 24 => ⟨[1], fun r _o => match r with | _ => [], false⟩
  | 25 => ⟨[], fun r _o => match r with | _ => [], false⟩
  | 26 => ⟨[], fun r _o => match r with | _ => [], false⟩
  | _ => ⟨[], fun _ _ => [], false⟩
noncomputable abbrev P12 : Program := Tryd.prog
def stT (k y a b : Int) (f : Bool) : T := .agg [.int .u8 k, .int .u8 y, .int .i64 a, .int .i64 b, .bool f]
def kT (k y a : Int) (f : Bool) : T := .agg [.int .u8 k, .int .u8 y, .int .u8 a, .bool f]
def valid (k y a b : Int) (f : Bool) : Bool :=
  decide (1 ≤ y) && (decide (y ≤ 6) && (decide (1 ≤ k) && (decide (k ≤ 8) && (bif decide (k = 8) then decide (1 ≤ a) && (decide (1 ≤ b) && decide (a + b ≤ 4)) else decide (a = 0) && (decide (b = 0) && !f)))))
def checkF (k y a b : Int) (f : Bool) : Int := bif valid k y a b f then 0 else 1
def needsF (k y a b : Int) (f : Bool) : Int := bif valid k y a b f then (bif decide (k = 3) then 0 else bif decide (k = 4) || decide (k = 5) then 2 else bif decide (k = 8) then a + b else 1) else 0
def makesF (k y a b : Int) (f : Bool) : Int := bif valid k y a b f then (bif decide (k = 8) then a + b else 1) else 0
end Go.Ab
