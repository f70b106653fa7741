/- A part of the proof: nothing is assumed. -/
import Derived.Test.YtjjnbjkbgjgpoaaP4
import Derived.Test.YtjjnbjkbgjgpoaaProg
import Derived.KernelRfl
set_option linter.all false
namespace Go.Ab
open Go.Proofs
def G37 : Nat → Option (List T) := gOf []
def A37 : FuncId → Ann := fun f => match f with
  | 2 => ⟨[], fun _ _ => [], false⟩
  | 3 => ⟨[], fun _ _ => [], false⟩
  | 4 => ⟨[], fun _ _ => [], false⟩
  | 5 => ⟨[5], fun r o => match r with | 9 => bif o then [0, 1, 6, 9, 10, 12] else [0, 1, 7, 9, 10, 11, 12, 13] | _ => [], false⟩
  | 6 => ⟨[7], fun r o => match r with | 15 => bif o then [7, 8, 9, 10, 11, 12, 14, 15] else [7, 8, 9, 10, 11, 12, 14, 15, 16] | 19 => bif o then [6, 9, 10, 12, 14, 15] else [7, 8, 9, 10, 11, 12, 14, 15, 17] | 25 => bif o then [7, 8, 9, 10, 11, 12, 14, 15, 17, 19, 20] else [7, 8, 9, 10, 11, 12, 14, 15, 17, 18, 19, 20, 21] | 40 => bif o then [6] else [9, 12, 15, 25] | _ => [], false⟩
  | 7 => ⟨[2], fun r o => match r with | 5 => bif o then [1, 2, 5] else [1, 2, 5, 6] | _ => [], false⟩
  | 8 => ⟨[], fun r o => match r with | 6 => bif o then [0, 1, 5, 6, 7] else [0, 1, 5, 6, 7, 8] | 14 => bif o then [1, 5, 6, 10] else [0, 1, 5, 6, 9, 10, 11] | 18 => bif o then [0, 1, 5, 6, 9, 10, 11, 12] else [0, 1, 5, 6, 9, 10, 11, 12, 13] | _ => [], false⟩
  | 9 => ⟨[], fun r o => match r with | 3 => bif o then [0] else [1, 2] | _ => [], false⟩
  | 10 => ⟨[], fun _ _ => [], false⟩
  | 11 => ⟨[], fun _ _ => [], false⟩
  | 12 => ⟨[], fun _ _ => [], false⟩
  | 13 => ⟨[], fun _ _ => [], false⟩
  | 14 => ⟨[], fun _ _ => [], false⟩
  | 15 => ⟨[], fun r o => match r with | 6 => bif o then [6] else [6, 7, 21] | _ => [], false⟩
  | 16 => ⟨[], fun r o => match r with | 3 => bif o then [3] else [0, 3, 4] | _ => [], false⟩
  | 17 => ⟨[2, 8], fun r o => match r with | 5 => bif o then [1, 2, 6] else [1, 2, 6, 24, 25, 26] | 19 => bif o then [4, 5, 11] else [1, 2, 11, 12, 53, 54] | 22 => bif o then [1, 2, 11, 12, 14, 15, 53, 54] else [1, 2, 11, 12, 14, 15, 53, 54] | _ => [], false⟩
  | 18 => ⟨[], fun r o => match r with | 4 => bif o then [4] else [0, 1, 5] | _ => [], false⟩
  | 19 => ⟨[], fun r o => match r with | 4 => bif o then [0, 1, 4, 5] else [0, 1, 13, 14, 15] | 15 => bif o then [1, 8] else [1, 8, 9] | 19 => bif o then [8] else [1, 8, 10] | _ => [], false⟩
  | 20 => ⟨[], fun _ _ => [], false⟩
  | 21 => ⟨[], fun _ _ => [], false⟩
  | 22 => ⟨[], fun _ _ => [], false⟩
  | 23 => ⟨[2, 7], fun r o => match r with | 7 => bif o then [4] else [5, 28, 29, 30] | _ => [], false⟩
  | 24 => ⟨[], fun r o => match r with | 3 => bif o then [3] else [3, 6, 7, 8] | _ => [], false⟩
  | 25 => ⟨[5, 11, 12], fun _ _ => [], false⟩
  | 26 => ⟨[], fun r o => match r with | 1 => bif o then [] else [0, 1, 2, 5, 6] | _ => [], false⟩
  | _ => ⟨[], fun _ _ => [], false⟩
noncomputable abbrev P37 : Program := Try.prog
theorem hm37 : P37.follows .mixedOrders = true := by kernel_rfl
theorem hn37 : namesOk P37 = true := by kernel_rfl
theorem hl37 : laidOutB P37 = true := by kernel_rfl
end Go.Ab

