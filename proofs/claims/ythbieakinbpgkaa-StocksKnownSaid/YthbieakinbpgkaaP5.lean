/- A part of the proof: nothing is assumed. -/
import Derived.Test.YthbieakinbpgkaaP4
import Derived.Test.YthbieakinbpgkaaProg
import Derived.KernelRfl
set_option linter.all false
namespace Go.Ab
open Go.Proofs
def G42:Nat->Option (List T):=fun _=>none
def A42:FuncId->Ann:=fun f=>match f with
 | 2=>⟨[],fun _ _=>[],false⟩
 | 3=>⟨[3,6,8],fun r o=>match r with | 4=>bif o then [0,3,4] else [0,3,4,5] | _=>[],false⟩
 | 4=>⟨[5,9],fun r o=>match r with | 6=>bif o then [0,1,5,6] else [0,1,5,6,7] | 17=>bif o then [0,6,8,9,10,12] else [0,5,6,8,9,10,12,13] | 20=>bif o then [0,5,6,8,9,10,12,13,14] else [0,5,6,8,9,10,12,13,14] | 24=>bif o then [0,6,8,9,10,15,16] else [0,6,8,9,10,12,15,16] | _=>[],false⟩
 | 5=>⟨[4,13,16],fun r o=>match r with | 7=>bif o then [2] else [0,3,4,5,6,7] | 35=>bif o then [0,3,4,5,6,7,8,11,12,13,14,15,16] else [0,3,4,5,6,7,8,11,12,13,14,15,16,17] | 40=>bif o then [0,2,3,4,5,6,7,8,11,12,13,14,15,18] else [0,3,4,5,6,7,8,11,12,13,14,15,16,18,19] | 50=>bif o then [0,3,4,5,6,7,11,12,13] else [0,3,4,5,6,7,8,11,12,13,14,20] | 66=>bif o then [0,2,3,4,5,6,7,23] else [0,3,4,5,6,7,23,24] | 72=>bif o then [0,3,4,5,6,7,23,24] else [0,3,4,5,6,7,23,24,25] | _=>[],false⟩
 | 6=>⟨[5,7,11,13],fun r o=>match r with | 5=>bif o then [1,5] else [0,1,5,6] | 15=>bif o then [5,9] else [1,5,9,10] | _=>[],false⟩
 | 7=>⟨[],fun r o=>match r with | 3=>bif o then [0] else [1,2] | 7=>bif o then [1,2,3] else [1,2,3,4] | _=>[],false⟩
 | 8=>⟨[2,4,8,12],fun r o=>match r with | 5=>bif o then [1,2,4,5] else [1,2,4,19,20,21] | 16=>bif o then [2,4,5,10] else [2,4,10,42,43,44] | _=>[],false⟩
 | 9=>⟨[1,2,4,7,10,13],fun _ _=>[],false⟩
 | 10=>⟨[1,4,6],fun r o=>match r with | 4=>bif o then [1,2] else [1,18,19,20] | 10=>bif o then [1,2] else [1,29,30,31] | _=>[],false⟩
 | 11=>⟨[4,8,12,15],fun _ _=>[],false⟩
 | 12=>⟨[2],fun _ _=>[],false⟩
 | 13=>⟨[2,3,4],fun _ _=>[],false⟩
 | 14=>⟨[1],fun _ _=>[],false⟩
 | 15=>⟨[2,7],fun r o=>match r with | 5=>bif o then [5] else [5,16,17,18] | 12=>bif o then [8] else [5,8,31,32,33] | _=>[],false⟩
 | 16=>⟨[],fun r o=>match r with | 3=>bif o then [0,1,5] else [0,1,5,6] | 8=>bif o then [5] else [0,1,5,7] | _=>[],false⟩
 | 17=>⟨[2,4,7,9],fun r o=>match r with | 6=>bif o then [2,4,7] else [1,2,4,7,20,21,22] | _=>[],false⟩
 | 18=>⟨[],fun r o=>match r with | 2=>bif o then [7] else [0,1,2,7] | 5=>bif o then [0,1,2,7,8] else [0,1,2,7,8,9] | _=>[],false⟩
 | 19=>⟨[2,3],fun r o=>match r with | 4=>bif o then [2,3,4] else [2,3,5] | 9=>bif o then [4] else [2,3,6] | _=>[],false⟩
 | 20=>⟨[2,3],fun r o=>match r with | 3=>bif o then [2,3] else [0,2,3,4] | 6=>bif o then [0,2,3,4] else [0,2,3,4,5] | _=>[],false⟩
 | 21=>⟨[1],fun _ _=>[],false⟩
 | 22=>⟨[1,5],fun r o=>match r with | 3=>bif o then [1,3] else [1,3,8,9,10] | _=>[],false⟩
 | 23=>⟨[5],fun r o=>match r with | 1=>bif o then [] else [0,6,7,8] | _=>[],false⟩
 | 24=>⟨[],fun r o=>match r with | 2=>bif o then [2] else [6] | _=>[],false⟩
 | 25=>⟨[8],fun r o=>match r with | 5=>bif o then [6] else [6,16,17,18] | _=>[],false⟩
 | 26=>⟨[4],fun _ _=>[],false⟩
 | 27=>⟨[0],fun _ _=>[],false⟩
 | 28=>⟨[1],fun _ _=>[],false⟩
 | 29=>⟨[2,3],fun _ _=>[],false⟩
 | 30=>⟨[4],fun r o=>match r with | 3=>bif o then [0,2,4,8,9] else [0,2,4,8,9,10] | _=>[],false⟩
 | 31=>⟨[],fun _ _=>[],false⟩
 | 32=>⟨[],fun _ _=>[],false⟩
 | 33=>⟨[11],fun r o=>match r with | 2=>bif o then [0,8] else [0,1,2,8] | 5=>bif o then [0,1,2,8,9] else [0,1,2,8,9,15,16,17] | _=>[],false⟩
 | 34=>⟨[],fun _ _=>[],false⟩
 | 35=>⟨[],fun _ _=>[],false⟩
 | 36=>⟨[],fun _ _=>[],false⟩
 | 37=>⟨[],fun _ _=>[],false⟩
 | 38=>⟨[],fun r o=>match r with | 3=>bif o then [0,3] else [0,3,9,10,11] | 11=>bif o then [6] else [6,25,26,27] | _=>[],false⟩
 | 39=>⟨[],fun _ _=>[],false⟩
 | 40=>⟨[],fun _ _=>[],false⟩
 | 41=>⟨[],fun _ _=>[],false⟩
 | 42=>⟨[],fun r o=>match r with | 3=>bif o then [2,3] else [3,6,7,8] | _=>[],false⟩
 | 43=>⟨[],fun _ _=>[],false⟩
 | 44=>⟨[],fun _ _=>[],false⟩
 | 45=>⟨[],fun _ _=>[],false⟩
 | 46=>⟨[],fun _ _=>[],false⟩
 | 47=>⟨[],fun r o=>match r with | 1=>bif o then [] else [0,5] | _=>[],false⟩
 | 48=>⟨[],fun _ _=>[],false⟩
 | 49=>⟨[],fun r o=>match r with | 2=>bif o then [] else [0,1,2,3,4,10,11] | _=>[],false⟩
 | 50=>⟨[],fun _ _=>[],false⟩
 | 51=>⟨[],fun _ _=>[],false⟩
 | 52=>⟨[2],fun _ _=>[],false⟩
 | 53=>⟨[],fun r o=>match r with | 2=>bif o then [] else [0,1,2,3,8,9] | _=>[],false⟩
 | 54=>⟨[],fun r o=>match r with | 1=>bif o then [] else [0,1,2,3,8] | 4=>bif o then [0,1,2,3,8] else [0,1,2,3,8,9] | _=>[],false⟩
 | 55=>⟨[],fun r o=>match r with | 4=>bif o then [0,3,8,9,10] else [0,3,8,9,10,11] | 8=>bif o then [] else [0,3,8,9,12] | _=>[],false⟩
 | 56=>⟨[],fun r o=>match r with | 5=>bif o then [] else [0,1,8,9,10,11] | _=>[],false⟩
 | 57=>⟨[],fun _ _=>[],false⟩
 | 58=>⟨[],fun r o=>match r with | 2=>bif o then [] else [0,8,9] | _=>[],false⟩
 | 59=>⟨[],fun r o=>match r with | 3=>bif o then [8] else [0,1,2,3,9,10] | 5=>bif o then [0,1,2,3,9,10] else [0,1,2,3,9,10] | 14=>bif o then [0,1,2,3,9,10] else [0,1,2,3,9,10,11] | 20=>bif o then [0,1,2,3,9,10] else [0,1,2,3,9,10,12] | _=>[],false⟩
 | 60=>⟨[],fun r o=>match r with | 7=>bif o then [11] else [0,1,4,11,12] | 3=>bif o then [0,1,4,11,12] else [0,1,4,11,12] | 5=>bif o then [0,1,4,11,12] else [0,1,4,11,12] | _=>[],false⟩
 | 61=>⟨[],fun r o=>match r with | 3=>bif o then [0,1,4,12,13] else [0,1,4,12,13] | 5=>bif o then [0,1,4,12,13] else [0,1,4,12,13] | 17=>bif o then [0,1,13] else [0,1,4,12,13] | 13=>bif o then [0,1,4,12,13] else [0,1,4,12,13] | 15=>bif o then [0,1,4,12,13] else [0,1,4,12,13] | _=>[],false⟩
 | 62=>⟨[],fun _ _=>[],false⟩
 | 63=>⟨[],fun _ _=>[],false⟩
 | 64=>⟨[],fun r o=>match r with | 1=>bif o then [] else [0,1,2,6] | 4=>bif o then [0,1,2,6] else [0,1,2,6,7] | _=>[],false⟩
 | 65=>⟨[],fun r o=>match r with | 4=>bif o then [0,6,7,8] else [0,6,7,8,9] | 8=>bif o then [] else [0,6,7,10] | _=>[],false⟩
 | 66=>⟨[],fun r o=>match r with | 5=>bif o then [] else [0,1,6,7,8,9] | _=>[],false⟩
 | 67=>⟨[],fun _ _=>[],false⟩
 | 68=>⟨[],fun r o=>match r with | 2=>bif o then [] else [0,6,7] | _=>[],false⟩
 | 69=>⟨[],fun r o=>match r with | 3=>bif o then [6] else [0,1,2,7,8] | 5=>bif o then [0,1,2,7,8] else [0,1,2,7,8] | 14=>bif o then [0,1,2,7,8] else [0,1,2,7,8,9] | 20=>bif o then [0,1,2,7,8] else [0,1,2,7,8,10] | _=>[],false⟩
 | 70=>⟨[],fun _ _=>[],false⟩
 | 71=>⟨[],fun r o=>match r with | 7=>bif o then [9] else [0,1,9,10] | 3=>bif o then [0,1,9,10] else [0,1,9,10] | 5=>bif o then [0,1,9,10] else [0,1,9,10] | _=>[],false⟩
 | 72=>⟨[],fun r o=>match r with | 3=>bif o then [0,1,10,11] else [0,1,10,11] | 5=>bif o then [0,1,10,11] else [0,1,10,11] | 17=>bif o then [0,1,11] else [0,1,10,11] | 13=>bif o then [0,1,10,11] else [0,1,10,11] | 15=>bif o then [0,1,10,11] else [0,1,10,11] | _=>[],false⟩
 | 73=>⟨[],fun r o=>match r with | 1=>bif o then [] else [0,2,3,4,10] | _=>[],false⟩
 | 74=>⟨[],fun _ _=>[],false⟩
 | 75=>⟨[],fun _ _=>[],false⟩
 | 76=>⟨[],fun _ _=>[],false⟩
 | 77=>⟨[],fun _ _=>[],false⟩
 | 78=>⟨[],fun r o=>match r with | 1=>bif o then [] else [0,2,3,8] | _=>[],false⟩
 | 79=>⟨[],fun _ _=>[],false⟩
 | 80=>⟨[],fun _ _=>[],false⟩
 | 81=>⟨[],fun _ _=>[],false⟩
 | 82=>⟨[],fun _ _=>[],false⟩
 | _=>⟨[],fun _ _=>[],false⟩
noncomputable abbrev P42:Program:=Try.prog
theorem hm42:P42.follows .mixedOrders = true:=by kernel_rfl
theorem hn42:namesOk P42 = true:=by kernel_rfl
theorem hl42:laidOutB P42 = true:=by kernel_rfl
end Go.Ab

