/- A part of the proof: nothing is assumed. -/
import Derived.Test.YteoamlekamflbaaP4
import Derived.Test.YteoamlekamflbaaProg
import Derived.KernelRfl
set_option linter.all false
namespace Go.Ab
open IntKind(i64 u8)
open Int(ofNat)
open Go.Proofs
def G18:Nat->Option (List T):=gOf []
def A18:FuncId->Ann:=fun f=>match f with
 |2=>⟨[],fun _ _=>[],false⟩
 |3=>⟨[],fun r o=>match r with|8=>bif o then [2] else [3,4,5]|_=>[],false⟩
 |4=>⟨[2],fun r o=>match r with|8=>bif o then [2,4,5,8,10] else [2,5,6,7,8,10,11]|_=>[],false⟩
 |5=>⟨[],fun r o=>match r with|7=>bif o then [5,6,7] else [0,5,6,7,8]|11=>bif o then [0,5,6,7,8,9] else [0,5,6,7,8,9,10]|_=>[],false⟩
 |6=>⟨[2],fun r o=>match r with|6=>bif o then [1,5,6] else [1,5,6,7]|9=>bif o then [1,5,6,7] else [1,5,6,7,8]|20=>bif o then [1,11,12,13] else [1,11,12,13,14,15]|_=>[],false⟩
 |7=>⟨[1],fun r o=>match r with|6=>bif o then [1,2,3,4] else [1,3,4,5]|12=>bif o then [1,3,4,5,6] else [1,3,4,5,6,7]|_=>[],false⟩
 |8=>⟨[1,4],fun r o=>match r with|6=>bif o then [2,3,4] else [3,4,6]|11=>bif o then [2,3,4,6] else [3,4,6,7]|_=>[],false⟩
 |9=>⟨[3,8],fun r o=>match r with|3=>bif o then [0] else [1,2]|7=>bif o then [1,2,3] else [1,2,3,4]|11=>bif o then [1,2,3,4,5] else [1,2,3,4,5,6]|_=>[],false⟩
 |10=>⟨[3,4],fun _ _=>[],false⟩
 |11=>⟨[],fun r o=>match r with|3=>bif o then [3] else [0,3,4]|8=>bif o then [0,3,4,5,6] else [0,3,4,5,6]|_=>[],false⟩
 |12=>⟨[],fun r o=>match r with|10=>bif o then [0] else [3,4,5,6,7]|_=>[],false⟩
 |13=>⟨[1,7],fun r o=>match r with|7=>bif o then [5] else [1,3,4,5,6]|14=>bif o then [1,3,4,5,6,8] else [1,3,4,5,6,7,8,9]|_=>[],false⟩
 |14=>⟨[],fun r o=>match r with|9=>bif o then [8,9] else [1,8,9,28,29,30]|_=>[],false⟩
 |15=>⟨[],fun r o=>match r with|3=>bif o then [0,1,6,7] else [0,1,6,7,8]|12=>bif o then [9,10] else [0,1,6,7,9,10,11]|17=>bif o then [0,1,6,7,9,10,11,12,13] else [0,1,6,7,9,10,11,12,13,14]|_=>[],false⟩
 |16=>⟨[],fun r o=>match r with|4=>bif o then [4] else [0,1,5]|_=>[],false⟩
 |17=>⟨[],fun r o=>match r with|4=>bif o then [4] else [3,4,5]|_=>[],false⟩
 |18=>⟨[5,8],fun r o=>match r with|6=>bif o then [5] else [5,14,15,16]|_=>[],false⟩
 |19=>⟨[],fun r o=>match r with|2=>bif o then [2,3,4] else [0,4]|8=>bif o then [4,6,8] else [4,5,6,8,24,25]|_=>[],false⟩
 |20=>⟨[],fun r o=>match r with|5=>bif o then [3] else [0,3,11,12]|8=>bif o then [0,3,11,12] else [0,3,11,12,22,23,24]|_=>[],false⟩
 |21=>⟨[],fun r o=>match r with|4=>bif o then [0,2] else [0,3]|11=>bif o then [0,2] else [0,4]|16=>bif o then [0,2,4] else [0,4,5]|21=>bif o then [0,2] else [0,6]|26=>bif o then [2] else [0,7]|_=>[],false⟩
 |22=>⟨[1,9],fun r o=>match r with|6=>bif o then [2,3,5] else [5,21,22,23]|10=>bif o then [2,3,5,21,22,23] else [5,6,21,22,23,34,35,36]|_=>[],false⟩
 |23=>⟨[1,14],fun r o=>match r with|6=>bif o then [1,2,3] else [1,4]|12=>bif o then [1,2,3] else [1,6]|18=>bif o then [1,7] else [1,7,8]|23=>bif o then [2,3,9] else [1,7,9,10]|28=>bif o then [1,2,3,9,10,12] else [1,7,9,10,11,12,13]|_=>[],false⟩
 |24=>⟨[2,5],fun r o=>match r with|6=>bif o then [2,5] else [2,5,20,21,22]|10=>bif o then [2,5,20,21,22] else [2,5,6,20,21,22,34,35,36]|_=>[],false⟩
 |25=>⟨[1],fun _ _=>[],false⟩
 |26=>⟨[6],fun r o=>match r with|13=>bif o then [1,7,8,9,12,13] else [0,1,7,8,9,12,13,14]|_=>[],false⟩
 |27=>⟨[],fun _ _=>[],false⟩
 |28=>⟨[],fun _ _=>[],false⟩
 |29=>⟨[],fun r o=>match r with|4=>bif o then [0,2] else [0,14,15,16]|12=>bif o then [0,2] else [0,28,29,30]|18=>bif o then [0,2] else [0,48,49,50]|24=>bif o then [2] else [62,63,64]|_=>[],false⟩
 |30=>⟨[9,14],fun r o=>match r with|6=>bif o then [7,8] else [1,6,7,8,9,26,27,28]|9=>bif o then [1,6,7,8,9,26,27,28] else [1,6,7,8,9,10,11,26,27,28,33,34,35]|_=>[],false⟩
 |31=>⟨[],fun _ _=>[],false⟩
 |32=>⟨[],fun r o=>match r with|1=>bif o then [] else [0,2,3]|_=>[],false⟩
 |33=>⟨[],fun _ _=>[],false⟩
 |34=>⟨[],fun _ _=>[],false⟩
 |35=>⟨[],fun _ _=>[],false⟩
 |36=>⟨[],fun r o=>match r with|4=>bif o then [4] else [0,3,4,5]|_=>[],false⟩
 |37=>⟨[],fun r o=>match r with|6=>bif o then [0,2] else [0,3]|_=>[],false⟩
 |38=>⟨[],fun r o=>match r with|3=>bif o then [3] else [0,3,4]|_=>[],false⟩
 |39=>⟨[],fun r o=>match r with|3=>bif o then [3] else [0,3,4]|_=>[],false⟩
 |40=>⟨[1],fun _ _=>[],false⟩
 |41=>⟨[2],fun r o=>match r with|6=>bif o then [1,2,4,5] else [1,2,6]|22=>bif o then [7] else [2,7,8]|_=>[],false⟩
 |42=>⟨[1,14],fun r o=>match r with|6=>bif o then [1,5] else [1,5,31,32]|14=>bif o then [7,8] else [7,8,48,49,50]|19=>bif o then [7,8,12,48,49,50] else [7,8,11,12,48,49,50,62,63,64]|_=>[],false⟩
 |43=>⟨[],fun r o=>match r with|4=>bif o then [2] else [0,3]|_=>[],false⟩
 |44=>⟨[],fun r o=>match r with|3=>bif o then [0,1,4] else [0,1,3,4,5]|8=>bif o then [] else [0,1,35,36,37]|_=>[],false⟩
 |45=>⟨[],fun r o=>match r with|5=>bif o then [3] else [0,3,4]|_=>[],false⟩
 |46=>⟨[],fun r o=>match r with|5=>bif o then [3] else [0,3,4]|_=>[],false⟩
 |47=>⟨[],fun _ _=>[],false⟩
 |48=>⟨[],fun r o=>match r with|4=>bif o then [7,8] else [4,7,8,9]|7=>bif o then [4,7,8,9] else [4,7,8,9,10]|10=>bif o then [4,7,8,9,10] else [4,7,8,9,10,26,27,28]|_=>[],false⟩
 |49=>⟨[3,6],fun _ _=>[],false⟩
 |50=>⟨[],fun _ _=>[],false⟩
 |51=>⟨[],fun _ _=>[],false⟩
 |52=>⟨[],fun _ _=>[],false⟩
 |53=>⟨[1],fun r o=>match r with|5=>bif o then [2] else [1,3]|8=>bif o then [1,2,3] else [1,3,4]|_=>[],false⟩
 |54=>⟨[1],fun _ _=>[],false⟩
 |55=>⟨[],fun r o=>match r with|6=>bif o then [0,2] else [0,14,15,16]|13=>bif o then [2] else [0,6]|_=>[],false⟩
 |56=>⟨[],fun _ _=>[],false⟩
 |57=>⟨[],fun _ _=>[],false⟩
 |58=>⟨[1],fun _ _=>[],false⟩
 |59=>⟨[2],fun r o=>match r with|6=>bif o then [1,2,4,5] else [1,2,18,19,20]|13=>bif o then [1,2,8] else [1,2,8,35,36]|_=>[],false⟩
 |60=>⟨[],fun _ _=>[],false⟩
 |61=>⟨[],fun _ _=>[],false⟩
 |62=>⟨[],fun r o=>match r with|4=>bif o then [0,2] else [0,3]|9=>bif o then [0,3] else [0,3,4,5]|_=>[],false⟩
 |63=>⟨[5,9],fun r o=>match r with|5=>bif o then [2,5,6] else [1,2,4,5,6,21,22,23]|_=>[],false⟩
 |64=>⟨[],fun r o=>match r with|15=>bif o then [4] else [0,1,5,6,7,8,9,10]|_=>[],false⟩
 |66=>⟨[4],fun r o=>match r with|6=>bif o then [0,2] else [0,13,14,15]|_=>[],false⟩
 |67=>⟨[7],fun r o=>match r with|3=>bif o then [5] else [1,5,8,9,10]|_=>[],false⟩
 |68=>⟨[1],fun _ _=>[],false⟩
 |69=>⟨[1],fun _ _=>[],false⟩
 |70=>⟨[],fun r o=>match r with|2=>bif o then [] else [0,1,2,3,8,9]|_=>[],false⟩
 |71=>⟨[],fun _ _=>[],false⟩
 |72=>⟨[],fun _ _=>[],false⟩
 |74=>⟨[],fun _ _=>[],false⟩
 |75=>⟨[],fun r o=>match r with|5=>bif o then [0,1,5,6,7,8] else [0,1,5,6,7,8,9]|11=>bif o then [4] else [0,1,5,6,7,8,10]|_=>[],false⟩
 |76=>⟨[],fun r o=>match r with|1=>bif o then [] else [0,1,2,6]|4=>bif o then [0,1,2,6] else [0,1,2,6,7]|_=>[],false⟩
 |77=>⟨[],fun r o=>match r with|4=>bif o then [0,6,7,8] else [0,6,7,8,9]|8=>bif o then [] else [0,6,7,10]|_=>[],false⟩
 |78=>⟨[],fun r o=>match r with|5=>bif o then [] else [0,1,6,7,8,9]|_=>[],false⟩
 |79=>⟨[],fun _ _=>[],false⟩
 |80=>⟨[],fun r o=>match r with|2=>bif o then [] else [0,6,7]|_=>[],false⟩
 |81=>⟨[],fun r o=>match r with|3=>bif o then [6] else [0,1,2,7,8]|5=>bif o then [0,1,2,7,8] else [0,1,2,7,8]|14=>bif o then [0,1,2,7,8] else [0,1,2,7,8,9]|20=>bif o then [0,1,2,7,8] else [0,1,2,7,8,10]|_=>[],false⟩
 |82=>⟨[],fun _ _=>[],false⟩
 |83=>⟨[],fun r o=>match r with|7=>bif o then [9] else [0,1,9,10]|3=>bif o then [0,1,9,10] else [0,1,9,10]|5=>bif o then [0,1,9,10] else [0,1,9,10]|_=>[],false⟩
 |84=>⟨[],fun r o=>match r with|3=>bif o then [0,1,10,11] else [0,1,10,11]|5=>bif o then [0,1,10,11] else [0,1,10,11]|17=>bif o then [0,1,11] else [0,1,10,11]|13=>bif o then [0,1,10,11] else [0,1,10,11]|15=>bif o then [0,1,10,11] else [0,1,10,11]|_=>[],false⟩
 |85=>⟨[],fun _ _=>[],false⟩
 |86=>⟨[],fun _ _=>[],false⟩
 |88=>⟨[],fun r o=>match r with|3=>bif o then [0,4] else [0,4,5]|8=>bif o then [4,6] else [4,6,7,8]|_=>[],false⟩
 |89=>⟨[],fun r o=>match r with|1=>bif o then [] else [0,2,3,8]|_=>[],false⟩
 |90=>⟨[],fun _ _=>[],false⟩
 |91=>⟨[],fun _ _=>[],false⟩
 |92=>⟨[],fun _ _=>[],false⟩
 |93=>⟨[],fun _ _=>[],false⟩
 |94=>⟨[],fun _ _=>[],false⟩
 |95=>⟨[],fun _ _=>[],false⟩
 |_=>⟨[],fun _ _=>[],false⟩
noncomputable abbrev P18:Program:=Try.prog
theorem qv:P18.follows .mixedOrders=true:=by kernel_rfl
theorem q9:Zq P18=true:=by kernel_rfl
theorem ql3:laidOutB P18=true:=by kernel_rfl
end Go.Ab

