/- A part of the proof: nothing is assumed. -/
import Derived.Test.YtfcpfihblbbelaaGreatDoorP3
import Derived.Test.YtfcpfihblbbelaaGreatDoorProg
import Derived.KernelRfl
set_option linter.all false
namespace Go.Ab
open IntKind(i64 u8)
open Int(ofNat)
open Go.Proofs
def G17:Nat->Option (List T):=gOf [(0,[uI 107,uI 112,uI 111,uI 47,uI 118,uI 116,uI 115,uI 99])]
def A17:FuncId->Ann:=fun f=>match f with
 |2=>⟨[],fun _ _=>[],false⟩
 |3=>⟨[1,3,4],fun _ _=>[],false⟩
 |4=>⟨[2,5,6],fun _ _=>[],false⟩
 |5=>⟨[3,7,8,9,10],fun _ _=>[],false⟩
 |6=>⟨[1,3,6],fun r o=>match r with|7=>bif o then [2] else [4,6,7]|_=>[],false⟩
 |7=>⟨[2,5,6,7,10,11,13,16,17,20],fun r o=>match r with|5=>bif o then [5,6,7] else [5,6,7,8]|8=>bif o then [5,6,7,8] else [5,6,7,8,9]|15=>bif o then [5,10,11,12,13] else [5,10,11,12,13,14]|18=>bif o then [5,10,11,12,13,14] else [5,10,11,12,13,14,15]|23=>bif o then [5,10,11,12,13,14,15,16,17] else [5,10,11,12,13,14,15,16,17,18]|27=>bif o then [5,10,11,12,13,14,15,17] else [5,10,11,12,13,14,15,16,17,19]|34=>bif o then [5,10,11,12,13] else [5,10,11,12,13,21]|_=>[],false⟩
 |8=>⟨[3,10,12,16],fun r o=>match r with|4=>bif o then [1,2,3,6] else [1,2,3,7]|_=>[],false⟩
 |9=>⟨[1,3,4],fun r o=>match r with|11=>bif o then [3,8] else [3,4,8,9]|14=>bif o then [3,4,8,9] else [3,4,8,9,10]|20=>bif o then [8,11] else [3,8,11,12]|23=>bif o then [3,8,11,12] else [3,8,11,12,13]|_=>[],false⟩
 |10=>⟨[3],fun r o=>match r with|3=>bif o then [0] else [1,2]|7=>bif o then [1,2,3] else [1,2,3,4]|11=>bif o then [1,2,3,4,5] else [1,2,3,4,5,6]|_=>[],false⟩
 |11=>⟨[1,2,6],fun r o=>match r with|3=>bif o then [1,2,3] else [1,2,3,4]|11=>bif o then [2,6] else [1,2,3,5,6,7]|_=>[],false⟩
 |12=>⟨[1,2,4],fun _ _=>[],false⟩
 |13=>⟨[2,3,8,9],fun r o=>match r with|4=>bif o then [2,3,4] else [2,3,5]|9=>bif o then [4] else [2,3,6]|14=>bif o then [2,3,4,6] else [2,3,6,7]|_=>[],false⟩
 |14=>⟨[1,2],fun _ _=>[],false⟩
 |15=>⟨[2,3],fun r o=>match r with|4=>bif o then [4] else [2,3,5]|9=>bif o then [2,3,4,5] else [2,3,5,6]|_=>[],false⟩
 |16=>⟨[3,5,6,8,9],fun _ _=>[],false⟩
 |17=>⟨[2,4,8],fun _ _=>[],false⟩
 |18=>⟨[2,3,6,7],fun r o=>match r with|4=>bif o then [4] else [2,3,5]|_=>[],false⟩
 |19=>⟨[2,4,5],fun r o=>match r with|3=>bif o then [4,5] else [1,2,4,5,6]|_=>[],false⟩
 |20=>⟨[1,2,3,6],fun r o=>match r with|3=>bif o then [1,2,3] else [1,2,3,4]|7=>bif o then [1,2,3] else [1,2,3,5]|13=>bif o then [1,2,3] else [1,2,3,7]|_=>[],false⟩
 |21=>⟨[7,10,13,15,16,17],fun r o=>match r with|17=>bif o then [4,5] else [1,4,5,7,8,77,78,79]|_=>[],false⟩
 |22=>⟨[2,4,5,6,9,10,11],fun r o=>match r with|5=>bif o then [1,4,5] else [1,2,4,5,6,7]|20=>bif o then [4,5,11,12,13] else [1,4,5,11,12,13,14]|_=>[],false⟩
 |23=>⟨[1],fun _ _=>[],false⟩
 |24=>⟨[1,5,10],fun r o=>match r with|9=>bif o then [5] else [5,51,52,53]|12=>bif o then [5,51,52,53] else [5,51,52,53,57,58,59]|20=>bif o then [11] else [5,11,78]|_=>[],false⟩
 |25=>⟨[2,3,4],fun _ _=>[],false⟩
 |26=>⟨[1,14],fun r o=>match r with|6=>bif o then [1,2,3] else [1,4]|12=>bif o then [1,2,3] else [1,6]|18=>bif o then [1,7] else [1,7,8]|23=>bif o then [2,3,9] else [1,7,9,10]|28=>bif o then [1,2,3,9,10,12] else [1,7,9,10,11,12,13]|_=>[],false⟩
 |27=>⟨[1,5],fun r o=>match r with|3=>bif o then [3] else [1,3,7,8,9]|_=>[],false⟩
 |28=>⟨[],fun r o=>match r with|3=>bif o then [3] else [0,3,4]|_=>[],false⟩
 |29=>⟨[],fun r o=>match r with|3=>bif o then [3] else [0,3,4]|_=>[],false⟩
 |30=>⟨[11,13],fun r o=>match r with|5=>bif o then [6,7] else [0,1,6,7,8,9]|_=>[],false⟩
 |31=>⟨[5],fun r o=>match r with|5=>bif o then [3] else [3,13,14,15]|_=>[],false⟩
 |32=>⟨[],fun r o=>match r with|4=>bif o then [4] else [0,1,5]|_=>[],false⟩
 |33=>⟨[],fun r o=>match r with|4=>bif o then [4] else [0,1,5]|_=>[],false⟩
 |34=>⟨[4],fun _ _=>[],false⟩
 |35=>⟨[2],fun _ _=>[],false⟩
 |36=>⟨[2,3,7],fun r o=>match r with|3=>bif o then [2,3] else [0,2,3,4]|7=>bif o then [0,2,3,4,5] else [0,2,3,4,5,6]|_=>[],false⟩
 |37=>⟨[1],fun _ _=>[],false⟩
 |38=>⟨[2],fun _ _=>[],false⟩
 |39=>⟨[1],fun _ _=>[],false⟩
 |40=>⟨[4,6,11],fun r o=>match r with|10=>bif o then [0,4,5,6,7,9] else [0,4,6,7,9,45,46]|_=>[],false⟩
 |41=>⟨[],fun _ _=>[],false⟩
 |42=>⟨[2,4,10],fun r o=>match r with|6=>bif o then [1,2,4,5,6] else [1,2,4,20,21,22]|_=>[],false⟩
 |43=>⟨[],fun r o=>match r with|4=>bif o then [4] else [0,1,5]|_=>[],false⟩
 |44=>⟨[4],fun r o=>match r with|4=>bif o then [4,5] else [0,1,4,5,6]|_=>[],false⟩
 |45=>⟨[2,4,11],fun r o=>match r with|9=>bif o then [2,4,6,9] else [1,2,4,6,9,10,11,12]|13=>bif o then [1,2,4,6,9,10,11,12,13] else [1,2,4,6,9,10,11,12,13,14]|29=>bif o then [2,4,9] else [2,4,6,9,16]|_=>[],false⟩
 |46=>⟨[1,4,6],fun r o=>match r with|4=>bif o then [1,2] else [1,20,21,22]|12=>bif o then [1,2] else [1,62,63,64]|_=>[],false⟩
 |47=>⟨[],fun r o=>match r with|3=>bif o then [3] else [3,6,7,8]|_=>[],false⟩
 |48=>⟨[],fun _ _=>[],false⟩
 |49=>⟨[3],fun _ _=>[],false⟩
 |50=>⟨[],fun _ _=>[],false⟩
 |51=>⟨[],fun _ _=>[],false⟩
 |52=>⟨[12],fun r o=>match r with|3=>bif o then [7] else [1,2,7,16,17,18]|10=>bif o then [1,2,7,16,17,18] else [1,2,7,8,16,17,18,40,41,42]|_=>[],false⟩
 |53=>⟨[3,6,10],fun r o=>match r with|7=>bif o then [1,2,3,6,7] else [1,2,3,6,22,23,24]|_=>[],false⟩
 |54=>⟨[1,2,3,6],fun _ _=>[],false⟩
 |55=>⟨[],fun _ _=>[],false⟩
 |56=>⟨[],fun _ _=>[],false⟩
 |57=>⟨[],fun _ _=>[],false⟩
 |58=>⟨[1,4],fun r o=>match r with|2=>bif o then [2] else [1,6,7,8]|_=>[],false⟩
 |59=>⟨[1,6,8,14],fun r o=>match r with|2=>bif o then [1,2] else [1,22,23]|5=>bif o then [1,2,22,23] else [1,22,23,26,27,28]|12=>bif o then [1,2] else [1,40,41,42]|22=>bif o then [1,9] else [1,9,10,72,73,74]|25=>bif o then [1,9,10,72,73,74] else [1,9,10,72,73,74,78,79,80]|31=>bif o then [2] else [9,91,92,93]|34=>bif o then [2,9,91,92,93] else [9,15,91,92,93,99,100]|_=>[],false⟩
 |60=>⟨[],fun _ _=>[],false⟩
 |61=>⟨[1],fun _ _=>[],false⟩
 |62=>⟨[],fun r o=>match r with|6=>bif o then [0,2] else [0,3]|_=>[],false⟩
 |63=>⟨[],fun r o=>match r with|3=>bif o then [3] else [0,3,4]|_=>[],false⟩
 |64=>⟨[1],fun _ _=>[],false⟩
 |65=>⟨[2],fun r o=>match r with|6=>bif o then [1,2,4,5] else [1,2,6]|22=>bif o then [7] else [2,7,8]|_=>[],false⟩
 |66=>⟨[3],fun _ _=>[],false⟩
 |67=>⟨[],fun _ _=>[],false⟩
 |68=>⟨[1,2,3,4],fun _ _=>[],false⟩
 |69=>⟨[2,4],fun r o=>match r with|5=>bif o then [0,2,4] else [0,2,4,12,13]|_=>[],false⟩
 |70=>⟨[1,14],fun r o=>match r with|6=>bif o then [1,5] else [1,5,31,32]|14=>bif o then [7,8] else [7,8,48,49,50]|19=>bif o then [7,8,12,48,49,50] else [7,8,11,12,48,49,50,62,63,64]|_=>[],false⟩
 |71=>⟨[0],fun _ _=>[],false⟩
 |72=>⟨[6,7],fun _ _=>[],false⟩
 |73=>⟨[8,10,11,13],fun _ _=>[],false⟩
 |74=>⟨[9],fun _ _=>[],false⟩
 |75=>⟨[4,6],fun r o=>match r with|2=>bif o then [0,2,4,6] else [0,2,4,6,12,13,14]|_=>[],false⟩
 |76=>⟨[7],fun r o=>match r with|3=>bif o then [5] else [1,5,8,9,10]|_=>[],false⟩
 |77=>⟨[1],fun _ _=>[],false⟩
 |78=>⟨[1,2],fun _ _=>[],false⟩
 |79=>⟨[2,4,5,7,9],fun r o=>match r with|6=>bif o then [4,5,7,9] else [4,5,7,9,35]|_=>[],false⟩
 |80=>⟨[8,10],fun _ _=>[],false⟩
 |81=>⟨[],fun r o=>match r with|3=>bif o then [3] else [0,3,4]|_=>[],false⟩
 |82=>⟨[2,12,17],fun r o=>match r with|11=>bif o then [4,5,6,8,10] else [1,2,8,9,10,11]|18=>bif o then [1,2,8,9,10,11,12,13,14,15] else [1,2,8,9,10,11,12,13,14,15,16]|38=>bif o then [1,2,8,9,10,11,12,15] else [1,2,8,9,10,11,12,15,20,21]|41=>bif o then [1,2,8,9,10,11,12,15,20,21] else [1,2,8,9,10,11,12,15,20,21,22]|44=>bif o then [1,2,8,9,10,11,12,15,20,21,22] else [1,2,8,9,10,11,12,15,20,21,22,23]|47=>bif o then [1,2,8,9,10,11,12,15,20,21,22,23] else [1,2,8,9,10,11,12,15,20,21,22,23,24]|_=>[],false⟩
 |83=>⟨[],fun r o=>match r with|1=>bif o then [] else [0,1,2,3,4,5,12]|9=>bif o then [0,1,2,3,4,5,12] else [0,1,2,3,4,5,12,13,14]|_=>[],false⟩
 |84=>⟨[3,8],fun r o=>match r with|6=>bif o then [6] else [2,31,32,33]|_=>[],false⟩
 |85=>⟨[],fun r o=>match r with|4=>bif o then [4] else [0,1,12,13]|_=>[],false⟩
 |86=>⟨[5],fun r o=>match r with|3=>bif o then [3] else [3,9,10,11]|_=>[],false⟩
 |87=>⟨[],fun _ _=>[],false⟩
 |88=>⟨[2,3],fun _ _=>[],false⟩
 |89=>⟨[1,4],fun r o=>match r with|10=>bif o then [2] else [1,40,41,42]|_=>[],false⟩
 |90=>⟨[],fun _ _=>[],false⟩
 |91=>⟨[1],fun _ _=>[],false⟩
 |92=>⟨[6],fun r o=>match r with|2=>bif o then [0] else [0,8,9,10]|_=>[],false⟩
 |93=>⟨[],fun _ _=>[],false⟩
 |94=>⟨[],fun _ _=>[],false⟩
 |95=>⟨[3],fun _ _=>[],false⟩
 |96=>⟨[2,3],fun _ _=>[],false⟩
 |97=>⟨[4],fun r o=>match r with|1=>bif o then [] else [1,5,6,7]|_=>[],false⟩
 |98=>⟨[1],fun _ _=>[],false⟩
 |99=>⟨[1],fun r o=>match r with|5=>bif o then [2] else [1,3]|8=>bif o then [1,2,3] else [1,3,4]|_=>[],false⟩
 |100=>⟨[1],fun _ _=>[],false⟩
 |101=>⟨[1],fun _ _=>[],false⟩
 |102=>⟨[],fun r o=>match r with|6=>bif o then [0,2] else [0,14,15,16]|13=>bif o then [2] else [0,6]|_=>[],false⟩
 |103=>⟨[2],fun r o=>match r with|6=>bif o then [1,2,4,5] else [1,2,18,19,20]|13=>bif o then [1,2,8] else [1,2,8,35,36]|_=>[],false⟩
 |104=>⟨[],fun _ _=>[],false⟩
 |105=>⟨[],fun _ _=>[],false⟩
 |106=>⟨[2,4],fun _ _=>[],false⟩
 |107=>⟨[],fun _ _=>[],false⟩
 |108=>⟨[8,10],fun r o=>match r with|4=>bif o then [1,6] else [1,6,16,17,18]|7=>bif o then [1,6,16,17,18] else [1,6,8,16,17,18,23,24,25]|_=>[],false⟩
 |109=>⟨[],fun r o=>match r with|3=>bif o then [0,3] else [0,3,10,11,12]|10=>bif o then [6] else [6,7,23,24,25]|_=>[],false⟩
 |110=>⟨[],fun _ _=>[],false⟩
 |111=>⟨[],fun _ _=>[],false⟩
 |112=>⟨[],fun _ _=>[],false⟩
 |113=>⟨[5],fun r o=>match r with|3=>bif o then [3] else [3,8,9,10]|_=>[],false⟩
 |114=>⟨[5],fun r o=>match r with|3=>bif o then [3] else [3,8,9,10]|_=>[],false⟩
 |115=>⟨[1,2],fun _ _=>[],false⟩
 |116=>⟨[2,5,11,19,20],fun r o=>match r with|9=>bif o then [1,2,4,5,6,8] else [1,2,5,8,9,41,42,43]|14=>bif o then [1,2,5,8,9,10,11,12,13,41,42,43] else [1,2,5,8,9,10,11,12,13,41,42,43,53,54]|26=>bif o then [2,5,8,17] else [2,5,8,17,86,87,88]|_=>[],false⟩
 |117=>⟨[],fun _ _=>[],false⟩
 |118=>⟨[6],fun r o=>match r with|6=>bif o then [0,1,4] else [0,1,6,23,24]|_=>[],false⟩
 |119=>⟨[5,6,12],fun r o=>match r with|6=>bif o then [3,5,6,9,10] else [0,3,5,6,9,10,11]|_=>[],false⟩
 |120=>⟨[5],fun r o=>match r with|11=>bif o then [2] else [0,2,3,9,10]|_=>[],false⟩
 |121=>⟨[],fun r o=>match r with|3=>bif o then [5] else [1,5,6]|_=>[],false⟩
 |122=>⟨[2],fun r o=>match r with|3=>bif o then [5] else [1,2,5,6]|_=>[],false⟩
 |123=>⟨[1],fun _ _=>[],false⟩
 |124=>⟨[],fun r o=>match r with|3=>bif o then [0,3] else [0,3,10,11,12]|10=>bif o then [6] else [6,7,23,24,25]|_=>[],false⟩
 |125=>⟨[],fun r o=>match r with|2=>bif o then [] else [0,1,2,3,4,10,11]|_=>[],false⟩
 |126=>⟨[],fun _ _=>[],false⟩
 |127=>⟨[],fun r o=>match r with|3=>bif o then [2,3] else [3,6,7,8]|_=>[],false⟩
 |128=>⟨[],fun _ _=>[],false⟩
 |129=>⟨[],fun _ _=>[],false⟩
 |130=>⟨[2,3],fun _ _=>[],false⟩
 |131=>⟨[],fun _ _=>[],false⟩
 |132=>⟨[6],fun r o=>match r with|2=>bif o then [2] else [0,7,8,9]|5=>bif o then [0,2,7,8,9] else [0,7,8,9,13,14,15]|_=>[],false⟩
 |133=>⟨[7,9],fun r o=>match r with|3=>bif o then [2] else [3,11,12,13]|6=>bif o then [2,3,11,12,13] else [3,11,12,13,17,18,19]|9=>bif o then [2,3,11,12,13,17,18,19] else [3,11,12,13,17,18,19,24,25,26]|_=>[],false⟩
 |134=>⟨[10,11],fun r o=>match r with|5=>bif o then [4] else [0,3,4,5,6]|8=>bif o then [0,3,4,5,6,7] else [0,3,4,5,6,7,28,29,30]|12=>bif o then [0,3,4,5,6,7,8,28,29,30] else [0,3,4,5,6,7,8,10,28,29,30]|_=>[],false⟩
 |135=>⟨[],fun _ _=>[],false⟩
 |136=>⟨[],fun _ _=>[],false⟩
 |137=>⟨[],fun _ _=>[],false⟩
 |138=>⟨[4],fun r o=>match r with|6=>bif o then [0,2] else [0,13,14,15]|_=>[],false⟩
 |139=>⟨[],fun r o=>match r with|1=>bif o then [] else [0,2,3]|_=>[],false⟩
 |140=>⟨[],fun _ _=>[],false⟩
 |141=>⟨[],fun _ _=>[],false⟩
 |142=>⟨[7],fun r o=>match r with|3=>bif o then [3] else [3,11,12,13]|7=>bif o then [3,11,12,13] else [3,4,11,12,13,23,24,25]|_=>[],false⟩
 |143=>⟨[],fun _ _=>[],false⟩
 |144=>⟨[3,8,10,11],fun r o=>match r with|6=>bif o then [6] else [0,3,5,6,18,19,20]|9=>bif o then [0,3,5,6,18,19,20] else [0,3,5,6,8,18,19,20,28,29,30]|_=>[],false⟩
 |145=>⟨[3],fun r o=>match r with|9=>bif o then [0] else [0,3,30,31]|_=>[],false⟩
 |146=>⟨[9],fun r o=>match r with|5=>bif o then [4,5,7] else [7,20,21,22]|_=>[],false⟩
 |147=>⟨[],fun r o=>match r with|1=>bif o then [] else [0,1,3]|_=>[],false⟩
 |148=>⟨[2],fun _ _=>[],false⟩
 |149=>⟨[],fun _ _=>[],false⟩
 |150=>⟨[4],fun _ _=>[],false⟩
 |151=>⟨[],fun r o=>match r with|1=>bif o then [] else [0,1,2,3,8]|4=>bif o then [0,1,2,3,8] else [0,1,2,3,8,9]|_=>[],false⟩
 |152=>⟨[],fun r o=>match r with|4=>bif o then [0,3,8,9,10] else [0,3,8,9,10,11]|8=>bif o then [] else [0,3,8,9,12]|_=>[],false⟩
 |153=>⟨[],fun r o=>match r with|5=>bif o then [] else [0,1,8,9,10,11]|_=>[],false⟩
 |154=>⟨[],fun _ _=>[],false⟩
 |155=>⟨[],fun r o=>match r with|2=>bif o then [] else [0,8,9]|_=>[],false⟩
 |156=>⟨[],fun r o=>match r with|3=>bif o then [8] else [0,1,2,3,9,10]|5=>bif o then [0,1,2,3,9,10] else [0,1,2,3,9,10]|14=>bif o then [0,1,2,3,9,10] else [0,1,2,3,9,10,11]|20=>bif o then [0,1,2,3,9,10] else [0,1,2,3,9,10,12]|_=>[],false⟩
 |157=>⟨[],fun r o=>match r with|7=>bif o then [11] else [0,1,4,11,12]|3=>bif o then [0,1,4,11,12] else [0,1,4,11,12]|5=>bif o then [0,1,4,11,12] else [0,1,4,11,12]|_=>[],false⟩
 |158=>⟨[],fun r o=>match r with|3=>bif o then [0,1,4,12,13] else [0,1,4,12,13]|5=>bif o then [0,1,4,12,13] else [0,1,4,12,13]|17=>bif o then [0,1,13] else [0,1,4,12,13]|13=>bif o then [0,1,4,12,13] else [0,1,4,12,13]|15=>bif o then [0,1,4,12,13] else [0,1,4,12,13]|_=>[],false⟩
 |159=>⟨[],fun _ _=>[],false⟩
 |160=>⟨[],fun _ _=>[],false⟩
 |161=>⟨[],fun _ _=>[],false⟩
 |162=>⟨[],fun _ _=>[],false⟩
 |163=>⟨[3,6,8],fun r o=>match r with|6=>bif o then [0,3,4] else [0,3,28,29,30]|12=>bif o then [3,4] else [0,3,40,41,42]|_=>[],false⟩
 |164=>⟨[2,4],fun _ _=>[],false⟩
 |165=>⟨[],fun _ _=>[],false⟩
 |166=>⟨[1],fun _ _=>[],false⟩
 |167=>⟨[],fun r o=>match r with|3=>bif o then [0,3] else [0,3,10,11,12]|10=>bif o then [6] else [6,7,23,24,25]|_=>[],false⟩
 |168=>⟨[],fun _ _=>[],false⟩
 |169=>⟨[2,3],fun _ _=>[],false⟩
 |170=>⟨[7],fun r o=>match r with|5=>bif o then [0,5] else [0,1,5,6]|_=>[],false⟩
 |171=>⟨[1],fun _ _=>[],false⟩
 |172=>⟨[],fun _ _=>[],false⟩
 |173=>⟨[],fun r o=>match r with|2=>bif o then [4] else [0,1,7,8]|_=>[],false⟩
 |174=>⟨[],fun _ _=>[],false⟩
 |175=>⟨[7],fun r o=>match r with|3=>bif o then [4] else [1,2,5,17,18]|_=>[],false⟩
 |176=>⟨[5],fun _ _=>[],false⟩
 |177=>⟨[5],fun _ _=>[],false⟩
 |178=>⟨[],fun r o=>match r with|1=>bif o then [] else [0,2,3,4,10]|_=>[],false⟩
 |179=>⟨[],fun _ _=>[],false⟩
 |180=>⟨[],fun _ _=>[],false⟩
 |181=>⟨[],fun _ _=>[],false⟩
 |182=>⟨[],fun _ _=>[],false⟩
 |183=>⟨[3],fun _ _=>[],false⟩
 |184=>⟨[],fun _ _=>[],false⟩
 |185=>⟨[],fun r o=>match r with|2=>bif o then [0,1,2,6,7] else [0,1,2,6,7,8]|7=>bif o then [] else [0,1,2,6]|9=>bif o then [0,1,2,6,7] else [0,1,2,6,7,8]|_=>[],false⟩
 |186=>⟨[],fun r o=>match r with|2=>bif o then [4] else [0,1,7,8]|_=>[],false⟩
 |187=>⟨[],fun _ _=>[],false⟩
 |188=>⟨[],fun r o=>match r with|1=>bif o then [] else [0,1,2,3,8]|4=>bif o then [0,1,2,3,8] else [0,1,2,3,8,9]|_=>[],false⟩
 |189=>⟨[],fun r o=>match r with|3=>bif o then [0,1,10] else [0,1,4,10,11]|9=>bif o then [] else [0,10,13]|15=>bif o then [0,2,14] else [0,2,4,14,15]|21=>bif o then [] else [0,14,17]|33=>bif o then [0,1,2,3,4,18,19,20] else [0,1,2,3,4,18,19,20,21,22]|_=>[],false⟩
 |190=>⟨[],fun r o=>match r with|2=>bif o then [0,2,4,10] else [0,2,4,10,11]|_=>[],false⟩
 |191=>⟨[],fun r o=>match r with|1=>bif o then [] else [0,1,2,3,10]|_=>[],false⟩
 |211=>⟨[],fun _ _=>[],false⟩
 |_=>⟨[],fun _ _=>[],false⟩
noncomputable abbrev P17:Program:=Tryz.prog
theorem qG:P17.follows .mixedOrders=true:=by kernel_rfl
theorem Qm:Qv P17=true:=by kernel_rfl
theorem qhZ:laidOutB P17=true:=by kernel_rfl
end Go.Ab

