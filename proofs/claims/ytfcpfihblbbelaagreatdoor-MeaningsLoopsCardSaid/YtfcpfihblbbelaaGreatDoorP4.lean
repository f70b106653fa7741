/- A part of the proof: nothing is assumed. -/
import Derived.Test.YtfcpfihblbbelaaGreatDoorP2
import Derived.Test.YtfcpfihblbbelaaGreatDoorP3
import Derived.Test.YtfcpfihblbbelaaGreatDoorProg
import Derived.KernelRfl
set_option linter.all false
namespace Go.Ab
open IntKind(i64 u8)
open Int(ofNat)
open Go.Proofs
def G17:Nat->Option JO:=IR [(0,[uI 107,uI 112,uI 111,uI 47,uI 118,uI 116,uI 115,uI 99])]
def az:FuncId->cq:=λf=>match f with
 |2=>⟨[],λ_ _=>[],false⟩
 |3=>⟨[1,3,4],λ_ _=>[],false⟩
 |4=>⟨[2,5,6],λ_ _=>[],false⟩
 |5=>⟨[3,7,8,9,10],λ_ _=>[],false⟩
 |6=>⟨[1,3,6],λr o=>match r with|7=>bif o then [2] else [4,6,7]|_=>[],false⟩
 |7=>⟨[2,5,6,7,10,11,13,16,17,20],λr o=>match r with|5=>bif o then [5,6,7] else [5,6,7,8]|8=>bif o then [5,6,7,8] else [5,6,7,8,9]|15=>bif o then [5,10,11,12,13] else [5,10,11,12,13,14]|18=>bif o then [5,10,11,12,13,14] else [5,10,11,12,13,14,15]|23=>bif o then [5,10,11,12,13,14,15,16,17] else [5,10,11,12,13,14,15,16,17,18]|27=>bif o then [5,10,11,12,13,14,15,17] else [5,10,11,12,13,14,15,16,17,19]|34=>bif o then [5,10,11,12,13] else [5,10,11,12,13,21]|_=>[],false⟩
 |8=>⟨[3,10,12,16],λr o=>match r with|4=>bif o then [1,2,3,6] else [1,2,3,7]|_=>[],false⟩
 |9=>⟨[1,3,4],λr o=>match r with|11=>bif o then [3,8] else [3,4,8,9]|14=>bif o then [3,4,8,9] else [3,4,8,9,10]|20=>bif o then [8,11] else [3,8,11,12]|23=>bif o then [3,8,11,12] else [3,8,11,12,13]|_=>[],false⟩
 |10=>⟨[3],λr o=>match r with|3=>bif o then [0] else [1,2]|7=>bif o then [1,2,3] else [1,2,3,4]|11=>bif o then [1,2,3,4,5] else [1,2,3,4,5,6]|_=>[],false⟩
 |11=>⟨[1,2,6],λr o=>match r with|3=>bif o then [1,2,3] else [1,2,3,4]|11=>bif o then [2,6] else [1,2,3,5,6,7]|_=>[],false⟩
 |12=>⟨[1,2,4],λ_ _=>[],false⟩
 |13=>⟨[2,3,8,9],λr o=>match r with|4=>bif o then [2,3,4] else [2,3,5]|9=>bif o then [4] else [2,3,6]|14=>bif o then [2,3,4,6] else [2,3,6,7]|_=>[],false⟩
 |14=>⟨[1,2],λ_ _=>[],false⟩
 |15=>⟨[2,3],λr o=>match r with|4=>bif o then [4] else [2,3,5]|9=>bif o then [2,3,4,5] else [2,3,5,6]|_=>[],false⟩
 |16=>⟨[3,5,6,8,9],λ_ _=>[],false⟩
 |17=>⟨[2,4,8],λ_ _=>[],false⟩
 |18=>⟨[2,3,6,7],λr o=>match r with|4=>bif o then [4] else [2,3,5]|_=>[],false⟩
 |19=>⟨[2,4,5],λr o=>match r with|3=>bif o then [4,5] else [1,2,4,5,6]|_=>[],false⟩
 |20=>⟨[1,2,3,6],λr o=>match r with|3=>bif o then [1,2,3] else [1,2,3,4]|7=>bif o then [1,2,3] else [1,2,3,5]|13=>bif o then [1,2,3] else [1,2,3,7]|_=>[],false⟩
 |21=>⟨[7,10,13,15,16,17],λr o=>match r with|17=>bif o then [4,5] else [1,4,5,7,8,77,78,79]|_=>[],false⟩
 |22=>⟨[2,4,5,6,9,10,11],λr o=>match r with|5=>bif o then [1,4,5] else [1,2,4,5,6,7]|20=>bif o then [4,5,11,12,13] else [1,4,5,11,12,13,14]|_=>[],false⟩
 |23=>⟨[1],λ_ _=>[],false⟩
 |24=>⟨[1,5,10],λr o=>match r with|9=>bif o then [5] else [5,51,52,53]|12=>bif o then [5,51,52,53] else [5,51,52,53,57,58,59]|20=>bif o then [11] else [5,11,78]|_=>[],false⟩
 |25=>⟨[2,3,4],λ_ _=>[],false⟩
 |26=>⟨[1,14],λr o=>match r with|6=>bif o then [1,2,3] else [1,4]|12=>bif o then [1,2,3] else [1,6]|18=>bif o then [1,7] else [1,7,8]|23=>bif o then [2,3,9] else [1,7,9,10]|28=>bif o then [1,2,3,9,10,12] else [1,7,9,10,11,12,13]|_=>[],false⟩
 |27=>⟨[1,5],λr o=>match r with|3=>bif o then [3] else [1,3,7,8,9]|_=>[],false⟩
 |28=>⟨[],λr o=>match r with|3=>bif o then [3] else [0,3,4]|_=>[],false⟩
 |29=>⟨[],λr o=>match r with|3=>bif o then [3] else [0,3,4]|_=>[],false⟩
 |30=>⟨[11,13],λr o=>match r with|5=>bif o then [6,7] else [0,1,6,7,8,9]|_=>[],false⟩
 |31=>⟨[5],λr o=>match r with|5=>bif o then [3] else [3,13,14,15]|_=>[],false⟩
 |32=>⟨[],λr o=>match r with|4=>bif o then [4] else [0,1,5]|_=>[],false⟩
 |33=>⟨[],λr o=>match r with|4=>bif o then [4] else [0,1,5]|_=>[],false⟩
 |34=>⟨[4],λ_ _=>[],false⟩
 |35=>⟨[2],λ_ _=>[],false⟩
 |36=>⟨[2,3,7],λr o=>match r with|3=>bif o then [2,3] else [0,2,3,4]|7=>bif o then [0,2,3,4,5] else [0,2,3,4,5,6]|_=>[],false⟩
 |37=>⟨[1],λ_ _=>[],false⟩
 |38=>⟨[2],λ_ _=>[],false⟩
 |39=>⟨[1],λ_ _=>[],false⟩
 |40=>⟨[4,6,11],λr o=>match r with|10=>bif o then [0,4,5,6,7,9] else [0,4,6,7,9,45,46]|_=>[],false⟩
 |41=>⟨[],λ_ _=>[],false⟩
 |42=>⟨[2,4,10],λr o=>match r with|6=>bif o then [1,2,4,5,6] else [1,2,4,20,21,22]|_=>[],false⟩
 |43=>⟨[],λr o=>match r with|4=>bif o then [4] else [0,1,5]|_=>[],false⟩
 |44=>⟨[4],λr o=>match r with|4=>bif o then [4,5] else [0,1,4,5,6]|_=>[],false⟩
 |45=>⟨[2,4,11],λr o=>match r with|9=>bif o then [2,4,6,9] else [1,2,4,6,9,10,11,12]|13=>bif o then [1,2,4,6,9,10,11,12,13] else [1,2,4,6,9,10,11,12,13,14]|29=>bif o then [2,4,9] else [2,4,6,9,16]|_=>[],false⟩
 |46=>⟨[1,4,6],λr o=>match r with|4=>bif o then [1,2] else [1,20,21,22]|12=>bif o then [1,2] else [1,62,63,64]|_=>[],false⟩
 |47=>⟨[],λr o=>match r with|3=>bif o then [3] else [3,6,7,8]|_=>[],false⟩
 |48=>⟨[],λ_ _=>[],false⟩
 |49=>⟨[3],λ_ _=>[],false⟩
 |50=>⟨[],λ_ _=>[],false⟩
 |51=>⟨[],λ_ _=>[],false⟩
 |52=>⟨[12],λr o=>match r with|3=>bif o then [7] else [1,2,7,16,17,18]|10=>bif o then [1,2,7,16,17,18] else [1,2,7,8,16,17,18,40,41,42]|_=>[],false⟩
 |53=>⟨[3,6,10],λr o=>match r with|7=>bif o then [1,2,3,6,7] else [1,2,3,6,22,23,24]|_=>[],false⟩
 |54=>⟨[1,2,3,6],λ_ _=>[],false⟩
 |55=>⟨[],λ_ _=>[],false⟩
 |56=>⟨[],λ_ _=>[],false⟩
 |57=>⟨[],λ_ _=>[],false⟩
 |58=>⟨[1,4],λr o=>match r with|2=>bif o then [2] else [1,6,7,8]|_=>[],false⟩
 |59=>⟨[1,6,8,14],λr o=>match r with|2=>bif o then [1,2] else [1,22,23]|5=>bif o then [1,2,22,23] else [1,22,23,26,27,28]|12=>bif o then [1,2] else [1,40,41,42]|22=>bif o then [1,9] else [1,9,10,72,73,74]|25=>bif o then [1,9,10,72,73,74] else [1,9,10,72,73,74,78,79,80]|31=>bif o then [2] else [9,91,92,93]|34=>bif o then [2,9,91,92,93] else [9,15,91,92,93,99,100]|_=>[],false⟩
 |60=>⟨[],λ_ _=>[],false⟩
 |61=>⟨[1],λ_ _=>[],false⟩
 |62=>⟨[],λr o=>match r with|6=>bif o then [0,2] else [0,3]|_=>[],false⟩
 |63=>⟨[],λr o=>match r with|3=>bif o then [3] else [0,3,4]|_=>[],false⟩
 |64=>⟨[1],λ_ _=>[],false⟩
 |65=>⟨[2],λr o=>match r with|6=>bif o then [1,2,4,5] else [1,2,6]|22=>bif o then [7] else [2,7,8]|_=>[],false⟩
 |66=>⟨[3],λ_ _=>[],false⟩
 |67=>⟨[],λ_ _=>[],false⟩
 |68=>⟨[1,2,3,4],λ_ _=>[],false⟩
 |69=>⟨[2,4],λr o=>match r with|5=>bif o then [0,2,4] else [0,2,4,12,13]|_=>[],false⟩
 |70=>⟨[1,14],λr o=>match r with|6=>bif o then [1,5] else [1,5,31,32]|14=>bif o then [7,8] else [7,8,48,49,50]|19=>bif o then [7,8,12,48,49,50] else [7,8,11,12,48,49,50,62,63,64]|_=>[],false⟩
 |71=>⟨[0],λ_ _=>[],false⟩
 |72=>⟨[6,7],λ_ _=>[],false⟩
 |73=>⟨[8,10,11,13],λ_ _=>[],false⟩
 |74=>⟨[9],λ_ _=>[],false⟩
 |75=>⟨[4,6],λr o=>match r with|2=>bif o then [0,2,4,6] else [0,2,4,6,12,13,14]|_=>[],false⟩
 |76=>⟨[7],λr o=>match r with|3=>bif o then [5] else [1,5,8,9,10]|_=>[],false⟩
 |77=>⟨[1],λ_ _=>[],false⟩
 |78=>⟨[1,2],λ_ _=>[],false⟩
 |79=>⟨[2,4,5,7,9],λr o=>match r with|6=>bif o then [4,5,7,9] else [4,5,7,9,35]|_=>[],false⟩
 |80=>⟨[8,10],λ_ _=>[],false⟩
 |81=>⟨[],λr o=>match r with|3=>bif o then [3] else [0,3,4]|_=>[],false⟩
 |82=>⟨[2,12,17],λr o=>match r with|11=>bif o then [4,5,6,8,10] else [1,2,8,9,10,11]|18=>bif o then [1,2,8,9,10,11,12,13,14,15] else [1,2,8,9,10,11,12,13,14,15,16]|38=>bif o then [1,2,8,9,10,11,12,15] else [1,2,8,9,10,11,12,15,20,21]|41=>bif o then [1,2,8,9,10,11,12,15,20,21] else [1,2,8,9,10,11,12,15,20,21,22]|44=>bif o then [1,2,8,9,10,11,12,15,20,21,22] else [1,2,8,9,10,11,12,15,20,21,22,23]|47=>bif o then [1,2,8,9,10,11,12,15,20,21,22,23] else [1,2,8,9,10,11,12,15,20,21,22,23,24]|_=>[],false⟩
 |83=>⟨[],λr o=>match r with|1=>bif o then [] else [0,1,2,3,4,5,12]|9=>bif o then [0,1,2,3,4,5,12] else [0,1,2,3,4,5,12,13,14]|_=>[],false⟩
 |84=>⟨[3,8],λr o=>match r with|6=>bif o then [6] else [2,31,32,33]|_=>[],false⟩
 |85=>⟨[],λr o=>match r with|4=>bif o then [4] else [0,1,12,13]|_=>[],false⟩
 |86=>⟨[5],λr o=>match r with|3=>bif o then [3] else [3,9,10,11]|_=>[],false⟩
 |87=>⟨[],λ_ _=>[],false⟩
 |88=>⟨[2,3],λ_ _=>[],false⟩
 |89=>⟨[1,4],λr o=>match r with|10=>bif o then [2] else [1,40,41,42]|_=>[],false⟩
 |90=>⟨[],λ_ _=>[],false⟩
 |91=>⟨[1],λ_ _=>[],false⟩
 |92=>⟨[6],λr o=>match r with|2=>bif o then [0] else [0,8,9,10]|_=>[],false⟩
 |93=>⟨[],λ_ _=>[],false⟩
 |94=>⟨[],λ_ _=>[],false⟩
 |95=>⟨[3],λ_ _=>[],false⟩
 |96=>⟨[2,3],λ_ _=>[],false⟩
 |97=>⟨[4],λr o=>match r with|1=>bif o then [] else [1,5,6,7]|_=>[],false⟩
 |98=>⟨[1],λ_ _=>[],false⟩
 |99=>⟨[1],λr o=>match r with|5=>bif o then [2] else [1,3]|8=>bif o then [1,2,3] else [1,3,4]|_=>[],false⟩
 |100=>⟨[1],λ_ _=>[],false⟩
 |101=>⟨[1],λ_ _=>[],false⟩
 |102=>⟨[],λr o=>match r with|6=>bif o then [0,2] else [0,14,15,16]|13=>bif o then [2] else [0,6]|_=>[],false⟩
 |103=>⟨[2],λr o=>match r with|6=>bif o then [1,2,4,5] else [1,2,18,19,20]|13=>bif o then [1,2,8] else [1,2,8,35,36]|_=>[],false⟩
 |104=>⟨[],λ_ _=>[],false⟩
 |105=>⟨[],λ_ _=>[],false⟩
 |106=>⟨[2,4],λ_ _=>[],false⟩
 |107=>⟨[],λ_ _=>[],false⟩
 |108=>⟨[8,10],λr o=>match r with|4=>bif o then [1,6] else [1,6,16,17,18]|7=>bif o then [1,6,16,17,18] else [1,6,8,16,17,18,23,24,25]|_=>[],false⟩
 |109=>⟨[],λr o=>match r with|3=>bif o then [0,3] else [0,3,10,11,12]|10=>bif o then [6] else [6,7,23,24,25]|_=>[],false⟩
 |110=>⟨[],λ_ _=>[],false⟩
 |111=>⟨[],λ_ _=>[],false⟩
 |112=>⟨[],λ_ _=>[],false⟩
 |113=>⟨[5],λr o=>match r with|3=>bif o then [3] else [3,8,9,10]|_=>[],false⟩
 |114=>⟨[5],λr o=>match r with|3=>bif o then [3] else [3,8,9,10]|_=>[],false⟩
 |115=>⟨[1,2],λ_ _=>[],false⟩
 |116=>⟨[2,5,11,19,20],λr o=>match r with|9=>bif o then [1,2,4,5,6,8] else [1,2,5,8,9,41,42,43]|14=>bif o then [1,2,5,8,9,10,11,12,13,41,42,43] else [1,2,5,8,9,10,11,12,13,41,42,43,53,54]|26=>bif o then [2,5,8,17] else [2,5,8,17,86,87,88]|_=>[],false⟩
 |117=>⟨[],λ_ _=>[],false⟩
 |118=>⟨[6],λr o=>match r with|6=>bif o then [0,1,4] else [0,1,6,23,24]|_=>[],false⟩
 |119=>⟨[5,6,12],λr o=>match r with|6=>bif o then [3,5,6,9,10] else [0,3,5,6,9,10,11]|_=>[],false⟩
 |120=>⟨[5],λr o=>match r with|11=>bif o then [2] else [0,2,3,9,10]|_=>[],false⟩
 |121=>⟨[],λr o=>match r with|3=>bif o then [5] else [1,5,6]|_=>[],false⟩
 |122=>⟨[2],λr o=>match r with|3=>bif o then [5] else [1,2,5,6]|_=>[],false⟩
 |123=>⟨[1],λ_ _=>[],false⟩
 |124=>⟨[],λr o=>match r with|3=>bif o then [0,3] else [0,3,10,11,12]|10=>bif o then [6] else [6,7,23,24,25]|_=>[],false⟩
 |125=>⟨[],λr o=>match r with|2=>bif o then [] else [0,1,2,3,4,10,11]|_=>[],false⟩
 |126=>⟨[],λ_ _=>[],false⟩
 |127=>⟨[],λr o=>match r with|3=>bif o then [2,3] else [3,6,7,8]|_=>[],false⟩
 |128=>⟨[],λ_ _=>[],false⟩
 |129=>⟨[],λ_ _=>[],false⟩
 |130=>⟨[2,3],λ_ _=>[],false⟩
 |131=>⟨[],λ_ _=>[],false⟩
 |132=>⟨[6],λr o=>match r with|2=>bif o then [2] else [0,7,8,9]|5=>bif o then [0,2,7,8,9] else [0,7,8,9,13,14,15]|_=>[],false⟩
 |133=>⟨[7,9],λr o=>match r with|3=>bif o then [2] else [3,11,12,13]|6=>bif o then [2,3,11,12,13] else [3,11,12,13,17,18,19]|9=>bif o then [2,3,11,12,13,17,18,19] else [3,11,12,13,17,18,19,24,25,26]|_=>[],false⟩
 |134=>⟨[10,11],λr o=>match r with|5=>bif o then [4] else [0,3,4,5,6]|8=>bif o then [0,3,4,5,6,7] else [0,3,4,5,6,7,28,29,30]|12=>bif o then [0,3,4,5,6,7,8,28,29,30] else [0,3,4,5,6,7,8,10,28,29,30]|_=>[],false⟩
 |135=>⟨[],λ_ _=>[],false⟩
 |136=>⟨[],λ_ _=>[],false⟩
 |137=>⟨[],λ_ _=>[],false⟩
 |138=>⟨[4],λr o=>match r with|6=>bif o then [0,2] else [0,13,14,15]|_=>[],false⟩
 |139=>⟨[],λr o=>match r with|1=>bif o then [] else [0,2,3]|_=>[],false⟩
 |140=>⟨[],λ_ _=>[],false⟩
 |141=>⟨[],λ_ _=>[],false⟩
 |142=>⟨[7],λr o=>match r with|3=>bif o then [3] else [3,11,12,13]|7=>bif o then [3,11,12,13] else [3,4,11,12,13,23,24,25]|_=>[],false⟩
 |143=>⟨[],λ_ _=>[],false⟩
 |144=>⟨[3,8,10,11],λr o=>match r with|6=>bif o then [6] else [0,3,5,6,18,19,20]|9=>bif o then [0,3,5,6,18,19,20] else [0,3,5,6,8,18,19,20,28,29,30]|_=>[],false⟩
 |145=>⟨[3],λr o=>match r with|9=>bif o then [0] else [0,3,30,31]|_=>[],false⟩
 |146=>⟨[9],λr o=>match r with|5=>bif o then [4,5,7] else [7,20,21,22]|_=>[],false⟩
 |147=>⟨[],λr o=>match r with|1=>bif o then [] else [0,1,3]|_=>[],false⟩
 |148=>⟨[2],λ_ _=>[],false⟩
 |149=>⟨[],λ_ _=>[],false⟩
 |150=>⟨[4],λ_ _=>[],false⟩
 |151=>⟨[],λr o=>match r with|1=>bif o then [] else [0,1,2,3,8]|4=>bif o then [0,1,2,3,8] else [0,1,2,3,8,9]|_=>[],false⟩
 |152=>⟨[],λr o=>match r with|4=>bif o then [0,3,8,9,10] else [0,3,8,9,10,11]|8=>bif o then [] else [0,3,8,9,12]|_=>[],false⟩
 |153=>⟨[],λr o=>match r with|5=>bif o then [] else [0,1,8,9,10,11]|_=>[],false⟩
 |154=>⟨[],λ_ _=>[],false⟩
 |155=>⟨[],λr o=>match r with|2=>bif o then [] else [0,8,9]|_=>[],false⟩
 |156=>⟨[],λr o=>match r with|3=>bif o then [8] else [0,1,2,3,9,10]|5=>bif o then [0,1,2,3,9,10] else [0,1,2,3,9,10]|14=>bif o then [0,1,2,3,9,10] else [0,1,2,3,9,10,11]|20=>bif o then [0,1,2,3,9,10] else [0,1,2,3,9,10,12]|_=>[],false⟩
 |157=>⟨[],λr o=>match r with|7=>bif o then [11] else [0,1,4,11,12]|3=>bif o then [0,1,4,11,12] else [0,1,4,11,12]|5=>bif o then [0,1,4,11,12] else [0,1,4,11,12]|_=>[],false⟩
 |158=>⟨[],λr o=>match r with|3=>bif o then [0,1,4,12,13] else [0,1,4,12,13]|5=>bif o then [0,1,4,12,13] else [0,1,4,12,13]|17=>bif o then [0,1,13] else [0,1,4,12,13]|13=>bif o then [0,1,4,12,13] else [0,1,4,12,13]|15=>bif o then [0,1,4,12,13] else [0,1,4,12,13]|_=>[],false⟩
 |159=>⟨[],λ_ _=>[],false⟩
 |160=>⟨[],λ_ _=>[],false⟩
 |161=>⟨[],λ_ _=>[],false⟩
 |162=>⟨[],λ_ _=>[],false⟩
 |163=>⟨[3,6,8],λr o=>match r with|6=>bif o then [0,3,4] else [0,3,28,29,30]|12=>bif o then [3,4] else [0,3,40,41,42]|_=>[],false⟩
 |164=>⟨[2,4],λ_ _=>[],false⟩
 |165=>⟨[],λ_ _=>[],false⟩
 |166=>⟨[1],λ_ _=>[],false⟩
 |167=>⟨[],λr o=>match r with|3=>bif o then [0,3] else [0,3,10,11,12]|10=>bif o then [6] else [6,7,23,24,25]|_=>[],false⟩
 |168=>⟨[],λ_ _=>[],false⟩
 |169=>⟨[2,3],λ_ _=>[],false⟩
 |170=>⟨[7],λr o=>match r with|5=>bif o then [0,5] else [0,1,5,6]|_=>[],false⟩
 |171=>⟨[1],λ_ _=>[],false⟩
 |172=>⟨[],λ_ _=>[],false⟩
 |173=>⟨[],λr o=>match r with|2=>bif o then [4] else [0,1,7,8]|_=>[],false⟩
 |174=>⟨[],λ_ _=>[],false⟩
 |175=>⟨[7],λr o=>match r with|3=>bif o then [4] else [1,2,5,17,18]|_=>[],false⟩
 |176=>⟨[5],λ_ _=>[],false⟩
 |177=>⟨[5],λ_ _=>[],false⟩
 |178=>⟨[],λr o=>match r with|1=>bif o then [] else [0,2,3,4,10]|_=>[],false⟩
 |179=>⟨[],λ_ _=>[],false⟩
 |180=>⟨[],λ_ _=>[],false⟩
 |181=>⟨[],λ_ _=>[],false⟩
 |182=>⟨[],λ_ _=>[],false⟩
 |183=>⟨[3],λ_ _=>[],false⟩
 |184=>⟨[],λ_ _=>[],false⟩
 |185=>⟨[],λr o=>match r with|2=>bif o then [0,1,2,6,7] else [0,1,2,6,7,8]|7=>bif o then [] else [0,1,2,6]|9=>bif o then [0,1,2,6,7] else [0,1,2,6,7,8]|_=>[],false⟩
 |186=>⟨[],λr o=>match r with|2=>bif o then [4] else [0,1,7,8]|_=>[],false⟩
 |187=>⟨[],λ_ _=>[],false⟩
 |188=>⟨[],λr o=>match r with|1=>bif o then [] else [0,1,2,3,8]|4=>bif o then [0,1,2,3,8] else [0,1,2,3,8,9]|_=>[],false⟩
 |189=>⟨[],λr o=>match r with|3=>bif o then [0,1,10] else [0,1,4,10,11]|9=>bif o then [] else [0,10,13]|15=>bif o then [0,2,14] else [0,2,4,14,15]|21=>bif o then [] else [0,14,17]|33=>bif o then [0,1,2,3,4,18,19,20] else [0,1,2,3,4,18,19,20,21,22]|_=>[],false⟩
 |190=>⟨[],λr o=>match r with|2=>bif o then [0,2,4,10] else [0,2,4,10,11]|_=>[],false⟩
 |191=>⟨[],λr o=>match r with|1=>bif o then [] else [0,1,2,3,10]|_=>[],false⟩
 |211=>⟨[],λ_ _=>[],false⟩
 |_=>⟨[],λ_ _=>[],false⟩
noncomputable abbrev aw:Program:=Tryz.prog
def qY:aw.follows .mixedOrders=true:=qh
def Qn:QF aw=true:=qh
def qq1:laidOutB aw=true:=qh
abbrev Pq:=Pz aw G17 az
abbrev TO:=aI aw G17
abbrev OO:=aT aw G17
noncomputable abbrev cK(K:bA)(f:FuncId)(p l:Wa)(v:JO)(h:qa)(m:Wa):=y9 aw G17 az K 0 f [] (iX p) l v h m
noncomputable abbrev cD:=cK qv
def eD{K:bA}(d:aT aw G17 K){f:FuncId}{p:Wa}(H:qa){l vs h l1 v1 h1 e}(k:cK K f p l vs h l1=some (e,v1,h1))(a:(zc aw f&&I2 aw f)=true:=by kernel_rfl):Pz aw G17 az f H p l vs h e l1 v1 h1:=Pz.run qY d (m:=0) a qP k
def cf{f:FuncId}{p:Wa}(H:qa){l vs h l1 v1 h1 e}(k:cD f p l vs h l1=some (e,v1,h1))(a:(zc aw f&&I2 aw f)=true:=by kernel_rfl):Pz aw G17 az f H p l vs h e l1 v1 h1:=eD qp H k a
structure ao where
 (k y a b:Int) (f:Bool)
def ao.c(s:ao):JO:=[uI s.k,uI s.y,iI s.a,iI s.b,.bool s.f]
def aU(r:Nat->ao)(n:Nat)(c:Option Nat):T:=.view 5 n (λj=>(r j).c) c
def KL(y:Int):T:=.fn 148 [.vp [uI y]]
def Es(r:Nat->ao)(n:Nat)(c:Option Nat)(y:Int)(i:Nat):JO:=[aU r n c,KL y,iI n,iI i]
noncomputable def I7(p:JO->T->Prop)(s:ao)(y:Int):bA:=qv.add 148 (Qa p λ_=>some (.bool (decide (s.y=y))))
noncomputable def Oz(p:JO->T->Prop)(x:Int):bA:=qv.add 173 (Qa p λ_=>some (iI x))
noncomputable def OA(x:JO->qa->Ex->JO->qa->Prop)(b:Bool)(k:Nat):List (Nat×(JO->qa->LT)):=[(2,jp x (.ite b (.ret .ret [iI k] []) (.ret (.exit 0) [.undef] [])))]
def Uu(s:ao)(y:Int):TO 148 [.agg s.c,.vp [uI y]] (.bool (decide (s.y=y))):=by
 refine QA qY Qn qp (K:=qv) (A:=az) (m:=0) ?_;rw[(show Yw aw G17 az qv 0 148 [.agg s.c,.vp [uI y]] =
(
 bif decide (s.y=y) then
 some (.bool true)
 else
 some (.bool false)) from qh)]
 cases decide (s.y=y)<;>rfl
def OB(r:Nat->ao)(n:Nat)(c:Option Nat)(y:Int)(i:Nat)(p:JO->T->Prop):QB aw G17 az (I7 p (r i) y) 0 173 [] 2 (Es r n c y i) [] =
(
 bif decide (ofNat i<ofNat n) then
 bif decide (0<=ofNat i)&&decide (ofNat i<ofNat n) then
 bif qM (p [.agg (r i).c,.vp [uI y]] (.bool (decide ((r i).y=y)))) then
 bif decide ((r i).y=y) then
 some ((.ret,[iI (.ofNat i)],[]))
 else
 some ((.normal,[aU r n c,KL y,iI (.ofNat n),iI (i64.wrap (ofNat i+1))],[]))
 else none else none else
 some ((.exit 0,[.undef],[]))):=qh
def Uv(r:Nat->ao)(n:Nat)(c:Option Nat)(y:Int)(b:Bool)(k:Nat)(x:JO->qa->Ex->JO->qa->Prop):ZV aw G17 az qv 0 173 (OA x b k) [aU r n c,KL y] =
(
 bif b then
 bif qM (x (Es r n c y (nat_lit 0)) [] .ret [iI (.ofNat k)] []) then
 some (iI (.ofNat k))
 else none else
 bif qM (x (Es r n c y (nat_lit 0)) [] (.exit 0) [.undef] []) then
 some (iI (-1:Int))
 else
 none):=qh
def Uw(r:Nat->ao)(n:Nat)(c:Option Nat)(y x:Int)(p:JO->T->Prop):Yw aw G17 az (Oz p x) 0 149 [aU r n c,KL y] =
(
 bif qM (p [aU r n c,KL y] (iI x)) then
 bif decide (0<=x) then
 some (.bool true)
 else
 some (.bool false)
 else
 none):=qh
def uG(r:Nat->ao)(n:Nat)(y:Int):Bool:=!(zs (λi=>!(decide ((r i).y=y))) n)
def qnO(r:Nat->ao)(n:Nat)(c:Option Nat)(y:Int)(s:n<=1000000):(uG r n y=false->aG aw G17 (az 173) 173 2 (Qx (Es r n c y 0) [] (.exit 0) [.undef] []))/\(uG r n y=true->∃e v h,(e = .ret/\h=[]/\∃k:Nat,v=[iI k])/\aG aw G17 (az 173) 173 2 (Qx (Es r n c y 0) [] e v h)):=by
 obtain⟨p,a⟩:=qE aw G17 148;have key:=qjf (P:=aw) (Gl:=G17) (e1:=.exit 0) (v1:=[.undef]) (h1:=[]) qY (f:=173) (r:=2) qh (an:=az 173) (λi=>Es r n c y i) (λ_=>[]) (λi=>!(decide ((r i).y=y))) (n:=n) (λe v h=>e = .ret/\h=[]/\∃k:Nat,v=[iI k]) (λi j _ d=>?_) (λi j _ d=>?_) (λ_=>?_)
 .unfold uG;exact⟨λh=>key.1 (by simpa using h),λh=>key.2 (by simpa using h)⟩
 .have g:=Uu (r i) y;refine Step.gu (A:=az) (m:=0) (K:=I7 p (r i) y) (qr qp (qq a)) rfl rfl qP (h1:=[]) ?_ .nil;rw[OB,il ae];have q:¬(r i).y=y:=by simpa using d
  exact BT (BT (BS (BF rfl)))
 .have g:=Uu (r i) y;refine⟨_,_,_,⟨rfl,rfl,i,rfl⟩,?_⟩;refine cz.gu (A:=az) (m:=0) (K:=I7 p (r i) y) (qr qp (qq a)) rfl rfl qP (h1:=[]) au ?_ .nil;rw[OB];have q:(r i).y=y:=by simpa using d
  exact BT (BT (BS (BT rfl)))
 .refine cz.gu (A:=az) (m:=0) (K:=I7 p (r n) y) (qr qp (qq a)) rfl rfl qP (h1:=[]) au ?_ .nil;rw[OB];exact BF rfl
def qnP(r:Nat->ao)(n:Nat)(c:Option Nat)(y:Int)(j:n<=1000000):TO 149 [aU r n c,KL y] (.bool (uG r n y)):=by
 obtain⟨x,hx⟩:=jJ aw G17 (az 173) 173 2;obtain⟨p,d⟩:=qE aw G17 173;have a:=qnO r n c y j;cases f:uG r n y
 ·have i:=a.1 f;have g:TO 173 [aU r n c,KL y] (iI (-1)):=by
   refine Qm qY Qn (K:=qv) qp (A:=az) (m:=0) (l:=OA x false 0) qh (QS (Zf hx _)) ?_;rw[Uv];exact qF au (BS rfl)
  refine QA qY Qn (K:=Oz p (-1)) (qr qp (qq d)) (A:=az) (m:=0) ?_;rw[Uw];exact BS (qF (by decide) rfl)
 ·obtain⟨e,v,h,⟨rfl,rfl,k,rfl⟩,i⟩:=a.2 f;have g:TO 173 [aU r n c,KL y] (iI k):=by
   refine Qm qY Qn (K:=qv) qp (A:=az) (m:=0) (l:=OA x true k) qh (QS (Zf hx _)) ?_;rw[Uv];exact qk rfl (BS rfl)
  refine QA qY Qn (K:=Oz p k) (qr qp (qq d)) (A:=az) (m:=0) ?_;rw[Uw];exact BS (qk au rfl)
def ao.t(s:ao):T:=.agg s.c
structure ao.Ok(s:ao):Prop where
 k:0<=s.k/\s.k<256
 y:0<=s.y/\s.y<256
 a:-9223372036854775808<=s.a/\s.a<=9223372036854775807
 b:-9223372036854775808<=s.b/\s.b<=9223372036854775807
def ao.v(s:ao):Bool:=bif decide (s.k<1) then false else bif decide (8<s.k) then false else bif decide (s.y<1) then false else bif decide (6<s.y) then false else
 bif !decide (s.k=8) then(bif !decide (s.a=0) then false else bif !decide (s.b=0) then false else bif s.f then false else true) else
 bif decide (s.a<1) then false else bif decide (4<s.a) then false else bif decide (s.b<1) then false else bif decide (i64.wrap (4-s.a)<s.b) then false else true
def c9(s:ao):Bool:=s.v
def Et(b:Bool):Int:=bif b then 0 else 1
noncomputable def I8(p:JO->T->Prop)(s:ao):bA:=qv.add 98 (Qa p λ_=>some (iI (Et (c9 s))))
def ao.n(s:ao):Int:=bif c9 s then(bif decide (s.k=3) then 0 else bif decide (s.k=4) then 2 else bif decide (s.k=5) then 2 else bif decide (s.k=8) then i64.wrap (s.a+s.b) else 1) else 0
def ao.m(s:ao):Int:=bif c9 s then(bif decide (s.k=8) then i64.wrap (s.a+s.b) else 1) else 0
def kR(s:ao):TO 98 [s.t] (iI (Et (c9 s))):=by
 refine QA qY Qn qp (K:=qv) (A:=az) (m:=0) ?_;rw[(show Yw aw G17 az qv 0 98 [s.t] =
( bif decide (s.k<1) then some (iI 1) else
 bif decide (8<s.k) then some (iI 1) else
 bif decide (s.y<1) then some (iI 1) else
 bif decide (6<s.y) then some (iI 1) else
 bif !decide (s.k=8) then bif !decide (s.a=0) then some (iI 1) else
 bif !decide (s.b=0) then some (iI 1) else
 bif s.f then some (iI 1) else
 some (iI 0) else
 bif decide (s.a<1) then some (iI 1) else
 bif decide (4<s.a) then some (iI 1) else
 bif decide (s.b<1) then some (iI 1) else
 bif decide (i64.wrap (4-s.a)<s.b) then some (iI 1) else
 some (iI 0)) from qh)]
 have key:∀(c x y:Bool),some (iI (Et (bif c then x else y)))=bif c then some (iI (Et x)) else some (iI (Et y)):=λc x y=>by cases c<;>rfl
 unfold c9 ao.v;simp only[key];rfl
def jO(s:ao):TO 77 [s.t] (iI s.n):=by
 obtain⟨p,d⟩:=qE aw G17 98;refine QA qY Qn (qr qp (qq d)) (K:=I8 p s) (A:=az) (m:=0) ?_;rw[(show Yw aw G17 az (I8 p s) 0 77 [s.t] =
( gD (qM (p [s.t] (iI (bif c9 s then(0:Int)
 else(1:Int)))))<|bif !decide ((bif c9 s then(0:Int)
 else(1:Int))=(0:Int)) then some (iI 0) else
 bif decide (s.k=3) then some (iI 0) else
 bif decide (s.k=4) then some (iI 2) else
 bif decide (s.k=5) then some (iI 2) else
 bif decide (s.k=8) then some (iI (i64.wrap (s.a+s.b))) else
 some (iI 1)) from qh)]
 refine qk (qu d (kR s)) ?_;unfold ao.n;cases c9 s
 .rfl
 .have key:∀(c:Bool) (x y:Int),some (iI (bif c then x else y))=bif c then some (iI x) else some (iI y):=λc x y=>by cases c<;>rfl
  simp only[wm,key];rfl
def OC(s:ao):TO 61 [s.t] (iI s.m):=by
 obtain⟨p,d⟩:=qE aw G17 98;refine QA qY Qn (qr qp (qq d)) (K:=I8 p s) (A:=az) (m:=0) ?_;rw[(show Yw aw G17 az (I8 p s) 0 61 [s.t] =
( gD (qM (p [s.t] (iI (bif c9 s then(0:Int)
 else(1:Int)))))<|bif !decide ((bif c9 s then(0:Int)
 else(1:Int))=(0:Int)) then some (iI 0) else
 bif decide (s.k=8) then some (iI (i64.wrap (s.a+s.b))) else
 some (iI 1)) from qh)]
 refine qk (qu d (kR s)) ?_;unfold ao.m;cases c9 s
 .rfl
 .have key:∀(c:Bool) (x y:Int),some (iI (bif c then x else y))=bif c then some (iI x) else some (iI y):=λc x y=>by cases c<;>rfl
  simp only[wm,key];rfl
def ao.mW(s:ao)(h:s.Ok):c9 s=true↔(1<=s.k/\s.k<=8/\1<=s.y/\s.y<=6/\((s.k≠8/\s.a=0/\s.b=0/\s.f=false)∨(s.k=8/\1<=s.a/\s.a<=4/\1<=s.b/\s.a+s.b<=4))):=by
 have:=h.a;unfold c9 ao.v;by_cases h1:s.k<1
 .rw[dT h1];simp;omega
 rw[dF h1,wp];by_cases u:8<s.k
 .rw[dT u];simp;omega
 rw[dF u,wp];by_cases r:s.y<1
 .rw[dT r];simp;omega
 rw[dF r,wp];by_cases o:6<s.y
 .rw[dT o];simp;omega
 rw[dF o,wp];by_cases j:s.k=8
 .rw[dT j,Bool.not_true,wp];by_cases d:s.a<1
  .rw[dT d];simp;omega
  rw[dF d,wp];by_cases e:4<s.a
  .rw[dT e];simp;omega
  rw[dF e,wp];by_cases i:s.b<1
  .rw[dT i];simp;omega
  rw[dF i,wp,Qp ae ae];by_cases g:4-s.a<s.b
  .rw[dT g];simp;omega
  rw[dF g,wp];simp;omega
 .rw[dF j,Bool.not_false,wm];by_cases d:s.a=0
  .by_cases e:s.b=0
   .rw[dT d,dT e];cases x:s.f
    .simp;omega
    .simp;omega
   .rw[dT d,dF e];simp;omega
  .rw[dF d];simp;omega
def ao.nR(s:ao)(h:s.Ok):0<=s.n/\s.n<=4:=by
 have a:=s.mW h;unfold ao.n;cases q:c9 s
 .simp
 .have a:=a.1 q;rw[wm];by_cases h1:s.k=3
  .rw[dT h1];simp
  rw[dF h1,wp];by_cases f:s.k=4
  .rw[dT f];simp
  rw[dF f,wp];by_cases e:s.k=5
  .rw[dT e];simp
  rw[dF e,wp];by_cases d:s.k=8
  .rw[dT d,wm,Qp ae ae];omega
  rw[dF d];simp
def ao.nS(s:ao)(h:s.Ok):0<=s.m/\s.m<=4:=by
 have a:=s.mW h;unfold ao.m;cases q:c9 s
 .simp
 .have a:=a.1 q;rw[wm];by_cases d:s.k=8
  .rw[dT d,wm,Qp ae ae];omega
  rw[dF d];simp
def zd(N:Nat->Int):Nat->Int
 |0=>0
 |i+1=>zd N i+N i
def cF(r:Nat->ao)(n:Nat)(c:Option Nat):T:=.view 5 n (λj=>(r j).c) c
def sf(r:Nat->ao)(n:Nat)(c:Option Nat)(fn:Nat)(a i:Int):JO:=[.fn fn [],iI a,cF r n c,iI n,iI i]
noncomputable def I9(p:JO->T->Prop)(fn:Nat)(x:Int):bA:=qv.add fn (Qa p λ_=>some (iI x))
def tp(r:Nat->ao)(n:Nat)(c:Option Nat)(i:Int):JO:=[cF r n c,cF r n c,iI n,iI i]
noncomputable def J3(p:JO->T->Prop)(x:Int):bA:=qv.add 98 (Qa p λ_=>some (iI x))
noncomputable def Cm(p q:JO->T->Prop)(x y:Int):bA:=(qv.add 41 (Qa p λ_=>some (iI x))).add 60 (Qa q λ_=>some (iI y))
noncomputable def J4(p:JO->T->Prop)(x:Int):bA:=qv.add 76 (Qa p λ_=>some (iI x))
def mX(r:Nat->ao)(n:Nat):Int:=zd (λj=>(r j).n) n
def nY(r:Nat->ao)(n:Nat):Int:=zd (λj=>(r j).m) n
def AI(r:Nat->ao):Nat->Bool
 |0=>true
 |k+1=>AI r k&&c9 (r k)
def Cn(x:Int):Bool:=decide (1<=x)&&decide (x<=16)
def rE(r:Nat->ao)(n:Nat):Int:=if 16<n then 3 else if n=0 then 1 else if AI r n=true then(if Cn (mX r n)=true/\Cn (nY r n)=true then 0 else 5) else 1
def Gr{N:Nat->Int}{b:Int}(a:∀i,0<=N i/\N i<=b):∀i:Nat,0<=zd N i/\zd N i<=b*i
 |0=>by unfold zd;omega
 |i+1=>by
  have h1:=Gr a i;have d:=a i;have e:b*((i+1:Nat):Int)=b*i+b:=by rw[show((i+1:Nat):Int)=(i:Int)+1 by omega,Int.mul_add,Int.mul_one]
  rw[e];unfold zd;omega
def yA(p:Nat->Bool)(n:Nat):(∀i,i<n->p i=true)∨∃I,I<n/\p I=false/\∀i,i<I->p i=true:=by
 induction n with
 |zero=>exact .inl λi h=>by omega
 |succ n a =>
  rcases a with h|⟨I,h1,f,d⟩
  .cases q:p n
   .exact .inr ⟨n,ae,q,h⟩
   .refine .inl λi g=>?_;by_cases e:i=n
    .rw[e];exact q
    .exact h i ae
  .exact .inr ⟨I,ae,f,d⟩
def J5(r:Nat->ao):∀n,AI r n=true↔∀i,i<n->c9 (r i)=true
 |0=>⟨λ_ i h=>ae,λ_=>rfl⟩
 |n+1=>by
  have a:=J5 r n;unfold AI;rw[wg,a];constructor
  .intro ⟨h1,f⟩ i d;by_cases e:i=n
   .rw[e];exact f
   .exact h1 i ae
  .exact λh=>⟨λi d=>h i ae,h n ae⟩
def qhK(r:Nat->ao)(n:Nat)(c:Option Nat)(s:n<=1000)(hr:∀j,(r j).Ok):TO 76 [cF r n c,.fn 77 []] (iI (zd (λj=>(r j).n) n)):=by
 obtain⟨p,d⟩:=qE aw G17 77;have f:∀j,0<=(r j).n/\(r j).n<=4:=λj=>(r j).nR (hr j);have k:aG aw G17 (az 76) 76 3 (Qx (sf r n c 77 0 0) [] (.exit 0) [iI (zd (λj=>(r j).n) n)] []):=by
  refine qV qY qh (λi=>sf r n c 77 (zd (λj=>(r j).n) i) i) (λ_=>[]) (n:=n) (λi u=>?_) ?_
  .have g:=jO (r i);have h1:=Gr f i;have z:=f i;have e:zd (λj=>(r j).n) (i+1)=zd (λj=>(r j).n) i+(r i).n:=rfl;rw[e];generalize zd (λj=>(r j).n) i=a at *
   generalize (r i).n=x at *
   refine Step.gu (A:=az) (K:=I9 p 77 x) (m:=0) (qr qp (qq d)) rfl rfl qP (h1:=[]) ?_ .nil;rw[(show QB aw G17 az (I9 p 77 x) 0 76 [] 3 (sf r n c 77 a i) [] =
( bif decide (ofNat i<ofNat n) then gD (decide (0<=ofNat i)&&decide (ofNat i<ofNat n))<|gD (qM (p [(r i).t] (iI x)))<|zN (sf r n c (77:Nat) (i64.wrap (a+x)) (i64.wrap (ofNat i+1))) [] else
 zX 0 [iI a] []) from qh)]
   have o:i64.wrap ((i:Int)+1)=((i+1:Nat):Int):=by rw[Qp ae ae];omega
   rw[Qu i,o,Qp (x:=a+x) ae ae];refine BT ?_;refine BT ?_;refine qk (qu d g) ?_;rfl
  .generalize zd (λj=>(r j).n) n=a;refine cz.gu (A:=az) (m:=0) qp rfl rfl qP (h1:=[]) au ?_ .nil;rw[(show QB aw G17 az qv 0 76 [] 3 (sf r n c 77 a n) [] =
( bif decide (ofNat n<ofNat n) then gD (decide (0<=ofNat n)&&decide (ofNat n<ofNat n)) none else
 zX 0 [iI a] []) from qh)]
   (repeat (first|refine BT ?_|refine BG ?_))
   rfl
 generalize zd (λj=>(r j).n) n=a at *
 refine Qm qY Qn qp (A:=az) (m:=0) qh (QS k) ?_;rw[(show ZV aw G17 az qv 0 76 [(3,Qx (sf r n c 77 0 0) [] (.exit 0) [iI a] [])] [cF r n c,.fn 77 []] =
( gD (Zy (sf r n c (77:Nat) (0:Int) (0:Int)) [] (sf r n c (77:Nat) (0:Int) (0:Int)) [])<|some (iI a)) from qh)]
 exact qk (QH ⟨rfl,.refl _⟩) rfl
def jP(r:Nat->ao)(n:Nat)(c:Option Nat)(e:n<=1000)(hr:∀j,(r j).Ok):TO 41 [cF r n c] (iI (mX r n)):=by
 obtain⟨p,a⟩:=qE aw G17 76;have d:=qhK r n c e hr;unfold mX;generalize zd (λj=>(r j).n) n=x at *
 refine QA qY Qn (qr qp (qq a)) (K:=J4 p x) (A:=az) (m:=0) ?_;rw[(show Yw aw G17 az (J4 p x) 0 41 [cF r n c] =
( gD (qM (p [aU r n c,.fn (77:Nat) []] (iI x)))<|some (iI x)) from qh)]
 exact qk (qu a d) rfl
def qhL(r:Nat->ao)(n:Nat)(c:Option Nat)(s:n<=1000)(hr:∀j,(r j).Ok):TO 76 [cF r n c,.fn 61 []] (iI (zd (λj=>(r j).m) n)):=by
 obtain⟨p,d⟩:=qE aw G17 61;have f:∀j,0<=(r j).m/\(r j).m<=4:=λj=>(r j).nS (hr j);have k:aG aw G17 (az 76) 76 3 (Qx (sf r n c 61 0 0) [] (.exit 0) [iI (zd (λj=>(r j).m) n)] []):=by
  refine qV qY qh (λi=>sf r n c 61 (zd (λj=>(r j).m) i) i) (λ_=>[]) (n:=n) (λi u=>?_) ?_
  .have g:=OC (r i);have h1:=Gr f i;have z:=f i;have e:zd (λj=>(r j).m) (i+1)=zd (λj=>(r j).m) i+(r i).m:=rfl;rw[e];generalize zd (λj=>(r j).m) i=a at *
   generalize (r i).m=x at *
   refine Step.gu (A:=az) (K:=I9 p 61 x) (m:=0) (qr qp (qq d)) rfl rfl qP (h1:=[]) ?_ .nil;rw[(show QB aw G17 az (I9 p 61 x) 0 76 [] 3 (sf r n c 61 a i) [] =
( bif decide (ofNat i<ofNat n) then gD (decide (0<=ofNat i)&&decide (ofNat i<ofNat n))<|gD (qM (p [(r i).t] (iI x)))<|zN (sf r n c (61:Nat) (i64.wrap (a+x)) (i64.wrap (ofNat i+1))) [] else
 zX 0 [iI a] []) from qh)]
   have o:i64.wrap ((i:Int)+1)=((i+1:Nat):Int):=by rw[Qp ae ae];omega
   rw[Qu i,o,Qp (x:=a+x) ae ae];refine BT ?_;refine BT ?_;refine qk (qu d g) ?_;rfl
  .generalize zd (λj=>(r j).m) n=a;refine cz.gu (A:=az) (m:=0) qp rfl rfl qP (h1:=[]) au ?_ .nil;rw[(show QB aw G17 az qv 0 76 [] 3 (sf r n c 61 a n) [] =
( bif decide (ofNat n<ofNat n) then gD (decide (0<=ofNat n)&&decide (ofNat n<ofNat n)) none else
 zX 0 [iI a] []) from qh)]
   (repeat (first|refine BT ?_|refine BG ?_))
   rfl
 generalize zd (λj=>(r j).m) n=a at *
 refine Qm qY Qn qp (A:=az) (m:=0) qh (QS k) ?_;rw[(show ZV aw G17 az qv 0 76 [(3,Qx (sf r n c 61 0 0) [] (.exit 0) [iI a] [])] [cF r n c,.fn 61 []] =
( gD (Zy (sf r n c (61:Nat) (0:Int) (0:Int)) [] (sf r n c (61:Nat) (0:Int) (0:Int)) [])<|some (iI a)) from qh)]
 exact qk (QH ⟨rfl,.refl _⟩) rfl
def kS(r:Nat->ao)(n:Nat)(c:Option Nat)(e:n<=1000)(hr:∀j,(r j).Ok):TO 60 [cF r n c] (iI (nY r n)):=by
 obtain⟨p,a⟩:=qE aw G17 76;have d:=qhL r n c e hr;unfold nY;generalize zd (λj=>(r j).m) n=x at *
 refine QA qY Qn (qr qp (qq a)) (K:=J4 p x) (A:=az) (m:=0) ?_;rw[(show Yw aw G17 az (J4 p x) 0 60 [cF r n c] =
( gD (qM (p [aU r n c,.fn (61:Nat) []] (iI x)))<|some (iI x)) from qh)]
 exact qk (qu a d) rfl
def i66(r:Nat->ao)(n:Nat)(c:Option Nat)(x:Int)(i:Nat)(p:JO->T->Prop):QB aw G17 az (J3 p x) 0 138 [] 6 (tp r n c i) [] =
( bif decide (ofNat i<ofNat n) then gD (decide (0<=ofNat i)&&decide (ofNat i<ofNat n))<|gD (qM (p [(r i).t] (iI x)))<|bif !decide (x=0) then zR [aU r n c,iI 1] [] else
 zN (tp r n c (i64.wrap (ofNat i+1))) [] else
 zX 0 [aU r n c,.undef] []):=qh
def Ux(r:Nat->ao)(n:Nat)(c:Option Nat)(f:n<=1000)(p:JO->T->Prop)(hp:p=TO 98)(i:Nat)(g:i<n)(d:c9 (r i)=true):Step aw G17 (az 138) 138 6 0 (tp r n c i) [] (tp r n c (i+1:Nat)) []:=by
 have a:=kR (r i);rw[d] at a;refine Step.gu (A:=az) (K:=J3 p 0) (m:=0) (qr qp (qq hp)) rfl rfl qP (h1:=[]) ?_ .nil;have e:i64.wrap ((i:Int)+1)=((i+1:Nat):Int):=by rw[Qp ae ae];omega
 rw[i66,Qu i,e];refine BT ?_;refine BT ?_;refine qk (qu hp a) ?_;refine qF au ?_;rfl
def OD(r:Nat->ao)(n:Nat)(c:Option Nat)(g:n<=1000)(hr:∀j,(r j).Ok):TO 138 [cF r n c] (iI (rE r n)):=by
 unfold rE;obtain⟨p,e⟩:=qE aw G17 98;rcases yA (λi=>c9 (r i)) n with h|⟨I,N,E,O⟩
 ·rw[wl ((J5 r n).2 h)];have z:aG aw G17 (az 138) 138 6 (Qx (tp r n c 0) [] (.exit 0) [cF r n c,.undef] []):=by
   refine qV qY qh (λi=>tp r n c i) (λ_=>[]) (n:=n) (λi k=>Ux r n c g p e i k (h i k)) ?_;refine cz.gu (A:=az) (K:=J3 p 0) (m:=0) (qr qp (qq e)) rfl rfl qP (h1:=[]) au ?_ .nil;rw[i66];refine BF ?_;rfl
  obtain⟨s,J⟩:=qE aw G17 41;obtain⟨o,H⟩:=qE aw G17 60;have f:=jP r n c g hr;have M:=kS r n c g hr;generalize mX r n=x at *
  generalize nY r n=y at *
  refine Qm qY Qn (qr (qr qp (qq J)) (qq H)) (K:=Cm s o x y) (A:=az) (m:=0) qh (QS z) ?_;rw[(show ZV aw G17 az (Cm s o x y) 0 138 [(6,Qx (tp r n c 0) [] (.exit 0) [cF r n c,.undef] [])] [cF r n c] =
( bif decide (16<ofNat n) then some (iI 3) else
 bif decide (ofNat n=0) then some (iI 1) else
 gD (Zy (tp r n c (0:Int)) [] (tp r n c (0:Int)) [])<|gD (qM (s [aU r n c] (iI x)))<|gD (qM (o [aU r n c] (iI y)))<|bif decide (x<1) then some (iI 5) else
 bif decide (16<x) then some (iI 5) else
 bif decide (y<1) then some (iI 5) else
 bif decide (16<y) then some (iI 5) else
 some (iI 0)) from qh)]
  by_cases d:16<n
  .rw[wl d];exact BT rfl
  rw[we d];refine BF ?_;by_cases a:n=0
  .rw[wl a];exact BT rfl
  rw[we a];refine BF ?_;refine qk (QH ⟨rfl,.refl _⟩) ?_;refine qk (qu J f) ?_;refine qk (qu H M) ?_;unfold Cn;simp only[wg,wC];by_cases D:x<1
  .rw[dT D,we ae];rfl
  rw[dF D,wp];by_cases C:16<x
  .rw[dT C,we ae];rfl
  rw[dF C,wp];by_cases B:y<1
  .rw[dT B,we ae];rfl
  rw[dF B,wp];by_cases q6:16<y
  .rw[dT q6,we ae];rfl
  rw[dF q6,wl ae];rfl
 ·have u:¬AI r n=true:=λh=>by
   have:=(J5 r n).1 h I N;rw[E] at this;cases this
  rw[we u];have z:aG aw G17 (az 138) 138 6 (Qx (tp r n c 0) [] .ret [cF r n c,iI 1] []):=by
   refine qV qY qh (λi=>tp r n c i) (λ_=>[]) (n:=I) (λi k=>Ux r n c g p e i ae (O i k)) ?_;have f:=kR (r I);rw[show c9 (r I)=false from E] at f;refine cz.gu (A:=az) (K:=J3 p 1) (m:=0) (qr qp (qq e)) rfl rfl qP (h1:=[]) au ?_ .nil;rw[i66];refine BT ?_;refine BT ?_;refine qk (qu e f) ?_;refine qk au ?_;rfl
  refine Qm qY Qn qp (A:=az) (m:=0) qh (QS z) ?_;rw[(show ZV aw G17 az qv 0 138 [(6,Qx (tp r n c 0) [] .ret [cF r n c,iI 1] [])] [cF r n c] =
( bif decide (16<ofNat n) then some (iI 3) else
 bif decide (ofNat n=0) then some (iI 1) else
 gD (Zy (tp r n c (0:Int)) [] (tp r n c (0:Int)) [])<|some (iI 1)) from qh)]
  by_cases d:16<n
  .rw[wl d];exact BT rfl
  rw[we d];refine BF ?_;by_cases a:n=0
  .rw[wl a];exact BT rfl
  rw[we a];refine BF ?_;exact qk (QH ⟨rfl,.refl _⟩) rfl
def bG(C:Nat->Nat->ao)(ln:Nat->Nat)(h:Nat):T:=.view 1 h (λi=>[cF (C i) (ln i) none]) none
def ra(C:Nat->Nat->ao)(ln:Nat->Nat)(h:Nat)(i:Int):JO:=[bG C ln h,bG C ln h,iI h,iI i]
def rP(C:Nat->Nat->ao)(ln:Nat->Nat)(h:Nat)(i:Int):JO:=[bG C ln h,iI i]
noncomputable def J6(p:JO->T->Prop)(x:Int):bA:=qv.add 138 (Qa p λ_=>some (iI x))
def YN(C:Nat->Nat->ao)(ln:Nat->Nat):Nat->Int
 |0=>0
 |i+1=>if YN C ln i≠0 then YN C ln i else rE (C i) (ln i)
def Dv(C:Nat->Nat->ao)(ln:Nat->Nat)(i:Nat):Bool:=decide (mX (C (i+1)) (ln (i+1))=nY (C i) (ln i))
def Eu(C:Nat->Nat->ao)(ln:Nat->Nat):Nat->Bool
 |0=>true
 |i+1=>Eu C ln i&&Dv C ln i
def tq(C:Nat->Nat->ao)(ln:Nat->Nat)(h:Nat):Int:=if 31<h then 3 else if h%2=0 then 1 else if YN C ln h≠0 then YN C ln h else if Eu C ln (h-1)=true then 0 else 14
def i55(C:Nat->Nat->ao)(ln:Nat->Nat)(h:Nat)(i:Nat)(x:Int)(p:JO->T->Prop):QB aw G17 az (J6 p x) 0 102 [] 6 (ra C ln h i) [] =
( bif decide (ofNat i<ofNat h) then gD (decide (0<=ofNat i)&&decide (ofNat i<ofNat h))<|gD (qM (p [cF (C i) (ln i)
 none] (iI x)))<|bif !decide (x=0) then zR (rP C ln h x) [] else
 zN (ra C ln h (i64.wrap (ofNat i+1))) [] else
 zX 0 [bG C ln h,.undef] []):=qh
def Uy(C:Nat->Nat->ao)(ln:Nat->Nat)(h:Nat)(i:Nat)(x y:Int)(p q:JO->T->Prop):QB aw G17 az (Cm p q x y) 0 102 [] 13 (rP C ln h (i+1:Nat)) [] =
( bif decide (ofNat (i+1)<ofNat h) then gD (decide (0<=ofNat (i+1))&&decide (ofNat (i+1)<ofNat h))<|gD (qM (p [cF (C (i+1)) (ln (i+1))
 none] (iI x)))<|gD (decide (0<=i64.wrap (ofNat (i+1)-(1:Int)))&&decide (i64.wrap (ofNat (i+1)-(1:Int))<ofNat h))<|gD (qM (q [cF (C (i64.wrap (ofNat (i+(1:Nat))-(1:Int))).toNat) (ln (i64.wrap (ofNat (i+(1:Nat))-(1:Int))).toNat)
 none] (iI y)))<|bif !decide (x=y) then zR [iI 14] [] else
 zN (rP C ln h (i64.wrap (ofNat (i+1)+(1:Int)))) [] else
 zX 2 [.undef] []):=qh
def k55(C:Nat->Nat->ao)(ln:Nat->Nat)(h:Nat)(x:Int):ZV aw G17 az qv 0 102 [(6,Qx (ra C ln h 0) [] .ret [bG C ln h,iI x] [])] [bG C ln h] =
( bif decide (31<ofNat h) then some (iI 3) else
 bif decide ((ofNat h).tmod 2=0) then some (iI 1) else
 gD (Zy (ra C ln h (0:Int)) [] (ra C ln h (0:Int)) [])<|some (iI x)):=qh
def qs3(C:Nat->Nat->ao)(ln:Nat->Nat)(h:Nat):ZV aw G17 az qv 0 102 [(6,Qx (ra C ln h 0) [] (.exit 0) [bG C ln h,.undef] []),(13,Qx (rP C ln h 1) [] (.exit 2) [.undef] [])] [bG C ln h] =
( bif decide (31<ofNat h) then some (iI 3) else
 bif decide ((ofNat h).tmod 2=0) then some (iI 1) else
 gD (Zy (ra C ln h (0:Int)) [] (ra C ln h (0:Int)) [])<|gD (Zy (rP C ln h (1:Int)) [] (rP C ln h (1:Int)) [])<|some (iI 0)):=qh
def qs4(C:Nat->Nat->ao)(ln:Nat->Nat)(h:Nat):ZV aw G17 az qv 0 102 [(6,Qx (ra C ln h 0) [] (.exit 0) [bG C ln h,.undef] []),(13,Qx (rP C ln h 1) [] .ret [iI 14] [])] [bG C ln h] =
( bif decide (31<ofNat h) then some (iI 3) else
 bif decide ((ofNat h).tmod 2=0) then some (iI 1) else
 gD (Zy (ra C ln h (0:Int)) [] (ra C ln h (0:Int)) [])<|gD (Zy (rP C ln h (1:Int)) [] (rP C ln h (1:Int)) [])<|some (iI 14)):=qh
def JJ(C:Nat->Nat->ao)(ln:Nat->Nat):∀h,(∀i,i<h->rE (C i) (ln i)=0)->YN C ln h=0
 |0,_=>rfl
 |h+1,q=>by
  unfold YN;rw[we (by rw[JJ C ln h λi a=>q i ae];simp),q h ae]
def Uz(C:Nat->Nat->ao)(ln:Nat->Nat)(I:Nat)(d:rE (C I) (ln I)≠0)(e:∀i,i<I->rE (C i) (ln i)=0):∀h,I<h->YN C ln h=rE (C I) (ln I)
 |h+1,f=>by
  unfold YN;by_cases q:h=I
  .subst q;rw[we (by rw[JJ C ln h e];simp)]
  .have a:=Uz C ln I d e h ae;rw[wl (by rw[a];exact d),a]
def YO(C:Nat->Nat->ao)(ln:Nat->Nat):∀n,Eu C ln n=true↔∀i,i<n->Dv C ln i=true
 |0=>⟨λ_ i h=>ae,λ_=>rfl⟩
 |n+1=>by
  have a:=YO C ln n;unfold Eu;rw[wg,a];constructor
  .intro ⟨h1,f⟩ i d;by_cases e:i=n
   .rw[e];exact f
   .exact h1 i ae
  .exact λh=>⟨λi d=>h i ae,h n ae⟩
def UA(C:Nat->Nat->ao)(ln:Nat->Nat)(h:Nat)(f:h<=1000)(p:JO->T->Prop)(hp:p=TO 138)(i:Nat)(e:i<h)(a:TO 138 [cF (C i) (ln i) none] (iI 0)):Step aw G17 (az 102) 102 6 0 (ra C ln h i) [] (ra C ln h (i+1:Nat)) []:=by
 refine Step.gu (A:=az) (K:=J6 p 0) (m:=0) (qr qp (qq hp)) rfl rfl qP (h1:=[]) ?_ .nil;have d:i64.wrap ((i:Int)+1)=((i+1:Nat):Int):=by rw[Qp ae ae];omega
 rw[i55,Qu i,d];refine BT ?_;refine BT ?_;refine qk (qu hp a) ?_;refine qF au ?_;rfl
def OE(h:Nat):decide ((ofNat h).tmod 2=0)=decide (h%2=0):=by
 rw[Qu,xh ae];by_cases q:h%2=0
 .rw[dT q,dT ae]
 .rw[dF q,dF ae]
def UB(C:Nat->Nat->ao)(ln:Nat->Nat)(h:Nat)(S:h<=1000)(o:∀i,i<h->ln i<=1000)(hC:∀i j,(C i j).Ok):TO 102 [bG C ln h] (iI (tq C ln h)):=by
 unfold tq;obtain⟨p,s⟩:=qE aw G17 138;rcases yA (λi=>decide (rE (C i) (ln i)=0)) h with B|⟨I,U,z,D⟩
 .have B:∀i,i<h->rE (C i) (ln i)=0:=λi a=>by simpa using B i a
  rw[JJ C ln h B];have u:aG aw G17 (az 102) 102 6 (Qx (ra C ln h 0) [] (.exit 0) [bG C ln h,.undef] []):=by
   refine qV qY qh (λi=>ra C ln h i) (λ_=>[]) (n:=h) (λi a=>UA C ln h S p s i a (by have:=OD (C i) (ln i) none (o i a) (hC i);rw[B i a] at this;exact this)) ?_;refine cz.gu (A:=az) (K:=J6 p 0) (m:=0) (qr qp (qq s)) rfl rfl qP (h1:=[]) au ?_ .nil;rw[i55];refine BF ?_;rfl
  obtain⟨k,X⟩:=qE aw G17 41;obtain⟨g,W⟩:=qE aw G17 60;have N:∀x y,OO (Cm k g x y):=λx y=>qr (qr qp (qq X)) (qq W);have tr:∀i,i<h->i+1<h->∀E e,(∀q,(bif !decide (mX (C (i+1)) (ln (i+1))=nY (C i) (ln i)) then some (Ex.ret,[iI 14],([]:qa)) else some (Ex.normal,rP C ln h (i+1+1:Nat),[]))=q->q=some (e,E,[]))->QB aw G17 az (Cm k g (mX (C (i+1)) (ln (i+1))) (nY (C i) (ln i))) 0 102 [] 13 (rP C ln h (i+1:Nat)) []=some (e,E,[]):=λi a Ee E e r=>by
   have H:=jP (C (i+1)) (ln (i+1)) none (o (i+1) Ee) (hC (i+1));have Y:=kS (C i) (ln i) none (o i a) (hC i);generalize mX (C (i+1)) (ln (i+1))=x at *
   generalize nY (C i) (ln i)=y at *
   have ei:i64.wrap (((i+1:Nat):Int)+1)=((i+1+1:Nat):Int):=by rw[Qp ae ae];omega
   have P:(i64.wrap (((i+1:Nat):Int)-1)).toNat=i:=by rw[Qp ae ae];omega
   have O:i64.wrap (((i+1:Nat):Int)-1)=(i:Int):=by rw[Qp ae ae];omega
   rw[Uy,Qu (i+1),ei,P,O];refine BT ?_;refine BT ?_;refine qk (qu X H) ?_;refine BT ?_;refine qk (qu W Y) ?_;exact r _ rfl
  have st:∀i,i+1<h->Dv C ln i=true->Step aw G17 (az 102) 102 13 0 (rP C ln h (i+1:Nat)) [] (rP C ln h (i+1+1:Nat)) []:=λi a R=>by
   refine Step.gu (A:=az) (K:=Cm k g (mX (C (i+1)) (ln (i+1))) (nY (C i) (ln i))) (m:=0) (N _ _) rfl rfl qP (h1:=[]) (tr i ae a _ _ λq r=>?_) .nil;unfold Dv at R;rw[←r,R];rfl
  rcases yA (Dv C ln) (h-1) with V|⟨J,Z,Q,OF⟩
  .rw[wl ((YO C ln (h-1)).2 V)];by_cases h0:h=0
   .subst h0;refine Qm qY Qn qp (A:=az) (m:=0) qh (QS u) ?_;rw[(show ZV aw G17 az qv 0 102 [(6,Qx (ra C ln 0 0) [] (.exit 0) [bG C ln 0,.undef] [])] [bG C ln 0] =
( some (iI 1)) from qh)]
    rfl
   ·have M:aG aw G17 (az 102) 102 13 (Qx (rP C ln h 1) [] (.exit 2) [.undef] []):=by
     refine qV qY qh (λi=>rP C ln h (i+1:Nat)) (λ_=>[]) (n:=h-1) (λi a=>st i ae (V i a)) ?_;refine cz.gu (A:=az) (K:=Cm k g 0 0) (m:=0) (N _ _) rfl rfl qP (h1:=[]) au ?_ .nil;rw[Uy];refine BF ?_;rfl
    refine Qm qY Qn qp (A:=az) (m:=0) qh (IZ u (QS M)) ?_;rw[qs3,OE];by_cases f:31<h
    .rw[wl f];exact BT rfl
    rw[we f];refine BF ?_;by_cases d:h%2=0
    .rw[wl d];exact qk (dT d) rfl
    rw[we d];refine qF (by simpa using d) ?_;refine qk (QH ⟨rfl,.refl _⟩) ?_;refine qk (QH ⟨rfl,.refl _⟩) ?_;rfl
  ·have aZ:¬Eu C ln (h-1)=true:=λq=>by
    have:=(YO C ln (h-1)).1 q J Z;rw[Q] at this;cases this
   rw[we aZ];have M:aG aw G17 (az 102) 102 13 (Qx (rP C ln h 1) [] .ret [iI 14] []):=by
    refine qV qY qh (λi=>rP C ln h (i+1:Nat)) (λ_=>[]) (n:=J) (λi a=>st i ae (OF i a)) ?_;refine cz.gu (A:=az) (K:=Cm k g (mX (C (J+1)) (ln (J+1))) (nY (C J) (ln J))) (m:=0) (N _ _) rfl rfl qP (h1:=[]) au (tr J ae ae _ _ λq r=>?_) .nil;unfold Dv at Q;rw[←r,Q];rfl
   refine Qm qY Qn qp (A:=az) (m:=0) qh (IZ u (QS M)) ?_;rw[qs4,OE];by_cases f:31<h
   .rw[wl f];exact BT rfl
   rw[we f];refine BF ?_;by_cases d:h%2=0
   .rw[wl d];exact qk (dT d) rfl
   rw[we d];refine qF (by simpa using d) ?_;refine qk (QH ⟨rfl,.refl _⟩) ?_;refine qk (QH ⟨rfl,.refl _⟩) ?_;rfl
 .have z:rE (C I) (ln I)≠0:=by simpa using z
  have D:∀i,i<I->rE (C i) (ln i)=0:=λi a=>by simpa using D i a
  rw[Uz C ln I z D h U,wl z];have u:aG aw G17 (az 102) 102 6 (Qx (ra C ln h 0) [] .ret [bG C ln h,iI (rE (C I) (ln I))] []):=by
   refine qV qY qh (λi=>ra C ln h i) (λ_=>[]) (n:=I) (λi a=>UA C ln h S p s i ae (by have:=OD (C i) (ln i) none (o i ae) (hC i);rw[D i a] at this;exact this)) ?_;have H:=OD (C I) (ln I) none (o I U) (hC I);generalize rE (C I) (ln I)=x at *
   refine cz.gu (A:=az) (K:=J6 p x) (m:=0) (qr qp (qq s)) rfl rfl qP (h1:=[]) au ?_ .nil;rw[i55];refine BT ?_;refine BT ?_;refine qk (qu s H) ?_;refine qk (by simp[z]) ?_;rfl
  generalize rE (C I) (ln I)=x at *
  refine Qm qY Qn qp (A:=az) (m:=0) qh (QS u) ?_;rw[k55,OE];by_cases f:31<h
  .rw[wl f];exact BT rfl
  rw[we f];refine BF ?_;by_cases d:h%2=0
  .rw[wl d];exact qk (dT d) rfl
  rw[we d];refine qF (by simpa using d) ?_;exact qk (QH ⟨rfl,.refl _⟩) rfl
def br(B:Nat->Int)(n:Nat)(c:Option Nat):T:=.view 1 n (λj=>[iI (B j)]) c
def QX(g:Nat->Int)(n:Nat):qa:=[⟨0,1,n,λj=>[iI (g j)],true,false,none⟩]
def tu(s:ao)(B:Nat->Int)(n:Nat)(c:Option Nat)(i:Int):JO:=[br B n c,.ah s.c,br B n c,iI n,iI i]
def Bl(s:ao)(B:Nat->Int)(n:Nat)(c:Option Nat)(m:Nat)(i:Int):JO:=[br B n c,.ah s.c,.own 0 0 0 m (some m),iI m,iI i]
noncomputable def OG(p q r:JO->T->Prop)(e:Bool)(x y:Int):bA:=((qv.add 98 (Qa p λ_=>some (iI (Et e)))).add 77 (Qa q λ_=>some (iI x))).add 61 (Qa r λ_=>some (iI y))
def yk(B:Nat->Int)(j:Nat):Bool:=decide (1<=B j)&&decide (B j<=3)
def zH(B:Nat->Int):Nat->Bool
 |0=>true
 |j+1=>zH B j&&yk B j
def ao.mN(s:ao):Nat:=s.m.toNat
def ao.nN(s:ao):Nat:=s.n.toNat
def iY(s:ao)(B:Nat->Int)(n:Nat):Int:=if c9 s=false then 1 else if n≠s.nN then 5 else if zH B n=false then 1 else if s.k=4∨s.k=5 then(if 4<B 0+B 1 then 9 else 0) else if s.k=6 then(if B 0=3 then 9 else 0) else 0
def fe(s:ao)(B:Nat->Int)(j:Nat):Int:=if s.k=6/\j=0 then B 0+1 else if s.k=7/\j=0 then B 0 else 1
def J8(s:ao)(B:Nat->Int)(n:Nat):T:=if iY s B n=0 then .aK [.fresh true 1 s.mN (λj=>[iI (fe s B j)]) s.mN (some s.mN),iI 0] else .aK [.ag,iI (iY s B n)]
def i59(s:ao)(B:Nat->Int)(n:Nat)(c:Option Nat)(i:Nat):QB aw G17 az qv 0 103 [] 6 (tu s B n c i) [] =
( bif decide (ofNat i<ofNat n) then gD (decide (0<=ofNat i)&&decide (ofNat i<ofNat n))<|bif decide (B i<1) then zR [br B n c,.ah s.c,.ag,iI 1] [] else
 bif decide ((3:Int)<B i) then zR [br B n c,.ah s.c,.ag,iI 1] [] else
 zN (tu s B n c (i64.wrap (ofNat i+1))) [] else
 zX 0 [br B n c,.ah s.c,.undef,.undef] []):=qh
def Zg(B:Nat->Int):∀n,zH B n=true↔∀i,i<n->yk B i=true
 |0=>⟨λ_ i h=>ae,λ_=>rfl⟩
 |n+1=>by
  have a:=Zg B n;unfold zH;rw[wg,a];constructor
  .intro ⟨h1,f⟩ i d;by_cases e:i=n
   .rw[e];exact f
   .exact h1 i ae
  .exact λh=>⟨λi d=>h i ae,h n ae⟩
def Zr(B:Nat->Int)(j:Nat):yk B j=true↔1<=B j/\B j<=3:=by
 unfold yk;rw[wg,wC,wC]
def UC(s:ao)(B:Nat->Int)(n:Nat)(c:Option Nat)(e:n<=1000)(i:Nat)(f:i<n)(a:yk B i=true):Step aw G17 (az 103) 103 6 0 (tu s B n c i) [] (tu s B n c (i+1:Nat)) []:=by
 rw[Zr] at a;refine Step.gu (A:=az) (m:=0) qp rfl rfl qP (h1:=[]) ?_ .nil;have d:i64.wrap ((i:Int)+1)=((i+1:Nat):Int):=by rw[Qp ae ae];omega
 rw[i59,Qu i,d];refine BT ?_;refine BT ?_;refine BF ?_;refine BF ?_;rfl
def qs5(s:ao)(B:Nat->Int)(n:Nat)(c:Option Nat)(m:Nat)(r:m<=1000):aG aw G17 (az 103) 103 13 (Qx (Bl s B n c m 0) (QX (λ_=>0) m) (.exit 2) [br B n c,.ah s.c,.own 0 0 0 m (some m)] (QX (λ_=>1) m)):=by
 refine qV qY qh (λi=>Bl s B n c m i) (λi=>QX (λe=>bif Nat.blt e i then 1 else 0) m) (n:=m) (λi u=>?_) ?_
 ·have e:(λe=>bif Nat.blt e (i+1) then(1:Int) else 0)=λe=>bif e==0+i then 1 else bif Nat.blt e i then 1 else 0:=by
   funext e;rw[wn];by_cases q:e=i
   ·subst q;rw[wF,wm,qL ae,wm]
   ·rw[show(e==i)=false by simpa using q,wp];by_cases f:e<i
    .rw[qL f,qL ae]
    .rw[QP ae,QP ae]
  rw[e];clear e;obtain⟨g,a⟩:∃g:Nat->Int,g=λe=>bif Nat.blt e i then(1:Int) else 0:=⟨_,rfl⟩;have d:(λe=>bif e==0+i then(1:Int) else bif Nat.blt e i then 1 else 0)=λe=>bif e==0+i then 1 else g e:=by rw[a]
  rw[d,←a];clear d a;refine Step.gu (A:=az) (m:=0) qp rfl rfl qP (h1:=QX (λe=>bif e==0+i then 1 else g e) m) ?_ (.refl _);rw[(show QB aw G17 az qv 0 103 [] 13 (Bl s B n c m i) (QX g m) =
( bif decide (ofNat i<ofNat m) then gD (decide (0<=ofNat i)&&decide (ofNat i<ofNat m))<|gD (((0:Nat)+i).blt m&&true&&true&&true)<|zN (Bl s B n c m (i64.wrap (ofNat i+1))) (QX (λj=>bif j==0+i then(1:Int)
 else g j) m) else
 zX 2 [br B n c,.ah s.c,.own 0 0 0 m (some m)] (QX g m)) from qh)]
  have o:i64.wrap ((i:Int)+1)=((i+1:Nat):Int):=by rw[Qp ae ae];omega
  rw[Qu i,o];refine BT ?_;refine BT ?_;refine BT ?_;rfl
 .refine cz.gu (A:=az) (m:=0) qp rfl rfl qP (h1:=QX (λe=>bif Nat.blt e m then 1 else 0) m) au ?_ (.cons ⟨rfl,rfl,rfl,id,λj k=>?_⟩ .nil)
  .generalize (λe=>bif Nat.blt e m then(1:Int) else 0)=g at *
   rw[(show QB aw G17 az qv 0 103 [] 13 (Bl s B n c m m) (QX g m) =
( bif decide (ofNat m<ofNat m) then gD (decide (0<=ofNat m)&&decide (ofNat m<ofNat m))<|gD (((0:Nat)+m).blt m&&true&&true&&true)<|zN (Bl s B n c m (i64.wrap (ofNat m+1))) (QX (λj=>bif j==0+m then(1:Int)
 else g j) m) else
 zX 2 [br B n c,.ah s.c,.own 0 0 0 m (some m)] (QX g m)) from qh)]
   (repeat (first|refine BT ?_|refine BG ?_))
   rfl
  .show [iI 1]=[iI (bif Nat.blt j m then 1 else 0)];rw[qL k,wm]
def J9{s:ao}{B:Nat->Int}{n:Nat}(h:c9 s=false):iY s B n=1:=by simp[iY,h]
def OH{s:ao}{B:Nat->Int}{n:Nat}(h:c9 s=true)(h2:n≠s.nN):iY s B n=5:=by simp[iY,h,h2]
def UD{s:ao}{B:Nat->Int}{n:Nat}(h:c9 s=true)(h2:n=s.nN)(a:zH B n=false):iY s B n=1:=by simp[iY,h,←h2,a]
def OI{s:ao}{B:Nat->Int}{n:Nat}(h:c9 s=true)(h2:n=s.nN)(a:zH B n=true):iY s B n=if s.k=4∨s.k=5 then(if 4<B 0+B 1 then 9 else 0) else if s.k=6 then(if B 0=3 then 9 else 0) else 0:=by simp[iY,h,←h2,a]
def UE(s:ao)(N:s.Ok)(B:Nat->Int)(n:Nat)(c:Option Nat)(hn:n<=1000):TO 103 [s.t,br B n c] (J8 s B n):=by
 obtain⟨p,P⟩:=qE aw G17 98;obtain⟨q,O⟩:=qE aw G17 77;obtain⟨r,hr⟩:=qE aw G17 61;have Z:=kR s;have M:=jO s;have Y:=OC s;have hv:=s.mW N;have Dh:=s.nR N;have UF:=s.nS N;have oe:=qs5 s B n c s.mN (by unfold ao.mN;omega);have V:s.m=((s.mN:Nat):Int):=by unfold ao.mN;omega
 have U:s.n=((s.nN:Nat):Int):=by unfold ao.nN;omega
 have J:c9 s=true->s.k=4∨s.k=5->s.n=2:=λh1 z=>by
  unfold ao.n;rw[h1,wm];rcases z with z|z
  .rw[dF ae,dT z];rfl
  .rw[dF ae,dF ae,dT z];rfl
 have H:c9 s=true->s.k=6∨s.k=7->s.n=1/\s.m=1:=λh1 z=>by
  unfold ao.n ao.m;rw[h1,wm,dF ae,dF ae,dF ae,dF ae];exact⟨rfl,rfl⟩
 rw[V] at Y;rw[U] at M;unfold J8;have hmN:s.mN<=4:=by unfold ao.mN;omega
 generalize hm:s.mN=m at *
 generalize hx:s.nN=x at *
 have ap:OO (OG p q r (c9 s) x m):=qr (qr (qr qp (qq P)) (qq O)) (qq hr);rcases yA (yk B) n with R|⟨I,hI,S,aN⟩
 ·have X:=(Zg B n).2 R;have hB:∀i,i<n->1<=B i/\B i<=3:=λi u=>(Zr B i).1 (R i u);have Q:aG aw G17 (az 103) 103 6 (Qx (tu s B n c 0) [] (.exit 0) [br B n c,.ah s.c,.undef,.undef] []):=by
   refine qV qY qh (λi=>tu s B n c i) (λ_=>[]) (n:=n) (λi u=>UC s B n c hn i u (R i u)) ?_;refine cz.gu (A:=az) (m:=0) qp rfl rfl qP (h1:=[]) au ?_ .nil;rw[i59];refine BF ?_;rfl
  refine Qm qY Qn ap (A:=az) (m:=0) qh (IZ Q (QS oe)) ?_;rw[show c9 s=c9 s from rfl];generalize g:c9 s=e at *
  rw[(show ZV aw G17 az (OG p q r e x m) 0 103 [(6,Qx (tu s B n c 0) [] (.exit 0) [br B n c,.ah s.c,.undef,.undef] []),(13,Qx (Bl s B n c m 0) (QX (λ_=>0) m) (.exit 2) [br B n c,.ah s.c,.own 0 0 0 m (some m)] (QX (λ_=>1) m))] [s.t,br B n c] =
( gD (qM (p [s.t] (iI (bif e then(0:Int)
 else(1:Int)))))<|bif !decide ((bif e then(0:Int)
 else(1:Int))=(0:Int)) then some (.aK [.ag,iI 1]) else
 gD (qM (q [s.t] (iI (.ofNat x))))<|bif !decide (ofNat n=ofNat x) then some (.aK [.ag,iI 5]) else
 gD (Zy (tu s B n c (0:Int)) [] (tu s B n c (0:Int)) [])<|gD (qM (r [s.t] (iI (.ofNat m))))<|gD (decide (0<=ofNat m)&&decide (ofNat m<=ofNat m)&&decide (ofNat m*8<=140737488355328)&&decide (ofNat m<=9223372036854775807))<|gD (Zy (Bl s B n c m (0:Int)) (QX (λj=>(0:Int)) m) (Bl s B n c m (0:Int)) (QX (λj=>(0:Int)) m))<|bif decide (s.k=4) then gD (decide (0<ofNat n))<|gD (decide (1<ofNat n))<|bif decide (4<i64.wrap (B (0:Nat)+B (1:Nat))) then some (.aK [.ag,iI 9]) else
 some (.aK [bif ((0:Nat)+m).ble m then .fresh true (1:Nat) m (λj=>[iI 1]) m (some m)
 else .undef,iI 0]) else
 bif decide (s.k=5) then gD (decide (0<ofNat n))<|gD (decide (1<ofNat n))<|bif decide (4<i64.wrap (B (0:Nat)+B (1:Nat))) then some (.aK [.ag,iI 9]) else
 some (.aK [bif ((0:Nat)+m).ble m then .fresh true (1:Nat) m (λj=>[iI 1]) m (some m)
 else .undef,iI 0]) else
 bif decide (s.k=6) then gD (decide (0<ofNat n))<|bif decide (B (0:Nat)=(3:Int)) then some (.aK [.ag,iI 9]) else
 gD (decide (0<ofNat n))<|gD (decide (0<ofNat m))<|gD (Nat.blt 0 m&&true&&true&&true)<|some (.aK [bif ((0:Nat)+m).ble m then .fresh true (1:Nat) m (λj=>[iI (bif 0+j==(0:Nat) then i64.wrap (B (0:Nat)+(1:Int))
 else(1:Int))]) m (some m)
 else .undef,iI 0]) else
 bif decide (s.k=7) then gD (decide (0<ofNat n))<|gD (decide (0<ofNat m))<|gD (Nat.blt 0 m&&true&&true&&true)<|some (.aK [bif ((0:Nat)+m).ble m then .fresh true (1:Nat) m (λj=>[iI (bif 0+j==(0:Nat) then B (0:Nat)
 else(1:Int))]) m (some m)
 else .undef,iI 0]) else
 some (.aK [bif ((0:Nat)+m).ble m then .fresh true (1:Nat) m (λj=>[iI 1]) m (some m)
 else .undef,iI 0])) from qh)]
  refine qk (qu P Z) ?_;cases e
  .rw[J9 g];rfl
  refine qF au ?_;refine qk (qu O M) ?_;by_cases h1:n=x
  case neg =>
   rw[OH g ae,we ae];refine BT ?_;rfl
  have a:=OI (B:=B) g (show n=s.nN by omega) X;refine qF (by simp[h1]) ?_;refine qk (QH ⟨rfl,.refl _⟩) ?_;refine qk (qu hr Y) ?_;refine BT ?_;refine qk (QH ⟨rfl,.refl _⟩) ?_;simp only[wn,Nat.sub_zero,qO (wc _),wm,Bool.and_true];have hv:=hv.1 rfl;have J:=J rfl;have H:=H rfl;by_cases C:s.k=4
  .have:=J (.inl C);have W:=hB 0 ae;have b1:=hB 1 ae;rw[wl (.inl C)] at a;rw[Qp ae ae];refine qk (dT C) ?_;refine BT ?_;refine BT ?_;by_cases d:4<B 0+B 1
   .rw[wl d] at a;rw[a];exact qk (dT d) rfl
   .rw[we d] at a;refine qF (by simpa using d) ?_;rw[a,wl rfl,show(λj=>[iI (fe s B j)])=λj=>[iI 1] by funext j;unfold fe;rw[we ae,we ae]]
  by_cases E:s.k=5
  .have:=J (.inr E);have W:=hB 0 ae;have b1:=hB 1 ae;rw[wl (.inr E)] at a;rw[Qp ae ae];refine qF (by simpa using C) ?_;refine qk (dT E) ?_;refine BT ?_;refine BT ?_;by_cases d:4<B 0+B 1
   .rw[wl d] at a;rw[a];exact qk (dT d) rfl
   .rw[we d] at a;refine qF (by simpa using d) ?_;rw[a,wl rfl,show(λj=>[iI (fe s B j)])=λj=>[iI 1] by funext j;unfold fe;rw[we ae,we ae]]
  rw[we ae] at a;refine qF (by simpa using C) ?_;refine qF (by simpa using E) ?_;by_cases o:s.k=6
  .have Lc:=H (.inl o);have W:=hB 0 ae;rw[wl o] at a;refine qk (dT o) ?_;refine BT ?_;by_cases d:B 0=3
   .rw[wl d] at a;rw[a];exact qk (dT d) rfl
   ·rw[we d] at a;refine qF (by simpa using d) ?_;refine BT ?_;refine BT ?_;refine qk (by rw[qL ae]) ?_;rw[Qp ae ae,a,wl rfl,show(λj=>[iI (fe s B j)])=λj=>[iI (bif j==0 then B 0+1 else 1)] by
     funext j;unfold fe;by_cases f:j=0
     ·rw[wl ⟨o,f⟩,f];rfl
     ·rw[we ae,we ae,show(j==0)=false by simpa using f];rfl]
  rw[we o] at a;refine qF (by simpa using o) ?_;by_cases D:s.k=7
  ·have Lc:=H (.inr D);have W:=hB 0 ae;refine qk (dT D) ?_;refine BT ?_;refine BT ?_;refine qk (by rw[qL ae]) ?_;rw[a,wl rfl,show(λj=>[iI (fe s B j)])=λj=>[iI (bif j==0 then B 0 else 1)] by
    funext j;unfold fe;by_cases f:j=0
    ·rw[we ae,wl ⟨D,f⟩,f];rfl
    ·rw[we ae,we ae,show(j==0)=false by simpa using f];rfl]
  refine qF (by simpa using D) ?_;rw[a,wl rfl,show(λj=>[iI (fe s B j)])=λj=>[iI 1] by funext j;unfold fe;rw[we ae,we ae]]
 ·have X:zH B n=false:=by
   cases h:zH B n
   ·rfl
   ·have:=(Zg B n).1 h I hI;rw[S] at this;cases this
  have Q:aG aw G17 (az 103) 103 6 (Qx (tu s B n c 0) [] .ret [br B n c,.ah s.c,.ag,iI 1] []):=by
   refine qV qY qh (λi=>tu s B n c i) (λ_=>[]) (n:=I) (λi u=>UC s B n c hn i ae (aN i u)) ?_;refine cz.gu (A:=az) (m:=0) qp rfl rfl qP (h1:=[]) au ?_ .nil;have Dh:¬(1<=B I/\B I<=3):=λh=>by rw[(Zr B I).2 h] at S;cases S
   rw[i59];refine BT ?_;refine BT ?_;by_cases h1:B I<1
   .exact qk (dT h1) rfl
   .refine qF (by simpa using h1) ?_;exact BT rfl
  refine Qm qY Qn ap (A:=az) (m:=0) qh (QS Q) ?_;generalize g:c9 s=e at *
  rw[(show ZV aw G17 az (OG p q r e x m) 0 103 [(6,Qx (tu s B n c 0) [] .ret [br B n c,.ah s.c,.ag,iI 1] [])] [s.t,br B n c] =
( gD (qM (p [s.t] (iI (bif e then(0:Int)
 else(1:Int)))))<|bif !decide ((bif e then(0:Int)
 else(1:Int))=(0:Int)) then some (.aK [.ag,iI 1]) else
 gD (qM (q [s.t] (iI (.ofNat x))))<|bif !decide (ofNat n=ofNat x) then some (.aK [.ag,iI 5]) else
 gD (Zy (tu s B n c (0:Int)) [] (tu s B n c (0:Int)) [])<|some (.aK [.ag,iI 1])) from qh)]
  refine qk (qu P Z) ?_;cases e
  .rw[J9 g];rfl
  refine qF au ?_;refine qk (qu O M) ?_;by_cases h1:n=x
  case neg =>
   rw[OH g ae,we ae];refine BT ?_;rfl
  rw[UD g ae X,we ae];refine qF (by simp[h1]) ?_;exact qk (QH ⟨rfl,.refl _⟩) rfl
def Qs(L:Nat->Nat->Int)(W:Nat->Nat)(h:Nat):aq:=⟨0,1,1+h,λe=>[br (L e) (W e) (some (W e))],false,false,none⟩
def zJ(g:Nat->Int)(m:Nat):aq:=⟨0,1,m,λe=>[iI (g e)],true,false,none⟩
def Dx(C:Nat->Nat->ao)(ln:Nat->Nat)(h:Nat)(n:Nat)(i:Int):JO:=[.ah [bG C ln h],.own 0 0 0 n (some n),iI n,iI i]
def j5(C:Nat->Nat->ao)(ln:Nat->Nat)(h i:Nat):JO:=[.own 0 0 0 (i+1) (some (1+h)),iI 0,bG C ln h,iI h,iI i]
def JK(C:Nat->Nat->ao)(ln:Nat->Nat)(h i:Nat)(B:Nat->Int)(w:Nat)(o m:Nat)(k:Nat):JO:=[.own 0 0 0 (i+1) (some (1+h)),iI 0,br B w (some w),.own 1 0 0 o (some m),bG C ln h,iI h,iI i,cF (C i) (ln i) none,iI (ln i),iI k]
def AJ(C:Nat->Nat->ao)(ln:Nat->Nat)(h i m:Nat)(e:Int)(o:Nat):JO:=[.own 0 0 0 (i+1) (some (1+h)),iI e,.own 1 0 0 o (some m),bG C ln h,iI h,iI i]
noncomputable def Gv(p q:JO->T->Prop)(x:Nat)(r:T):bA:=(qv.add 77 (Qa p λ_=>some (iI x))).add 103 (Qa q λ_=>some r)
noncomputable def Ld(p:JO->T->Prop)(m:Nat):bA:=qv.add 60 (Qa p λ_=>some (iI m))
noncomputable def Gw(p q:JO->T->Prop)(e:Int)(n:Nat):bA:=(qv.add 102 (Qa p λ_=>some (iI e))).add 41 (Qa q λ_=>some (iI n))
def Qo(r:Nat->ao):Nat->Nat
 |0=>0
 |k+1=>Qo r k+(r k).nN
def Qq(r:Nat->ao):Nat->Nat
 |0=>0
 |k+1=>Qq r k+(r k).mN
def YS(r:Nat->ao)(B:Nat->Int):Nat->Nat->Int
 |0=>λ_=>0
 |k+1=>λj=>bif Nat.ble (Qq r k) j&&Nat.blt j (Qq r k+(r k).mN) then fe (r k) (λt=>B (Qo r k+t)) (j-Qq r k) else YS r B k j
def nA(r:Nat->ao)(B:Nat->Int)(k:Nat):Int:=iY (r k) (λj=>B (Qo r k+j)) (r k).nN
def yl(r:Nat->ao)(B:Nat->Int):Nat->Int
 |0=>0
 |k+1=>if yl r B k≠0 then yl r B k else nA r B k
def LD(C:Nat->Nat->ao)(ln:Nat->Nat):Nat->Nat->Int
 |0=>λ_=>1
 |i+1=>YS (C i) (LD C ln i) (ln i)
def WD(C:Nat->Nat->ao)(ln:Nat->Nat):Nat->Nat
 |0=>Qo (C 0) (ln 0)
 |i+1=>Qq (C i) (ln i)
def AK(C:Nat->Nat->ao)(ln:Nat->Nat):Nat->Int
 |0=>0
 |i+1=>if AK C ln i≠0 then AK C ln i else yl (C i) (LD C ln i) (ln i)
def ll(C:Nat->Nat->ao)(ln:Nat->Nat)(i e:Nat):Nat:=bif Nat.ble e i then WD C ln e else 0
def UG(C:Nat->Nat->ao)(ln:Nat->Nat)(h n i:Nat)(g:Nat->Int):QB aw G17 az qv 0 70 [] 6 (Dx C ln h n i) (QX g n) =
( bif decide (ofNat i<ofNat n) then gD (decide (0<=ofNat i)&&decide (ofNat i<ofNat n))<|gD (((0:Nat)+i).blt n&&true&&true&&true)<|zN (Dx C ln h n (i64.wrap (ofNat i+1))) (QX (λj=>bif j==0+i then(1:Int)
 else g j) n) else
 zX 0 [.ah [bG C ln h],.own 0 0 0 n (some n)] (QX g n)):=qh
def Ku(r:Nat->ao)(hr:∀j,(r j).Ok):∀n,mX r n=((Qo r n:Nat):Int)/\nY r n=((Qq r n:Nat):Int)
 |0=>⟨rfl,rfl⟩
 |n+1=>by
  obtain⟨h1,a⟩:=Ku r hr n;have o:=(r n).nR (hr n);have k:=(r n).nS (hr n);have g:mX r (n+1)=mX r n+(r n).n:=rfl;have f:nY r (n+1)=nY r n+(r n).m:=rfl;have e:Qo r (n+1)=Qo r n+(r n).n.toNat:=rfl;have d:Qq r (n+1)=Qq r n+(r n).m.toNat:=rfl;rw[g,f,e,d,h1,a];omega
def OJ(r:Nat->ao){k n:Nat}(h:k<=n):Qo r k<=Qo r n/\Qq r k<=Qq r n:=by
 induction h with
 |refl=>exact⟨wc _,wc _⟩
 |step _ e =>
  have d:∀n,Qo r (n+1)=Qo r n+(r n).nN:=λ_=>rfl;have a:∀n,Qq r (n+1)=Qq r n+(r n).mN:=λ_=>rfl;rw[d,a];omega
def Kv(r:Nat->ao)(B:Nat->Int):∀n,(∀i,i<n->nA r B i=0)->yl r B n=0
 |0,_=>rfl
 |n+1,q=>by
  unfold yl;rw[we (by rw[Kv r B n λi a=>q i ae];simp),q n ae]
def OK(r:Nat->ao)(B:Nat->Int)(I:Nat)(d:nA r B I≠0)(e:∀i,i<I->nA r B i=0):∀n,I<n->yl r B n=nA r B I
 |n+1,f=>by
  unfold yl;by_cases q:n=I
  .subst q;rw[we (by rw[Kv r B n e];simp)]
  .have a:=OK r B I d e n ae;rw[wl (by rw[a];exact d),a]
def jQ(C:Nat->Nat->ao)(ln:Nat->Nat):∀n,(∀i,i<n->yl (C i) (LD C ln i) (ln i)=0)->AK C ln n=0
 |0,_=>rfl
 |n+1,q=>by
  unfold AK;rw[we (by rw[jQ C ln n λi a=>q i ae];simp),q n ae]
def UH(C:Nat->Nat->ao)(ln:Nat->Nat)(I:Nat)(d:yl (C I) (LD C ln I) (ln I)≠0)(e:∀i,i<I->yl (C i) (LD C ln i) (ln i)=0):∀n,I<n->AK C ln n=yl (C I) (LD C ln I) (ln I)
 |n+1,f=>by
  unfold AK;by_cases q:n=I
  .subst q;rw[we (by rw[jQ C ln n e];simp)]
  .have a:=UH C ln I d e n ae;rw[wl (by rw[a];exact d),a]
def qq5{s:ao}{B:Nat->Int}{n:Nat}(h:iY s B n=0):c9 s=true:=by
 cases q:c9 s
 .rw[J9 q] at h;exact absurd h (by decide)
 .rfl
def qs6(C:Nat->Nat->ao)(ln:Nat->Nat)(h n:Nat)(r:n<=1000):aG aw G17 (az 70) 70 6 (Qx (Dx C ln h n 0) (QX (λ_=>0) n) (.exit 0) [.ah [bG C ln h],.own 0 0 0 n (some n)] (QX (λ_=>1) n)):=by
 refine qV qY qh (λi=>Dx C ln h n i) (λi=>QX (λe=>bif Nat.blt e i then 1 else 0) n) (n:=n) (λi s=>?_) ?_
 ·have e:(λe=>bif Nat.blt e (i+1) then(1:Int) else 0)=λe=>bif e==0+i then 1 else bif Nat.blt e i then 1 else 0:=by
   funext e;rw[wn];by_cases q:e=i
   ·subst q;rw[wF,wm,qL ae,wm]
   ·rw[show(e==i)=false by simpa using q,wp];by_cases f:e<i
    .rw[qL f,qL ae]
    .rw[QP ae,QP ae]
  rw[e];clear e;obtain⟨g,a⟩:∃g:Nat->Int,g=λe=>bif Nat.blt e i then(1:Int) else 0:=⟨_,rfl⟩;have d:(λe=>bif e==0+i then(1:Int) else bif Nat.blt e i then 1 else 0)=λe=>bif e==0+i then 1 else g e:=by rw[a]
  rw[d,←a];clear d a;refine Step.gu (A:=az) (m:=0) qp rfl rfl qP (h1:=QX (λe=>bif e==0+i then 1 else g e) n) ?_ (.refl _);have o:i64.wrap ((i:Int)+1)=((i+1:Nat):Int):=by rw[Qp ae ae];omega
  rw[UG,Qu i,o];refine BT ?_;refine BT ?_;refine BT ?_;rfl
 .refine cz.gu (A:=az) (m:=0) qp rfl rfl qP (h1:=QX (λe=>bif Nat.blt e n then 1 else 0) n) au ?_ (.cons ⟨rfl,rfl,rfl,id,λj k=>?_⟩ .nil)
  .rw[UG];refine BF ?_;rfl
  .show [iI 1]=[iI (bif Nat.blt j n then 1 else 0)];rw[qL k,wm]
def qs7(C:Nat->Nat->ao)(ln:Nat->Nat)(h i:Nat)(B g:Nat->Int)(w o m k x y:Nat)(G:Nat->Int)(L:Nat->Nat->Int)(W:Nat->Nat)(p q:JO->T->Prop):QB aw G17 az (Gv p q x (.aK [.new (br G y (some y)),iI 0])) 0 70 [] 19 (JK C ln h i B w o m k) [Qs L W h,zJ g m] =
( bif decide (ofNat k<ofNat (ln i)) then gD (decide (0<=ofNat k)&&decide (ofNat k<ofNat (ln i)))<|gD (qM (p [(C i k).t] (iI (.ofNat x))))<|gD (decide (0<=ofNat x)&&decide (ofNat x<=ofNat w))<|gD (x.ble w)<|gD (qM (q [(C i k).t,br (λj=>B (0+j)) x (some w)] (.aK [(br G y (some y)).new,iI 0])))<|gD (decide (0<=ofNat x)&&decide (ofNat x<=ofNat w)&&decide (ofNat w<=ofNat w))<|gD (w.ble w)<|gD (((0:Nat)+o).ble m)<|bif y==(0:Nat) then zN [.own 0 0 0 (i+1) (some (1+h)),iI 0,br (λj=>B (x+j)) (w-x) (some (w-x)),.own 1 0 0 o (some m),bG C ln h,iI (.ofNat h),iI (.ofNat i),cF (C i) (ln i)
 none,iI (.ofNat (ln i)),iI (i64.wrap (ofNat k+1))] (Qs L W h::QX g m) else
 gD (((o+y)*(9:Nat)).ble 70368744177664)<|bif (o+y).ble m then gD (((0:Nat)+o+y).ble m)<|zN [.own 0 0 0 (i+1) (some (1+h)),iI 0,br (λj=>B (x+j)) (w-x) (some (w-x)),.own 1 0 0 (o+y) (some m),bG C ln h,iI (.ofNat h),iI (.ofNat i),cF (C i) (ln i)
 none,iI (.ofNat (ln i)),iI (i64.wrap (ofNat k+1))] [Qs L W h,.mk 0 1 m (λj=>bif ((0:Nat)+o).ble j&&j.blt (0+o+y) then [iI (G (j-(0+o)))]
 else [iI (g j)]) true false
 none] else
 zN [.own 0 0 0 (i+1) (some (1+h)),iI 0,br (λj=>B (x+j)) (w-x) (some (w-x)),.own 2 0 0 (o+y)
 none,bG C ln h,iI (.ofNat h),iI (.ofNat i),cF (C i) (ln i)
 none,iI (.ofNat (ln i)),iI (i64.wrap (ofNat k+1))] [Qs L W h,zJ g m,.mk 0 1 (o+y) (λj=>bif j.blt o then [iI (g (0+j))]
 else [iI (G (j-o))]) true false
 none] else
 zX 4 (AJ C ln h i m (0:Int) o) (Qs L W h::QX g m)):=qh
def UI(C:Nat->Nat->ao)(ln:Nat->Nat)(h i:Nat)(B g:Nat->Int)(w o m k x:Nat)(e:Int)(L:Nat->Nat->Int)(W:Nat->Nat)(p q:JO->T->Prop):QB aw G17 az (Gv p q x (.aK [.ag,iI e])) 0 70 [] 19 (JK C ln h i B w o m k) [Qs L W h,zJ g m] =
( bif decide (ofNat k<ofNat (ln i)) then gD (decide (0<=ofNat k)&&decide (ofNat k<ofNat (ln i)))<|gD (qM (p [(C i k).t] (iI (.ofNat x))))<|gD (decide (0<=ofNat x)&&decide (ofNat x<=ofNat w))<|gD (x.ble w)<|gD (qM (q [(C i k).t,br (λj=>B (0+j)) x (some w)] (.aK [.ag,iI e])))<|bif !decide (e=0) then zX 2 (AJ C ln h i m e o) (Qs L W h::QX g m) else
 gD (decide (0<=ofNat x)&&decide (ofNat x<=ofNat w)&&decide (ofNat w<=ofNat w))<|gD (w.ble w)<|gD (((0:Nat)+o).ble m)<|zN [.own 0 0 0 (i+1) (some (1+h)),iI 0,br (λj=>B (x+j)) (w-x) (some (w-x)),.own 1 0 0 o (some m),bG C ln h,iI (.ofNat h),iI (.ofNat i),cF (C i) (ln i)
 none,iI (.ofNat (ln i)),iI (i64.wrap (ofNat k+1))] (Qs L W h::QX g m) else
 zX 4 (AJ C ln h i m (0:Int) o) (Qs L W h::QX g m)):=qh
section
variable (C:Nat->Nat->ao) (ln:Nat->Nat) (h i:Nat) (B:Nat->Int) (L:Nat->Nat->Int) (W:Nat->Nat)
def UJ(hC:∀i j,(C i j).Ok)(R:ln i<=16)(S:Qq (C i) (ln i)<=16)(k:Nat)(H:k<ln i)(he:nA (C i) B k=0):Step aw G17 (az 70) 70 19 2 (JK C ln h i (λj=>B (Qo (C i) k+j)) (Qo (C i) (ln i)-Qo (C i) k) (Qq (C i) k) (Qq (C i) (ln i)) k) [Qs L W h,zJ (YS (C i) B k) (Qq (C i) (ln i))]
 (JK C ln h i (λj=>B (Qo (C i) (k+1)+j)) (Qo (C i) (ln i)-Qo (C i) (k+1)) (Qq (C i) (k+1)) (Qq (C i) (ln i)) (k+1)) [Qs L W h,zJ (YS (C i) B (k+1)) (Qq (C i) (ln i))]:=by
 obtain⟨p,E⟩:=qE aw G17 77;obtain⟨q,D⟩:=qE aw G17 103;have s:=jO (C i k);have X:=(C i k).nR (hC i k);have V:=(C i k).nS (hC i k);rw[show(C i k).n=(((C i k).nN:Nat):Int) by unfold ao.nN;omega] at s;have t2:=UE (C i k) (hC i k) (λj=>B (Qo (C i) k+j)) (C i k).nN (some (Qo (C i) (ln i)-Qo (C i) k)) (by unfold ao.nN;omega);have d:=he;unfold nA at d;have Q:1<=(C i k).mN:=by
  have z:=qq5 d;have O:=((C i k).mW (hC i k)).1 z;unfold ao.mN ao.m;rw[z,wm];by_cases I:(C i k).k=8
  .rw[dT I,wm,Qp ae ae];omega
  .rw[dF I,wp];decide
 unfold J8 at t2;rw[wl d] at t2;have t2:=t2.fh;change TO 103 _ (.aK [.new (br (fe (C i k) (λj=>B (Qo (C i) k+j))) (C i k).mN (some (C i k).mN)),iI 0]) at t2;have u:=(OJ (C i) (show k+1<=ln i from H)).1;have M:=(OJ (C i) (show k+1<=ln i from H)).2;have f:Qo (C i) (k+1)=Qo (C i) k+(C i k).nN:=rfl;have e:Qq (C i) (k+1)=Qq (C i) k+(C i k).mN:=rfl;rw[f] at u;rw[e] at M;have J:YS (C i) B (k+1)=λj=>bif Nat.ble (Qq (C i) k) j&&Nat.blt j (Qq (C i) k+(C i k).mN) then fe (C i k) (λt=>B (Qo (C i) k+t)) (j-Qq (C i) k) else YS (C i) B k j:=rfl;rw[J,f,e,show(λj=>B (Qo (C i) k+(C i k).nN+j))=λj=>B (Qo (C i) k+((C i k).nN+j)) by funext j;rw[vG],show Qo (C i) (ln i)-(Qo (C i) k+(C i k).nN)=Qo (C i) (ln i)-Qo (C i) k-(C i k).nN by omega];clear J f e he d;generalize fe (C i k) (λt=>B (Qo (C i) k+t))=G at *
 generalize YS (C i) B k=g at *
 generalize (C i k).mN=y at *
 generalize (C i k).nN=x at *
 generalize Qq (C i) (ln i)=m at *
 generalize Qq (C i) k=o at *
 have N:x<=Qo (C i) (ln i)-Qo (C i) k:=by omega
 generalize Qo (C i) (ln i)-Qo (C i) k=w at *
 obtain⟨r,a⟩:∃r:Nat->Int,r=λj=>B (Qo (C i) k+j):=⟨_,rfl⟩;rw[show(λj=>B (Qo (C i) k+(x+j)))=λj=>r (x+j) by rw[a],←a];rw[←a] at t2;clear a u;refine Step.gu (A:=az) (K:=Gv p q x (.aK [.new (br G y (some y)),iI 0])) (m:=0) (qr (qr qp (qq E)) (qq D)) rfl rfl qP (h1:=[Qs L W h,⟨0,1,m,λj=>bif Nat.ble o j&&Nat.blt j (o+y) then [iI (G (j-o))] else [iI (g j)],true,false,none⟩]) ?_ (.cons ⟨rfl,rfl,rfl,id,λ_ _=>rfl⟩ (.cons ⟨rfl,rfl,rfl,id,λj U=>?_⟩ .nil))
 .have P:i64.wrap ((k:Int)+1)=((k+1:Nat):Int):=by rw[Qp ae ae];omega
  rw[qs7,Qu k,P];simp only[wn,Nat.sub_zero];refine BT ?_;refine BT ?_;refine qk (qu E s) ?_;refine BT ?_;refine BT ?_;refine qk (qu D t2) ?_;refine BT ?_;refine BT ?_;refine BT ?_;refine BF ?_;refine BT ?_;refine BT ?_;refine BT ?_;rfl
 .show [iI (bif Nat.ble o j&&Nat.blt j (o+y) then G (j-o) else g j)]=bif Nat.ble o j&&Nat.blt j (o+y) then [iI (G (j-o))] else [iI (g j)];cases Nat.ble o j&&Nat.blt j (o+y)<;>rfl
def qs8(hC:∀i j,(C i j).Ok)(E:ln i<=16)(H:Qq (C i) (ln i)<=16)(k:Nat)(D:k<ln i)(he:nA (C i) B k≠0):cz aw G17 (az 70) 70 19 2 (JK C ln h i (λj=>B (Qo (C i) k+j)) (Qo (C i) (ln i)-Qo (C i) k) (Qq (C i) k) (Qq (C i) (ln i)) k) [Qs L W h,zJ (YS (C i) B k) (Qq (C i) (ln i))]
 (.exit 2) (AJ C ln h i (Qq (C i) (ln i)) (nA (C i) B k) (Qq (C i) k)) [Qs L W h,zJ (YS (C i) B k) (Qq (C i) (ln i))]:=by
 obtain⟨p,s⟩:=qE aw G17 77;obtain⟨q,r⟩:=qE aw G17 103;have d:=jO (C i k);have I:=(C i k).nR (hC i k);rw[show(C i k).n=(((C i k).nN:Nat):Int) by unfold ao.nN;omega] at d;have a:=UE (C i k) (hC i k) (λj=>B (Qo (C i) k+j)) (C i k).nN (some (Qo (C i) (ln i)-Qo (C i) k)) (by unfold ao.nN;omega);unfold J8 at a;rw[we (show ¬iY (C i k) (λj=>B (Qo (C i) k+j)) (C i k).nN=0 from he)] at a;change TO 103 _ (.aK [.ag,iI (nA (C i) B k)]) at a;generalize nA (C i) B k=e at *
 have f:=(OJ (C i) (show k+1<=ln i from D)).1;have u:Qo (C i) (k+1)=Qo (C i) k+(C i k).nN:=rfl;rw[u] at f;generalize YS (C i) B k=g at *
 generalize (C i k).nN=x at *
 generalize Qq (C i) (ln i)=m at *
 generalize Qq (C i) k=o at *
 have z:x<=Qo (C i) (ln i)-Qo (C i) k:=by omega
 generalize Qo (C i) (ln i)-Qo (C i) k=w at *
 generalize (λj=>B (Qo (C i) k+j))=J at *
 clear f u;refine cz.gu (A:=az) (K:=Gv p q x (.aK [.ag,iI e])) (m:=0) (qr (qr qp (qq s)) (qq r)) rfl rfl qP (h1:=[Qs L W h,zJ g m]) au ?_ (.refl _);rw[UI];simp only[wn,Nat.sub_zero];refine BT ?_;refine BT ?_;refine qk (qu s d) ?_;refine BT ?_;refine BT ?_;refine qk (qu r a) ?_;refine qk (by simp[he]) ?_;rfl
end
def OL(C:Nat->Nat->ao)(ln:Nat->Nat)(h:Nat):T:=.aK [.fresh false 1 (1+h) (λe=>[br (LD C ln e) (WD C ln e) (some (WD C ln e))]) (1+h) (some (1+h)),iI 0]
section
variable (C:Nat->Nat->ao) (ln:Nat->Nat) (h i:Nat) (B:Nat->Int) (L:Nat->Nat->Int) (W:Nat->Nat)
def qs9(hC:∀i j,(C i j).Ok)(d:ln i<=16)(e:Qq (C i) (ln i)<=16)(g:∀k,k<ln i->nA (C i) B k=0):aG aw G17 (az 70) 70 19 (Qx (JK C ln h i B (Qo (C i) (ln i)) 0 (Qq (C i) (ln i)) 0) [Qs L W h,zJ (λ_=>0) (Qq (C i) (ln i))] (.exit 4) (AJ C ln h i (Qq (C i) (ln i)) 0 (Qq (C i) (ln i))) [Qs L W h,zJ (YS (C i) B (ln i)) (Qq (C i) (ln i))]):=by
 have key:=qV (P:=aw) (Gl:=G17) (f:=70) (r:=19) qY qh (an:=az 70) (λk=>JK C ln h i (λj=>B (Qo (C i) k+j)) (Qo (C i) (ln i)-Qo (C i) k) (Qq (C i) k) (Qq (C i) (ln i)) k) (λk=>[Qs L W h,zJ (YS (C i) B k) (Qq (C i) (ln i))]) (n:=ln i) (e1:=.exit 4) (fA:=AJ C ln h i (Qq (C i) (ln i)) 0 (Qq (C i) (ln i))) (h1:=[Qs L W h,zJ (YS (C i) B (ln i)) (Qq (C i) (ln i))]) (λk a=>UJ C ln h i B L W hC d e k a (g k a)) ?_
 .rw[show(λj=>B (Qo (C i) 0+j))=B by funext j;rw[show Qo (C i) 0=0 from rfl,wn]] at key;exact key
 .refine cz.gu (A:=az) (K:=Gv (TO 77) (TO 103) 0 (.aK [.ag,iI 0])) (m:=0) (qr (qr qp (qq rfl)) (qq rfl)) rfl rfl qP (h1:=[Qs L W h,zJ (YS (C i) B (ln i)) (Qq (C i) (ln i))]) au ?_ (.refl _);rw[UI];refine BF ?_;rfl
def qta(hC:∀i j,(C i j).Ok)(a:ln i<=16)(d:Qq (C i) (ln i)<=16)(I:Nat)(s:I<ln i)(o:nA (C i) B I≠0)(g:∀k,k<I->nA (C i) B k=0):aG aw G17 (az 70) 70 19 (Qx (JK C ln h i B (Qo (C i) (ln i)) 0 (Qq (C i) (ln i)) 0) [Qs L W h,zJ (λ_=>0) (Qq (C i) (ln i))] (.exit 2) (AJ C ln h i (Qq (C i) (ln i)) (nA (C i) B I) (Qq (C i) I)) [Qs L W h,zJ (YS (C i) B I) (Qq (C i) (ln i))]):=by
 have key:=qV (P:=aw) (Gl:=G17) (f:=70) (r:=19) qY qh (an:=az 70) (λk=>JK C ln h i (λj=>B (Qo (C i) k+j)) (Qo (C i) (ln i)-Qo (C i) k) (Qq (C i) k) (Qq (C i) (ln i)) k) (λk=>[Qs L W h,zJ (YS (C i) B k) (Qq (C i) (ln i))]) (n:=I) (e1:=.exit 2) (fA:=AJ C ln h i (Qq (C i) (ln i)) (nA (C i) B I) (Qq (C i) I)) (h1:=[Qs L W h,zJ (YS (C i) B I) (Qq (C i) (ln i))]) (λk e=>UJ C ln h i B L W hC a d k ae (g k e)) (qs8 C ln h i B L W hC a d I s o);rw[show(λj=>B (Qo (C i) 0+j))=B by funext j;rw[show Qo (C i) 0=0 from rfl,wn]] at key;exact key
end
def j42(C:Nat->Nat->ao)(ln:Nat->Nat)(h i:Nat)(g:Nat->Int)(m:Nat)(L:Nat->Nat->Int)(W:Nat->Nat)(p:JO->T->Prop):QB aw G17 az (Ld p m) 0 70 [(19,Qx (JK C ln h i (L i) (W i) 0 m 0) [Qs L W h,zJ (λ_=>0) m] (.exit 4) (AJ C ln h i m 0 m) [Qs L W h,zJ g m])] 14 (j5 C ln h i) [Qs L W h] =
( bif decide (ofNat i<ofNat h) then gD (decide (0<=ofNat i)&&decide (ofNat i<ofNat h))<|gD (decide (0<=ofNat i)&&decide (ofNat i<ofNat (i+1)))<|gD (((0:Nat)+i).blt (1+h))<|gD (qM (p [cF (C i) (ln i)
 none] (iI (.ofNat m))))<|gD (decide (0<=ofNat m)&&decide (ofNat m*8<=140737488355328)&&decide (ofNat m<=9223372036854775807))<|gD (Zy (JK C ln h i (L (0+i)) (W (0+i)) (0:Nat) m (nat_lit 0)) (Qs L W h::QX (λj=>(0:Int)) m) (JK C ln h i (L i) (W i) (0:Nat) m (nat_lit 0)) (Qs L W h::QX (λj=>(0:Int)) m))<|gD (((0:Nat)+(i+(1:Nat))).ble (1+h))<|gD (((i+(1:Nat)+(1:Nat))*(25:Nat)).ble 70368744177664)<|bif (i+(1:Nat)+(1:Nat)).ble (1+h) then gD (((0:Nat)+(i+(1:Nat))+(1:Nat)).ble (1+h))<|zN [.own 0 0 0 (i+1+(1:Nat)) (some (1+h)),iI 0,bG C ln h,iI (.ofNat h),iI (i64.wrap (ofNat i+1))] [.mk 0 1 (1+h) (λj=>bif ((0:Nat)+(i+(1:Nat))).ble j&&j.blt ((0:Nat)+(i+1)+(1:Nat)) then [[T.own 1 0 0 m (some m)]].getD ((0:Nat)+(j-((0:Nat)+(i+1)))) []
 else [br (L j) (W j) (some (W j))]) false false
 none,zJ g m,.mk 0 1 1 (λj=>[[T.own 1 0 0 m (some m)]].getD j []) false true
 none] else
 zN [.own 3 0 0 (i+1+(1:Nat))
 none,iI 0,bG C ln h,iI (.ofNat h),iI (i64.wrap (ofNat i+1))] [Qs L W h,zJ g m,.mk 0 1 1 (λj=>[[T.own 1 0 0 m (some m)]].getD j []) false true
 none,.mk 0 1 (i+1+(1:Nat)) (λj=>bif j.blt (i+1) then [br (L (0+j)) (W (0+j)) (some (W (0+j)))]
 else [[T.own 1 0 0 m (some m)]].getD ((0:Nat)+(j-(i+1))) []) false false
 none] else
 zX 2 [.own 0 0 0 (i+1) (some (1+h)),iI 0] [Qs L W h]):=qh
def qtb(C:Nat->Nat->ao)(ln:Nat->Nat)(h i o:Nat)(e:Int)(g:Nat->Int)(m:Nat)(L:Nat->Nat->Int)(W:Nat->Nat)(p:JO->T->Prop):QB aw G17 az (Ld p m) 0 70 [(19,Qx (JK C ln h i (L i) (W i) 0 m 0) [Qs L W h,zJ (λ_=>0) m] (.exit 2) (AJ C ln h i m e o) [Qs L W h,zJ g m])] 14 (j5 C ln h i) [Qs L W h] =
( bif decide (ofNat i<ofNat h) then gD (decide (0<=ofNat i)&&decide (ofNat i<ofNat h))<|gD (decide (0<=ofNat i)&&decide (ofNat i<ofNat (i+1)))<|gD (((0:Nat)+i).blt (1+h))<|gD (qM (p [cF (C i) (ln i)
 none] (iI (.ofNat m))))<|gD (decide (0<=ofNat m)&&decide (ofNat m*8<=140737488355328)&&decide (ofNat m<=9223372036854775807))<|gD (Zy (JK C ln h i (L (0+i)) (W (0+i)) (0:Nat) m (nat_lit 0)) (Qs L W h::QX (λj=>(0:Int)) m) (JK C ln h i (L i) (W i) (0:Nat) m (nat_lit 0)) (Qs L W h::QX (λj=>(0:Int)) m))<|zX 2 [.own 0 0 0 (i+1) (some (1+h)),iI e] (Qs L W h::QX g m) else
 zX 2 [.own 0 0 0 (i+1) (some (1+h)),iI 0] [Qs L W h]):=qh
def qtc(C:Nat->Nat->ao)(ln:Nat->Nat)(h:Nat)(L:Nat->Nat->Int)(W:Nat->Nat):QB aw G17 az qv 0 70 [] 14 (j5 C ln h h) [Qs L W h]=some (.exit 2,[.own 0 0 0 (h+1) (some (1+h)),iI 0],[Qs L W h]):=by
 rw[(show QB aw G17 az qv 0 70 [] 14 (j5 C ln h h) [Qs L W h] =
( bif decide (ofNat h<ofNat h) then gD (decide (0<=ofNat h)&&decide (ofNat h<ofNat h))<|gD (decide (0<=ofNat h)&&decide (ofNat h<ofNat (h+1)))<|gD (((0:Nat)+h).blt (1+h)) none else
 zX 2 [.own 0 0 0 (h+1) (some (1+h)),iI 0] [Qs L W h]) from qh)]
 refine BF ?_;rfl
def qjp(C:Nat->Nat->ao)(ln:Nat->Nat)(h:Nat)(k:h<=1000)(f:∀i,i<h->ln i<=1000)(hC:∀i j,(C i j).Ok)(o:tq C ln h≠0):TO 70 [.agg [bG C ln h]] (.aK [.ag,iI (tq C ln h)]):=by
 obtain⟨p,a⟩:=qE aw G17 102;obtain⟨q,g⟩:=qE aw G17 41;have d:=UB C ln h k f hC;generalize tq C ln h=e at *
 refine Qm qY Qn (K:=Gw p q e 0) (qr (qr qp (qq a)) (qq g)) (A:=az) (m:=0) qh qP ?_;rw[(show ZV aw G17 az (Gw p q e 0) 0 70 [] [.agg [bG C ln h]] =
( gD (qM (p [bG C ln h] (iI e)))<|bif !decide (e=0) then some (.aK [.ag,iI e]) else
 gD (decide (0<ofNat h))<|gD (qM (q [cF (C (0:Nat)) (ln (0:Nat))
 none] (iI 0))) none) from qh)]
 refine qk (qu a d) ?_;exact qk (by simp[o]) rfl
noncomputable def tv:Code:=match aw.funcs[70]? with|some fn=>fn.body.getD .skip|none=>.skip
def Af(k:Nat)(c:Code):Code:=match k with
 |0=>Gk (Gj c)
 |k+1=>Gj (Af k c)
def Ag(k:Nat)(c:Code):Code:=Ck (Af k c)
def Li(C:Nat->Nat->ao)(ln:Nat->Nat)(h i:Nat):JO:=[.ah [bG C ln h],.own 0 0 0 (i+1) (some (1+h)),iI 0]
def g0(C:Nat->Nat->ao)(ln:Nat->Nat)(h:Nat):y9 aw G17 az qv 0 70 [] Ck [0] [.agg [bG C ln h]] [] [1] =
( zN [.ah [bG C ln h]] []):=qh
def g1(C:Nat->Nat->ao)(ln:Nat->Nat)(h:Nat)(n:Nat)(p q:JO->T->Prop):y9 aw G17 az (Gw p q 0 n) 0 70 [] (Ag 0) [1] [.ah [bG C ln h]] [] [1] =
( gD (qM (p [bG C ln h] (iI 0)))<|zN [.ah [bG C ln h]] []):=qh
def g2(C:Nat->Nat->ao)(ln:Nat->Nat)(h:Nat)(n:Nat)(p q:JO->T->Prop):y9 aw G17 az (Gw p q 0 n) 0 70 [] (Ag 1) [1] [.ah [bG C ln h]] [] [1,5] =
( gD (decide (0<ofNat h))<|gD (qM (q [cF (C (0:Nat)) (ln (0:Nat))
 none] (iI (.ofNat n))))<|gD (decide (0<=ofNat n)&&decide (ofNat n<=ofNat n)&&decide (ofNat n*8<=140737488355328)&&decide (ofNat n<=9223372036854775807))<|zN [.ah [bG C ln h],.own 0 0 0 n (some n)] (QX (λj=>(0:Int)) n)):=qh
def g3(C:Nat->Nat->ao)(ln:Nat->Nat)(h:Nat)(n:Nat):y9 aw G17 az qv 0 70 [(6,Qx (Dx C ln h n 0) (QX (λ_=>0) n) (.exit 0) [.ah [bG C ln h],.own 0 0 0 n (some n)] (QX (λ_=>1) n))] (Ag 2) [1,5] [.ah [bG C ln h],.own 0 0 0 n (some n)] (QX (λ_=>0) n) [1,5] =
( gD (Zy (Dx C ln h n (0:Int)) (QX (λj=>(0:Int)) n) (Dx C ln h n (0:Int)) (QX (λj=>(0:Int)) n))<|zN [.ah [bG C ln h],.own 0 0 0 n (some n)] (QX (λj=>(1:Int)) n)):=qh
def g4(C:Nat->Nat->ao)(ln:Nat->Nat)(h:Nat)(n:Nat):y9 aw G17 az qv 0 70 [] (Ag 3) [1,5] [.ah [bG C ln h],.own 0 0 0 n (some n)] (QX (λ_=>1) n) [1,5,7] =
( gD (decide (1<=i64.wrap (1+ofNat h))&&decide (i64.wrap (1+ofNat h)*(24:Int)<=(140737488355328:Int))&&decide (i64.wrap (1+ofNat h)<=(9223372036854775807:Int)))<|zN [.ah [bG C ln h],.own 0 0 0 n (some n),.own 1 0 0 1 (some (i64.wrap ((1:Int)+ofNat h)).toNat)] [zJ (λe=>(1:Int)) n,.mk 0 1 (i64.wrap ((1:Int)+ofNat h)).toNat (λx=>[.ag]) false false
 none]):=qh
def g5(C:Nat->Nat->ao)(ln:Nat->Nat)(h:Nat)(n m:Nat):y9 aw G17 az qv 0 70 [] (Ag 4) [1,5,7] [.ah [bG C ln h],.own 0 0 0 n (some n),.own 1 0 0 1 (some m)] [zJ (λ_=>1) n,⟨0,1,m,λ_=>[.ag],false,false,none⟩] [1,7] =
( gD (Nat.blt 0 m&&true&&true&&true)<|zN [.ah [bG C ln h],.own 1 0 0 1 (some m)] [zJ (λe=>(1:Int)) n,.mk 0 1 m (λe=>[bif e==(0:Nat) then .own 0 0 0 n (some n)
 else .ag]) false false
 none]):=qh
def g6(C:Nat->Nat->ao)(ln:Nat->Nat)(h:Nat)(n m:Nat):y9 aw G17 az qv 0 70 [] (Ag 5) [1,7] [.ah [bG C ln h],.own 1 0 0 1 (some m)] [zJ (λ_=>1) n,⟨0,1,m,λe=>[bif e==0 then .own 0 0 0 n (some n) else .ag],false,false,none⟩] [1,7,8] =
( zN [.ah [bG C ln h],.own 1 0 0 1 (some m),iI 0] [zJ (λe=>(1:Int)) n,.mk 0 1 m (λe=>[bif e==(0:Nat) then .own 0 0 0 n (some n)
 else .ag]) false false
 none]):=qh
def g7(C:Nat->Nat->ao)(ln:Nat->Nat)(h i:Nat)(e:Int)(L d:Nat->Nat->Int)(W a:Nat->Nat):y9 aw G17 az qv 0 70 [(14,Qx (j5 C ln h 0) [Qs L W h] (.exit 2) [.own 0 0 0 (i+1) (some (1+h)),iI e] [Qs d a h])] (Af 6) [1,7,8] (Li C ln h 0) [Qs L W h] [2,3] =
( gD (Zy (j5 C ln h (0:Nat)) [Qs L W h] (j5 C ln h (0:Nat)) [Qs L W h])<|bif !decide (e=0) then zR [.ag,iI e] [Qs d a h] else
 zR [.own 0 0 0 (i+1) (some (1+h)),iI 0] [Qs d a h]):=qh
def Lj{r:Nat->ao}{n:Nat}(h:rE r n=0):1<=n/\n<=16/\AI r n=true/\(1<=mX r n/\mX r n<=16)/\1<=nY r n/\nY r n<=16:=by
 unfold rE at h;by_cases h1:16<n
 .rw[wl h1] at h;omega
 rw[we h1] at h;by_cases e:n=0
 .rw[wl e] at h;omega
 rw[we e] at h;by_cases d:AI r n=true
 .rw[wl d] at h;by_cases a:Cn (mX r n)=true/\Cn (nY r n)=true
  .unfold Cn at a;simp only[wg,wC] at a;exact⟨ae,ae,d,a.1,a.2⟩
  .rw[we a] at h;omega
 .rw[we d] at h;omega
def UK(C:Nat->Nat->ao)(ln:Nat->Nat):∀h,YN C ln h=0->∀i,i<h->rE (C i) (ln i)=0
 |0,_=>λi h=>by omega
 |h+1,q=>by
  unfold YN at q;by_cases a:YN C ln h≠0
  .rw[wl a] at q;exact absurd q a
  .rw[we a] at q;have a:YN C ln h=0:=by omega
   intro i d;by_cases e:i=h
   .rw[e];exact q
   .exact UK C ln h a i ae
structure sJ(C:Nat->Nat->ao)(ln:Nat->Nat)(h:Nat):Prop where
 h1:1<=h
 Ah:h<=31
 odd:h%2=1
 row:∀i,i<h->rE (C i) (ln i)=0
 link:∀i,i+1<h->mX (C (i+1)) (ln (i+1))=nY (C i) (ln i)
def UL{C:Nat->Nat->ao}{ln:Nat->Nat}{h:Nat}(q:tq C ln h=0):sJ C ln h:=by
 unfold tq at q;by_cases h1:31<h
 .rw[wl h1] at q;omega
 rw[we h1] at q;by_cases e:h%2=0
 .rw[wl e] at q;omega
 rw[we e] at q;by_cases a:YN C ln h≠0
 .rw[wl a] at q;exact absurd q a
 rw[we a] at q;by_cases d:Eu C ln (h-1)=true
 .refine⟨ae,ae,ae,UK C ln h ae,λi f=>?_⟩;have:=(YO C ln (h-1)).1 d i ae;unfold Dv at this;simpa using this
 .rw[we d] at q;omega
def sJ.wd{C:Nat->Nat->ao}{ln:Nat->Nat}{h:Nat}(ok:sJ C ln h)(hC:∀i j,(C i j).Ok):∀i,i<h->WD C ln i=Qo (C i) (ln i)
 |0,_=>rfl
 |i+1,a=>by
  have:=ok.link i a;have h1:=(Ku (C (i+1)) (hC (i+1)) (ln (i+1))).1;have d:=(Ku (C i) (hC i) (ln i)).2;show Qq (C i) (ln i)=_;omega
def sJ.out{C:Nat->Nat->ao}{ln:Nat->Nat}{h:Nat}(ok:sJ C ln h)(hC:∀i j,(C i j).Ok){i:Nat}(a:i<h):Qq (C i) (ln i)<=16/\1<=Qq (C i) (ln i)/\Qo (C i) (ln i)<=16/\1<=Qo (C i) (ln i):=by
 obtain⟨_,_,_,e,d⟩:=Lj (ok.row i a);have h1:=Ku (C i) (hC i) (ln i);omega
def UM{σ:Wa}{h:qa}{a m:Nat}{g:Nat->Int}(hp:QU σ a=none)(e:σ.contains a=false)(d:h[a]?=some (zJ g m)):qJ σ h (.own a 0 0 m (some m))=br g m (some m):=by
 unfold zJ at d;simp only[qJ,hp,resolve,e,wp,d,wF,xx,vJ];rw[show Nat.ble (0+m) m=true from qO ae];simp only[wm,wn];rfl
section
variable (C:Nat->Nat->ao) (ln:Nat->Nat) (h:Nat)
def JL{i j:Nat}(a:j<=i):ll C ln i j=WD C ln j:=by unfold ll;rw[qO a];rfl
def OM{i j:Nat}(a:i<j):ll C ln i j=0:=by unfold ll;rw[ZG ae];rfl
def UN(ok:sJ C ln h)(hC:∀i j,(C i j).Ok)(i:Nat)(e:i<h)(E:yl (C i) (LD C ln i) (ln i)=0):Step aw G17 (az 70) 70 14 1 (j5 C ln h i) [Qs (LD C ln) (ll C ln i) h] (j5 C ln h (i+1)) [Qs (LD C ln) (ll C ln (i+1)) h]:=by
 obtain⟨p,o⟩:=qE aw G17 60;obtain⟨B,X,V,U⟩:=ok.out hC e;obtain⟨S,u,_,_,_⟩:=Lj (ok.row i e);have Ah:=ok.Ah;have P:∀k,k<ln i->nA (C i) (LD C ln i) k=0:=λk D=>by
  rcases yA (λk=>decide (nA (C i) (LD C ln i) k=0)) (ln i) with q|⟨I,z,a,x⟩
  .simpa using q k D
  .exfalso;have:=OK (C i) (LD C ln i) I (by simpa using a) (λj d=>by simpa using x j d) (ln i) z;rw[E] at this;have a:¬nA (C i) (LD C ln i) I=0:=by simpa using a
   exact a this.symm
 have r:=qs9 C ln h i (LD C ln i) (LD C ln) (ll C ln i) hC u B P;have f:=kS (C i) (ln i) none ae (hC i);rw[(Ku (C i) (hC i) (ln i)).2] at f;have H:ll C ln i i=Qo (C i) (ln i):=by rw[JL C ln (wc i),ok.wd hC i e]
 rw[←H] at r;have O:∀j,j≠i+1->ll C ln (i+1) j=ll C ln i j:=λj d=>by
  by_cases q:j<=i
  .rw[JL C ln q,JL C ln ae]
  .rw[OM C ln ae,OM C ln ae]
 have J:ll C ln (i+1) (i+1)=Qq (C i) (ln i):=JL C ln (wc _);have N:LD C ln (i+1)=YS (C i) (LD C ln i) (ln i):=rfl;generalize YS (C i) (LD C ln i) (ln i)=g at *
 generalize Qq (C i) (ln i)=m at *
 generalize ll C ln (i+1)=s at *
 generalize ll C ln i=W at *
 generalize LD C ln=L at *
 refine Step.tg (A:=az) (K:=Ld p m) (m:=0) (qr qp (qq o)) rfl rfl (QS r) [0] (v1:=j5 C ln h (i+1)) (h1:=[⟨0,1,1+h,λj=>bif Nat.ble (0+(i+1)) j&&Nat.blt j (0+(i+1)+1) then [[T.own 1 0 0 m (some m)]].getD (0+(j-(0+(i+1)))) [] else [br (L j) (W j) (some (W j))],false,false,none⟩,zJ g m,⟨0,1,1,λj=>[[T.own 1 0 0 m (some m)]].getD j [],false,true,none⟩]) ?_ qh (v2:=j5 C ln h (i+1)) rfl rfl λnt=>.same (.cons ⟨rfl,rfl,rfl,id,λj d=>?_⟩ .nil)
 .have M:i64.wrap ((i:Int)+1)=((i+1:Nat):Int):=by rw[Qp ae ae];omega
  rw[j42,Qu i,M];rw[wn i];refine qk (dT (by rw[Qu];omega)) ?_;refine qk (by rw[dT ae,dT (by rw[Qu];omega)];rfl) ?_;refine qk (by rw[dT ae,dT (by rw[Qu];omega)];rfl) ?_;refine qk (qL ae) ?_;refine qk (qu o f) ?_;refine qk (by rw[Qu,dT ae,dT ae,dT ae];rfl) ?_;refine qk (QH ⟨rfl,.refl _⟩) ?_;refine qk (qO ae) ?_;refine qk (qO ae) ?_;refine qk (qO ae) ?_;refine qk (qO ae) ?_;rfl
 .show [br (L j) (s j) (some (s j))]=List.map (qJ [0] _) (bif Nat.ble (0+(i+1)) j&&Nat.blt j (0+(i+1)+1) then [[T.own 1 0 0 m (some m)]].getD (0+(j-(0+(i+1)))) [] else [br (L j) (W j) (some (W j))]);by_cases q:j=i+1
  .subst q;rw[wn,qO (wc _),qL ae,wW];show _=[qJ [0] _ (T.own 1 0 0 m (some m))];rw[UM (g:=g) rfl rfl rfl,J,N]
  ·rw[wn,show(Nat.ble (i+1) j&&Nat.blt j (i+1+1))=false by
    by_cases a:i+1<=j
    ·rw[QP ae,Bool.and_false]
    ·rw[ZG ae,xT],wp,O j q]
   rfl
def e42(ok:sJ C ln h)(hC:∀i j,(C i j).Ok)(i:Nat)(r:i<h)(H:yl (C i) (LD C ln i) (ln i)≠0):cz aw G17 (az 70) 70 14 1 (j5 C ln h i) [Qs (LD C ln) (ll C ln i) h] (.exit 2) [.own 0 0 0 (i+1) (some (1+h)),iI (yl (C i) (LD C ln i) (ln i))] [Qs (LD C ln) (ll C ln i) h]:=by
 obtain⟨p,u⟩:=qE aw G17 60;obtain⟨D,R,Q,P⟩:=ok.out hC r;obtain⟨O,B,_,_,_⟩:=Lj (ok.row i r);have Ah:=ok.Ah;obtain⟨I,f,d,a⟩:∃I,I<ln i/\nA (C i) (LD C ln i) I≠0/\∀k,k<I->nA (C i) (LD C ln i) k=0:=by
  rcases yA (λk=>decide (nA (C i) (LD C ln i) k=0)) (ln i) with q|⟨I,f,d,a⟩
  .exact absurd (Kv (C i) (LD C ln i) (ln i) λk E=>by simpa using q k E) H
  .exact⟨I,f,by simpa using d,λj z=>by simpa using a j z⟩
 rw[OK (C i) (LD C ln i) I d a (ln i) f];have x:=qta C ln h i (LD C ln i) (LD C ln) (ll C ln i) hC B D I f d a;have s:=kS (C i) (ln i) none ae (hC i);rw[(Ku (C i) (hC i) (ln i)).2] at s;have J:ll C ln i i=Qo (C i) (ln i):=by rw[JL C ln (wc i),ok.wd hC i r]
 rw[←J] at x;generalize YS (C i) (LD C ln i) I=g at *
 generalize Qq (C i) (ln i)=m at *
 generalize Qq (C i) I=o at *
 generalize nA (C i) (LD C ln i) I=e at *
 generalize ll C ln i=W at *
 generalize LD C ln=L at *
 refine cz.tg (A:=az) (K:=Ld p m) (m:=0) (qr qp (qq u)) rfl rfl (QS x) au [0] (v1:=[.own 0 0 0 (i+1) (some (1+h)),iI e]) (h1:=[Qs L W h,zJ g m]) ?_ qh (v2:=[.own 0 0 0 (i+1) (some (1+h)),iI e]) rfl rfl λnt=>.same (.cons ⟨rfl,rfl,rfl,id,λj z=>rfl⟩ .nil);rw[qtb];rw[wn i];refine qk (dT (by rw[Qu,Qu];omega)) ?_;refine qk (by rw[Qu,dT ae,dT (by rw[Qu];omega)];rfl) ?_;refine qk (by rw[Qu,dT ae,dT (by rw[Qu];omega)];rfl) ?_;refine qk (qL ae) ?_;refine qk (qu u s) ?_;refine qk (by rw[Qu,dT ae,dT ae,dT ae];rfl) ?_;refine qk (QH ⟨rfl,.refl _⟩) ?_;rfl
end
def qtd(C:Nat->Nat->ao)(ln:Nat->Nat)(h n:Nat)(d:n=WD C ln 0)(Gl:V9)(aa:Wa)(nt:Nat)(l:Wa):am Gl aa nt l 0 [.ah [bG C ln h],.own 1 0 0 1 (some (1+h)),iI 0] [zJ (λ_=>1) n,⟨0,1,1+h,λe=>[bif e==0 then .own 0 0 0 n (some n) else .ag],false,false,none⟩] (Li C ln h 0) [Qs (LD C ln) (ll C ln 0) h]:=by
 refine .trans (.oM [1] qh) ?_;show am Gl aa nt l 0 (Li C ln h 0) [⟨0,1,1+h,λe=>[qJ [1] [zJ (λ_=>1) n,⟨0,1,1+h,λe=>[bif e==0 then .own 0 0 0 n (some n) else .ag],false,false,none⟩] (bif e==0 then .own 0 0 0 n (some n) else .ag)],false,false,none⟩] _ _;refine .mJ rfl (λi x y h1 a=>by rw[h1] at a;cases a;exact .refl _) (.cons ⟨rfl,rfl,rfl⟩ (λh=>by cases h) (λj f=>?_) .nil);by_cases q:j=0
 .subst q;show dY [qJ [1] _ (.own 0 0 0 n (some n))] [br (LD C ln 0) (ll C ln 0 0) (some (ll C ln 0 0))];rw[UM (g:=λ_=>1) rfl rfl rfl,JL C ln (wc 0),←d];exact .refl _
 .show dY [qJ [1] _ (bif j==0 then .own 0 0 0 n (some n) else .ag)] [br (LD C ln j) (ll C ln 0 j) (some (ll C ln 0 j))];rw[show(j==0)=false by simpa using q,wp,OM C ln ae];exact .cons (.inr ⟨rfl,.fG _ _ (.inr rfl),rfl⟩) .nil
def Lk:Tryz.f70.body=some tv:=qh
def JM(c:Code):∀k,∀b∈qA (Af k c),b∈qA c
 |0=>λb a=>Oq _ _ (T9 _ _ a)
 |k+1=>λb a=>JM c k b (Oq _ _ a)
def Ev{K:bA}(i:OO K){a:List (Nat×(JO->qa->LT))}(g:∀p∈a,aG aw G17 (az 70) 70 p.1 p.2)(k:Nat){l l':Wa}{vs aS:JO}{h h':qa}{e:Ex}(d:y9 aw G17 az K 0 70 a (Ag k) l vs h l'=some (e,aS,h')):aC aw G17 (az 70).aa Tryz.f70.ntmps (Ag k tv) (qB l vs h) e (qB l' aS h') :=
 Ks qY i Tryz.func70 Lk (xu qh) qh g (Ag k) rfl (λb f=>JM _ k b (Oo _ _ f)) d
def ql4:tv = .seq (Ck tv) (.scope (Af 0 tv)):=qh
def qpC:∀k,k<6->Af k tv = .seq (Ag k tv) (Af (k+1) tv):=by
 intro k a;obtain rfl|rfl|rfl|rfl|rfl|rfl:k=0∨k=1∨k=2∨k=3∨k=4∨k=5:=by omega
 all_goals kernel_rfl
def Ew{k:Nat}(a:k<6){s s1 s':St}(h1:aC aw G17 (az 70).aa Tryz.f70.ntmps (Ag k tv) s .normal s1)(h2:qR aw G17 (az 70).aa Tryz.f70.ntmps [] (Af (k+1) tv) s1 .ret s'):qR aw G17 (az 70).aa Tryz.f70.ntmps [] (Af k tv) s .ret s':=by
 rw[qpC k a];exact Ua h1 h2
def qpD(C:Nat->Nat->ao)(ln:Nat->Nat)(h:Nat)(hC:∀i j,(C i j).Ok)(u:tq C ln h=0){aS:JO}{h':qa}(B:aC aw G17 (az 70).aa Tryz.f70.ntmps (Af 6 tv) (qB [1,7,8] (Li C ln h 0) [Qs (LD C ln) (ll C ln 0) h]) .ret (qB [2,3] aS h')){r:T}(hr:ZE aw G17 (az 70).aa Tryz.f70 (qB [2,3] aS h') (λv=>some (ye h' v))=some r):TO 70 [.agg [bG C ln h]] r:=by
 have ok:=UL u;have Ah:=ok.Ah;have h1:=ok.h1;obtain⟨p,s⟩:=qE aw G17 102;obtain⟨q,o⟩:=qE aw G17 41;have k:∀i,i<h->ln i<=1000:=λi D=>by have:=Lj (ok.row i D);omega
 have g:=UB C ln h ae k hC;rw[u] at g;have f:=jP (C 0) (ln 0) none (k 0 ae) (hC 0);rw[(Ku (C 0) (hC 0) (ln 0)).1,show Qo (C 0) (ln 0)=WD C ln 0 from rfl] at f;have S:=(ok.out hC (show 0<h by omega)).2.2.1;change WD C ln 0<=16 at S;have z:=qs6 C ln h (WD C ln 0) ae;have A:=qtd C ln h (WD C ln 0) rfl;generalize WD C ln 0=n at *
 have I:(i64.wrap (1+(h:Int))).toNat=1+h:=by rw[Qp ae ae];omega
 have H:i64.wrap (1+(h:Int))=((1+h:Nat):Int):=by rw[Qp ae ae];omega
 have x:OO (Gw p q 0 n):=qr (qr qp (qq s)) (qq o);have R:aC aw G17 (az 70).aa Tryz.f70.ntmps (Ck tv) (qB [0] [.agg [bG C ln h]] []) .normal (qB [1] [.ah [bG C ln h]] []):=Ks qY qp Tryz.func70 Lk (xu qh) qh qP Ck rfl (λb E=>Oo _ _ E) (g0 C ln h);have Q:=Ev x qP 0 (l:=[1]) (l':=[1]) (vs:=[.ah [bG C ln h]]) (h:=[]) (aS:=[.ah [bG C ln h]]) (h':=[]) (e:=.normal) (by
  rw[g1];exact qk (qu s g) rfl)
 have P:=Ev x qP 1 (l:=[1]) (l':=[1,5]) (vs:=[.ah [bG C ln h]]) (h:=[]) (aS:=[.ah [bG C ln h],.own 0 0 0 n (some n)]) (h':=QX (λ_=>0) n) (e:=.normal) (by
  rw[g2];refine qk (dT (by rw[Qu];omega)) ?_;refine qk (qu o f) ?_;refine qk (by rw[Qu,dT ae,dT ae,dT ae,dT ae];rfl) ?_;rfl)
 have O:=Ev (K:=qv) qp (QS z) 2 (l:=[1,5]) (l':=[1,5]) (vs:=[.ah [bG C ln h],.own 0 0 0 n (some n)]) (h:=QX (λ_=>0) n) (aS:=[.ah [bG C ln h],.own 0 0 0 n (some n)]) (h':=QX (λ_=>1) n) (e:=.normal) (by
  rw[g3];exact qk (QH ⟨rfl,.refl _⟩) rfl)
 have N:=Ev (K:=qv) qp qP 3 (l:=[1,5]) (l':=[1,5,7]) (vs:=[.ah [bG C ln h],.own 0 0 0 n (some n)]) (h:=QX (λ_=>1) n) (aS:=[.ah [bG C ln h],.own 0 0 0 n (some n),.own 1 0 0 1 (some (1+h))]) (h':=[zJ (λ_=>1) n,⟨0,1,1+h,λ_=>[.ag],false,false,none⟩]) (e:=.normal) (by
  rw[g4,Qu h,I,H];exact qk (by rw[dT ae,dT ae,dT ae];rfl) rfl)
 have M:=Ev (K:=qv) qp qP 4 (l:=[1,5,7]) (l':=[1,7]) (vs:=[.ah [bG C ln h],.own 0 0 0 n (some n),.own 1 0 0 1 (some (1+h))]) (h:=[zJ (λ_=>1) n,⟨0,1,1+h,λ_=>[.ag],false,false,none⟩]) (aS:=[.ah [bG C ln h],.own 1 0 0 1 (some (1+h))]) (h':=[zJ (λ_=>1) n,⟨0,1,1+h,λe=>[bif e==0 then .own 0 0 0 n (some n) else .ag],false,false,none⟩]) (e:=.normal) (by
  rw[g5];exact qk (by rw[qL ae];rfl) rfl)
 have J:=Ev (K:=qv) qp qP 5 (l:=[1,7]) (l':=[1,7,8]) (vs:=[.ah [bG C ln h],.own 1 0 0 1 (some (1+h))]) (h:=[zJ (λ_=>1) n,⟨0,1,1+h,λe=>[bif e==0 then .own 0 0 0 n (some n) else .ag],false,false,none⟩]) (aS:=[.ah [bG C ln h],.own 1 0 0 1 (some (1+h)),iI 0]) (h':=[zJ (λ_=>1) n,⟨0,1,1+h,λe=>[bif e==0 then .own 0 0 0 n (some n) else .ag],false,false,none⟩]) (e:=.normal) (g6 C ln h n (1+h));have all:qR aw G17 (az 70).aa Tryz.f70.ntmps [] tv (qB [0] [.agg [bG C ln h]] []) .ret (qB [2,3] aS h'):=by
  rw[ql4];exact Ua R (Ub (Ew ae Q (Ew ae P (Ew ae O (Ew ae N (Ew ae M (Ew ae J (Uc (A G17 (az 70).aa Tryz.f70.ntmps [1,7,8]) (jq B)))))))))
 exact Ud Qn Tryz.func70 Lk qh (jL all) hr
def qpE(C:Nat->Nat->ao)(ln:Nat->Nat)(h:Nat)(hC:∀i j,(C i j).Ok)(D:tq C ln h=0):TO 70 [.agg [bG C ln h]] (if AK C ln h=0 then OL C ln h else .aK [.ag,iI (AK C ln h)]):=by
 have ok:=UL D
 have key:∀{i:Nat} {e:Int} {s:Nat->Nat->Int} {o:Nat->Nat} {z:JO} {h':qa} {r:T},aG aw G17 (az 70) 70 14 (Qx (j5 C ln h 0) [Qs (LD C ln) (ll C ln 0) h] (.exit 2) [.own 0 0 0 (i+1) (some (1+h)),iI e] [Qs s o h]) →
  (bif !decide (e=(0:Int)) then some (Ex.ret,[T.ag,iI e],[Qs s o h]) else some (Ex.ret,[T.own 0 0 0 (i+1) (some (1+h)),iI 0],[Qs s o h]))=some (.ret,z,h')->ZE aw G17 (az 70).aa Tryz.f70 (qB [2,3] z h') (λv=>some (ye h' v))=some r->TO 70 [.agg [bG C ln h]] r:=λ{i e s o z h' r} H hx hr =>
  qpD C ln h hC D (Ks qY qp Tryz.func70 Lk (xu qh) qh (QS H) (Af 6) rfl (λb d=>JM _ 6 b d) (by
   rw[g7];exact qk (QH ⟨rfl,.refl _⟩) hx)) hr
 rcases yA (λi=>decide (yl (C i) (LD C ln i) (ln i)=0)) h with g|⟨I,E,d,k⟩
 .have g:∀i,i<h->yl (C i) (LD C ln i) (ln i)=0:=λi a=>by simpa using g i a
  rw[wl (jQ C ln h g)];have u:aG aw G17 (az 70) 70 14 (Qx (j5 C ln h 0) [Qs (LD C ln) (ll C ln 0) h] (.exit 2) [.own 0 0 0 (h+1) (some (1+h)),iI 0] [Qs (LD C ln) (WD C ln) h]):=by
   refine qV qY qh (λi=>j5 C ln h i) (λi=>[Qs (LD C ln) (ll C ln i) h]) (n:=h) (λi a=>UN C ln h ok hC i a (g i a)) ?_;refine cz.gu (A:=az) (m:=0) qp rfl rfl qP (h1:=[Qs (LD C ln) (ll C ln h) h]) au ?_ (.cons ⟨rfl,rfl,rfl,id,λj B=>?_⟩ .nil)
   .exact qtc C ln h (LD C ln) (ll C ln h)
   .have B:j<1+h:=B;show [br (LD C ln j) (WD C ln j) (some (WD C ln j))]=[br (LD C ln j) (ll C ln h j) (some (ll C ln h j))];rw[JL C ln ae]
  refine key u rfl ?_;have e:(show JO×qa->Option T from λx=>ZE aw G17 (az 70).aa Tryz.f70 (qB [2,3] x.1 x.2) (λv=>some (ye x.2 v))) ([.own 0 0 0 (h+1) (some (1+h)),iI 0],[Qs (LD C ln) (WD C ln) h])=some (.aK [bif Nat.ble (0+(h+1)) (1+h) then .fresh false 1 (1+h-0) (λj=>[br (LD C ln (0+j)) (WD C ln (0+j)) (some (WD C ln (0+j)))]) (h+1) (some (1+h)) else .undef,iI 0]):=qh
  refine e.trans ?_;unfold OL;simp only[wn,Nat.sub_zero];rw[qO ae,Nat.add_comm h 1];rfl
 .have d:yl (C I) (LD C ln I) (ln I)≠0:=by simpa using d
  have k:∀i,i<I->yl (C i) (LD C ln i) (ln i)=0:=λi a=>by simpa using k i a
  rw[UH C ln I d k h E,we d];have u:=qV (P:=aw) (Gl:=G17) (f:=70) (r:=14) qY qh (an:=az 70) (λi=>j5 C ln h i) (λi=>[Qs (LD C ln) (ll C ln i) h]) (n:=I) (λi a=>UN C ln h ok hC i ae (k i a)) (e42 C ln h ok hC I E d);refine key u (qk (by simp[d]) rfl) ?_
  kernel_rfl
noncomputable def Co(p:JO->T->Prop)(b:Bool):bA:=qv.add 99 (Qa p λ_=>some (iI (bif b then 1 else 0)))
def sK(r:Nat->ao)(n:Nat)(c:Option Nat)(x:Int)(i:Nat):JO:=[cF r n c,iI x,iI i]
noncomputable def Cq(p:JO->T->Prop)(f:Nat)(x:Int):bA:=qv.add f (Qa p λ_=>some (iI x))
def Cr(r:Nat->ao)(n:Nat)(c:Option Nat)(i:Nat):JO:=[cF r n c,iI i]
noncomputable def UO(a d:JO->T->Prop)(x y:Int):bA:=(qv.add 29 (Qa a λ_=>some (iI x))).add 63 (Qa d λ_=>some (iI y))
def Cs(s:ao)(a b:Nat):JO:=[.ah s.c,iI a,iI b]
def Ey(s:ao)(a:Nat):JO:=[.ah s.c,iI a]
def uH(s:ao)(a k:Nat):Bool:=!(decide (s.a=(a:Int))&&decide (s.b=((1+k:Nat):Int)))
def Ez(s:ao)(k:Nat):Bool:=zs (uH s (1+k)) (4-(1+k))
noncomputable def Ll(x:JO->qa->Ex->JO->qa->Prop)(s:ao)(a:Nat):List (Nat×(JO->qa->LT)):=[(8,jp x (.ite (zs (uH s a) (4-a)) (.ret (.exit 2) [.ah s.c,.undef,iI a] []) (.ret .ret [.ah s.c,iI 1,iI a] [])))]
noncomputable def UP(x:JO->qa->Ex->JO->qa->Prop)(s:ao)(b:Bool):List (Nat×(JO->qa->LT)):=[(5,jp x (.ite b (.ret (.exit 0) [.undef] []) (.ret .ret [iI 1] [])))]
def OQ(s:ao)(a b:Nat):QB aw G17 az qv 0 99 [] 8 (Cs s a b) [] =
( bif decide (i64.wrap (ofNat a+ofNat b)<=(4:Int)) then bif decide (s.a=ofNat a) then bif decide (s.b=ofNat b) then zR (Cs s (nat_lit 1) a) [] else
 zN [.ah s.c,iI (.ofNat a),iI (i64.wrap (ofNat b+1))] [] else
 zN [.ah s.c,iI (.ofNat a),iI (i64.wrap (ofNat b+1))] [] else
 zX 2 [.ah s.c,.undef,iI (.ofNat a)] []):=qh
def i53(s:ao)(a:Nat)(x:JO->qa->Ex->JO->qa->Prop):QB aw G17 az qv 0 99 (Ll x s a) 5 (Ey s a) [] =
( bif decide (ofNat a<4) then bif zs (uH s a) (4-a) then gD (qM (x (Cs s a (nat_lit 1)) [] (.exit 2) [.ah s.c,.undef,iI (.ofNat a)] []))<|zN [.ah s.c,iI (i64.wrap (ofNat a+1))] [] else
 gD (qM (x (Cs s a (nat_lit 1)) [] .ret (Cs s (nat_lit 1) a) []))<|zR [iI 1] [] else
 zX 0 [.undef] []):=qh
def k53(s:ao)(b:Bool)(x:JO->qa->Ex->JO->qa->Prop):ZV aw G17 az qv 0 99 (UP x s b) [s.t] =
( bif decide (s.y=0) then some (iI 0) else
 bif decide (6<s.y) then some (iI 0) else
 bif decide (s.k=0) then some (iI 0) else
 bif decide (8<s.k) then some (iI 0) else
 bif decide (s.k=8) then bif b then gD (qM (x (Ey s (nat_lit 1)) [] (.exit 0) [.undef] []))<|some (iI 0) else
 gD (qM (x (Ey s (nat_lit 1)) [] .ret [iI 1] []))<|some (iI 1) else
 bif !decide (s.a=0) then some (iI 0) else
 bif !decide (s.b=0) then some (iI 0) else
 bif s.f then some (iI 0) else
 some (iI 1)):=qh
def UQ(s:ao){a:Nat}(j:a<=4):(zs (uH s a) (4-a)=true->aG aw G17 (az 99) 99 8 (Qx (Cs s a 1) [] (.exit 2) [.ah s.c,.undef,iI a] []))/\(zs (uH s a) (4-a)=false->aG aw G17 (az 99) 99 8 (Qx (Cs s a 1) [] .ret [.ah s.c,iI 1,iI a] [])):=by
 refine jK qY qh (λk=>Cs s a (1+k)) (λ_=>[]) (uH s a) (n:=4-a) (λk g _ d=>?_) (λk g _ d=>?_) (λ_=>?_)
 .refine Step.gu (A:=az) (m:=0) qp rfl rfl qP (h1:=[]) ?_ .nil;have e:i64.wrap (ofNat a+ofNat (1+k))=((a+1+k:Nat):Int):=by rw[Qu,Qu,Qp ae ae];omega
  rw[OQ,il ae,e];unfold uH at d;by_cases q:s.a=a
  .have f:¬s.b=((1+k:Nat):Int):=by rw[dT q] at d;simpa using d
   exact up
  ·exact up
 .refine cz.gu (A:=az) (m:=0) qp rfl rfl qP (h1:=[]) au ?_ .nil;have e:i64.wrap (ofNat a+ofNat (1+k))=((a+1+k:Nat):Int):=by rw[Qu,Qu,Qp ae ae];omega
  rw[OQ,e];simp only[uH,Bool.not_eq_false',wg,wC] at d;obtain⟨i,f⟩:=d
  exact up
 .refine cz.gu (A:=az) (m:=0) qp rfl rfl qP (h1:=[]) au ?_ .nil;have e:i64.wrap (ofNat a+ofNat (1+(4-a)))=5:=by rw[Qu,Qu,Qp ae ae];omega
  rw[OQ,e]
  exact up
def qq9(s:ao):(zs (Ez s) 3=true->aG aw G17 (az 99) 99 5 (Qx (Ey s 1) [] (.exit 0) [.undef] []))/\(zs (Ez s) 3=false->aG aw G17 (az 99) 99 5 (Qx (Ey s 1) [] .ret [iI 1] [])):=by
 obtain⟨x,hx⟩:=jJ aw G17 (az 99) 99 8;refine jK qY qh (λk=>Ey s (1+k)) (λ_=>[]) (Ez s) (n:=3) (λk f _ d=>?_) (λk f _ d=>?_) (λ_=>?_)
 .refine Step.gu (A:=az) (m:=0) qp rfl rfl (l:=Ll x s (1+k)) (QS (Zf hx _)) (h1:=[]) ?_ .nil;have e:=(UQ s (a:=1+k) ae).1 d;rw[i53,il ae];refine BS ?_;rw[show zs (uH s (1+k)) (4-(1+k))=true from d]
  exact up
 .refine cz.gu (A:=az) (m:=0) qp rfl rfl (l:=Ll x s (1+k)) (QS (Zf hx _)) (h1:=[]) au ?_ .nil;have e:=(UQ s (a:=1+k) ae).2 d;rw[i53];refine BS ?_;rw[show zs (uH s (1+k)) (4-(1+k))=false from d]
  exact up
 .refine cz.gu (A:=az) (m:=0) qp rfl rfl (l:=Ll x s (1+3)) (QS (Zf hx _)) (h1:=[]) au ?_ .nil;rw[i53];refine BF ?_;rfl
def kT(s:ao)(g:s.Ok):TO 99 [s.t] (iI (bif c9 s then 1 else 0)):=by
 obtain⟨x,hx⟩:=jJ aw G17 (az 99) 99 5;refine Qm qY Qn qp (A:=az) (m:=0) (l:=UP x s (zs (Ez s) 3)) qh (QS (Zf hx _)) ?_;rw[k53];have d:=s.mW g;have:=g.k;have:=g.y;have i:=qq9 s;have o:zs (Ez s) 3=false↔(1<=s.a/\s.a<=4/\1<=s.b/\s.a+s.b<=4):=by
  rw[JH];constructor
  .rintro⟨k,D,h⟩;obtain⟨j,E,h⟩:=(JH _ _).1 h;simp only[uH,Bool.not_eq_false',wg,wC] at h;omega
  .intro h;refine⟨s.a.toNat-1,ae,(JH _ _).2 ⟨s.b.toNat-1,ae,?_⟩⟩;simp only[uH,Bool.not_eq_false',wg,wC];omega
 by_cases h1:s.y=0
 .rw[show c9 s=false by rw[←xl,d];omega];refine BS ?_;rfl
 refine BF ?_;by_cases J:6<s.y
 .rw[show c9 s=false by rw[←xl,d];omega];refine BS ?_;rfl
 refine BF ?_;by_cases I:s.k=0
 .rw[show c9 s=false by rw[←xl,d];omega];refine BS ?_;rfl
 refine BF ?_;by_cases H:8<s.k
 .rw[show c9 s=false by rw[←xl,d];omega];refine BS ?_;rfl
 refine BF ?_;by_cases C:s.k=8
 .refine BS ?_;cases e:zs (Ez s) 3
  .rw[show c9 s=true from d.2 (by have:=o.1 e;omega)];have u:=i.2 e
   exact up
  .rw[show c9 s=false by rw[←xl,d,←o,e];simp;omega];have u:=i.1 e
   exact up
 refine BF ?_;by_cases B:s.a=0
 .by_cases z:s.b=0
  .cases r:s.f
   .rw[show c9 s=true from d.2 ⟨ae,ae,ae,ae,.inl ⟨C,B,z,r⟩⟩]
    exact up
   .rw[show c9 s=false by rw[←xl,d,r];simp;omega]
    exact up
  .rw[show c9 s=false by rw[←xl,d];omega]
   exact up
 .rw[show c9 s=false by rw[←xl,d];omega]
  exact up
def jR(s:ao)(i:s.Ok):TO 64 [s.t] (iI s.n):=by
 obtain⟨p,j⟩:=qE aw G17 99;have t:=kT s i;refine QA qY Qn (qr qp (qq j)) (K:=Co p (c9 s)) (A:=az) (m:=0) ?_;unfold ao.n;generalize c9 s=b at *
 rw[(show Yw aw G17 az (Co p b) 0 64 [s.t] =
( gD (qM (p [s.t] (iI (bif b then(1:Int)
 else(0:Int)))))<|bif decide ((bif b then(1:Int)
 else(0:Int))=(0:Int)) then some (iI 0) else
 bif decide (s.k=3) then some (iI 0) else
 bif decide (s.k=8) then some (iI (i64.wrap (s.a+s.b))) else
 bif decide (s.k=4) then some (iI 2) else
 bif decide (s.k=5) then some (iI 2) else
 some (iI 1)) from qh)]
 refine BS ?_;cases b
 .rfl
 by_cases g:s.k=3
 .rw[dT g];rfl
 rw[dF g];by_cases d:s.k=8
 .rw[dT d,dF (show ¬s.k=4 by omega),dF (show ¬s.k=5 by omega)];rfl
 rw[dF d];by_cases f:s.k=4
 .rw[dT f];rfl
 rw[dF f];by_cases e:s.k=5
 .rw[dT e];rfl
 rw[dF e];rfl
def UR(s:ao)(e:s.Ok):TO 100 [s.t] (iI s.m):=by
 obtain⟨p,f⟩:=qE aw G17 99;have t:=kT s e;refine QA qY Qn (qr qp (qq f)) (K:=Co p (c9 s)) (A:=az) (m:=0) ?_;unfold ao.m;generalize c9 s=b at *
 rw[(show Yw aw G17 az (Co p b) 0 100 [s.t] =
( gD (qM (p [s.t] (iI (bif b then(1:Int)
 else(0:Int)))))<|bif decide ((bif b then(1:Int)
 else(0:Int))=(0:Int)) then some (iI 0) else
 bif decide (s.k=8) then some (iI (i64.wrap (s.a+s.b))) else
 some (iI 1)) from qh)]
 refine BS ?_;cases b
 .rfl
 by_cases d:s.k=8
 .rw[dT d];rfl
 rw[dF d];rfl
def i38(r:Nat->ao)(n:Nat)(c:Option Nat)(a x:Int)(i:Nat)(p:JO->T->Prop):QB aw G17 az (Cq p 64 x) 0 29 [] 3 (sK r n c a i) [] =
( bif decide (ofNat i<ofNat n) then gD (decide (0<=ofNat i)&&decide (ofNat i<ofNat n))<|gD (qM (p [(r i).t] (iI x)))<|zN [cF r n c,iI (i64.wrap (a+x)),iI (i64.wrap (ofNat i+1))] [] else
 zX 0 [iI a] []):=qh
def i39(r:Nat->ao)(n:Nat)(c:Option Nat)(a x:Int)(i:Nat)(p:JO->T->Prop):QB aw G17 az (Cq p 100 x) 0 63 [] 3 (sK r n c a i) [] =
( bif decide (ofNat i<ofNat n) then gD (decide (0<=ofNat i)&&decide (ofNat i<ofNat n))<|gD (qM (p [(r i).t] (iI x)))<|zN [cF r n c,iI (i64.wrap (a+x)),iI (i64.wrap (ofNat i+1))] [] else
 zX 0 [iI a] []):=qh
section
variable (r:Nat->ao) (n:Nat) (c:Option Nat)
def Kw(o:n<=1000)(hr:∀j,(r j).Ok):TO 29 [cF r n c] (iI (mX r n)):=by
 obtain⟨p,g⟩:=qE aw G17 64;have f:∀x,OO (Cq p 64 x):=λx=>qr qp (qq g);unfold mX;have d:=Gr (N:=λj=>(r j).n) (b:=4) λi=>(r i).nR (hr i);have k:aG aw G17 (az 29) 29 3 (Qx (sK r n c 0 0) [] (.exit 0) [iI (zd (λj=>(r j).n) n)] []):=by
  refine qV qY qh (λi=>sK r n c (zd (λj=>(r j).n) i) i) (λ_=>[]) (n:=n) (λi s=>?_) ?_
  .have e:zd (λj=>(r j).n) (i+1)=zd (λj=>(r j).n) i+(r i).n:=rfl;have t:=jR (r i) (hr i);have h1:=d i;have u:=(r i).nR (hr i);rw[e];clear e d hr;generalize zd (λj=>(r j).n) i=a at *
   generalize (r i).n=x at *
   refine Step.gu (A:=az) (m:=0) (f x) rfl rfl qP (h1:=[]) ?_ .nil;rw[i38,il ae,Qp (x:=a+x) ae ae]
   exact up
  .clear d hr;generalize zd (λj=>(r j).n) n=a at *
   refine cz.gu (A:=az) (m:=0) (f 0) rfl rfl qP (h1:=[]) au ?_ .nil;rw[i38]
   exact up
 clear d hr;generalize zd (λj=>(r j).n) n=a at *
 refine Qm qY Qn qp (A:=az) (m:=0) qh (QS k) ?_;rw[(show ZV aw G17 az qv 0 29 [(3,Qx (sK r n c 0 0) [] (.exit 0) [iI a] [])] [cF r n c] =
( gD (Zy (sK r n c (0:Int) (nat_lit 0)) [] (sK r n c (0:Int) (nat_lit 0)) [])<|some (iI a)) from qh)]
 exact up
def qgn(o:n<=1000)(hr:∀j,(r j).Ok):TO 63 [cF r n c] (iI (nY r n)):=by
 obtain⟨p,g⟩:=qE aw G17 100;have f:∀x,OO (Cq p 100 x):=λx=>qr qp (qq g);unfold nY;have d:=Gr (N:=λj=>(r j).m) (b:=4) λi=>(r i).nS (hr i);have k:aG aw G17 (az 63) 63 3 (Qx (sK r n c 0 0) [] (.exit 0) [iI (zd (λj=>(r j).m) n)] []):=by
  refine qV qY qh (λi=>sK r n c (zd (λj=>(r j).m) i) i) (λ_=>[]) (n:=n) (λi s=>?_) ?_
  .have e:zd (λj=>(r j).m) (i+1)=zd (λj=>(r j).m) i+(r i).m:=rfl;have t:=UR (r i) (hr i);have h1:=d i;have u:=(r i).nS (hr i);rw[e];clear e d hr;generalize zd (λj=>(r j).m) i=a at *
   generalize (r i).m=x at *
   refine Step.gu (A:=az) (m:=0) (f x) rfl rfl qP (h1:=[]) ?_ .nil;rw[i39,il ae,Qp (x:=a+x) ae ae]
   exact up
  .clear d hr;generalize zd (λj=>(r j).m) n=a at *
   refine cz.gu (A:=az) (m:=0) (f 0) rfl rfl qP (h1:=[]) au ?_ .nil;rw[i39]
   exact up
 clear d hr;generalize zd (λj=>(r j).m) n=a at *
 refine Qm qY Qn qp (A:=az) (m:=0) qh (QS k) ?_;rw[(show ZV aw G17 az qv 0 63 [(3,Qx (sK r n c 0 0) [] (.exit 0) [iI a] [])] [cF r n c] =
( gD (Zy (sK r n c (0:Int) (nat_lit 0)) [] (sK r n c (0:Int) (nat_lit 0)) [])<|some (iI a)) from qh)]
 exact up
end
noncomputable def US(x:JO->qa->Ex->JO->qa->Prop)(r:Nat->ao)(n:Nat)(c:Option Nat)(b:Bool):List (Nat×(JO->qa->LT)):=[(6,jp x (.ite b (.ret (.exit 0) [cF r n c,.undef] []) (.ret .ret [cF r n c,iI 1] [])))]
def EA(s:ao)(B:Nat->Int)(n:Nat)(c:Option Nat)(i:Nat):JO:=[br B n c,.ah s.c,iI i]
def OR:Nat->T
 |0=>.ag
 |j+1=>.own 0 j 0 (j+1) none
def OT(j:Nat):aq:=⟨j,1,j+1,λ_=>[iI 1],true,false,none⟩
def Ct:Nat->qa
 |0=>[]
 |j+1=>[OT j]
def EB(s:ao)(j:Nat):JO:=[.ah s.c,OR j,iI j]
def k37(r:Nat->ao)(n:Nat)(c:Option Nat)(b:Bool)(a d:Int)(x:JO->qa->Ex->JO->qa->Prop)(p q:JO->T->Prop):ZV aw G17 az (UO p q a d) 0 62 (US x r n c b) [cF r n c] =
( bif decide (16<ofNat n) then some (iI 3) else
 bif decide (ofNat n=0) then some (iI 1) else
 bif b then gD (qM (x (Cr r n c (nat_lit 0)) [] (.exit 0) [cF r n c,.undef] []))<|gD (qM (p [cF r n c] (iI a)))<|bif decide (a<1) then some (iI 5) else
 gD (qM (p [cF r n c] (iI a)))<|bif decide (16<a) then some (iI 5) else
 gD (qM (q [cF r n c] (iI d)))<|bif decide (d<1) then some (iI 5) else
 gD (qM (q [cF r n c] (iI d)))<|bif decide (16<d) then some (iI 5) else
 some (iI 0) else
 gD (qM (x (Cr r n c (nat_lit 0)) [] .ret (Cr r n c (nat_lit 1)) []))<|some (iI 1)):=qh
def i37(r:Nat->ao)(n:Nat)(c:Option Nat)(i:Nat)(b:Bool)(p:JO->T->Prop):QB aw G17 az (Co p b) 0 62 [] 6 (Cr r n c i) [] =
( bif decide (ofNat i<ofNat n) then gD (decide (0<=ofNat i)&&decide (ofNat i<ofNat n))<|gD (qM (p [(r i).t] (iI (bif b then(1:Int)
 else(0:Int)))))<|bif decide ((bif b then(1:Int)
 else(0:Int))=(0:Int)) then zR (Cr r n c (nat_lit 1)) [] else
 zN [cF r n c,iI (i64.wrap (ofNat i+1))] [] else
 zX 0 [cF r n c,.undef] []):=qh
def qte(s:ao)(x:Int)(p:JO->T->Prop):QB aw G17 az (Cq p 100 x) 0 65 [] 22 (EB s 0) (Ct 0) =
( gD (qM (p [s.t] (iI x)))<|bif decide (0<x) then zN [.ah s.c,.own 1 0 0 1
 none,iI 1] [.mk 0 1 1 (λj=>[[iI (1:Int)]].getD j []) true true
 none,.mk 0 1 1 (λj=>[[iI (1:Int)]].getD (0+j) []) true false
 none] else
 zX 2 [.ag] []):=qh
def UT(s:ao)(j:Nat)(x:Int)(p:JO->T->Prop):QB aw G17 az (Cq p 100 x) 0 65 [] 22 (EB s (j+1)) (Ct (j+1)) =
( gD (qM (p [s.t] (iI x)))<|bif decide (ofNat (j+1)<x) then gD (j==j&&true)<|gD (((0:Nat)+(j+(1:Nat))).ble (j+1))<|gD (((j+(1:Nat)+(1:Nat))*(9:Nat)).ble 70368744177664)<|bif ((0:Nat)+(j+(1:Nat))+(1:Nat)).ble (j+1) then zN [.ah s.c,.own 0 j 0 (j+1+(1:Nat))
 none,iI (i64.wrap (ofNat (j+1)+(1:Int)))] [.mk j 1 (j+1) (λa=>bif ((0:Nat)+(j+(1:Nat))).ble a&&a.blt ((0:Nat)+(j+1)+(1:Nat)) then [[iI (1:Int)]].getD ((0:Nat)+(a-((0:Nat)+(j+1)))) []
 else [iI 1]) true false
 none,.mk 0 1 1 (λj=>[[iI (1:Int)]].getD j []) true true
 none] else
 zN [.ah s.c,.own 0 (j+1) (0:Nat) (j+1+(1:Nat))
 none,iI (i64.wrap (ofNat (j+1)+(1:Int)))] [.mk (j+1) (1:Nat) (j+1+(1:Nat)) (λa=>bif a.blt (j+1) then [iI 1]
 else [[iI (1:Int)]].getD ((0:Nat)+(a-(j+1))) []) true false
 none,.mk 0 1 1 (λj=>[[iI (1:Int)]].getD j []) true true
 none] else
 zX 2 [.own 0 j 0 (j+1)
 none] [OT j]):=qh
def i41(s:ao)(B:Nat->Int)(n:Nat)(c:Option Nat)(i:Nat):QB aw G17 az qv 0 65 [] 6 (EA s B n c i) [] =
( bif decide (ofNat i<ofNat n) then gD (decide (0<=ofNat i)&&decide (ofNat i<ofNat n))<|bif !decide (B i=1) then gD (decide (0<=ofNat i)&&decide (ofNat i<ofNat n))<|bif !decide (B i=2) then gD (decide (0<=ofNat i)&&decide (ofNat i<ofNat n))<|bif !decide (B i=3) then zR [br B n c,.ah s.c,.ag,iI 1] [] else
 zN [br B n c,.ah s.c,iI (i64.wrap (ofNat i+1))] [] else
 zN [br B n c,.ah s.c,iI (i64.wrap (ofNat i+1))] [] else
 zN [br B n c,.ah s.c,iI (i64.wrap (ofNat i+1))] [] else
 zX 0 [br B n c,.ah s.c,.undef,.undef] []):=qh
def UU(r:Nat->ao):∀n,AI r n=zs (λi=>c9 (r i)) n
 |0=>rfl
 |n+1=>by unfold AI zs;rw[UU r n]
def qnU(r:Nat->ao)(n:Nat)(c:Option Nat)(u:n<=1000)(hr:∀j,(r j).Ok):TO 62 [cF r n c] (iI (rE r n)):=by
 obtain⟨x,hx⟩:=jJ aw G17 (az 62) 62 6;obtain⟨p,C⟩:=qE aw G17 29;obtain⟨q,B⟩:=qE aw G17 63;obtain⟨s,e⟩:=qE aw G17 99;have k:=Kw r n c u hr;have g:=qgn r n c u hr;have f:(zs (λi=>c9 (r i)) n=true->aG aw G17 (az 62) 62 6 (Qx (Cr r n c 0) [] (.exit 0) [cF r n c,.undef] []))/\(zs (λi=>c9 (r i)) n=false->aG aw G17 (az 62) 62 6 (Qx (Cr r n c 0) [] .ret [cF r n c,iI 1] [])):=by
  refine jK qY qh (λi=>Cr r n c i) (λ_=>[]) (λi=>c9 (r i)) (n:=n) (λi D _ o=>?_) (λi D _ o=>?_) (λ_=>?_)
  .have t:=kT (r i) (hr i);rw[o] at t;clear k g hr;refine Step.gu (A:=az) (K:=Co s true) (m:=0) (qr qp (qq e)) rfl rfl qP (h1:=[]) ?_ .nil;rw[i37,il ae];refine BS ?_;refine BS ?_;refine qk (qu e t) ?_
   exact up
  .have t:=kT (r i) (hr i);rw[o] at t;clear k g hr;refine cz.gu (A:=az) (K:=Co s false) (m:=0) (qr qp (qq e)) rfl rfl qP (h1:=[]) au ?_ .nil;rw[i37];refine BS ?_;refine BS ?_;refine qk (qu e t) ?_
   exact up
  .refine cz.gu (A:=az) (K:=Co s false) (m:=0) (qr qp (qq e)) rfl rfl qP (h1:=[]) au ?_ .nil;rw[i37];clear k g hr
   exact up
 unfold rE Cn;rw[UU];generalize mX r n=a at *
 generalize nY r n=d at *
 generalize zs (λi=>c9 (r i)) n=b at *
 refine Qm qY Qn (K:=UO p q a d) (qr (qr qp (qq C)) (qq B)) (A:=az) (m:=0) (l:=US x r n c b) qh (QS (Zf hx _)) ?_;rw[k37];clear hr;by_cases h1:16<n
 .rw[wl h1]
  exact up
 rw[we h1];refine BF ?_;by_cases z:n=0
 .rw[wl z]
  exact up
 rw[we z];refine BF ?_;cases b
 .have f:=f.2 rfl;rw[we au]
  exact up
 have f:=f.1 rfl;rw[wl rfl];simp only[wg,wC];by_cases J:a<1
 .rw[we ae]
  exact up
 by_cases I:16<a
 .rw[we ae]
  exact up
 by_cases H:d<1
 .rw[we ae]
  exact up
 by_cases E:16<d
 .rw[we ae]
  exact up
 rw[wl ae]
 exact up
noncomputable def OU(d a:JO->T->Prop)(b:Bool)(x:Int):bA:=(qv.add 99 (Qa d λ_=>some (iI (bif b then 1 else 0)))).add 64 (Qa a λ_=>some (iI x))
noncomputable def OV(x y:JO->qa->Ex->JO->qa->Prop)(s:ao)(B:Nat->Int)(n:Nat)(c:Option Nat)(b:Bool)(j:Nat):List (Nat×(JO->qa->LT)) :=
 [(6,jp x (.ite b (.ret (.exit 0) [br B n c,.ah s.c,.undef,.undef] []) (.ret .ret [br B n c,.ah s.c,.ag,iI 1] []))),(22,jp y (.ret (.exit 2) [OR (j+1)] (Ct (j+1))))]
def Gy(s:ao)(B:Nat->Int)(n:Nat):T:=if iY s B n=0 then .aK [.new (.view 1 s.mN (λj=>[iI (fe s B j)]) none),iI 0] else .aK [.ag,iI (iY s B n)]
def Bm(s:ao)(B:Nat->Int)(n:Nat)(c:Option Nat)(b d:Bool)(j:Nat)(z:Int)(x y:JO->qa->Ex->JO->qa->Prop)(p q:JO->T->Prop):ZV aw G17 az (OU p q d z) 0 65 (OV x y s B n c b j) [s.t,br B n c] =
( gD (qM (p [s.t] (iI (bif d then(1:Int)
 else(0:Int)))))<|bif decide ((bif d then(1:Int)
 else(0:Int))=(0:Int)) then some (.aK [.ag,iI 1]) else
 gD (qM (q [s.t] (iI z)))<|bif !decide (ofNat n=z) then some (.aK [.ag,iI 5]) else
 bif b then gD (qM (x (EA s B n c (nat_lit 0)) [] (.exit 0) [br B n c,.ah s.c,.undef,.undef] []))<|bif decide (s.k=4) then gD (decide (0<ofNat n))<|gD (decide (1<ofNat n))<|bif decide (4<i64.wrap (B (0:Nat)+B (1:Nat))) then some (.aK [.ag,iI 9]) else
 some (.aK [.fresh true (1:Nat) (1:Nat) (λj=>[[iI (1:Int)]].getD (0+j) []) (1:Nat) (some 1),iI 0]) else
 bif decide (s.k=5) then gD (decide (0<ofNat n))<|gD (decide (1<ofNat n))<|bif decide (4<i64.wrap (B (0:Nat)+B (1:Nat))) then some (.aK [.ag,iI 9]) else
 some (.aK [.fresh true (1:Nat) (1:Nat) (λj=>[[iI (1:Int)]].getD (0+j) []) (1:Nat) (some 1),iI 0]) else
 bif decide (s.k=6) then gD (decide (0<ofNat n))<|bif decide (B (0:Nat)=(3:Int)) then some (.aK [.ag,iI 9]) else
 gD (decide (0<ofNat n))<|some (.aK [.fresh true (1:Nat) (1:Nat) (λj=>[[iI (i64.wrap (B (0:Nat)+(1:Int)))]].getD (0+j) []) (1:Nat) (some 1),iI 0]) else
 bif decide (s.k=7) then gD (decide (0<ofNat n))<|some (.aK [.fresh true (1:Nat) (1:Nat) (λj=>[[iI (B (0:Nat))]].getD (0+j) []) (1:Nat) (some 1),iI 0]) else
 gD (qM (y [.ah s.c,.ag,iI 0] [] (.exit 2) [.own 0 j 0 (j+1)
 none] [OT j]))<|some (.aK [bif j==j&&((0:Nat)+(j+(1:Nat))).ble (j+1) then .fresh true (1:Nat) (j+1) (λj=>[iI 1]) (j+1) none else .undef,iI 0]) else
 gD (qM (x (EA s B n c (nat_lit 0)) [] .ret [br B n c,.ah s.c,.ag,iI 1] []))<|some (.aK [.ag,iI 1])):=qh
def qpI(s:ao)(B:Nat->Int)(n:Nat)(c:Option Nat)(j:n<=1000):(zs (yk B) n=true->aG aw G17 (az 65) 65 6 (Qx (EA s B n c 0) [] (.exit 0) [br B n c,.ah s.c,.undef,.undef] []))/\(zs (yk B) n=false->aG aw G17 (az 65) 65 6 (Qx (EA s B n c 0) [] .ret [br B n c,.ah s.c,.ag,iI 1] [])):=by
 refine jK qY qh (λi=>EA s B n c i) (λ_=>[]) (yk B) (n:=n) (λi g _ a=>?_) (λi g _ a=>?_) (λ_=>?_)
 .rw[Zr] at a;refine Step.gu (A:=az) (m:=0) qp rfl rfl qP (h1:=[]) ?_ .nil;rw[i41,il ae];by_cases f:B i=1
  ·exact up
  by_cases e:B i=2
  ·exact up
  have d:B i=3:=by omega
  exact up
 .have a:¬(1<=B i/\B i<=3):=by rw[←Zr,a];simp
  have f:¬B i=1:=by omega
  have e:¬B i=2:=by omega
  have d:¬B i=3:=by omega
  refine cz.gu (A:=az) (m:=0) qp rfl rfl qP (h1:=[]) au ?_ .nil;rw[i41]
  exact up
 .refine cz.gu (A:=az) (m:=0) qp rfl rfl qP (h1:=[]) au ?_ .nil;rw[i41]
  exact up
def JN(B:Nat->Int):∀n,zH B n=zs (yk B) n
 |0=>rfl
 |n+1=>by unfold zH zs;rw[JN B n]
def UV(j:Nat)(a:j<1):([[iI 1]]:List JO).getD (0+j) []=[iI 1]:=by
 obtain rfl:j=0:=by omega
 rfl
def qpJ(s:ao)(e:s.Ok){j:Nat}(g:s.m=((j+1:Nat):Int)):aG aw G17 (az 65) 65 22 (Qx (EB s 0) (Ct 0) (.exit 2) [OR (j+1)] (Ct (j+1))):=by
 obtain⟨p,f⟩:=qE aw G17 100;have t:=UR s e;have o:=s.nS e;rw[g] at t o;have d:OO (Cq p 100 ((j+1:Nat):Int)):=qr qp (qq f);refine qV qY qh (λi=>EB s i) (λi=>Ct i) (n:=j+1) (λi x=>?_) ?_
 .cases i with
  |zero =>
   refine Step.tg (A:=az) (m:=0) d rfl rfl qP [1] (v1:=[.ah s.c,.own 1 0 0 1 none,iI 1]) (h1:=[⟨0,1,1,λj=>[[iI 1]].getD j [],true,true,none⟩,⟨0,1,1,λj=>[[iI 1]].getD (0+j) [],true,false,none⟩]) ?_ qh (v2:=EB s 1) rfl rfl λnt=>.same (.cons ⟨rfl,rfl,rfl,id,λk a=>(UV k a).symm⟩ .nil);rw[qte]
   exact up
  |succ i =>
   refine Step.mk (A:=az) (m:=0) d rfl rfl qP 1 (by simp[Ct]) (h1:=[⟨i+1,1,i+1+1,λk=>bif Nat.blt k (i+1) then [iI 1] else [[iI 1]].getD (0+(k-(i+1))) [],true,false,none⟩,⟨0,1,1,λj=>[[iI 1]].getD j [],true,true,none⟩]) (aS:=EB s (i+1+1)) ?_ rfl (.cons ⟨rfl,rfl,rfl,id,λk a=>?_⟩ .nil)
   .rw[UT,il ae]
    exact up
   .show [iI 1]=bif Nat.blt k (i+1) then [iI 1] else [[iI 1]].getD (0+(k-(i+1))) [];have a:k<i+2:=a;by_cases q:k<i+1
    .rw[qL q];rfl
    .rw[QP ae,show k-(i+1)=0 by omega];rfl
 .refine cz.gu (A:=az) (m:=0) d rfl rfl qP (h1:=Ct (j+1)) au ?_ (.refl _);rw[UT]
  exact up
def UW(s:ao)(E:s.Ok)(B:Nat->Int)(n:Nat)(c:Option Nat)(W:n<=1000):TO 65 [s.t,br B n c] (Gy s B n):=by
 obtain⟨p,V⟩:=qE aw G17 99;obtain⟨q,U⟩:=qE aw G17 64;obtain⟨x,hx⟩:=jJ aw G17 (az 65) 65 6;obtain⟨y,S⟩:=jJ aw G17 (az 65) 65 22;have Q:=kT s E;have t2:=jR s E;have H:=qpI s B n c W;have C:=λj=>qpJ s E (j:=j);have D:=s.mW E;have Dh:=s.nR E;have UF:=s.nS E;have o:s.m=bif c9 s then(bif decide (s.k=8) then i64.wrap (s.a+s.b) else 1) else 0:=rfl;have g:s.n=bif c9 s then(bif decide (s.k=3) then 0 else bif decide (s.k=4) then 2 else bif decide (s.k=5) then 2 else bif decide (s.k=8) then i64.wrap (s.a+s.b) else 1) else 0:=rfl;unfold Gy;have key:∀(d b:Bool) (j:Nat) (r:T),d=c9 s->b=zs (yk B) n->ZV aw G17 az (OU p q d s.n) 0 65 (OV x y s B n c b j) [s.t,br B n c]=some r->TO 65 [s.t,br B n c] r:=λd b j r _ _ h =>
  Qm qY Qn (qr (qr qp (qq V)) (qq U)) (A:=az) (m:=0) qh (IZ (Zf hx _) (QS (Zf S _))) h
 have f:∀e,(∃j,ZV aw G17 az (OU p q (c9 s) s.n) 0 65 (OV x y s B n c (zs (yk B) n) j) [s.t,br B n c]=some (.aK [.ag,iI e]))->iY s B n=e->e≠0->TO 65 [s.t,br B n c] (if iY s B n=0 then .aK [.new (.view 1 s.mN (λj=>[iI (fe s B j)]) none),iI 0] else .aK [.ag,iI (iY s B n)]):=λe ⟨j,h⟩ he aZ=>by
  rw[he,we aZ];exact key _ _ _ _ rfl rfl h
 cases h1:c9 s
 .refine f 1 ⟨0,?_⟩ (J9 h1) (by decide);rw[h1] at Q ⊢;rw[Bm];clear f key D o g H C
  exact up
 have hk:=D.1 h1;rw[h1] at Q o g;have Y:((s.nN:Nat):Int)=s.n:=by unfold ao.nN;omega
 have Z:((s.mN:Nat):Int)=s.m:=by unfold ao.mN;omega
 by_cases P:n=s.nN
 rotate_left
 .refine f 5 ⟨0,?_⟩ (OH h1 P) (by decide);rw[h1,Bm];clear f key D o g H C;have X:¬(n:Int)=s.n:=by omega
  exact up
 have X:(n:Int)=s.n:=by omega
 rw[wm] at o g;cases z:zs (yk B) n
 .refine f 1 ⟨0,?_⟩ (UD h1 P (by rw[JN];exact z)) (by decide);have H:=H.2 z;rw[h1,z,Bm];clear f key D o g C
  exact up
 have H:=H.1 z;have hB:=(Z7 _ _).1 z;have u:=OI h1 P (by rw[JN];exact z);rw[h1,z] at f;by_cases N:s.k=4∨s.k=5
 ·have R:n=2:=by
   rcases N with q|q
   ·rw[dF ae,dT q] at g;simp only[wm,wp] at g;omega
   ·rw[dF ae,dF ae,dT q] at g;simp only[wm,wp] at g;omega
  have b0:=(Zr _ _).1 (hB 0 ae);have b1:=(Zr _ _).1 (hB 1 ae);rw[wl N] at u;by_cases I:4<B 0+B 1
  .rw[wl I] at u;refine f 9 ⟨0,?_⟩ u (by decide);rw[Bm,Qp (x:=B 0+B 1) ae ae];clear f key D o g C hB u h1 z;rcases N with q|q
   ·exact up
   ·exact up
  ·rw[we I] at u;rw[u,wl rfl];have J:s.mN=1:=by
    rw[dF ae] at o;simp only[wp] at o;omega
   rw[J];refine(aI.fh (key true true 0 (.aK [.fresh true 1 1 (λj=>[[iI 1]].getD (0+j) []) 1 (some 1),iI 0]) h1.symm z.symm ?_)).oO (.cons (.new (.view (.inr rfl) λj M=>?_)) (.Ue .nil))
   .rw[Bm,Qp (x:=B 0+B 1) ae ae];clear f key D o g C hB u h1 z;rcases N with q|q
    ·exact up
    ·exact up
   .rw[UV j M];unfold fe;rw[we ae,we ae];exact .refl _
 rw[we N] at u;by_cases I:s.k=6
 ·have R:n=1:=by
   rw[dF ae,dF ae,dF ae,dF ae] at g;simp only[wp] at g;omega
  have b0:=(Zr _ _).1 (hB 0 ae);rw[wl I] at u;by_cases O:B 0=3
  .rw[wl O] at u;refine f 9 ⟨0,?_⟩ u (by decide);rw[Bm];clear f key D o g C hB u h1 z
   exact up
  ·rw[we O] at u;rw[u,wl rfl];have J:s.mN=1:=by
    rw[dF ae] at o;simp only[wp] at o;omega
   rw[J];refine(aI.fh (key true true 0 (.aK [.fresh true 1 1 (λj=>[[iI (B 0+1)]].getD (0+j) []) 1 (some 1),iI 0]) h1.symm z.symm ?_)).oO (.cons (.new (.view (.inr rfl) λj M=>?_)) (.Ue .nil))
   .rw[Bm,Qp (x:=B 0+1) ae ae];clear f key D o g C hB u h1 z
    exact up
   .obtain rfl:j=0:=by omega
    unfold fe;rw[wl ⟨I,rfl⟩];exact .refl _
 rw[we I] at u;rw[u,wl rfl];by_cases O:s.k=7
 ·have R:n=1:=by
   rw[dF ae,dF ae,dF ae,dF ae] at g;simp only[wp] at g;omega
  have J:s.mN=1:=by
   rw[dF ae] at o;simp only[wp] at o;omega
  rw[J];refine(aI.fh (key true true 0 (.aK [.fresh true 1 1 (λj=>[[iI (B 0)]].getD (0+j) []) 1 (some 1),iI 0]) h1.symm z.symm ?_)).oO (.cons (.new (.view (.inr rfl) λj M=>?_)) (.Ue .nil))
  .rw[Bm];clear f key D o g C hB u h1 z
   exact up
  .obtain rfl:j=0:=by omega
   unfold fe;rw[we ae,wl ⟨O,rfl⟩];exact .refl _
 have J:1<=s.mN/\s.mN<=4:=by
  by_cases q:s.k=8
  .rw[dT q,wm,Qp ae ae] at o;omega
  .rw[dF q,wp] at o;omega
 obtain⟨j,M⟩:∃j,s.mN=j+1:=⟨s.mN-1,ae⟩;have C:=C j ae;rw[M];refine(aI.fh (key true true j (.aK [.fresh true 1 (j+1) (λ_=>[iI 1]) (j+1) none,iI 0]) h1.symm z.symm ?_)).oO (.cons (.new (.view (.inl rfl) λi hi=>?_)) (.Ue .nil))
 .rw[Bm];clear f key D o g hB u h1 z
  (repeat (first|refine BS ?_|refine BF ?_))
  rw[wn,qO (wc _),wF];rfl
 .unfold fe;rw[we ae,we ae];exact .refl _
set_option maxHeartbeats 1000000
def rc:Nat->Int
 |11=>3
 |14=>2
 |_=>1
def re:Nat->Int
 |10=>3
 |13=>2
 |_=>1
def qtf(a:Nat)(h1:10<=a)(h2:a<=14)(f:Bool):TO 68 [.agg [uI 7,uI 0,uI (a:Int),.bool f]] (ao.mk 8 1 (rc a) (re a) f).t:=by
 obtain rfl|rfl|rfl|rfl|rfl:a=10∨a=11∨a=12∨a=13∨a=14:=by omega
 all_goals cases f<;>exact QA qY Qn qp (K:=qv) (A:=az) (m:=0) qh
structure aL where
 (y n:Int)
structure bw where
 (y n:Int) (f:Bool) (d:Int)
structure dO where
 (b:Int) (w:Bool) (th:Nat->aL) (nt:Nat) (ps:Nat->bw) (np:Nat)
def aL.c(a:aL):JO:=[uI a.y,iI a.n]
def bw.c(p:bw):JO:=[uI p.y,iI p.n,.bool p.f,uI p.d]
def bw.id(p:bw):aL:=⟨p.y,p.n⟩
def fj(g:Nat->aL)(n:Nat)(c:Option Nat):T:=.view 2 n (λj=>(g j).c) c
def cH(g:Nat->bw)(n:Nat)(c:Option Nat):T:=.view 4 n (λj=>(g j).c) c
def dO.c(l:dO):JO:=[uI l.b,.bool l.w,fj l.th l.nt none,cH l.ps l.np none]
structure nT where
 h:Nat
 ln:Nat->Nat
 L:Nat->Nat->dO
def OW(g:Nat->dO)(n:Nat)(c:Option Nat):T:=.view 4 n (λj=>(g j).c) c
def nT.v(t:nT):T:=.view 1 t.h (λy=>[OW (t.L y) (t.ln y) none]) none
structure aL.Ok(a:aL):Prop where
 y:0<=a.y/\a.y<256
 n:-9223372036854775808<=a.n/\a.n<=9223372036854775807
structure bw.Ok(p:bw):Prop where
 i:p.id.Ok
 d:0<=p.d/\p.d<256
structure dO.Ok(l:dO):Prop where
 b:0<=l.b/\l.b<256
 th:∀j,(l.th j).Ok
 ps:∀j,(l.ps j).Ok
 nt:l.nt<=100000
 np:l.np<=100000
structure nT.Ok(t:nT):Prop where
 h:t.h<=1000
 ln:∀y,t.ln y<=10000
 L:∀y i,(t.L y i).Ok
def nU(t:nT)(x:Int)(i:Nat):JO:=[iI x,t.v,iI t.h,iI i]
def Cu(p q:bw):Bool:=(decide (p.d=0) || decide (p.d=1))&&(decide (q.d=0) || decide (q.d=1))&&!decide (p.d=q.d)&&(decide (p.y=q.y)&&decide (p.n=q.n)&&(p.f==q.f))
def OX(l:dO)(i:Nat):aL:=if i<l.nt then l.th i else(l.ps (i-l.nt)).id
section
variable (t:nT) (l:dO) (i y:Nat) (b b1 b2:Bool) (p:JO->T->Prop) (x z:JO->qa->Ex->JO->qa->Prop) (g:Nat->bw) (m:Nat)
end
def tkH(K:List Int)(hs:List Int->Bool):List Int->Bool:=λl=>n5 l K || (n5 l K || hs l)
def hF:List (List Int)->List Int->Bool
 |[]=>λ_=>false
 |K::L=>tkH K (hF L)
section
variable (t:nT) (y i k:Nat) (hs dL iL:List Int->Bool) (vl vl1 vl2:List Int->Int) (bn bn1 bn2:List Int->Nat) (ck ck1 ck2:Nat) (x:JO->qa->Ex->JO->qa->Prop) (b:Bool)
end
def oi(m:Nat->Int)(a:aL):Bool:=decide (a.n<m (a.y-1).toNat)
def tP(s:Nat->Int)(y:Nat)(v:Int):Nat->Int:=λe=>bif e==y then v else s e
def UX(s:Nat->Int)(y:Nat)(v:Int):tP s y v y=v:=by simp[tP]
def cM(M:Nat->Nat):Nat->Int:=λe=>(M e:Int)
def nN(t:nT)(M:Nat->Nat)(y:Nat):Nat:=(t.L y (M y)).nt+(t.L y (M y)).np
def rdy(t:nT)(M:Nat->Nat)(y:Nat):Bool:=decide (M y<t.ln y)&&zs (λi=>oi (cM M) (OX (t.L y (M y)) i)) (nN t M y)
def inc(M:Nat->Nat)(y:Nat):Nat->Nat:=λe=>bif e==y then M e+1 else M e
def qpK(M:Nat->Nat)(y:Nat):inc M y y=M y+1:=by unfold inc;simp
def OY(M:Nat->Nat){y e:Nat}(h:e≠y):inc M y e=M e:=by unfold inc;rw[show(e==y)=false by simpa using h];rfl
def qnV{M:Nat->Nat}{y:Nat}{a:aL}(h:oi (cM M) a=true):oi (cM (inc M y)) a=true:=by
 unfold oi cM at *
 rw[wC] at *
 by_cases q:(a.y-1).toNat=y
 .rw[q] at h ⊢;rw[qpK];omega
 .rw[OY M q];exact h
def ED(t:nT)(M:Nat->Nat)(s:Nat->Int):Prop:=∀y,y<t.h->∃c:Nat,s y=(c:Int)/\c<=nN t M y/\∀i,i<c->oi (cM M) (OX (t.L y (M y)) i)=true
def ED.tP{t:nT}{M:Nat->Nat}{s:Nat->Int}(h:ED t M s){y c:Nat}(k:c<=nN t M y)(j:∀i,i<c->oi (cM M) (OX (t.L y (M y)) i)=true):ED t M (Go.Ab.tP s y c):=by
 intro z g;by_cases q:z=y
 .subst q;exact⟨c,UX _ _ _,k,j⟩
 .obtain⟨d,f,e,a⟩:=h z g;refine⟨d,?_,e,a⟩;rw[←f];unfold Go.Ab.tP;rw[show(z==y)=false by simpa using q];rfl
def ED.take{t:nT}{M:Nat->Nat}{s:Nat->Int}(h:ED t M s)(y:Nat):ED t (inc M y) (Go.Ab.tP s y 0):=by
 intro z j;by_cases q:z=y
 .subst q;exact⟨0,UX _ _ _,wR _,λi a=>ae⟩
 .obtain⟨d,g,f,e⟩:=h z j;refine⟨d,?_,?_,?_⟩
  .rw[←g];unfold Go.Ab.tP;rw[show(z==y)=false by simpa using q];rfl
  .unfold nN at *;rw[OY M q];exact f
  .rw[OY M q];exact λi a=>qnV (e i a)
def pick(t:nT)(M:Nat->Nat):Option Nat:=(List.range t.h).find? (rdy t M)
section
variable {E:Type}
structure uJ(n a b:Nat)(y z:Nat->E):Prop where
 perm:((List.range n).map z).Perm ((List.range n).map y)
 out:∀k,k<a∨b<=k->z k=y k
 py:∀k,a<=k->k<b->∃k',a<=k'/\k'<b/\z k=y k'
structure WkO(lt:E->E->Bool):Prop where
 tr:∀x y z,lt y x=false->lt z y=false->lt z x=false
 asy:∀x y,lt x y=true->lt y x=false
end
section
variable {E:Type} {lt:E->E->Bool}
end
section
variable {E:Type} {lt:E->E->Bool}
end
structure aV where
 (ay an cy cn n:Int)
def aV.c(x:aV):JO:=[uI x.ay,iI x.an,uI x.cy,iI x.cn,iI x.n]
def cB(v n:Nat)(y:Nat->aV):aq:=⟨v,5,n,λj=>(y j).c,true,false,none⟩
def Cv(x y:Int):Int:=if x=0 then y else x
def Aj(x y:Int):Int:=if x<y then -1 else if y<x then 1 else 0
def Cw(a b:aL):Int:=Cv (Aj a.y b.y) (Aj a.n b.n)
def EE(a b c d:Int):Int:=Cw ⟨a,b⟩ ⟨c,d⟩
def UY(a b:Int):Cv a b<0↔a<0∨a=0/\b<0:=by
 unfold Cv;by_cases h:a=0
 .rw[wl h];omega
 .rw[we h];omega
def UZ(a b:Int):Aj a b<0↔a<b:=by
 unfold Aj;by_cases h:a<b
 .rw[wl h];omega
 .rw[we h];by_cases d:b<a
  .rw[wl d];omega
  .rw[we d];omega
def Ln(a b:Int):Aj a b=0↔a=b:=by
 unfold Aj;by_cases h:a<b
 .rw[wl h];omega
 .rw[we h];by_cases d:b<a
  .rw[wl d];omega
  .rw[we d];omega
def O0(a b c d:Int):EE a b c d<0↔a<c∨a=c/\b<d:=by
 show Cv (Aj a c) (Aj b d)<0↔_;rw[UY,UZ,UZ,Ln]
def qma(a b c d:Int):EE a b c d=0↔a=c/\b=d:=by
 show Cv (Aj a c) (Aj b d)=0↔_;unfold Cv;by_cases h:Aj a c=0
 .rw[wl h,Ln];exact⟨λq=>⟨(Ln _ _).1 h,q⟩,λq=>q.2⟩
 .rw[we h];exact⟨λq=>absurd q h,λq=>absurd ((Ln _ _).2 q.1) h⟩
structure Bn where
 (t:nT) (cr:Nat->aV) (nc:Nat) (he:Nat->aL) (nh:Nat) (fa:Nat->aL) (nf:Nat)
def sL(g:Nat->aV)(n:Nat)(c:Option Nat):T:=.view 5 n (λj=>(g j).c) c
def Bn.c(F:Bn):JO:=[F.t.v,sL F.cr F.nc none,fj F.he F.nh none,fj F.fa F.nf none]
structure aV.Ok(x:aV):Prop where
 a:(aL.mk x.ay x.an).Ok
 b:(aL.mk x.cy x.cn).Ok
def qrb(a b c d e f g h:Int):Int:=Cv (EE a b e f) (EE c d g h)
def EF{j n:Nat}(h:j<n):(decide ((0:Int)<=ofNat j)&&decide (ofNat j<ofNat n))=true:=by simp;omega
structure Bn.Ok(F:Bn):Prop where
 t:F.t.Ok
 cr:∀i,(F.cr i).Ok
 nc:F.nc<=1000000
 he:∀i,(F.he i).Ok
 nh:F.nh<=1000000
 fa:∀i,(F.fa i).Ok
 nf:F.nf<=1000000
structure b6 where
 (i:Bool) (pl ct:Int) (w:Bool) (pe:Nat->bw) (np:Nat)
def b6.c(y:b6):JO:=[.bool y.i,iI y.pl,iI y.ct,.bool y.w,cH y.pe y.np none]
set_option maxHeartbeats 0
set_option maxRecDepth 100000
set_option maxHeartbeats 400000
section
variable (F:Bn)
end
structure AL where
 (g:Nat->Nat->aL) (l:Nat->Nat) (n:Nat) (c:Option Nat)
def AL.v(s:AL):T:=.view 1 s.n (λi=>[fj (s.g i) (s.l i) none]) s.c
def iB(a:Nat)(z:Nat->aL):aq:=.mk 0 2 a (λx=>(z x).c) true false none
set_option maxHeartbeats 0
structure EG where
 (b:Nat->Int) (s:AL)
def EG.v(x:EG):T:=.view 2 x.s.n (λi=>[uI (x.b i),fj (x.s.g i) (x.s.l i) none]) none
def hB(n:Nat)(w:Nat->T):aq:=.mk 0 1 n (λe=>[w e]) false false none
def EG.w(x:EG)(i:Nat):Nat->T:=λe=>bif e.blt i then fj (x.s.g e) (x.s.l e) none else .ag
structure Dy where
 (s:EG) (Y:Nat->b6) (ny:Nat) (F:Bn) (d:Int)
def GA(Y:Nat->b6)(n:Nat):T:=.view 5 n (λj=>(Y j).c) none
def Dy.c(w:Dy):JO:=[w.s.v,GA w.Y w.ny,w.F.t.v,sL w.F.cr w.F.nc none,fj w.F.he w.F.nh none,fj w.F.fa w.F.nf none,uI w.d]
def gF(w:Dy)(i:Nat):JO:=[.ah w.c,GA w.Y w.ny,iI (ofNat w.ny),iI (ofNat i)]
structure Dy.Ok(w:Dy):Prop where
 F:w.F.Ok
 Y:∀i,(w.Y i).np<=1000000
set_option maxHeartbeats 1000000
def O5(d:Int):Int:=if d=1 then 179 else -13
structure Sx where
 (row sl:T) (d:Int) (Y:Nat->b6) (ln v:Nat->Nat) (L:Nat->Nat->dO)
def yB(Y:Nat->b6):aq:=⟨0,5,6,λe=>(Y e).c,false,false,none⟩
def tB(ln v:Nat->Nat):aq:=⟨0,1,6,λe=>[.own (3+e) (v e) 0 (ln e) none],false,false,none⟩
def rB(ln v:Nat->Nat)(L:Nat->Nat->dO)(e:Nat):aq:=⟨v e,4,ln e,λj=>(L e j).c,false,false,none⟩
def p0:T:=.ptr 0 0 0 0
def yI(K:Nat):T:=uI (ofNat K+1)
def yJ(K:Nat):Int:=u8.wrap (ofNat K+1-1)
def rz:T:=.ah [uI 0,iI 0]
def ry(y:b6):T:=.ah [.bool true,iI y.pl,iI (y.ct+1),.bool false,.ag]
def rm(y:b6):T:=.ah [iI y.ct,.bool y.w,cH y.pe y.np (some y.np)]
def b6.next(y:b6):b6:=⟨true,y.pl,y.ct+1,false,λ_=>⟨0,0,false,0⟩,0⟩
def b6.lp(y:b6)(b:Int)(th:Nat->aL)(nt:Nat):dO:=⟨b,y.w,th,nt,y.pe,y.np⟩
def aB{α:Type}(f:Nat->α)(K:Nat)(x:α):Nat->α:=λe=>if e=K then x else f e
def mY(L:Nat->Nat->dO)(K i:Nat)(x:dO):Nat->Nat->dO:=λe j=>if e=K/\j=i then x else L e j
def Sx.loop(s:Sx)(K:Nat)(b:Int)(th:Nat->aL)(nt:Nat):Sx :=
 { s with Y:=aB s.Y K (s.Y K).next,ln:=aB s.ln K (s.ln K+1),v:=aB s.v K (s.v K+1),L:=mY s.L K (s.ln K) ((s.Y K).lp b th nt) }
def lx(ln v:Nat->Nat)(K w:Nat):aq:=⟨0,1,6,λe=>[bif e==K then .own (3+K) w 0 (ln K+1) none else .own (3+e) (v e) 0 (ln e) none],false,false,none⟩
def rR(ln v:Nat->Nat)(L:Nat->Nat->dO)(K:Nat)(x:JO):aq:=⟨v K+1,4,ln K+1,λj=>bif j.blt (ln K) then(L K (0+j)).c else [x].getD (j-ln K) [],false,false,none⟩
def O7(ln v:Nat->Nat)(L:Nat->Nat->dO)(K:Nat)(x:JO):aq:=⟨v K,4,ln K,λj=>bif Nat.ble (0+ln K) j&&j.blt (0+ln K+1) then [x].getD (j-(0+ln K)) [] else(L K j).c,false,false,none⟩
def tz(ln v:Nat->Nat)(L:Nat->Nat->dO)(K:Nat)(x:aq)(e:Nat):aq:=bif e==K then x else rB ln v L e
inductive Dz:Nat->Prop|a:Dz 0|b:Dz 1|c:Dz 2|d:Dz 3|e:Dz 4|f:Dz 5
def zy:∀{K:Nat},K<6->Dz K|0,_=>.a|1,_=>.b|2,_=>.c|3,_=>.d|4,_=>.e|5,_=>.f|n+6,h=>absurd h ae
section
variable (p q:JO->T->Prop) (n:Int) (y:b6) (s:Sx) (rest:qa) (K:Nat) (b:Int) (th:Nat->aL) (nt:Nat)
end
def t6(ln:Nat->Nat)(L:Nat->Nat->dO):nT:=⟨6,ln,L⟩
def qre{K:Nat}(h:K<6):yJ K=ofNat K:=by
 unfold yJ;rw[show ofNat K+1-1=ofNat K by omega,s9 bH bH]
def fu.fG(sz:Nat)(g:Nat->JO){cap:Option Nat}(a:cap=none∨cap=some 0):fu .ag (.view sz 0 g cap):=.inr ⟨rfl,.fG sz g a,rfl⟩
def fu.view{sz n:Nat}{g g':Nat->JO}{c a:Option Nat}(e:a=c∨a=none)(d:∀j,j<n->eO (g j) (g' j)):fu (.view sz n g c) (.view sz n g' a):=.inr ⟨rfl,.view e d,rfl⟩
def yG(Y:Nat->b6)(K:Nat)(c:JO):aq:=⟨0,5,6,λe=>k8 (e==K) c (Y e).c,false,false,none⟩
section
variable (p:JO->T->Prop) (y:b6) (s:Sx) (rest:qa) (K:Nat) (place:Int) (l:Nat->bw) (m:Nat) (z:Nat×(Nat->bw))
end
def bU:aL:=⟨0,0⟩
def fv:bw:=⟨0,0,false,0⟩
def AM(v:Nat)(l:List aL):aq:=⟨v,2,l.length,λj=>(l.getD j bU).c,true,false,none⟩
def iQ(v:Nat)(l:List bw):aq:=⟨v,4,l.length,λj=>(l.getD j fv).c,true,false,none⟩
def aX(l:List aL):T:=fj (λj=>l.getD j bU) l.length none
def lV(l:List bw):T:=cH (λj=>l.getD j fv) l.length none
structure aF where
 (b:Int) (l:List aL)
def aF.c(s:aF):JO:=[uI s.b,aX s.l]
def be:aF:=⟨0,[]⟩
def bR(l:List aF)(c:Option Nat):T:=.view 2 l.length (λj=>(l.getD j be).c) c
def qnW{l:List bw}{x:bw}(j:Nat)(a:j<l.length+1):((l++[x]).getD j fv).c=(bif Nat.blt j l.length then(l.getD (0+j) fv).c else [x.c].getD (0+(j-l.length)) []) :=
 qnF (enc:=bw.c) (g2:=λk=>[x.c].getD (0+k) []) rfl a
def jB(N:Nat)(f:List aL):aq:=⟨0,2,N,λe=>(f.getD e bU).c,true,false,none⟩
def bO(l:List aF):List aL:=(l.map aF.l).flatten
def EH(n:Nat)(f:Nat->bw):aq:=⟨0,4,n,λe=>(f e).c,true,false,none⟩
def oR(b r:Int)(l:List aL)(o:List bw)(v i:Nat):JO:=[iI r,.ah [uI b,aX l],.own 0 v 0 o.length none,iI i]
def Cx(b r:Int)(l:List aL)(o:List bw)(v i k:Nat):JO:=[iI r,.ah [uI b,aX l],.own 0 v 0 o.length none,iI i,iI k]
def DA:Wa:=[0,0,2,1,2,2]
def EI:Wa:=0::1::2::DA
def U4(b r:Int)(l:List aL)(o:List bw)(v i:Nat):cD 122 (1::DA) [1,2,5,6] (oR b r l o v i) [iQ v o] [1,2,5,6] =
(
 bif decide (ofNat i<ofNat l.length) then
 some ((.normal,oR b r l o v i,[iQ v o]))
 else
 some ((.exit 0,oR b r l o v i,[iQ v o]))):=qh
def qth(b r:Int)(l:List aL)(o:List bw)(v i:Nat):cD 122 (1::EI) [1,2,5,6] (oR b r l o v i) [iQ v o] [1,2,5,6,7] =
(
 some ((.normal,Cx b r l o v i i,[iQ v o]))):=qh
def qti(b r:Int)(l:List aL)(o:List bw)(v i k:Nat):cD 122 (1::2::EI) [1,2,5,6,7] (Cx b r l o v i k) [iQ v o] [1,2,5,6,7] =
(
 bif decide (r=0) then
 some ((.normal,[iI r,.ah [uI b,aX l],.own 0 v 0 o.length
 none,iI (.ofNat i),iI (i64.wrap (i64.wrap (ofNat l.length-1)-ofNat i))],[iQ v o]))
 else
 some ((.normal,Cx b r l o v i k,[iQ v o]))):=qh
def U5(b r:Int)(l:List aL)(o:List bw)(v i k:Nat):cD 122 (2::2::EI) [1,2,5,6,7] (Cx b r l o v i k) [iQ v o] [1,2,5,6] =
(
 bif decide (0<=ofNat k)&&decide (ofNat k<ofNat l.length) then
 bif decide (b=1) then
 bif v==v&&true then
 bif ((0:Nat)+o.length).ble o.length then
 bif ((o.length+(1:Nat))*(25:Nat)).ble 70368744177664 then
 bif ((0:Nat)+o.length+(1:Nat)).ble o.length then
 some ((.normal,[iI r,.ah [uI b,aX l],.own 0 v 0 (o.length+1)
 none,iI (.ofNat i)],[.mk v 4 o.length (λj=>bif ((0:Nat)+o.length).ble j&&j.blt (0+o.length+1) then [[uI (l.getD k (aL.mk (0:Int) (0:Int))).y,iI (l.getD k (aL.mk (0:Int) (0:Int))).n,T.bool true,uI (u8.wrap r)]].getD ((0:Nat)+(j-(0+o.length))) []
 else(o.getD j (bw.mk (0:Int) (0:Int) false (0:Int))).c) true false
 none,.mk 0 4 1 (λj=>[[uI (l.getD k (aL.mk (0:Int) (0:Int))).y,iI (l.getD k (aL.mk (0:Int) (0:Int))).n,T.bool true,uI (u8.wrap r)]].getD j []) true true
 none]))
 else
 some ((.normal,[iI r,.ah [uI b,aX l],.own 0 (v+1) (0:Nat) (o.length+1)
 none,iI (.ofNat i)],[.mk (v+1) (4:Nat) (o.length+1) (λj=>bif j.blt o.length then(o.getD ((0:Nat)+j) (bw.mk (0:Int) (0:Int) false (0:Int))).c
 else [[uI (l.getD k (aL.mk (0:Int) (0:Int))).y,iI (l.getD k (aL.mk (0:Int) (0:Int))).n,T.bool true,uI (u8.wrap r)]].getD ((0:Nat)+(j-o.length)) []) true false
 none,.mk 0 4 1 (λj=>[[uI (l.getD k (aL.mk (0:Int) (0:Int))).y,iI (l.getD k (aL.mk (0:Int) (0:Int))).n,T.bool true,uI (u8.wrap r)]].getD j []) true true
 none]))
 else none else none else none else
 bif v==v&&true then
 bif ((0:Nat)+o.length).ble o.length then
 bif ((o.length+(1:Nat))*(25:Nat)).ble 70368744177664 then
 bif ((0:Nat)+o.length+(1:Nat)).ble o.length then
 some ((.normal,[iI r,.ah [uI b,aX l],.own 0 v 0 (o.length+1)
 none,iI (.ofNat i)],[.mk v 4 o.length (λj=>bif ((0:Nat)+o.length).ble j&&j.blt (0+o.length+1) then [[uI (l.getD k (aL.mk (0:Int) (0:Int))).y,iI (l.getD k (aL.mk (0:Int) (0:Int))).n,T.bool false,uI (u8.wrap r)]].getD ((0:Nat)+(j-(0+o.length))) []
 else(o.getD j (bw.mk (0:Int) (0:Int) false (0:Int))).c) true false
 none,.mk 0 4 1 (λj=>[[uI (l.getD k (aL.mk (0:Int) (0:Int))).y,iI (l.getD k (aL.mk (0:Int) (0:Int))).n,T.bool false,uI (u8.wrap r)]].getD j []) true true
 none]))
 else
 some ((.normal,[iI r,.ah [uI b,aX l],.own 0 (v+1) (0:Nat) (o.length+1)
 none,iI (.ofNat i)],[.mk (v+1) (4:Nat) (o.length+1) (λj=>bif j.blt o.length then(o.getD ((0:Nat)+j) (bw.mk (0:Int) (0:Int) false (0:Int))).c
 else [[uI (l.getD k (aL.mk (0:Int) (0:Int))).y,iI (l.getD k (aL.mk (0:Int) (0:Int))).n,T.bool false,uI (u8.wrap r)]].getD ((0:Nat)+(j-o.length)) []) true false
 none,.mk 0 4 1 (λj=>[[uI (l.getD k (aL.mk (0:Int) (0:Int))).y,iI (l.getD k (aL.mk (0:Int) (0:Int))).n,T.bool false,uI (u8.wrap r)]].getD j []) true true
 none]))
 else none else none else none else
 none):=qh
def qtj(b r:Int)(l:List aL)(o:List bw)(v i:Nat):cD 122 (2::2::DA) [1,2,5,6] (oR b r l o v i) [iQ v o] [1,2,5,6] =
(
 some ((.normal,[iI r,.ah [uI b,aX l],.own 0 v 0 o.length
 none,iI (i64.wrap (ofNat i+1))],[iQ v o]))):=qh
def r24(o:List bw)(v:Nat):ZE aw G17 (az 122).aa Tryz.f122 (qB [4] [.own 0 v 0 o.length none] [iQ v o]) (λx=>some (ye [iQ v o] x)) =
(
 some (bif v==v&&((0:Nat)+o.length).ble o.length then .fresh true (4:Nat) o.length (λj=>(o.getD ((0:Nat)+j) (bw.mk (0:Int) (0:Int) false (0:Int))).c) o.length none else .undef)):=qh
def tA(b r:Int)(a:aL):bw:=⟨a.y,a.n,decide (b=1),r⟩
abbrev Bp:=Pq 122 []
def Jm{p l l1:Wa}{vs v1:JO}{h h1:qa}{e:Ex}(a:cD 122 p l vs h l1=some (e,v1,h1)):Bp p l vs h e l1 v1 h1 :=
 cf _ a
def U6{p l l1:Wa}{vs v1 v2:JO}{h h1 h2:qa}{e:Ex}{x:Option (Ex×JO×qa)}(a:cD 122 p l vs h l1=x)(hx:x=some (e,v1,h1))(w:Wk G17 az 122 0 l1 v1 h1 v2 h2):Bp p l vs h e l1 v2 h2 :=
 Pz.post (Jm (a.trans hx)) w
section
variable {b r:Int} {l:List aL} {o:List bw} {v i k:Nat}
def qtk(h:i<l.length):Bp (1::DA) [1,2,5,6] (oR b r l o v i) [iQ v o] .normal [1,2,5,6] (oR b r l o v i) [iQ v o]:=by
 refine Jm ?_;rw[U4];exact BT rfl
def qrh(h:¬i<l.length):Bp (1::DA) [1,2,5,6] (oR b r l o v i) [iQ v o] (.exit 0) [1,2,5,6] (oR b r l o v i) [iQ v o]:=by
 refine Jm ?_;rw[U4];exact BF rfl
def qtl:Bp (1::EI) [1,2,5,6] (oR b r l o v i) [iQ v o] .normal [1,2,5,6,7] (Cx b r l o v i i) [iQ v o]:=Jm (by rw[qth])
def qtm(h:i<l.length)(a:l.length<=1000000):Bp (1::2::EI) [1,2,5,6,7] (Cx b r l o v i i) [iQ v o] .normal [1,2,5,6,7] (Cx b r l o v i (if r=0 then l.length-1-i else i)) [iQ v o]:=by
 refine Jm ?_;rw[qti];by_cases q:r=0
 ·rw[dT q,wm,wl q,Qp (x:=ofNat l.length-1) (by show(_:Int)<=(l.length:Int)-1;omega) (by show(l.length:Int)-1<=_;omega),Qp (x:=ofNat l.length-1-ofNat i) (by show(_:Int)<=(l.length:Int)-1-(i:Int);omega) (by show(l.length:Int)-1-(i:Int)<=_;omega)];have e:ofNat l.length-1-ofNat i=ofNat (l.length-1-i):=by
   show(l.length:Int)-1-(i:Int)=((l.length-1-i:Nat):Int);omega
  rw[e];rfl
 .rw[dF q,wp,we q]
def qtn(h:k<l.length)(s:o.length<=1000000)(hr:0<=r/\r<=255):Bp (2::2::EI) [1,2,5,6,7] (Cx b r l o v i k) [iQ v o] .normal [1,2,5,6] (oR b r l (o++[tA b r (l.getD k bU)]) (v+1) i) [iQ (v+1) (o++[tA b r (l.getD k bU)])]:=by
 have hw:u8.wrap r=r:=s9 hr.1 hr.2;have key:∀a,decide (b=1)=a->∀nt,am G17 (az 122).aa nt [1,2,5,6] 0 [iI r,.ah [uI b,aX l],.own 0 (v+1) 0 (o.length+1) none,iI i] [⟨v+1,4,o.length+1,λj=>bif Nat.blt j o.length then(o.getD (0+j) fv).c else [[uI (l.getD k bU).y,iI (l.getD k bU).n,.bool a,uI r]].getD (0+(j-o.length)) [],true,false,none⟩,⟨0,4,1,λj=>[[uI (l.getD k bU).y,iI (l.getD k bU).n,.bool a,uI r]].getD j [],true,true,none⟩] (oR b r l (o++[tA b r (l.getD k bU)]) (v+1) i) [iQ (v+1) (o++[tA b r (l.getD k bU)])]:=by
  intro a e nt;refine am.bZ [0] rfl ?_ rfl (.cons ⟨rfl,rfl,?_,id,λj g=>?_⟩ .nil)
  .unfold oR;rw[wD];rfl
  .show(o++[_]).length=_;rw[wD];rfl
  .have f:j<o.length+1:=g;subst e;exact qnW j f
 by_cases d:b=1
 .apply U6
  .apply U5
  .rw[hw];exact BT (BT (BT (BT (BT (BF rfl))) au))
  .exact key true (wq d)
 .apply U6
  .apply U5
  .rw[hw];exact BT (BF (BT (BT (BT (BF rfl))) au))
  .exact key false (xk d)
def jv(b r:Int)(l:List aL):Nat->List bw
 |0=>[]
 |i+1=>jv b r l i++[tA b r (l.getD (if r=0 then l.length-1-i else i) bU)]
def U7(b r:Int)(l:List aL):∀i,(jv b r l i).length=i
 |0=>rfl
 |i+1=>by simp[jv,U7 b r l i]
def qto(h:i<=1000000):Bp (2::2::DA) [1,2,5,6] (oR b r l o v i) [iQ v o] .normal [1,2,5,6] (oR b r l o v (i+1)) [iQ v o]:=by
 refine Jm ?_;rw[qtj,il h];rfl
def qtp(h:i<l.length)(a:l.length<=1000000)(hr:0<=r/\r<=255):Bp DA [1,2,5,6] (oR b r l (jv b r l i) i i) [iQ i (jv b r l i)] .normal [1,2,5,6] (oR b r l (jv b r l (i+1)) (i+1) (i+1)) [iQ (i+1) (jv b r l (i+1))]:=by
 have e:=U7 b r l i;have d:(if r=0 then l.length-1-i else i)<l.length:=by split<;>omega
 exact av (qtk h) (av (fi 1 (av qtl (av (qtm h a) (qtn d ae hr)))) (qto ae))
def w24:Wk G17 az 122 0 [1,2,5,6] [iI r,.ah [uI b,aX l],.ag,iI 0] [] (oR b r l [] 0 0) [iQ 0 []]:=λnt=>by
 refine am.Cl [iQ 0 []] (by simp[iQ]) rfl (λk x z hx a=>?_) (cT.refl _);rcases k with _|_|_|_|k<;>simp only[oR,wO,vZ,List.getElem?_nil,wi,reduceCtorEq] at hx a
 case succ.succ.zero =>
  subst hx a;exact .inl (nQ.own (b:=iQ 0 []) (by decide) rfl rfl)
 all_goals (subst hx;subst a;exact .refl _)
def qmd(g:l.length<=1000000)(hr:0<=r/\r<=255):TO 122 [.agg [uI b,aX l],iI r] (.fresh true 4 ((jv b r l l.length).length-0) (λj=>((jv b r l l.length).getD (0+j) fv).c) (jv b r l l.length).length none):=by
 have u:=Pz.count (P:=aw) (G:=G17) (A:=az) (f:=122) (h0:=[]) (p:=[0,2,1,2,2]) (l:=[1,2,5,6]) (l1:=[1,2,5,6]) (e:=.exit 0) qh (λi=>oR b r l (jv b r l i) i i) (λi=>[iQ i (jv b r l i)]) (n:=l.length) au
  (λi s=>qtp s g hr) (lk (qrh (Nat.lt_irrefl _)))
 refine Pz.told (A:=az) (l:=[0,1]) Qn Tryz.func122 qh qh qh (l1:=[4]) (v1:=[.own 0 l.length 0 (jv b r l l.length).length none]) (h1:=[iQ l.length (jv b r l l.length)]) ?_ (by rw[r24,wF,wn,qO (wc _)];rfl);refine av (Jm (v1:=[iI r,.ah [uI b,aX l]]) (h1:=[]) (l1:=[1,2]) qh) (av (Jm (v1:=[iI r,.ah [uI b,aX l],.ag]) (h1:=[]) (l1:=[1,2,5]) qh) (av (av (Pz.post (Jm (v1:=[iI r,.ah [uI b,aX l],.ag,iI 0]) (h1:=[]) (l1:=[1,2,5,6]) qh) w24) (fi 0 u)) (Jm qh)))
def U8(a:l.length<=1000000)(hr:0<=r/\r<=255):TO 122 [.agg [uI b,aX l],iI r] (lV (jv b r l l.length)):=by
 have t:=(qmd (b:=b) a hr).fh;simp only[wn] at t;exact t.tn (.px _)
end
def pJ(N:Nat)(f:List bw):aq:=⟨0,4,N,λe=>(f.getD e fv).c,true,false,none⟩
def eC(d ct:Int):JO:=[.bool true,iI (O5 d),iI ct,.bool true,.ag]
def qtq(x:T)(_:JO):Option T:=some (.new x)
section
variable (p q r u:JO->T->Prop) (w:JO->qa->T->qa->Prop) (y:b6) (s:Sx) (rest H:qa) (K:Nat) (t place:Int) (l:T) (m:T) (z:Nat×(Nat->bw))
end
section
variable {s:Sx} {rest:qa} {K:Nat}
end
def bL:JO:=[.ag,.ag,.ag,.ag,.ag,.ag,uI 0]
section
variable (p q:JO->qa->T->qa->Prop) (u:JO->T->Prop) (s:Sx) (rest:qa) (x c1 c2 c3 c4:T) (e:Nat) (t:aq) (d:Int)
end
section
variable {s:Sx} {rest:qa}
end
noncomputable abbrev KG(K:bA):bA:=K.cE 1000002 (λ_ _=>.none)
def sB(n:Nat)(g:Nat->JO):aq:=.mk 0 2 n g false false none
section
variable (w:JO->qa->T->qa->Prop) (s:Sx) (H h:qa) (y n' a b:Int) (n i:Nat) (g:Nat->JO)
end
structure Lp where
 (b:Int) (w:Bool) (th:List aL) (ps:List bw)
def eG:Lp:=⟨0,false,[],[]⟩
def Lp.l(x:Lp):dO:=⟨x.b,x.w,λj=>x.th.getD j bU,x.th.length,λj=>x.ps.getD j fv,x.ps.length⟩
structure Yn where
 (i:Bool) (pl ct:Int) (w:Bool) (pe:List bw)
def Yn.y(x:Yn):b6:=⟨x.i,x.pl,x.ct,x.w,λj=>x.pe.getD j fv,x.pe.length⟩
def yz:Yn:=⟨false,0,0,false,[]⟩
structure Ys where
 (Y:Nat->Yn) (tb:Nat->List Lp)
def Ys.sx(q:Ys)(row sl:T)(d:Int)(v:Nat->Nat):Sx:=⟨row,sl,d,λe=>(q.Y e).y,λe=>(q.tb e).length,v,λe j=>((q.tb e).getD j eG).l⟩
def Ys.dz(q:Ys)(K:Nat)(y:Yn):Ys:={ q with Y:=aB q.Y K y }
def Yn.next(y:Yn):Yn:=⟨true,y.pl,y.ct+1,false,[]⟩
def Yn.lp(y:Yn)(b:Int)(th:List aL):Lp:=⟨b,y.w,th,y.pe⟩
def Ys.loop(q:Ys)(K:Nat)(b:Int)(th:List aL):Ys:=⟨aB q.Y K (q.Y K).next,aB q.tb K (q.tb K++[(q.Y K).lp b th])⟩
def rS(st:List bw)(p:bw):List bw:=if (decide (0<st.length)&&Cu (st.getD (st.length-1) fv) p)=true then st.dropLast else st++[p]
def Cy(st l:List bw):List bw:=l.foldl rS st
def Yn.go(y:Yn)(place:Int)(l:List bw):Yn:=⟨true,place,y.ct,y.w,Cy y.pe l⟩
def Yn.enter(y:Yn)(d:Int):Yn:=⟨true,O5 d,y.ct,true,[]⟩
def Sx.eqs{a b:Sx}(h1:a.row=b.row)(h2:a.sl=b.sl)(j:a.d=b.d)(i:a.Y=b.Y)(g:a.ln=b.ln)(f:a.v=b.v)(e:a.L=b.L):a=b:=by
 cases a;cases b;simp_all
def Zs{α:Type}(l:List α)(x d:α)(j:Nat):(l++[x]).getD j d=if j=l.length then x else l.getD j d:=by
 rw[wh,wh];by_cases h:j=l.length
 .subst h;simp
 .rw[we h];rcases wt j l.length with q|q
  .rw[wx q]
  .rw[wz (by simp;omega),wz ae]
def qnX(q:Ys)(row sl:T)(d:Int)(v:Nat->Nat)(K:Nat)(b:Int)(th:List aL):(q.sx row sl d v).loop K b (λj=>th.getD j bU) th.length=(q.loop K b th).sx row sl d (aB v K (v K+1)):=by
 refine Sx.eqs rfl rfl rfl (funext λe=>?_) (funext λe=>?_) rfl (funext λe=>funext λj=>?_)
 .show aB (λe=>(q.Y e).y) K (q.Y K).y.next e=(aB q.Y K (q.Y K).next e).y
  unfold aB;by_cases c:e=K
  .rw[wl c,wl c];rfl
  .rw[we c,we c]
 .show aB (λe=>(q.tb e).length) K ((q.tb K).length+1) e=(aB q.tb K (q.tb K++[(q.Y K).lp b th]) e).length;unfold aB;by_cases c:e=K
  .rw[wl c,wl c];simp
  .rw[we c,we c]
 .show mY (λe j=>((q.tb e).getD j eG).l) K (q.tb K).length ((q.Y K).y.lp b (λj=>th.getD j bU) th.length) e j=((aB q.tb K (q.tb K++[(q.Y K).lp b th]) e).getD j eG).l;unfold mY aB;by_cases c:e=K
  .rw[wl c,Zs,c];by_cases z:j=(q.tb K).length
   .rw[wl ⟨rfl,z⟩,wl z];rfl
   .rw[we (λh=>z h.2),we z]
  .rw[we (λh=>c h.1),we c]
def Jn{α:Type}(l:List α)(d:α){j:Nat}(h:j<l.length-1):l.dropLast.getD j d=l.getD j d:=by
 rw[wh,wh,List.getElem?_dropLast,wl h]
structure Lp.Ok(x:Lp):Prop where
 b:0<=x.b/\x.b<256
 th:∀a∈x.th,a.Ok
 ps:∀a∈x.ps,a.Ok
 nt:x.th.length<=1000
 np:x.ps.length<=10000
def O8{α:Type}{P:α->Prop}{l:List α}{d:α}(e:P d)(h:∀a∈l,P a)(j:Nat):P (l.getD j d):=by
 rw[wh];rcases wt j l.length with q|q
 .rw[wj q];exact h _ (List.getElem_mem q)
 .rw[wz q];exact e
def qpP:bU.Ok:=⟨by decide,by decide⟩
def qpQ:fv.Ok:=⟨⟨by decide,by decide⟩,by decide⟩
def Lp.Ok.l{x:Lp}(h:x.Ok):x.l.Ok:=⟨h.b,λj=>O8 qpP h.th j,λj=>O8 qpQ h.ps j,by have:=h.nt;show x.th.length<=_;omega,by have:=h.np;show x.ps.length<=_;omega⟩
def qpR:eG.Ok:=⟨by decide,(λa h=>(by cases h)),(λa h=>(by cases h)),by decide,by decide⟩
structure Ys.Ok(q:Ys):Prop where
 n:∀e,(q.tb e).length<=3000
 t:∀e,∀x∈q.tb e,x.Ok
def Ys.tt(q:Ys):nT:=t6 (λe=>(q.tb e).length) (λe j=>((q.tb e).getD j eG).l)
def Ys.Ok.tt{q:Ys}(h:q.Ok):q.tt.Ok:=⟨by show 6<=_;decide,λe=>by have:=h.n e;show(q.tb e).length<=_;omega,λe j=>(O8 qpR (h.t e) j).l⟩
def Ys.rf(q:Ys):Nat:=(q.tb 0).length+(q.tb 1).length+(q.tb 2).length+(q.tb 3).length+(q.tb 4).length+(q.tb 5).length
section
variable (q:Ys) (row sl:T) (d:Int) (v:Nat->Nat) (rest:qa) (K:Nat)
end
structure bD where
 (sl:List aF) (q:Ys) (cr:List aV) (he fa:List aL) (d:Int)
def pN:aV:=⟨0,0,0,0,0⟩
def aM(l:List aV):T:=sL (λj=>l.getD j pN) l.length none
def Ys.yv(q:Ys):T:=GA (λe=>(q.Y e).y) 6
def bD.cc(w:bD)(c:Option Nat):JO:=[bR w.sl c,w.q.yv,w.q.tt.v,aM w.cr,aX w.he,aX w.fa,uI w.d]
def nm(K i:Nat):aL:=⟨ofNat K+1,ofNat i⟩
def yX(K n:Nat):List aF:=(List.range n).map λi=>⟨0,[nm K i]⟩
def zE(K n:Nat):List aL:=(List.range n).map (nm K)
def yY(K:Nat):Nat->Ys
 |0=>(⟨λ_=>yz,λ_=>[]⟩:Ys).dz K (yz.enter 0)
 |i+1=>(yY K i).loop K 0 []
def KM(K n:Nat):bD:=⟨yX K n,(yY K n).dz K (((yY K n).Y K).go 179 []),[],zE K n,[],0⟩
def jS(K e:Nat):∀i,(yY K i).Y e=if e=K then ⟨true,-13,(i:Int),decide (i=0),[]⟩ else yz
 |0=>by
  show aB (λ_=>yz) K (yz.enter 0) e=_;unfold aB;by_cases c:e=K
  .rw[wl c,wl c];rfl
  .rw[we c,we c]
 |i+1=>by
  show aB (yY K i).Y K ((yY K i).Y K).next e=_
  unfold aB;rw[jS K e i,jS K K i];by_cases c:e=K
  .rw[wl c,wl c,wl rfl,Yn.next];simp
  .rw[we c,we c,we c]
def jw(K e:Nat):∀i,(yY K i).tb e=if e=K then(List.range i).map (λj=>⟨0,decide (j=0),[],[]⟩) else []
 |0=>by
  show([]:List Lp)=_;split<;>rfl
 |i+1=>by
  show aB (yY K i).tb K ((yY K i).tb K++[((yY K i).Y K).lp 0 []]) e=_;unfold aB;rw[jw K e i,jw K K i,jS K K i];by_cases c:e=K
  .rw[wl c,wl c,wl rfl,wl rfl,xj,vF];rfl
  .rw[we c,we c,we c]
def Q0:Ys:=⟨λ_=>yz,λ_=>[]⟩
def aI.DD{P:Program}{Gl:V9}{f:FuncId}{a l m r:JO}(t:aI P Gl f a (.aK (.agg l::r)))(h:fW l m):aI P Gl f a (.aK (.agg m::r)) :=
 ⟨t.enters,λw U aA u E s=>(t.calls w U aA u E s).mono λe w' ⟨v,k,j⟩=>⟨v,k,by
  obtain⟨B,I,X,h1,A,z,x,g,rfl,d⟩:=j;refine⟨B,I,X,h1,A,z,x,g,rfl,?_⟩;generalize g.toList=i at d;cases d with
  |cons _ v J _ i Y hx o =>
   obtain⟨H,rfl,D,C⟩:=hx;exact .cons _ _ _ _ _ _ ⟨H,rfl,D,h.Gi C⟩ o⟩⟩
def kU(K n:Nat):(yX K n).length=n:=by simp[yX]
def Va(K:Nat){n j:Nat}(h:j<n):(yX K n).getD j be=⟨0,[nm K j]⟩:=by
 simp[yX,wh,h]
def Vb(K n:Nat):bO (yX K n)=zE K n:=by
 unfold bO yX zE;rw[List.map_map]
 induction n with
 |zero=>rfl
 |succ n a=>rw[xj,vF,xN,a,vF];rfl
def zq(C:Nat->Int)(M:Nat)(d:Option Nat):T:=.view 1 M (λj=>[uI (C j)]) d
def uj(k:Nat)(g:Nat->ao):aq:=.mk k 5 k (λj=>(g j).c) true false none
def Z8(k m:Nat)(g:Nat->Int):aq:=.mk k 1 m (λj=>[iI (g j)]) true false none
def iZ(k m:Nat)(g:Nat->ao)(x:Nat->Int):qa:=[uj k g,Z8 k m x]
def qtr(B C:Nat->Int)(N M:Nat)(c d:Option Nat)(i k m:Nat)(H:qa):cD 30 [1,0,0,2,1,2,2,2,2] [0,1,6,7,8,9] [br B N c,zq C M d,.own 0 k 0 k none,.own 1 k 0 m none,iI (ofNat i),iI (ofNat k)] H [0,1,6,7,8,9] =
( bif decide (ofNat i<ofNat N) then zN [br B N c,zq C M d,.own 0 k 0 k
 none,.own 1 k 0 m
 none,iI (.ofNat i),iI (.ofNat k)] H else
 zX 0 [br B N c,zq C M d,.own 0 k 0 k
 none,.own 1 k 0 m
 none,iI (.ofNat i),iI (.ofNat k)] H):=qh
def qts(B C:Nat->Int)(N M:Nat)(c d:Option Nat)(i k m:Nat)(H:qa):cD 30 [1,0,0,2,1,2,2,2,2] [0,1,6,7,8,9] [br B N c,zq C M d,.own 0 k 0 k none,.own 1 k 0 m none,iI (ofNat i),iI (ofNat k)] H [6,7] =
( bif decide (ofNat i<ofNat N) then zN [.own 0 k 0 k
 none,.own 1 k 0 m
 none] H else
 zX 0 [.own 0 k 0 k
 none,.own 1 k 0 m
 none] H):=qh
def qtt(B C:Nat->Int)(N M:Nat)(c d:Option Nat)(i k m:Nat)(H:qa):cD 30 [1,0,1,2,0,0,2,1,2,2,2,2] [0,1,6,7,8,9] [br B N c,zq C M d,.own 0 k 0 k none,.own 1 k 0 m none,iI (ofNat i),iI (ofNat k)] H [0,1,6,7,8,9,10] =
( zN [br B N c,zq C M d,.own 0 k 0 k
 none,.own 1 k 0 m
 none,iI (.ofNat i),iI (.ofNat k),uI 0] H):=qh
def wy3(B C:Nat->Int)(N M:Nat)(c d:Option Nat)(i k m:Nat)(H:qa):cD 30 [1,2,0,1,2,0,0,2,1,2,2,2,2] [0,1,6,7,8,9,10] [br B N c,zq C M d,.own 0 k 0 k none,.own 1 k 0 m none,iI (ofNat i),iI (ofNat k),uI 0] H [0,1,6,7,8,9,10] =
( bif decide (ofNat k<ofNat M) then gD (decide (0<=ofNat k)&&decide (ofNat k<ofNat M))<|zN [br B N c,zq C M d,.own 0 k 0 k
 none,.own 1 k 0 m
 none,iI (.ofNat i),iI (.ofNat k),uI (C k)] H else
 zN [br B N c,zq C M d,.own 0 k 0 k
 none,.own 1 k 0 m
 none,iI (.ofNat i),iI (.ofNat k),uI 0] H):=qh
def wy4(B C:Nat->Int)(N M:Nat)(c d:Option Nat)(i k m:Nat)(ch:Int)(H:qa):cD 30 [1,2,2,0,1,2,0,0,2,1,2,2,2,2] [0,1,6,7,8,9,10] [br B N c,zq C M d,.own 0 k 0 k none,.own 1 k 0 m none,iI (ofNat i),iI (ofNat k),uI ch] H [0,1,6,7,8,9,10,11] =
( zN [br B N c,zq C M d,.own 0 k 0 k
 none,.own 1 k 0 m
 none,iI (.ofNat i),iI (.ofNat k),uI ch,.ah [uI 1,uI (u8.wrap ((1:Int)+(u8.wrap (ch.tdiv (16:Int))).tmod 3)),iI 0,iI 0,.bool false]] H):=qh
def wy5(B C:Nat->Int)(N M:Nat)(c d:Option Nat)(i k m:Nat)(ch:Int)(s:ao)(H:qa):cD 30 [1,2,2,2,0,1,2,0,0,2,1,2,2,2,2] [0,1,6,7,8,9,10,11] [br B N c,zq C M d,.own 0 k 0 k none,.own 1 k 0 m none,iI (ofNat i),iI (ofNat k),uI ch,.ah s.c] H [0,1,6,7,8,9,10,11,12] =
( zN [br B N c,zq C M d,.own 0 k 0 k
 none,.own 1 k 0 m
 none,iI (.ofNat i),iI (.ofNat k),uI ch,.ah s.c,iI (i64.wrap (ofNat N-ofNat i))] H):=qh
def wy6(B C:Nat->Int)(N M:Nat)(c d:Option Nat)(i k m:Nat)(ch l:Int)(s:ao)(H:qa):cD 30 [1,1,2,2,2,2,0,1,2,0,0,2,1,2,2,2,2] [0,1,6,7,8,9,10,11,12] [br B N c,zq C M d,.own 0 k 0 k none,.own 1 k 0 m none,iI (ofNat i),iI (ofNat k),uI ch,.ah s.c,iI l] H [0,1,6,7,8,9,10,11,12,41] =
( zN [br B N c,zq C M d,.own 0 k 0 k
 none,.own 1 k 0 m
 none,iI (.ofNat i),iI (.ofNat k),uI ch,.ah s.c,iI l,uI (ch.tmod 16)] H):=qh
def wy8(p:JO->T->Prop)(x:Int)(B C:Nat->Int)(N M:Nat)(c d:Option Nat)(i k m:Nat)(s:ao)(H:qa):cK (Cq p 64 x) 30 [1,2,2,2,2,2,0,1,2,0,0,2,1,2,2,2,2] [0,1,6,7,8,9,11] [br B N c,zq C M d,.own 0 k 0 k none,.own 1 k 0 m none,iI (ofNat i),iI (ofNat k),.ah s.c] H [0,1,6,7,8,9,11,14] =
( gD (qM (p [s.t] (iI x)))<|zN [br B N c,zq C M d,.own 0 k 0 k
 none,.own 1 k 0 m
 none,iI (.ofNat i),iI (.ofNat k),.ah s.c,iI x] H):=qh
def wy9(p:JO->T->Prop)(x:Nat)(B C g:Nat->Int)(N M n:Nat)(c d:Option Nat)(i k m:Nat)(s:ao)(H:qa):cK (qv.add 65 (Qa p λ_=>some (.aK [.new (.view 1 x (λj=>[iI (g j)]) none),iI 0]))) 30 [1,2,2,2,2,2,2,0,1,2,0,0,2,1,2,2,2,2] [0,1,6,7,8,9,11,14] [br B N c,zq C M d,.own 0 k 0 k none,.own 1 k 0 m none,iI (ofNat i),iI (ofNat k),.ah s.c,iI (ofNat n)] H [0,1,6,7,8,9,11,14,15] =
( gD (decide (0<=ofNat i)&&decide (ofNat i<=i64.wrap (ofNat i+ofNat n))&&decide (i64.wrap (ofNat i+ofNat n)<=ofNat (match c with|some x=>x|none=>N)))<|gD ((i64.wrap (ofNat i+ofNat n)).toNat.ble N)<|gD (qM (p [s.t,br (λj=>B (i+j)) ((i64.wrap (ofNat i+ofNat n)).toNat-i) (match c with|some x=>some ((λc=>c-(ofNat i).toNat) x)|none=>none)] (.aK [(br g x
 none).new,iI 0])))<|zN [br B N c,zq C M d,.own 0 k 0 k
 none,.own 1 k 0 m
 none,iI (.ofNat i),iI (.ofNat k),.ah s.c,iI (.ofNat n),br g x
 none] H):=qh
def qtu(B C x g:Nat->Int)(G:Nat->ao)(N M n l:Nat)(c d:Option Nat)(i k m:Nat)(s:ao):cK (KG qv) 30 [1,2,2,2,2,2,2,2,0,1,2,0,0,2,1,2,2,2,2] [0,1,6,7,8,9,11,14,15] [br B N c,zq C M d,.own 0 k 0 k none,.own 1 k 0 m none,iI (ofNat i),iI (ofNat k),.ah s.c,iI (ofNat n),.view 1 l (λj=>[iI (g j)]) none] (iZ k m G x) [0,1,6,7,8,9,14,15] =
( gD (k==k&&true)<|gD (((0:Nat)+k).ble k)<|gD (((k+(1:Nat))*(33:Nat)).ble 70368744177664)<|bif ((0:Nat)+k+(1:Nat)).ble k then zN [br B N c,zq C M d,.own 0 k 0 (k+1)
 none,.own 1 k 0 m
 none,iI (.ofNat i),iI (.ofNat k),iI (.ofNat n),br g l
 none] [.mk k 5 k (λj=>bif ((0:Nat)+k).ble j&&j.blt (0+k+1) then List.map Qj ([s.c].getD (j-(0+k)) [])
 else(G j).c) true false
 none,Z8 k m x] else
 zN [br B N c,zq C M d,.own 0 (k+1) (0:Nat) (k+1)
 none,.own 1 k 0 m
 none,iI (.ofNat i),iI (.ofNat k),iI (.ofNat n),br g l
 none] [.mk (k+1) (5:Nat) (k+1) (λj=>bif j.blt k then(G ((0:Nat)+j)).c
 else List.map Qj ([s.c].getD (j-k) [])) true false
 none,Z8 k m x]):=qh
def qtv(B C x g:Nat->Int)(G:Nat->ao)(N M n l:Nat)(c d:Option Nat)(i k a m:Nat):cD 30 [1,2,2,2,2,2,2,2,2,0,1,2,0,0,2,1,2,2,2,2] [0,1,6,7,8,9,14,15] [br B N c,zq C M d,.own 0 a 0 a none,.own 1 k 0 m none,iI (ofNat i),iI (ofNat k),iI (ofNat n),.view 1 l (λj=>[iI (g j)]) none] [uj a G,Z8 k m x] [0,1,6,7,8,9,14] =
( gD (k==k&&true)<|gD (((0:Nat)+m).ble m)<|bif l==(0:Nat) then zN [br B N c,zq C M d,.own 0 a 0 a
 none,.own 1 k 0 m
 none,iI (.ofNat i),iI (.ofNat k),iI (.ofNat n)] [uj a G,Z8 k m x] else
 gD (((m+l)*(9:Nat)).ble 70368744177664)<|bif ((0:Nat)+m+l).ble m then zN [br B N c,zq C M d,.own 0 a 0 a
 none,.own 1 k 0 (m+l)
 none,iI (.ofNat i),iI (.ofNat k),iI (.ofNat n)] [uj a G,.mk k 1 m (λj=>bif ((0:Nat)+m).ble j&&j.blt (0+m+l) then [iI (g (j-(0+m)))]
 else [iI (x j)]) true false
 none] else
 zN [br B N c,zq C M d,.own 0 a 0 a
 none,.own 1 (k+1) (0:Nat) (m+l)
 none,iI (.ofNat i),iI (.ofNat k),iI (.ofNat n)] [uj a G,.mk (k+1) (1:Nat) (m+l) (λj=>bif j.blt m then [iI (x (0+j))]
 else [iI (g (j-m))]) true false
 none]):=qh
def qtw(B C:Nat->Int)(N M n:Nat)(c d:Option Nat)(i k a m:Nat)(H:qa):cD 30 [2,2,2,2,2,2,2,2,2,0,1,2,0,0,2,1,2,2,2,2] [0,1,6,7,8,9,14] [br B N c,zq C M d,.own 0 a 0 a none,.own 1 a 0 m none,iI (ofNat i),iI (ofNat k),iI (ofNat n)] H [0,1,6,7,8,9] =
( zN [br B N c,zq C M d,.own 0 a 0 a
 none,.own 1 a 0 m
 none,iI (i64.wrap (ofNat i+ofNat n)),iI (.ofNat k)] H):=qh
def qtx(B C:Nat->Int)(N M:Nat)(c d:Option Nat)(i k a m:Nat)(H:qa):cD 30 [2,2,0,0,2,1,2,2,2,2] [0,1,6,7,8,9] [br B N c,zq C M d,.own 0 a 0 a none,.own 1 a 0 m none,iI (ofNat i),iI (ofNat k)] H [0,1,6,7,8,9] =
( zN [br B N c,zq C M d,.own 0 a 0 a
 none,.own 1 a 0 m
 none,iI (.ofNat i),iI (i64.wrap (ofNat k+1))] H):=qh
def lW(B C:Nat->Int)(N M:Nat)(c d:Option Nat)(i k m:Nat)(l:JO):JO:=br B N c::zq C M d::.own 0 k 0 k none::.own 1 k 0 m none::iI (ofNat i)::iI (ofNat k)::l
def uK:Wa:=[2,1,2,2,2,2,0,1,2,0,0,2,1,2,2,2,2]
def hZ{p:Prop}[Decidable p](h:¬p):¬decide p=true:=by simpa using h
section
variable (p:JO->T->Prop) (z:ao) (B C x:Nat->Int) (N M:Nat) (c d:Option Nat) (i k m:Nat) (ch l:Int) (s:ao) (b0:aq) (H:qa)
def qty(cc:Nat)(h:cc=0∨cc=15):cD 30 uK [0,1,6,7,8,9,10,11,12,41] (lW B C N M c d i k m [uI ch,.ah s.c,iI l,uI (ofNat cc)]) H [0,1,6,7,8,9,11]=some (.normal,lW B C N M c d i k m [.ah s.c],H):=by
 obtain rfl|rfl:=h
 all_goals kernel_rfl
def Vc(cc:Nat)(e:Int)(h:cc=1/\e=2∨cc=2/\e=2∨cc=8/\e=7∨cc=9/\e=7):cD 30 uK [0,1,6,7,8,9,10,11,12,41] (lW B C N M c d i k m [uI ch,.ah s.c,iI l,uI (ofNat cc)]) H [0,1,6,7,8,9,11]=some (.normal,lW B C N M c d i k m [.ah (ao.mk e s.y s.a s.b s.f).c],H):=by
 obtain⟨rfl,rfl⟩|⟨rfl,rfl⟩|⟨rfl,rfl⟩|⟨rfl,rfl⟩:=h
 all_goals kernel_rfl
def qtz:cD 30 uK [0,1,6,7,8,9,10,11,12,41] (lW B C N M c d i k m [uI ch,.ah s.c,iI l,uI 3]) (b0::Z8 k m x::H) [0,1,6,7,8,9,11] =
 (bif k==k&&true then bif decide (i64.wrap (ofNat m+l)<8) then some (.normal,lW B C N M c d i k m [.ah (ao.mk 3 s.y s.a s.b s.f).c],b0::Z8 k m x::H) else some (.normal,lW B C N M c d i k m [.ah s.c],b0::Z8 k m x::H) else none):=qh
def qrj(cc:Nat)(h:cc=4∨cc=5):cD 30 uK [0,1,6,7,8,9,10,11,12,41] (lW B C N M c d i k m [uI ch,.ah s.c,iI l,uI (ofNat cc)]) H [0,1,6,7,8,9,11] =
 (bif decide (1<l) then bif decide (0<=ofNat i)&&decide (ofNat i<ofNat N) then bif decide (0<=i64.wrap (ofNat i+1))&&decide (i64.wrap (ofNat i+1)<ofNat N) then
  bif decide (i64.wrap (B i+B (i64.wrap (ofNat i+1)).toNat)<=4) then some (.normal,lW B C N M c d i k m [.ah (ao.mk (u8.wrap (4+u8.wrap (ch.tmod 16-4))) s.y s.a s.b s.f).c],H) else some (.normal,lW B C N M c d i k m [.ah s.c],H)
  else none else none else some (.normal,lW B C N M c d i k m [.ah s.c],H)):=by
 obtain rfl|rfl:=h
 all_goals kernel_rfl
def qrk(cc:Nat)(h:cc=6∨cc=7):cD 30 uK [0,1,6,7,8,9,10,11,12,41] (lW B C N M c d i k m [uI ch,.ah s.c,iI l,uI (ofNat cc)]) H [0,1,6,7,8,9,11] =
 (bif decide (0<=ofNat i)&&decide (ofNat i<ofNat N) then bif decide (B i<3) then some (.normal,lW B C N M c d i k m [.ah (ao.mk 6 s.y s.a s.b s.f).c],H) else some (.normal,lW B C N M c d i k m [.ah s.c],H) else none):=by
 obtain rfl|rfl:=h
 all_goals kernel_rfl
def qtA(cc:Nat)(h:cc=10∨cc=11∨cc=12∨cc=13∨cc=14):cK (qv.add 68 (Qa p λ_=>some z.t)) 30 uK [0,1,6,7,8,9,10,11,12,41] (lW B C N M c d i k m [uI ch,.ah s.c,iI l,uI (ofNat cc)]) H [0,1,6,7,8,9,11] =
 (bif decide (128<=ch) then bif qM (p [T.agg [uI 7,uI 0,uI (u8.wrap (ch-u8.wrap (u8.wrap (ch.tdiv 16)*16))),.bool true]] z.t) then
  bif decide (i64.wrap (z.a+z.b)<=l) then some (.normal,lW B C N M c d i k m [.ah (ao.mk z.k s.y z.a z.b z.f).c],H) else some (.normal,lW B C N M c d i k m [.ah s.c],H) else none
  else bif qM (p [T.agg [uI 7,uI 0,uI (u8.wrap (ch-u8.wrap (u8.wrap (ch.tdiv 16)*16))),.bool false]] z.t) then
   bif decide (i64.wrap (z.a+z.b)<=l) then some (.normal,lW B C N M c d i k m [.ah (ao.mk z.k s.y z.a z.b z.f).c],H) else some (.normal,lW B C N M c d i k m [.ah s.c],H) else none):=by
 obtain rfl|rfl|rfl|rfl|rfl:=h
 all_goals kernel_rfl
end
def om(c q left a:Nat)(b0 e:Int):ao :=
 let y:Int:=1+((q%3:Nat):Int)
 if c=1∨c=2 then ⟨2,y,0,0,false⟩ else
 if c=3 then ⟨if a+left<8 then 3 else 1,y,0,0,false⟩ else
 if c=4∨c=5 then ⟨if 1<left/\b0+e<=4 then(c:Int) else 1,y,0,0,false⟩ else
 if c=6∨c=7 then ⟨if b0<3 then 6 else 1,y,0,0,false⟩ else
 if c=8∨c=9 then ⟨7,y,0,0,false⟩ else
 if 10<=c/\c<=14 then(if rc c+re c<=(left:Int) then ⟨8,y,rc c,re c,decide (8<=q)⟩ else ⟨1,y,0,0,false⟩) else
 ⟨1,y,0,0,false⟩
def qrl(c:Nat):1<=rc c/\rc c<=3/\1<=re c/\re c<=3:=by
 unfold rc re;split<;>split<;>omega
def qrm{h0:qa}{B C x:Nat->Int}{N M:Nat}{c d:Option Nat}{i k m cc q:Nat}{G:Nat->ao}(hc:cc<16)(hq:q<16)(X:i<N)(hN:N<=1000)(hm:m<=1000)(hB:∀j,j<N->1<=B j/\B j<=3) :
 Pq 30 h0 uK [0,1,6,7,8,9,10,11,12,41] (lW B C N M c d i k m [uI (ofNat (16*q+cc)),.ah (ao.mk 1 (1+((q%3:Nat):Int)) 0 0 false).c,iI (ofNat (N-i)),uI (ofNat cc)]) (iZ k m G x) .normal
  [0,1,6,7,8,9,11] (lW B C N M c d i k m [.ah (om cc q (N-i) m (B i) (B (i+1))).c]) (iZ k m G x):=by
 have g:=λ(r:ao) (hr:cD 30 uK [0,1,6,7,8,9,10,11,12,41] (lW B C N M c d i k m [uI (ofNat (16*q+cc)),.ah (ao.mk 1 (1+((q%3:Nat):Int)) 0 0 false).c,iI (ofNat (N-i)),uI (ofNat cc)]) (iZ k m G x) [0,1,6,7,8,9,11]=some (.normal,lW B C N M c d i k m [.ah r.c],iZ k m G x)) (e:r=om cc q (N-i) m (B i) (B (i+1)))=>e▸cf h0 hr;have Q:(decide (0<=ofNat i)&&decide (ofNat i<ofNat N))=true:=by simp;omega
 have U:=hB i X;by_cases D:cc=1∨cc=2
 .exact g _ (Vc B C N M c d i k m _ _ _ _ cc 2 ae) (by unfold om;simp only;rw[wl D])
 by_cases A:cc=3
 .subst A;have e:i64.wrap (ofNat m+ofNat (N-i))=ofNat (m+(N-i)):=by rw[Qp bH bH];simp
  have t:=qtz B C x N M c d i k m (ofNat (16*q+3)) (ofNat (N-i)) (ao.mk 1 (1+((q%3:Nat):Int)) 0 0 false) (uj k G) [];rw[e] at t;by_cases h:m+(N-i)<8
  .exact g _ (t.trans (qk au (qk (wq bH) rfl))) (by unfold om;simp[h])
  .exact g _ (t.trans (qk au (qF (hZ bH) rfl))) (by unfold om;simp[h])
 by_cases u:cc=4∨cc=5
 .have e:i64.wrap (ofNat i+1)=ofNat (i+1):=by rw[Qp bH bH];simp
  have Z:u8.wrap (4+u8.wrap ((ofNat (16*q+cc)).tmod 16-4))=(cc:Int):=by
   have:(ofNat (16*q+cc)).tmod 16=(cc:Int):=by
    rw[xh bH];simp only[wu];omega
   rw[this,s9 (x:=(cc:Int)-4) ae ae,s9 ae ae];omega
  have t:=qrj B C N M c d i k m (ofNat (16*q+cc)) (ofNat (N-i)) (ao.mk 1 (1+((q%3:Nat):Int)) 0 0 false) (iZ k m G x) cc u;rw[e,Z] at t;by_cases h:1<N-i
  .have D6:=hB (i+1) ae;have Y:i64.wrap (B i+B (ofNat (i+1)).toNat)=B i+B (i+1):=Qp (x:=B i+B (i+1)) ae ae;rw[Y] at t;have V:(decide (0<=ofNat (i+1))&&decide (ofNat (i+1)<ofNat N))=true:=by simp;omega
   by_cases O:B i+B (i+1)<=4
   .exact g _ (t.trans (qk (wq bH) (qk Q (qk V (qk (wq O) rfl))))) (by unfold om;simp only;rw[we D,we A,wl u,wl ⟨h,O⟩])
   .exact g _ (t.trans (qk (wq bH) (qk Q (qk V (qF (hZ O) rfl))))) (by unfold om;simp only;rw[we D,we A,wl u,we (λq=>O q.2)])
  .exact g _ (t.trans (qF (hZ bH) rfl)) (by unfold om;simp only;rw[we D,we A,wl u,we (λq=>h q.1)])
 by_cases I:cc=6∨cc=7
 .have t:=qrk B C N M c d i k m (ofNat (16*q+cc)) (ofNat (N-i)) (ao.mk 1 (1+((q%3:Nat):Int)) 0 0 false) (iZ k m G x) cc I;by_cases h:B i<3
  .exact g _ (t.trans (qk Q (qk (wq h) rfl))) (by unfold om;simp only;rw[we D,we A,we u,wl I,wl h])
  .exact g _ (t.trans (qk Q (qF (hZ h) rfl))) (by unfold om;simp only;rw[we D,we A,we u,wl I,we h])
 by_cases R:cc=8∨cc=9
 .exact g _ (Vc B C N M c d i k m _ _ _ _ cc 7 ae) (by unfold om;simp only;rw[we D,we A,we u,we I,wl R])
 by_cases P:10<=cc/\cc<=14
 ·obtain⟨p,S⟩:=qE aw G17 68;have W:=qtf cc P.1 P.2;have e:u8.wrap (ofNat (16*q+cc)-u8.wrap (u8.wrap ((ofNat (16*q+cc)).tdiv 16)*16))=(cc:Int):=by
   have h1:(ofNat (16*q+cc)).tdiv 16=(q:Int):=by
    rw[Int.tdiv_eq_ediv_of_nonneg bH];simp only[wu];omega
   rw[h1,s9 (x:=(q:Int)) ae ae,s9 (x:=(q:Int)*16) ae ae,s9 bH bH];simp only[wu];omega
  have bd:=qrl cc;have t:=qtA p (ao.mk 8 1 (rc cc) (re cc) (decide (8<=q))) B C N M c d i k m (ofNat (16*q+cc)) (ofNat (N-i)) (ao.mk 1 (1+((q%3:Nat):Int)) 0 0 false) (iZ k m G x) cc ae;rw[e,show i64.wrap ((ao.mk 8 1 (rc cc) (re cc) (decide (8<=q))).a+(ao.mk 8 1 (rc cc) (re cc) (decide (8<=q))).b)=rc cc+re cc from Qp (x:=rc cc+re cc) ae ae] at t
  have o:∀r:ao,cK (qv.add 68 (Qa p λ_=>some (ao.mk 8 1 (rc cc) (re cc) (decide (8<=q))).t)) 30 uK [0,1,6,7,8,9,10,11,12,41] (lW B C N M c d i k m [uI (ofNat (16*q+cc)),.ah (ao.mk 1 (1+((q%3:Nat):Int)) 0 0 false).c,iI (ofNat (N-i)),uI (ofNat cc)]) (iZ k m G x) [0,1,6,7,8,9,11]=some (.normal,lW B C N M c d i k m [.ah r.c],iZ k m G x)->r=om cc q (N-i) m (B i) (B (i+1)) →
   Pq 30 h0 uK [0,1,6,7,8,9,10,11,12,41] (lW B C N M c d i k m [uI (ofNat (16*q+cc)),.ah (ao.mk 1 (1+((q%3:Nat):Int)) 0 0 false).c,iI (ofNat (N-i)),uI (ofNat cc)]) (iZ k m G x) .normal [0,1,6,7,8,9,11] (lW B C N M c d i k m [.ah (om cc q (N-i) m (B i) (B (i+1))).c]) (iZ k m G x):=λr hr e=>e▸eD (qr qp (qq S)) h0 hr
  have E:om cc q (N-i) m (B i) (B (i+1))=if rc cc+re cc<=((N-i:Nat):Int) then ⟨8,1+((q%3:Nat):Int),rc cc,re cc,decide (8<=q)⟩ else ⟨1,1+((q%3:Nat):Int),0,0,false⟩:=by
   unfold om;simp only;rw[we D,we A,we u,we I,we R,wl P]
  have f:∀b,b=decide (8<=q)->qM (p [T.agg [uI 7,uI 0,uI (cc:Int),.bool b]] (ao.mk 8 1 (rc cc) (re cc) (decide (8<=q))).t)=true:=λb U=>qu S (U▸W b);by_cases h:rc cc+re cc<=((N-i:Nat):Int)
  .rw[wl h] at E;by_cases J:8<=q
   .exact o _ (t.trans (qk (wq bH) (qk (f true (by simp[J])) (qk (wq h) rfl)))) E.symm
   .exact o _ (t.trans (qF (hZ bH) (qk (f false (by simp[J])) (qk (wq h) rfl)))) E.symm
  .rw[we h] at E;by_cases J:8<=q
   .exact o _ (t.trans (qk (wq bH) (qk (f true (by simp[J])) (qF (hZ h) rfl)))) E.symm
   .exact o _ (t.trans (qF (hZ bH) (qk (f false (by simp[J])) (qF (hZ h) rfl)))) E.symm
 .exact g _ (qty B C N M c d i k m _ _ _ _ cc ae) (by unfold om;simp only;rw[we D,we A,we u,we I,we R,we P])
structure rT(t:ao)(left nx:Nat)(B:Nat->Int):Prop where
 ok:t.Ok
 v:c9 t=true
 n:t.nN<=left
 m1:1<=t.mN
 fit:nx+left<=8->nx+t.mN+(left-t.nN)<=8
 goes:1<=t.nN∨(t.nN=0/\t.mN=1/\nx+left<8)
 e:iY t B t.nN=0
 g:∀j,j<t.mN->1<=fe t B j/\fe t B j<=3
def EJ{k y a b:Int}{f:Bool}(e:1<=k/\k<=8)(d:1<=y/\y<=6)(h:(k≠8/\a=0/\b=0/\f=false)∨(k=8/\1<=a/\a<=4/\1<=b/\a+b<=4)):(ao.mk k y a b f).Ok/\c9 (ao.mk k y a b f)=true:=by
 have o:(ao.mk k y a b f).Ok:=⟨⟨by show 0<=k;omega,by show k<256;omega⟩,⟨by show 0<=y;omega,by show y<256;omega⟩,⟨by show _<=a;rcases h with h|h<;>omega,by show a<=_;rcases h with h|h<;>omega⟩,⟨by show _<=b;rcases h with h|h<;>omega,by show b<=_;rcases h with h|h<;>omega⟩⟩;exact⟨o,(ao.mW _ o).2 ⟨e.1,e.2,d.1,d.2,h⟩⟩
def JP{k y:Int}(g:k=1∨k=2∨k=7)(s:1<=y/\y<=6){left r:Nat}(z:1<=left){B:Nat->Int}(hB:∀j,j<left->1<=B j/\B j<=3):rT ⟨k,y,0,0,false⟩ left r B:=by
 obtain⟨o,v⟩:=EJ (k:=k) (y:=y) (a:=0) (b:=0) (f:=false) ae s (.inl ⟨ae,rfl,rfl,rfl⟩);have u:(ao.mk k y 0 0 false).n=1:=by unfold ao.n;rw[v];obtain rfl|rfl|rfl:=g<;>rfl
 have x:(ao.mk k y 0 0 false).m=1:=by unfold ao.m;rw[v];obtain rfl|rfl|rfl:=g<;>rfl
 have d:(ao.mk k y 0 0 false).nN=1:=by unfold ao.nN;rw[u];rfl
 have e:(ao.mk k y 0 0 false).mN=1:=by unfold ao.mN;rw[x];rfl
 have D:=hB 0 ae;have s1:zH B 1=true:=(Zg B 1).2 λi C=>by
  obtain rfl:i=0:=by omega
  unfold yk;simp;omega
 refine⟨o,v,by rw[d];exact z,by rw[e];omega,λh=>by rw[d,e];omega,.inl (by rw[d];omega),?_,λj A=>?_⟩
 .unfold iY;rw[d,v,s1,we au,we au,we au,we (show ¬(k=4∨k=5) by omega),we (show ¬k=6 by omega)]
 .rw[e] at A;obtain rfl:j=0:=by omega
  unfold fe;rw[we (show ¬(k=6/\_) by omega)];split<;>omega
def qnY{y:Int}(i:1<=y/\y<=6){left g:Nat}(r:g+left<8){B:Nat->Int}:rT ⟨3,y,0,0,false⟩ left g B:=by
 obtain⟨o,v⟩:=EJ (k:=3) (y:=y) (a:=0) (b:=0) (f:=false) ae i (.inl ⟨ae,rfl,rfl,rfl⟩);have d:(ao.mk 3 y 0 0 false).nN=0:=by unfold ao.nN ao.n;rw[v];rfl
 have e:(ao.mk 3 y 0 0 false).mN=1:=by unfold ao.mN ao.m;rw[v];rfl
 refine⟨o,v,by rw[d];omega,by rw[e];omega,λh=>by rw[d,e];omega,.inr ⟨d,e,r⟩,?_,λj s=>?_⟩
 .unfold iY;rw[d,v,we au,we au,we (by simp[zH]),we (show ¬((3:Int)=4∨(3:Int)=5) by omega),we (show ¬(3:Int)=6 by omega)]
 .unfold fe;rw[we (show ¬((3:Int)=6/\_) by omega),we (show ¬((3:Int)=7/\_) by omega)];omega
def qpS{k y:Int}(e:k=4∨k=5)(s:1<=y/\y<=6){left r:Nat}(u:2<=left){B:Nat->Int}(hB:∀j,j<left->1<=B j/\B j<=3)(A:B 0+B 1<=4):rT ⟨k,y,0,0,false⟩ left r B:=by
 obtain⟨o,v⟩:=EJ (k:=k) (y:=y) (a:=0) (b:=0) (f:=false) ae s (.inl ⟨ae,rfl,rfl,rfl⟩);have d:(ao.mk k y 0 0 false).nN=2:=by unfold ao.nN ao.n;rw[v];obtain rfl|rfl:=e<;>rfl
 have g:(ao.mk k y 0 0 false).mN=1:=by unfold ao.mN ao.m;rw[v];obtain rfl|rfl:=e<;>rfl
 have s1:zH B 2=true:=(Zg B 2).2 λi z=>by
  have:=hB i ae;unfold yk;simp;omega
 refine⟨o,v,by rw[d];exact u,by rw[g];omega,λh=>by rw[d,g];omega,.inl (by rw[d];omega),?_,λj x=>?_⟩
 .unfold iY;rw[d,v,s1,we au,we au,we au,wl (show k=4∨k=5 by omega),we ae]
 .unfold fe;rw[we (show ¬(k=6/\_) by omega),we (show ¬(k=7/\_) by omega)];omega
def qnZ{y:Int}(r:1<=y/\y<=6){left g:Nat}(s:1<=left){B:Nat->Int}(hB:∀j,j<left->1<=B j/\B j<=3)(z:B 0<3):rT ⟨6,y,0,0,false⟩ left g B:=by
 obtain⟨o,v⟩:=EJ (k:=6) (y:=y) (a:=0) (b:=0) (f:=false) ae r (.inl ⟨ae,rfl,rfl,rfl⟩);have d:(ao.mk 6 y 0 0 false).nN=1:=by unfold ao.nN ao.n;rw[v];rfl
 have e:(ao.mk 6 y 0 0 false).mN=1:=by unfold ao.mN ao.m;rw[v];rfl
 have A:=hB 0 ae;have s1:zH B 1=true:=(Zg B 1).2 λi x=>by
  obtain rfl:i=0:=by omega
  unfold yk;simp;omega
 refine⟨o,v,by rw[d];exact s,by rw[e];omega,λh=>by rw[d,e];omega,.inl (by rw[d];omega),?_,λj u=>?_⟩
 .unfold iY;rw[d,v,s1,we au,we au,we au,we (show ¬((6:Int)=4∨(6:Int)=5) by omega),wl rfl,we ae]
 .rw[e] at u;obtain rfl:j=0:=by omega
  unfold fe;rw[wl ⟨rfl,rfl⟩];omega
def qmf{y:Int}(r:1<=y/\y<=6){a b:Int}(A:1<=a)(z:1<=b)(C:a+b<=4){f:Bool}{left g:Nat}(D:a+b<=(left:Int)){B:Nat->Int}(hB:∀j,j<left->1<=B j/\B j<=3):rT ⟨8,y,a,b,f⟩ left g B:=by
 obtain⟨o,v⟩:=EJ (k:=8) (y:=y) (a:=a) (b:=b) (f:=f) ae r (.inr ⟨rfl,A,ae,z,C⟩);have s:(ao.mk 8 y a b f).n=a+b:=by unfold ao.n;rw[v];exact Qp (x:=a+b) ae ae
 have u:(ao.mk 8 y a b f).m=a+b:=by unfold ao.m;rw[v];exact Qp (x:=a+b) ae ae
 have d:(ao.mk 8 y a b f).nN=(a+b).toNat:=by unfold ao.nN;rw[s]
 have e:(ao.mk 8 y a b f).mN=(a+b).toNat:=by unfold ao.mN;rw[u]
 have s1:zH B (a+b).toNat=true:=(Zg B _).2 λi H=>by
  have:=hB i ae;unfold yk;simp;omega
 refine⟨o,v,by rw[d];omega,by rw[e];omega,λh=>by rw[d,e];omega,.inl (by rw[d];omega),?_,λj E=>?_⟩
 .unfold iY;rw[d,v,s1,we au,we au,we au,we (show ¬((8:Int)=4∨(8:Int)=5) by omega),we (show ¬(8:Int)=6 by omega)]
 .unfold fe;rw[we (show ¬((8:Int)=6/\_) by omega),we (show ¬((8:Int)=7/\_) by omega)];omega
def qpT(c:Nat)(h1:10<=c)(h2:c<=14):1<=rc c/\1<=re c/\rc c+re c<=4:=by
 obtain rfl|rfl|rfl|rfl|rfl:c=10∨c=11∨c=12∨c=13∨c=14:=by omega
 all_goals decide
def qrn(c q:Nat){left f:Nat}(d:1<=left){B:Nat->Int}(hB:∀j,j<left->1<=B j/\B j<=3):rT (om c q left f (B 0) (B 1)) left f B:=by
 have a:1<=1+((q%3:Nat):Int)/\1+((q%3:Nat):Int)<=6:=by omega
 unfold om;simp only;split
 .exact JP (.inr (.inl rfl)) a d hB
 split
 .split
  .rename_i h;exact qnY a h
  .exact JP (.inl rfl) a d hB
 split
 .rename_i i;split
  .rename_i h;exact qpS ae a ae hB h.2
  .exact JP (.inl rfl) a d hB
 split
 .split
  .rename_i h;exact qnZ a d hB h
  .exact JP (.inl rfl) a d hB
 split
 .exact JP (.inr (.inr rfl)) a d hB
 split
 .rename_i h;have e:=qpT c h.1 h.2;split
  .rename_i g;exact qmf a e.1 e.2.1 e.2.2 g hB
  .exact JP (.inl rfl) a d hB
 .exact JP (.inl rfl) a d hB
def qn0(c q left a:Nat)(e d:Int):(om c q left a e d).y=1+((q%3:Nat):Int):=by
 unfold om;simp only
 (repeat' split)<;>rfl
structure AN where
 (i m:Nat) (g:Nat->ao) (x:Nat->Int)
def oS(C:Nat->Nat)(M k:Nat):Nat:=if k<M then C k else 0
def pO(B:Nat->Int)(N ch:Nat)(s:AN):ao:=om (ch%16) (ch/16) (N-s.i) s.m (B s.i) (B (s.i+1))
def Lt(B:Nat->Int)(N ch k:Nat)(s:AN):AN :=
 ⟨s.i+(pO B N ch s).nN,s.m+(pO B N ch s).mN,aB s.g k (pO B N ch s),λj=>if j<s.m then s.x j else fe (pO B N ch s) (λe=>B (s.i+e)) (j-s.m)⟩
def qS(B:Nat->Int)(N:Nat)(C:Nat->Nat)(M:Nat):Nat->AN
 |0=>⟨0,0,λ_=>⟨1,1,0,0,false⟩,λ_=>0⟩
 |k+1=>Lt B N (oS C M k) k (qS B N C M k)
def EK{B:Nat->Int}{N:Nat}(hB:∀j,j<N->1<=B j/\B j<=3)(ch:Nat)(s:AN)(d:s.i<N):rT (pO B N ch s) (N-s.i) s.m (λe=>B (s.i+e)) :=
 qrn (B:=λe=>B (s.i+e)) (ch%16) (ch/16) ae λj a=>hB (s.i+j) ae
structure tC(N k:Nat)(s:AN):Prop where
 i:s.i<=N
 fit:s.m+(N-s.i)<=8
 km:k<=s.m
 x:∀j,j<s.m->1<=s.x j/\s.x j<=3
 g:∀j,(s.g j).Ok
 v:∀j,j<k->c9 (s.g j)=true
 y:∀j,1<=(s.g j).y/\(s.g j).y<=3
def JQ{B:Nat->Int}{N:Nat}{C:Nat->Nat}{M:Nat}(r:N<=8)(hB:∀j,j<N->1<=B j/\B j<=3):∀k,(∀j,j<k->(qS B N C M j).i<N)->tC N k (qS B N C M k)
 |0,_=>⟨wR _,by show 0+(N-0)<=8;omega,wc _,λj e=>absurd e (vm j),λ_=>(EJ (k:=1) (y:=1) (a:=0) (b:=0) (f:=false) ae ae (.inl ⟨ae,rfl,rfl,rfl⟩)).1,λj e=>absurd e (vm j),λj=>by show 1<=(1:Int)/\(1:Int)<=3;omega⟩
 |k+1,h=>by
  have d:=JQ (C:=C) (M:=M) r hB k λj e=>h j ae;have o:=h k ae;revert d o;show tC N k _->_->tC N (k+1) (Lt B N (oS C M k) k (qS B N C M k));generalize qS B N C M k=s;generalize oS C M k=ch;intro d o;have p:=EK hB ch s o;have A:=p.n;have z:=p.m1;have u:=p.fit d.fit;refine⟨by show s.i+_<=N;omega,by show s.m+(pO B N ch s).mN+(N-(s.i+(pO B N ch s).nN))<=8;omega,by show k+1<=s.m+_;have:=d.km;omega,λj e=>?_,λj=>?_,λj e=>?_,λj=>?_⟩
  .show 1<=(if j<s.m then s.x j else _)/\(if j<s.m then s.x j else _)<=3;have e:j<s.m+(pO B N ch s).mN:=e;by_cases c:j<s.m
   .rw[wl c];exact d.x j c
   .rw[we c];exact p.g (j-s.m) ae
  .show(aB s.g k (pO B N ch s) j).Ok;unfold aB;by_cases c:j=k
   .rw[wl c];exact p.ok
   .rw[we c];exact d.g j
  .show c9 (aB s.g k (pO B N ch s) j)=true;unfold aB;by_cases c:j=k
   .rw[wl c];exact p.v
   .rw[we c];exact d.v j ae
  .show 1<=(aB s.g k (pO B N ch s) j).y/\(aB s.g k (pO B N ch s) j).y<=3;unfold aB;by_cases c:j=k
   .rw[wl c];unfold pO;rw[qn0];omega
   .rw[we c];exact d.y j
def qn2{B:Nat->Int}{N:Nat}(C:Nat->Nat)(M:Nat)(a:N<=8)(hB:∀j,j<N->1<=B j/\B j<=3):∃R,R<=8/\(qS B N C M R).i=N/\∀j,j<R->(qS B N C M j).i<N:=by
 have key:∀f k,(∀j,j<k->(qS B N C M j).i<N)->(N-(qS B N C M k).i)+(8-(qS B N C M k).m)<=f->∃R,(qS B N C M R).i=N/\∀j,j<R->(qS B N C M j).i<N:=by
  intro f
  induction f with
  |zero =>
   intro k h u;have o:=JQ (C:=C) (M:=M) a hB k h;exact⟨k,by have:=o.i;omega,h⟩
  |succ f s =>
   intro k h u;have o:=JQ (C:=C) (M:=M) a hB k h;by_cases c:(qS B N C M k).i=N
   .exact⟨k,c,h⟩
   .have e:(qS B N C M k).i<N:=by have:=o.i;omega
    have p:=EK hB (oS C M k) (qS B N C M k) e;refine s (k+1) (λj d=>?_) ?_
    .by_cases q:j=k
     .subst q;exact e
     .exact h j ae
    .show(N-((qS B N C M k).i+(pO B N (oS C M k) (qS B N C M k)).nN))+(8-((qS B N C M k).m+(pO B N (oS C M k) (qS B N C M k)).mN))<=f;have g:=p.goes;have z:=p.n;have x:=p.m1;have A:=o.fit;omega
 obtain⟨R,h1,r⟩:=key 100 0 (λj d=>absurd d (vm j)) (by show(N-0)+(8-0)<=100;omega);have o:=JQ (C:=C) (M:=M) a hB R r;exact⟨R,by have:=o.km;have:=o.fit;omega,h1,r⟩
def qtB:Wa:=[0,0,2,1,2,2,2,2]
def qn3(k:Nat)(g:Nat->ao)(s:ao)(b:aq):ak [aq.mk (k+1) 5 (k+1) (λj=>bif j.blt k then(g (0+j)).c else List.map Qj ([s.c].getD (j-k) [])) true false none,b] [uj (k+1) (aB g k s),b]:=by
 refine .cons ⟨rfl,rfl,rfl,λh=>h,λj a=>?_⟩ (.cons ⟨rfl,rfl,rfl,λh=>h,λ_ _=>rfl⟩ .nil rfl) rfl;have a:j<k+1:=a;show(aB g k s j).c=bif j.blt k then(g (0+j)).c else List.map Qj ([s.c].getD (j-k) []);unfold aB;by_cases c:j=k
 .subst c;rw[wl rfl,QP (wc _),wW];rfl
 .rw[we c,qL ae,wn];rfl
def qn4(k m l:Nat)(x g:Nat->Int)(b:aq):ak [b,aq.mk (k+1) 1 (m+l) (λj=>bif j.blt m then [iI (x (0+j))] else [iI (g (j-m))]) true false none] [b,Z8 (k+1) (m+l) λj=>if j<m then x j else g (j-m)]:=by
 refine .cons ⟨rfl,rfl,rfl,λh=>h,λ_ _=>rfl⟩ (.cons ⟨rfl,rfl,rfl,λh=>h,λj a=>?_⟩ .nil rfl) rfl;show [iI (if j<m then x j else g (j-m))]=bif j.blt m then [iI (x (0+j))] else [iI (g (j-m))];by_cases c:j<m
 .rw[wl c,qL c,wn];rfl
 .rw[we c,QP ae];rfl
def vR(B:Nat->Int)(N:Nat)(C:Nat->Nat)(M k:Nat)(s:AN):JO:=lW B (λj=>(C j:Int)) N M none none s.i k s.m []
def hR(k:Nat)(s:AN):qa:=iZ k s.m s.g s.x
def qn5{h0:qa}{B:Nat->Int}{N:Nat}{C:Nat->Nat}{M k:Nat}{s:AN}(hN:N<=8)(hB:∀j,j<N->1<=B j/\B j<=3)(hC:∀j,C j<256)(hM:M<=9223372036854775807)(f:s.i<N)(hk:k<=8)(H:s.m<=8) :
 Pq 30 h0 qtB [0,1,6,7,8,9] (vR B N C M k s) (hR k s) .normal [0,1,6,7,8,9] (vR B N C M (k+1) (Lt B N (oS C M k) k s)) (hR (k+1) (Lt B N (oS C M k) k s)):=by
 obtain⟨i,m,g,x⟩:=s;have f:i<N:=f;have H:m<=8:=H
 let ch:=oS C M k
 have hch:ch<256:=by show oS C M k<256;unfold oS;split;exact hC k;omega
 let t:ao:=pO B N ch ⟨i,m,g,x⟩
 have a:rT t (N-i) m (λe=>B (i+e)):=EK hB ch ⟨i,m,g,x⟩ f;have run:=λ{p l R h l1 U h1} (q:cD 30 p l R h l1=some (Ex.normal,U,h1))=>cf h0 q
 let D:Nat->Int:=λj=>(C j:Int)
 have pA:=run (p:=[1,0,0,2,1,2,2,2,2]) ((qtr B D N M none none i k m (iZ k m g x)).trans (qk (wq bH) rfl));have pB:=run (p:=[1,0,1,2,0,0,2,1,2,2,2,2]) (qtt B D N M none none i k m (iZ k m g x));have pC:Pq 30 h0 [1,2,0,1,2,0,0,2,1,2,2,2,2] [0,1,6,7,8,9,10] (lW B D N M none none i k m [uI 0]) (iZ k m g x) .normal [0,1,6,7,8,9,10] (lW B D N M none none i k m [uI (ofNat ch)]) (iZ k m g x):=by
  have q:=wy3 B D N M none none i k m (iZ k m g x);by_cases c:k<M
  .have e:(ofNat ch)=D k:=by show((oS C M k:Nat):Int)=(C k:Int);unfold oS;rw[wl c]
   rw[e];exact run (q.trans (qk (wq bH) (qk (by simp;omega) rfl)))
  .have e:(ofNat ch)=0:=by show((oS C M k:Nat):Int)=0;unfold oS;rw[we c];rfl
   rw[e];exact run (q.trans (qF (hZ bH) rfl))
 have hq:ch/16<16:=by omega
 have E:=run (p:=[1,2,2,0,1,2,0,0,2,1,2,2,2,2]) (wy4 B D N M none none i k m (ofNat ch) (iZ k m g x));have e4:u8.wrap ((1:Int)+(u8.wrap ((ofNat ch).tdiv (16:Int))).tmod (3:Int))=1+((ch/16%3:Nat):Int):=by
  have h1:(ofNat ch).tdiv 16=((ch/16:Nat):Int):=by
   rw[Int.tdiv_eq_ediv_of_nonneg bH];simp
  rw[h1,s9 (x:=((ch/16:Nat):Int)) ae ae,xh ae,show((ch/16:Nat):Int)%3=((ch/16%3:Nat):Int) by simp,s9 ae ae]
 rw[e4] at E;have A:=run (p:=[1,2,2,2,0,1,2,0,0,2,1,2,2,2,2]) (wy5 B D N M none none i k m (ofNat ch) (ao.mk 1 (1+((ch/16%3:Nat):Int)) 0 0 false) (iZ k m g x));rw[show i64.wrap (ofNat N-ofNat i)=ofNat (N-i) by rw[Qp bH bH];simp only[wu];omega] at A;have z:=run (p:=[1,1,2,2,2,2,0,1,2,0,0,2,1,2,2,2,2]) (wy6 B D N M none none i k m (ofNat ch) (ofNat (N-i)) (ao.mk 1 (1+((ch/16%3:Nat):Int)) 0 0 false) (iZ k m g x));rw[show(ofNat ch).tmod 16=ofNat (ch%16) by rw[xh bH];simp] at z;have u:=qrm (h0:=h0) (B:=B) (C:=D) (x:=x) (N:=N) (M:=M) (c:=none) (d:=none) (i:=i) (k:=k) (m:=m) (cc:=ch%16) (q:=ch/16) (G:=g) ae hq f ae ae hB;rw[show 16*(ch/16)+ch%16=ch by omega] at u;obtain⟨GC,P⟩:=qE aw G17 64;have nb:=t.nR a.ok;have en:ofNat t.nN=t.n:=by unfold ao.nN;simp only[wu];omega
 have Z:=eD (qr qp (qq P)) h0 ((wy8 GC (ofNat t.nN) B D N M none none i k m t (iZ k m g x)).trans (qk (qu P (en▸jR t a.ok)) rfl));obtain⟨o,O⟩:=qE aw G17 65;have r:=UW t a.ok (λj=>B (i+j)) t.nN none (by have:=a.n;omega);rw[show Gy t (λj=>B (i+j)) t.nN = .aK [.new (.view 1 t.mN (λj=>[iI (fe t (λe=>B (i+e)) j)]) none),iI 0] by unfold Gy;rw[wl a.e]] at r;have I:i64.wrap (ofNat i+ofNat t.nN)=ofNat (i+t.nN):=by rw[Qp bH (by simp only[wu];have:=a.n;omega)];simp
 have q9:=wy9 o t.mN B D (λj=>fe t (λe=>B (i+e)) j) N M t.nN none none i k m t (iZ k m g x);rw[I,show(ofNat (i+t.nN)).toNat=i+t.nN from rfl,show i+t.nN-i=t.nN by omega] at q9;have Y:=eD (qr qp (qq O)) h0 (q9.trans (qk (by have:=a.n;simp;omega) (qk (qO (by have:=a.n;omega)) (qk (qu O r) rfl))));have pJ:=Pz.post (eD (qC qp (λ_ _ _ _ h=>(by cases h))) h0
  ((qtu B D x (λj=>fe t (λe=>B (i+e)) j) g N M t.nN t.mN none none i k m t).trans (qk au (qk (qO ae) (qk (qO ae) (qF (by rw[ZG ae];simp) rfl)))))) (v2:=_) (h2:=[uj (k+1) (aB g k t),Z8 k m x]) λnt=>.same (qn3 k g t _)
 have hm4:=t.nS a.ok;have Ek:t.mN<=4:=by unfold ao.mN;omega
 have X:=Pz.post (cf h0
  ((qtv B D x (λj=>fe t (λe=>B (i+e)) j) (aB g k t) N M t.nN t.mN none none i k (k+1) m).trans (qk au (qk (qO ae) (qF (by have:=a.m1;simp;omega) (qk (qO ae) (qF (by rw[ZG (by have:=a.m1;omega)];simp) rfl))))))) (v2:=_) (h2:=[uj (k+1) (aB g k t),Z8 (k+1) (m+t.mN) λj=>if j<m then x j else fe t (λe=>B (i+e)) (j-m)]) λnt=>.same (qn4 k m _ x _ _)
 have Q:=qtw B D N M t.nN none none i k (k+1) (m+t.mN) [uj (k+1) (aB g k t),Z8 (k+1) (m+t.mN) λj=>if j<m then x j else fe t (λe=>B (i+e)) (j-m)];rw[I] at Q;have W:=run (p:=[2,2,2,2,2,2,2,2,2,0,1,2,0,0,2,1,2,2,2,2]) Q;have J:=qtx B D N M none none (i+t.nN) k (k+1) (m+t.mN) [uj (k+1) (aB g k t),Z8 (k+1) (m+t.mN) λj=>if j<m then x j else fe t (λe=>B (i+e)) (j-m)];rw[il ae] at J;have V:=run (p:=[2,2,0,0,2,1,2,2,2,2]) J;exact av pA (av (fi 1 (av pB (av pC (av E (av A (av (av z u) (av Z (av Y (av pJ (av X W)))))))))) V)
def wz1(a b:T):cD 30 [1] [0,1] [a,b] [] [0,1] =
( zN [a,b] []):=qh
def wz2(a b:T):cD 30 [1,2] [0,1] [a,b] [] [0,1,6] =
( zN [a,b,.ag] []):=qh
def wz3(a b:T):cD 30 [1,2,2] [0,1,6] [a,b,.ag] [] [0,1,6,7] =
( zN [a,b,.ag,.ag] []):=qh
def wz4(a b c d:T)(H:qa):cD 30 [1,2,2,2] [0,1,6,7] [a,b,c,d] H [0,1,6,7,8] =
( zN [a,b,c,d,iI 0] H):=qh
def wz5(a b c d e:T)(H:qa):cD 30 [1,1,2,2,2,2] [0,1,6,7,8] [a,b,c,d,e] H [0,1,6,7,8,9] =
( zN [a,b,c,d,e,iI 0] H):=qh
def wz6(k m:Nat)(g:Nat->ao)(x:Nat->Int):cD 30 [2,2,2,2,2] [6,7] [.own 0 k 0 k none,.own 1 k 0 m none] (iZ k m g x) [4,5] =
( zR [.own 0 k 0 k
 none,.own 1 k 0 m
 none] (iZ k m g x)):=qh
def wz7(k m:Nat)(g:Nat->ao)(x:Nat->Int):ZE aw G17 (az 30).aa Tryz.f30 (qB [4,5] [.own 0 k 0 k none,.own 1 k 0 m none] (iZ k m g x)) (λv=>some (ye (iZ k m g x) v)) =
( some (.aK [bif k==k&&((0:Nat)+k).ble k then .fresh true (5:Nat) k (λj=>(g ((0:Nat)+j)).c) k none else .undef,
 bif k==k&&((0:Nat)+m).ble m then .fresh true (1:Nat) m (λj=>[iI (x (0+j))]) m none else .undef])):=qh
def qtC{B:Nat->Int}{N:Nat}{C:Nat->Nat}{M R:Nat}(d:N<=8)(hB:∀j,j<N->1<=B j/\B j<=3)(hC:∀j,C j<256)(H:M<=9223372036854775807)(E:R<=8)(D:(qS B N C M R).i=N)(f:∀j,j<R->(qS B N C M j).i<N) :
 TO 30 [br B N none,zq (λj=>(C j:Int)) M none] (.aK [.new (cF (qS B N C M R).g R none),.new (br (qS B N C M R).x (qS B N C M R).m none)]):=by
 have run:=λ{p l r h u s h1 e} (q:cD 30 p l r h u=some (e,s,h1))=>cf [] q;have st:Pq 30 [] [1,2,2] [0,1,6] [br B N none,zq (λj=>(C j:Int)) M none,.ag] [] .normal [0,1,6,7] [br B N none,zq (λj=>(C j:Int)) M none,.own 0 0 0 0 none,.own 1 0 0 0 none] (iZ 0 0 (λ_=>⟨1,1,0,0,false⟩) λ_=>0) :=
  Pz.post (run (wz3 _ _)) λnt=>am.gh (iZ 0 0 (λ_=>⟨1,1,0,0,false⟩) λ_=>0) (by simp[iZ,uj,Z8]) (.Ue (.Ue (.cons (.inl (.own (k:=0) (b:=uj 0 _) (wR _) rfl rfl)) (.cons (.inl (.own (k:=1) (b:=Z8 0 0 _) (wR _) rfl rfl)) .nil)))) (cT.refl _)
 have lp:Pq 30 [] [0,2,1,2,2,2,2] [0,1,6,7,8,9] (vR B N C M 0 (qS B N C M 0)) (hR 0 (qS B N C M 0)) (.exit 0) [6,7] [.own 0 R 0 R none,.own 1 R 0 (qS B N C M R).m none] (hR R (qS B N C M R)) :=
  Pz.count qh (λk=>vR B N C M k (qS B N C M k)) (λk=>hR k (qS B N C M k)) (n:=R) au (λk z=>by
   have o:=JQ (C:=C) (M:=M) d hB k λj a=>f j ae;exact qn5 d hB hC H (f k z) ae (by have:=o.fit;omega)) (lk (run ((qts B (λj=>(C j:Int)) N M none none (qS B N C M R).i R (qS B N C M R).m (hR R (qS B N C M R))).trans (qF (hZ (by rw[D];simp)) rfl))))
 have t:=Pz.told (A:=az) Qn Tryz.func30 qh qh (l:=[0,1]) rfl
  (av (run (wz1 (br B N none) (zq (λj=>(C j:Int)) M none))) (av (run (wz2 _ _)) (av st (av (run (wz4 _ _ _ _ _)) (av (av (run (wz5 _ _ _ _ _ _)) (fi 0 lp)) (run (wz6 R (qS B N C M R).m (qS B N C M R).g (qS B N C M R).x)))))))
  ((wz7 R (qS B N C M R).m (qS B N C M R).g (qS B N C M R).x).trans (vD some (show T.aK [bif R==R&&Nat.ble (0+R) R then _ else _,bif R==R&&Nat.ble (0+(qS B N C M R).m) (qS B N C M R).m then _ else _]=T.aK [.fresh true 5 R (λj=>((qS B N C M R).g (0+j)).c) R none,.fresh true 1 (qS B N C M R).m (λj=>[iI ((qS B N C M R).x (0+j))]) (qS B N C M R).m none] by rw[qO ae,qO ae,wF];rfl)))
 refine(aI.fh t).oO (.cons (.new (.view (.inl rfl) λj a=>?_)) (.cons (.new (.view (.inl rfl) λj a=>?_)) .nil))
 .rw[wn];exact .refl _
 .rw[wn];exact .refl _
def GF(C:Nat->Nat->Int)(M:Nat->Nat)(h:Nat):T:=.view 1 h (λj=>[zq (C j) (M j) none]) none
def cw(w:Int)(C:Nat->Nat->Int)(M:Nat->Nat)(h:Nat):JO:=[uI w,GF C M h]
def Cz(i:Nat)(g:Nat->Nat->ao)(l:Nat->Nat):aq:=.mk i 1 i (λj=>[cF (g j) (l j) none]) false false none
def wc1(w:Int)(C:Nat->Nat->Int)(M:Nat->Nat)(h:Nat):cD 11 [1] [0] [.agg (cw w C M h)] [] [1,2] =
( zN [.ah (cw w C M h),.ah [.ag]] []):=qh
def wc2(a b:T):cD 11 [1,2] [1,2] [a,b] [] [1,2,3] =
( zN [a,b,.ag] []):=qh
def wc3(a b c:T)(H:qa):cD 11 [1,1,2,2] [1,2,3] [a,b,c] H [1,2,3,4] =
( zN [a,b,c,iI 0] H):=qh
def wc4(w:Int)(b c r:T)(i:Nat)(H:qa):cD 11 [1,0,0,2,1,2,2] [1,2,3,4] [.ah [uI w,r],b,c,iI (ofNat i)] H [1,2,3,4] =
( bif decide (ofNat i<=i64.wrap (w.tmod 8)) then zN [.ah [uI w,r],b,c,iI (.ofNat i)] H else
 zX 0 [.ah [uI w,r],b,c,iI (.ofNat i)] H):=qh
def qtD(w:Int)(b c r:T)(i:Nat)(H:qa):cD 11 [1,0,0,2,1,2,2] [1,2,3,4] [.ah [uI w,r],b,c,iI (ofNat i)] H [1,2,3] =
( bif decide (ofNat i<=i64.wrap (w.tmod 8)) then zN [.ah [uI w,r],b,c] H else
 zX 0 [.ah [uI w,r],b,c] H):=qh
def wc5(a b:T)(i:Nat):cK (KG qv) 11 [0,1,2,0,0,2,1,2,2] [1,2,3,4] [a,b,.own 0 i 0 i none,iI (ofNat i)] [Z8 i i (λ_=>1)] [1,2,3,4] =
( gD (i==i&&true)<|gD (((0:Nat)+i).ble i)<|gD (((i+(1:Nat))*(9:Nat)).ble 70368744177664)<|bif ((0:Nat)+i+(1:Nat)).ble i then zN [a,b,.own 0 i 0 (i+1)
 none,iI (.ofNat i)] [.mk i 1 i (λj=>bif ((0:Nat)+i).ble j&&j.blt (0+i+1) then List.map Qj ([[iI (1:Int)]].getD (j-(0+i)) [])
 else [iI 1]) true false
 none] else
 zN [a,b,.own 0 (i+1) (0:Nat) (i+1)
 none,iI (.ofNat i)] [.mk (i+1) (1:Nat) (i+1) (λj=>bif j.blt i then [iI 1]
 else List.map Qj ([[iI (1:Int)]].getD (j-i) [])) true false
 none]):=qh
def wc6(a b c:T)(i:Nat)(H:qa):cD 11 [2,2,0,0,2,1,2,2] [1,2,3,4] [a,b,c,iI (ofNat i)] H [1,2,3,4] =
( zN [a,b,c,iI (i64.wrap (ofNat i+1))] H):=qh
def wc7(w:Int)(C:Nat->Nat->Int)(M:Nat->Nat)(h:Nat)(b c:T)(H:qa):cD 11 [1,2,2,2] [1,2,3] [.ah (cw w C M h),b,c] H [1,2,3,5] =
( zN [.ah (cw w C M h),b,c,iI (bif decide (9<ofNat h) then(9:Int)
 else ofNat h)] H):=qh
def wc8(a b c:T)(i:Nat)(H:qa):cD 11 [1,2,2,2,2] [1,2,3,5] [a,b,c,iI (ofNat i)] H [1,2,3,5] =
( bif decide ((ofNat i).tmod 2=0) then zN [a,b,c,iI (i64.wrap (ofNat i+1))] H else
 zN [a,b,c,iI (.ofNat i)] H):=qh
def wc9(a b c d:T)(H:qa):cD 11 [1,2,2,2,2,2] [1,2,3,5] [a,b,c,d] H [1,2,3,5,6] =
( zN [a,b,c,d,.ah [.ag]] H):=qh
def wd0(a b c d e:T)(H:qa):cD 11 [1,1,2,2,2,2,2,2] [1,2,3,5,6] [a,b,c,d,e] H [1,2,3,5,6,7] =
( zN [a,b,c,d,e,iI 0] H):=qh
def wd1(a b c e:T)(m i:Nat)(H:qa):cD 11 [1,0,0,2,1,2,2,2,2,2,2] [1,2,3,5,6,7] [a,b,c,iI (ofNat m),e,iI (ofNat i)] H [1,2,3,5,6,7] =
( bif decide (ofNat i<ofNat m) then zN [a,b,c,iI (.ofNat m),e,iI (.ofNat i)] H else
 zX 2 [a,b,c,iI (.ofNat m),e,iI (.ofNat i)] H):=qh
def qtE(a b c e:T)(m i:Nat)(H:qa):cD 11 [1,0,0,2,1,2,2,2,2,2,2] [1,2,3,5,6,7] [a,b,c,iI (ofNat m),e,iI (ofNat i)] H [2,6] =
( bif decide (ofNat i<ofNat m) then zN [b,e] H else
 zX 2 [b,e] H):=qh
def wd2(a b c d e f:T)(H:qa):cD 11 [1,0,1,2,0,0,2,1,2,2,2,2,2,2] [1,2,3,5,6,7] [a,b,c,d,e,f] H [1,2,3,5,6,7,8] =
( zN [a,b,c,d,e,f,.ag] H):=qh
def wd3(w:Int)(C:Nat->Nat->Int)(M:Nat->Nat)(h i:Nat)(b c d e:T)(H:qa):cD 11 [1,2,0,1,2,0,0,2,1,2,2,2,2,2,2] [1,2,3,5,6,7,8] [.ah (cw w C M h),b,c,d,e,iI (ofNat i),.ag] H [1,2,3,5,6,7,8] =
( bif decide (ofNat i<ofNat h) then gD (decide (0<=ofNat i)&&decide (ofNat i<ofNat h))<|zN [.ah (cw w C M h),b,c,d,e,iI (.ofNat i),zq (C i) (M i)
 none] H else
 zN [.ah (cw w C M h),b,c,d,e,iI (.ofNat i),.ag] H):=qh
def wd4(p:JO->T->Prop)(B C x:Nat->Int)(N M R m:Nat)(g:Nat->ao)(a b d e f:T)(H:qa):cK (qv.add 30 (Qa p λ_=>some (.aK [.new (cF g R none),.new (br x m none)]))) 11 [1,2,2,0,1,2,0,0,2,1,2,2,2,2,2,2] [1,2,3,5,6,7,8] [a,b,br B N none,d,e,f,zq C M none] H [1,2,5,6,7,9,10] =
( gD (qM (p [br B N
 none,zq C M
 none] (.aK [(aU g R
 none).new,(br x m
 none).new])))<|zN [a,b,d,e,f,aU g R
 none,br x m
 none] H):=qh
def wd5(x:Nat->Int)(R m i:Nat)(g:Nat->ao)(G:Nat->Nat->ao)(l:Nat->Nat)(a b d f:T):cK (KG qv) 11 [1,2,2,2,0,1,2,0,0,2,1,2,2,2,2,2,2] [1,2,5,6,7,9,10] [a,b,d,.ah [.own 0 i 0 i none],f,cF g R none,br x m none] [Cz i G l] [1,2,5,6,7,10] =
( gD (i==i&&true)<|gD (((0:Nat)+i).ble i)<|gD (((i+(1:Nat))*(25:Nat)).ble 70368744177664)<|bif ((0:Nat)+i+(1:Nat)).ble i then zN [a,b,d,.ah [.own 0 i 0 (i+1)
 none],f,br x m
 none] [.mk i 1 i (λj=>bif ((0:Nat)+i).ble j&&j.blt (0+i+1) then [[aU g R
 none]].getD (j-(0+i)) []
 else [aU (G j) (l j)
 none]) false false
 none] else
 zN [a,b,d,.ah [.own 0 (i+1) (0:Nat) (i+1)
 none],f,br x m
 none] [.mk (i+1) (1:Nat) (i+1) (λj=>bif j.blt i then [aU (G (0+j)) (l (0+j))
 none]
 else [[aU g R
 none]].getD (j-i) []) false false
 none]):=qh
def wd6(x:Nat->Int)(m:Nat)(a b d e f:T)(H:qa):cD 11 [2,2,2,2,0,1,2,0,0,2,1,2,2,2,2,2,2] [1,2,5,6,7,10] [a,b,d,e,f,br x m none] H [1,2,3,5,6,7] =
( zN [a,b,br x m
 none,d,e,f] H):=qh
def wd7(a b c d e:T)(i:Nat)(H:qa):cD 11 [2,2,0,0,2,1,2,2,2,2,2,2] [1,2,3,5,6,7] [a,b,c,d,e,iI (ofNat i)] H [1,2,3,5,6,7] =
( zN [a,b,c,d,e,iI (i64.wrap (ofNat i+1))] H):=qh
def wd8(i:Nat)(G:Nat->Nat->ao)(l:Nat->Nat):cD 11 [2,2,2,2,2,2,2] [2,6] [.ah [.ag],.ah [.own 0 i 0 i none]] [Cz i G l] [2] =
( zR [.ah [.own 0 i 0 i
 none]] [Cz i G l]):=qh
def wd9(i:Nat)(G:Nat->Nat->ao)(l:Nat->Nat):ZE aw G17 (az 11).aa Tryz.f11 (qB [2] [.ah [.own 0 i 0 i none]] [Cz i G l]) (λv=>some (ye [Cz i G l] v)) =
( some (.agg [bif i==i&&((0:Nat)+i).ble i then .fresh false (1:Nat) i (λj=>[aU (G (0+j)) (l (0+j))
 none]) i none else .undef])):=qh
def GG(B:Nat->Int)(N:Nat)(C:Nat->Nat)(M:Nat):Nat->Nat->Nat
 |0,k=>k
 |f+1,k=>if (qS B N C M k).i=N then k else GG B N C M f (k+1)
def AO(B:Nat->Int)(N:Nat)(C:Nat->Nat)(M:Nat):Nat:=GG B N C M 9 0
def Vg{B:Nat->Int}{N:Nat}{C:Nat->Nat}{M R:Nat}(h1:(qS B N C M R).i=N)(h2:∀j,j<R->(qS B N C M j).i<N):∀f k,k<=R->R<=k+f->GG B N C M f k=R
 |0,k,a,b=>by unfold GG;omega
 |f+1,k,a,b=>by
  unfold GG;by_cases c:k=R
  .rw[wl (by rw[c];exact h1),c]
  .rw[we (by have:=h2 k ae;omega)];exact Vg h1 h2 f (k+1) ae ae
def Kx{B:Nat->Int}{N:Nat}(C:Nat->Nat)(M:Nat)(f:N<=8)(hB:∀j,j<N->1<=B j/\B j<=3):AO B N C M<=8/\(qS B N C M (AO B N C M)).i=N/\∀j,j<AO B N C M->(qS B N C M j).i<N:=by
 obtain⟨R,h1,d,a⟩:=qn2 C M f hB;have e:AO B N C M=R:=Vg d a 9 0 ae ae;rw[e];exact⟨h1,d,a⟩
structure Cp where
 (w h:Nat) (M:Nat->Nat) (C:Nat->Nat->Nat)
structure Cp.Ok(c:Cp):Prop where
 w:c.w<256
 h:c.h<=9223372036854775807
 M:∀i,c.M i<=9223372036854775807
 C:∀i j,c.C i j<256
def Cp.mi(c:Cp)(i:Nat):Nat:=if i<c.h then c.M i else 0
def Cp.ld(c:Cp):Nat->Nat×(Nat->Int)
 |0=>(c.w%8+1,λ_=>1)
 |i+1=>((qS (c.ld i).2 (c.ld i).1 (c.C i) (c.mi i) (AO (c.ld i).2 (c.ld i).1 (c.C i) (c.mi i))).m,(qS (c.ld i).2 (c.ld i).1 (c.C i) (c.mi i) (AO (c.ld i).2 (c.ld i).1 (c.C i) (c.mi i))).x)
def Cp.rn(c:Cp)(i:Nat):Nat:=AO (c.ld i).2 (c.ld i).1 (c.C i) (c.mi i)
def Cp.st(c:Cp)(i:Nat):AN:=qS (c.ld i).2 (c.ld i).1 (c.C i) (c.mi i) (c.rn i)
def Cp.rw(c:Cp)(i:Nat):Nat->ao:=(c.st i).g
def Cp.iu(c:Cp):∀i,1<=(c.ld i).1/\(c.ld i).1<=8/\∀j,j<(c.ld i).1->1<=(c.ld i).2 j/\(c.ld i).2 j<=3
 |0=>⟨by show 1<=c.w%8+1;omega,by show c.w%8+1<=8;omega,λ_ _=>by show 1<=(1:Int)/\(1:Int)<=3;omega⟩
 |i+1=>by
  obtain⟨h1,e,d⟩:=Cp.iu c i;obtain⟨g,a,f⟩:=Kx (c.C i) (c.mi i) e d;have o:=JQ (C:=c.C i) (M:=c.mi i) e d _ f;have k:1<=AO (c.ld i).2 (c.ld i).1 (c.C i) (c.mi i):=by
   rcases vS (AO (c.ld i).2 (c.ld i).1 (c.C i) (c.mi i)) with q|q
   .rw[q] at a;have:(0:Nat)=(c.ld i).1:=a;omega
   .exact q
  exact⟨by have:=o.km;show 1<=(qS _ _ _ _ _).m;omega,by have:=o.fit;show(qS _ _ _ _ _).m<=8;omega,o.x⟩
def Cp.fB(c:Cp)(i:Nat):tC (c.ld i).1 (c.rn i) (c.st i)/\(c.st i).i=(c.ld i).1/\1<=c.rn i/\c.rn i<=8:=by
 obtain⟨h1,e,d⟩:=c.iu i;obtain⟨g,a,f⟩:=Kx (c.C i) (c.mi i) e d;refine⟨JQ (C:=c.C i) (M:=c.mi i) e d _ f,a,?_,g⟩;rcases vS (AO (c.ld i).2 (c.ld i).1 (c.C i) (c.mi i)) with q|q
 .rw[q] at a;have:(0:Nat)=(c.ld i).1:=a;omega
 .exact q
def Cp.aJ(c:Cp):Nat:=if min c.h 9%2=0 then min c.h 9+1 else min c.h 9
def Cp.iR(c:Cp):1<=c.aJ/\c.aJ<=9/\c.aJ%2=1:=by
 unfold Cp.aJ;split<;>omega
def Cp.cI(c:Cp)(i j:Nat):Int:=(c.C i j:Int)
def Cp.t(c:Cp):T:=.agg (cw (c.w:Int) c.cI c.M c.h)
def Cp.ch(c:Cp):T:=.agg [.view 1 c.aJ (λi=>[aU (c.rw i) (c.rn i) none]) none]
def qld(i:Nat):ak [aq.mk (i+1) 1 (i+1) (λj=>bif j.blt i then [iI 1] else List.map Qj ([[iI 1]].getD (j-i) [])) true false none] [Z8 (i+1) (i+1) λ_=>1]:=by
 refine .cons ⟨rfl,rfl,rfl,λh=>h,λj a=>?_⟩ .nil rfl;have a:j<i+1:=a;show [iI 1]=bif j.blt i then [iI 1] else List.map Qj ([[iI 1]].getD (j-i) []);by_cases c:j<i
 .rw[qL c];rfl
 .rw[QP ae,show j-i=0 by omega];rfl
def qle(i:Nat)(G:Nat->Nat->ao)(l:Nat->Nat):ak [aq.mk (i+1) 1 (i+1) (λj=>bif j.blt i then [aU (G (0+j)) (l (0+j)) none] else [[aU (G i) (l i) none]].getD (j-i) []) false false none] [Cz (i+1) G l]:=by
 refine .cons ⟨rfl,rfl,rfl,λh=>h,λj a=>?_⟩ .nil rfl;have a:j<i+1:=a;show [aU (G j) (l j) none]=bif j.blt i then [aU (G (0+j)) (l (0+j)) none] else [[aU (G i) (l i) none]].getD (j-i) [];by_cases c:j<i
 .rw[qL c,wn];rfl
 .obtain rfl:j=i:=by omega
  rw[QP ae,wW];rfl
def cpT(c:Cp)(ok:c.Ok):TO 11 [c.t] c.ch:=by
 have run:=λ{p l u h s B h1 e} (q:cD 11 p l u h s=some (e,B,h1))=>cf [] q;have Y:∀i,c.mi i<=9223372036854775807:=λi=>by
  unfold Cp.mi;split
  .exact ok.M i
  .omega
 have aJ:=c.iR
 let a:T:=.ah (cw (c.w:Int) c.cI c.M c.h)
 let b:T:=.ah [.ag]
 have hw:i64.wrap ((c.w:Int).tmod 8)=((c.w%8:Nat):Int):=by
  rw[xh ae,Qp ae ae];omega
 have st:Pq 11 [] [1,2] [1,2] [a,b] [] .normal [1,2,3] [a,b,.own 0 0 0 0 none] [Z8 0 0 λ_=>1] :=
  Pz.post (run (wc2 a b)) λnt=>am.gh [Z8 0 0 λ_=>1] (by simp[Z8]) (.Ue (.Ue (.cons (.inl (.own (k:=0) (b:=Z8 0 0 _) (wR _) rfl rfl)) .nil))) (cT.refl _)
 have U:Pq 11 [] [0,2,1,2,2] [1,2,3,4] [a,b,.own 0 0 0 0 none,iI 0] [Z8 0 0 λ_=>1] (.exit 0) [1,2,3] [a,b,.own 0 (c.w%8+1) 0 (c.w%8+1) none] [Z8 (c.w%8+1) (c.w%8+1) λ_=>1] :=
  Pz.count qh (λi=>[a,b,.own 0 i 0 i none,iI (ofNat i)]) (λi=>[Z8 i i λ_=>1]) (n:=c.w%8+1) au (λi W=>by
   have q6:=wc6 a b (.own 0 (i+1) 0 (i+1) none) i [Z8 (i+1) (i+1) λ_=>1];rw[il ae] at q6;exact av (run ((wc4 (c.w:Int) b (.own 0 i 0 i none) (GF c.cI c.M c.h) i [Z8 i i λ_=>1]).trans (qk (by rw[hw];simp only[wu];exact wq ae) rfl)))
    (av (fi 1 (Pz.post (eD (qC qp (λ_ _ _ _ h=>(by cases h))) [] ((wc5 a b i).trans (qk au (qk (qO ae) (qk (qO ae) (qF (by rw[ZG ae];simp) rfl)))))) (v2:=_) (h2:=[Z8 (i+1) (i+1) λ_=>1]) λnt=>.same (qld i))) (run q6)))
   (lk (run ((qtD (c.w:Int) b (.own 0 (c.w%8+1) 0 (c.w%8+1) none) (GF c.cI c.M c.h) (c.w%8+1) [Z8 (c.w%8+1) (c.w%8+1) λ_=>1]).trans (qF (by rw[hw];exact hZ bH) rfl))))
 have fz:Pq 11 [] [2,1,2,2] [1,2,3,4] [a,b,.own 0 0 0 0 none,iI 0] [Z8 0 0 λ_=>1] .normal [1,2,3] [a,b,br (c.ld 0).2 (c.ld 0).1 none] [] :=
  Pz.post (fi 0 U) λnt=>.bZ [] rfl (by
   show [a,b,bif c.w%8+1==c.w%8+1&&Nat.ble (0+(c.w%8+1)) (c.w%8+1) then T.view 1 (c.w%8+1) (λj=>[iI 1]) none else .undef]=_;rw[qO ae,wF];rfl) rfl .nil
 have e7:(bif decide ((9:Int)<ofNat c.h) then(9:Int) else ofNat c.h)=ofNat (min c.h 9):=by
  by_cases q:9<c.h
  .rw[wq bH,wm];simp only[wu];omega
  .rw[dF bH,wp];simp only[wu];omega
 have f:=run (wc7 (c.w:Int) c.cI c.M c.h b (br (c.ld 0).2 (c.ld 0).1 none) []);rw[e7] at f;have S:Pq 11 [] [1,2,2,2,2] [1,2,3,5] [a,b,br (c.ld 0).2 (c.ld 0).1 none,iI (ofNat (min c.h 9))] [] .normal [1,2,3,5] [a,b,br (c.ld 0).2 (c.ld 0).1 none,iI (ofNat c.aJ)] []:=by
  have q:=wc8 a b (br (c.ld 0).2 (c.ld 0).1 none) (min c.h 9) [];have et:(ofNat (min c.h 9)).tmod 2=((min c.h 9%2:Nat):Int):=by rw[xh bH];simp
  rw[et,il ae] at q;unfold Cp.aJ;by_cases z:min c.h 9%2=0
  .rw[wl z];exact run (q.trans (qk (wq ae) rfl))
  .rw[we z];exact run (q.trans (qF (hZ ae) rfl))
 let V:Nat->JO:=λi=>[a,b,br (c.ld i).2 (c.ld i).1 none,iI (ofNat c.aJ),.ah [.own 0 i 0 i none],iI (ofNat i)]
 let H:Nat->qa:=λi=>[Cz i c.rw c.rn]
 have d:Pq 11 [] [1,2,2,2,2,2] [1,2,3,5] [a,b,br (c.ld 0).2 (c.ld 0).1 none,iI (ofNat c.aJ)] [] .normal [1,2,3,5,6] [a,b,br (c.ld 0).2 (c.ld 0).1 none,iI (ofNat c.aJ),.ah [.own 0 0 0 0 none]] (H 0) :=
  Pz.post (run (wc9 a b (br (c.ld 0).2 (c.ld 0).1 none) (iI (ofNat c.aJ)) [])) λnt=>am.gh (H 0) (by intro b X;obtain rfl:=wM.1 X;exact⟨rfl,rfl⟩) (.Ue (.Ue (.Ue (.Ue (.cons (.ah (.cons (.own (k:=0) (b:=Cz 0 c.rw c.rn) (wR _) rfl rfl) (.refl _))) .nil))))) (cT.refl _)
 obtain⟨uK,iZ⟩:=qE aw G17 30;have round:∀i,i<c.aJ->Pq 11 [] [0,0,2,1,2,2,2,2,2,2] [1,2,3,5,6,7] (V i) (H i) .normal [1,2,3,5,6,7] (V (i+1)) (H (i+1)):=by
  intro i W;have o:=c.fB i;obtain⟨s,r,g⟩:=c.iu i;obtain⟨I,E,D⟩:=Kx (c.C i) (c.mi i) r g;have tr:TO 30 [br (c.ld i).2 (c.ld i).1 none,zq (c.cI i) (c.mi i) none] (.aK [.new (aU (c.rw i) (c.rn i) none),.new (br (c.ld (i+1)).2 (c.ld (i+1)).1 none)]):=qtC r g (ok.C i) (Y i) I E D;have R:=run ((wd1 a b (br (c.ld i).2 (c.ld i).1 none) (.ah [.own 0 i 0 i none]) c.aJ i (H i)).trans (qk (wq bH) rfl));have Q:=run (wd2 a b (br (c.ld i).2 (c.ld i).1 none) (iI (ofNat c.aJ)) (.ah [.own 0 i 0 i none]) (iI (ofNat i)) (H i));have P:Pq 11 [] [1,2,0,1,2,0,0,2,1,2,2,2,2,2,2] [1,2,3,5,6,7,8] [a,b,br (c.ld i).2 (c.ld i).1 none,iI (ofNat c.aJ),.ah [.own 0 i 0 i none],iI (ofNat i),.ag] (H i) .normal [1,2,3,5,6,7,8] [a,b,br (c.ld i).2 (c.ld i).1 none,iI (ofNat c.aJ),.ah [.own 0 i 0 i none],iI (ofNat i),zq (c.cI i) (c.mi i) none] (H i):=by
   have q:=wd3 (c.w:Int) c.cI c.M c.h i b (br (c.ld i).2 (c.ld i).1 none) (iI (ofNat c.aJ)) (.ah [.own 0 i 0 i none]) (H i);unfold Cp.mi;by_cases z:i<c.h
   .rw[wl z];exact run (q.trans (qk (wq bH) (qk (by simp;omega) rfl)))
   .rw[we z];exact Pz.post (run (q.trans (qF (hZ bH) rfl))) λnt=>.sl (.Ue (.Ue (.Ue (.Ue (.Ue (.Ue (.cons (.fG _ _ (.inl rfl)) .nil))))))) (.refl _)
  have O:=eD (qr qp (qq iZ)) [] ((wd4 uK (c.ld i).2 (c.cI i) (c.ld (i+1)).2 (c.ld i).1 (c.mi i) (c.rn i) (c.ld (i+1)).1 (c.rw i) a b (iI (ofNat c.aJ)) (.ah [.own 0 i 0 i none]) (iI (ofNat i)) (H i)).trans (qk (qu iZ tr) rfl));have N:=Pz.post (eD (qC qp (λ_ _ _ _ h=>(by cases h))) []
   ((wd5 (c.ld (i+1)).2 (c.rn i) (c.ld (i+1)).1 i (c.rw i) c.rw c.rn a b (iI (ofNat c.aJ)) (iI (ofNat i))).trans (qk au (qk (qO ae) (qk (qO ae) (qF (by rw[ZG ae];simp) rfl)))))) (v2:=_) (h2:=H (i+1)) λnt=>.same (qle i c.rw c.rn)
  have J:=run (wd6 (c.ld (i+1)).2 (c.ld (i+1)).1 a b (iI (ofNat c.aJ)) (.ah [.own 0 (i+1) 0 (i+1) none]) (iI (ofNat i)) (H (i+1)));have q7:=wd7 a b (br (c.ld (i+1)).2 (c.ld (i+1)).1 none) (iI (ofNat c.aJ)) (.ah [.own 0 (i+1) 0 (i+1) none]) i (H (i+1));rw[il ae] at q7;exact av R (av (fi 3 (av Q (av P (av O (av N J))))) (run q7))
 have lp:Pq 11 [] [0,2,1,2,2,2,2,2,2] [1,2,3,5,6,7] (V 0) (H 0) (.exit 2) [2,6] [b,.ah [.own 0 c.aJ 0 c.aJ none]] (H c.aJ) :=
  Pz.count qh V H (n:=c.aJ) au round (lk (run ((qtE a b (br (c.ld c.aJ).2 (c.ld c.aJ).1 none) (.ah [.own 0 c.aJ 0 c.aJ none]) c.aJ c.aJ (H c.aJ)).trans (qF au rfl))))
 have t:=Pz.told (A:=az) Qn Tryz.func11 qh qh (l:=[0]) rfl
  (av (run (wc1 (c.w:Int) c.cI c.M c.h)) (av st (av (av (run (wc3 a b _ _)) fz) (av f (av S (av d (av (av (run (wd0 a b _ _ _ _)) (fi 2 lp)) (run (wd8 c.aJ c.rw c.rn)))))))))
  ((wd9 c.aJ c.rw c.rn).trans (vD some (show T.agg [bif c.aJ==c.aJ&&Nat.ble (0+c.aJ) c.aJ then _ else _]=T.agg [.fresh false 1 c.aJ (λj=>[aU (c.rw (0+j)) (c.rn (0+j)) none]) c.aJ none] by rw[qO ae,wF];rfl)))
 refine(aI.fh t).tj (.cons (.view (.view (.inl rfl) λj hj=>?_)) .nil);rw[wn];exact .refl _
def iO(r:Nat->ao):Nat->Int
 |0=>(r 0).y
 |k+1=>if (r (k+1)).y<iO r k then(r (k+1)).y else iO r k
def we1(r:Nat->ao)(n:Nat):cD 28 [1] [0] [aU r n none] [] [0] =
( zN [cF r n
 none] []):=qh
def we2(r:Nat->ao)(n:Nat):cD 28 [1,2] [0] [aU r n none] [] [0,3] =
( gD (decide (0<ofNat n))<|zN [cF r n
 none,uI (r (0:Nat)).y] []):=qh
def we3(a b:T):cD 28 [1,1,2,2] [0,3] [a,b] [] [0,3,4] =
( zN [a,b,iI 1] []):=qh
def we4(r:Nat->ao)(n i:Nat)(y:Int):cD 28 [0,0,2,1,2,2] [0,3,4] [aU r n none,uI y,iI (ofNat i)] [] [0,3,4] =
( bif decide (ofNat i<ofNat n) then gD (decide (0<=ofNat i)&&decide (ofNat i<ofNat n))<|bif decide ((r i).y<y) then gD (decide (0<=ofNat i)&&decide (ofNat i<ofNat n))<|zN [cF r n
 none,uI (r i).y,iI (i64.wrap (ofNat i+1))] [] else
 zN [cF r n
 none,uI y,iI (i64.wrap (ofNat i+1))] [] else
 zX 0 [cF r n
 none,uI y,iI (.ofNat i)] []):=qh
def qtF(r:Nat->ao)(n i:Nat)(y:Int):cD 28 [1,0,0,2,1,2,2] [0,3,4] [aU r n none,uI y,iI (ofNat i)] [] [3] =
( bif decide (ofNat i<ofNat n) then zN [uI y] [] else
 zX 0 [uI y] []):=qh
def we5(y:Int):cD 28 [2,2,2] [3] [uI y] [] [2] =
( zR [uI y] []):=qh
def Vh(r:Nat->ao)(n:Nat)(h1:1<=n)(g:n<=1000):TO 28 [aU r n none] (uI (iO r (n-1))):=by
 have run:=λ{p l a h f d h1 e} (q:cD 28 p l a h f=some (e,d,h1))=>cf [] q;have lp:Pq 28 [] [0,2,1,2,2] [0,3,4] [aU r n none,uI (iO r 0),iI (ofNat (0+1))] [] (.exit 0) [3] [uI (iO r (n-1))] [] :=
  Pz.count qh (λi=>[aU r n none,uI (iO r i),iI (ofNat (i+1))]) (λ_=>[]) (n:=n-1) au (λi j=>by
   have q:=we4 r n (i+1) (iO r i);rw[il ae] at q;by_cases c:(r (i+1)).y<iO r i
   .rw[show iO r (i+1)=(r (i+1)).y from wl c];exact run (q.trans (qk (wq bH) (qk (by simp;omega) (qk (wq c) (qk (by simp;omega) rfl)))))
   .rw[show iO r (i+1)=iO r i from we c];exact run (q.trans (qk (wq bH) (qk (by simp;omega) (qF (hZ c) rfl))))) (lk (run ((qtF r n (n-1+1) (iO r (n-1))).trans (qF (hZ bH) rfl))))
 exact Pz.told (A:=az) Qn Tryz.func28 qh qh (l:=[0]) rfl
  (av (run (we1 r n)) (av (run ((we2 r n).trans (qk (by simp;omega) rfl))) (av (av (run (we3 _ _)) (fi 0 lp)) (run (we5 (iO r (n-1))))))) rfl
def la(v n:Nat)(g:Nat->bw):aq:=.mk v 4 n (λj=>(g j).c) true false none
def va1(l m:Nat->bw)(n k:Nat):cD 121 [1] [0,1] [cH l n none,cH m k none] [] [0,1] =
( zN [cH l n
 none,cH m k
 none] []):=qh
def va2(l m:Nat->bw)(n k:Nat):cD 121 [1,2] [0,1] [cH l n none,cH m k none] [] [1,5] =
( bif n==(0:Nat) then zN [cH m k
 none,.own 0 0 0 0 (some 0)] [.mk 0 4 0 (λj=>[]) true true
 none] else
 gD ((((0:Nat)+n)*(25:Nat)).ble 70368744177664)<|bif ((0:Nat)+n).ble 0 then gD (((0:Nat)+n).ble 0)<|zN [cH m k
 none,.own 0 0 0 (0+n) (some 0)] [.mk 0 4 0 (λj=>bif Nat.ble 0 j&&j.blt (0+n) then(l j).c
 else []) true true
 none] else
 zN [cH m k
 none,.own 1 0 0 (0+n)
 none] [.mk 0 4 0 (λj=>[]) true true
 none,EH (0+n) l]):=qh
def va3(a b:T)(H:qa):cD 121 [1,1,2,2] [1,5] [a,b] H [1,5,6] =
( zN [a,b,iI 0] H):=qh
def va4(m:Nat->bw)(k i:Nat)(b:T)(H:qa):cD 121 [1,0,0,2,1,2,2] [1,5,6] [cH m k none,b,iI (ofNat i)] H [1,5,6] =
( bif decide (ofNat i<ofNat k) then zN [cH m k
 none,b,iI (.ofNat i)] H else
 zX 0 [cH m k
 none,b,iI (.ofNat i)] H):=qh
def qtG(m:Nat->bw)(k i:Nat)(b:T)(H:qa):cD 121 [1,0,0,2,1,2,2] [1,5,6] [cH m k none,b,iI (ofNat i)] H [5] =
( bif decide (ofNat i<ofNat k) then zN [b] H else
 zX 0 [b] H):=qh
def va5(m g:Nat->bw)(k i v n ln:Nat):cD 121 [1,0,1,2,0,0,2,1,2,2] [1,5,6] [cH m k none,.own 0 v 0 ln none,iI (ofNat i)] [la v n g] [1,5,6,7] =
( gD (v==v&&true)<|zN [cH m k
 none,.own 0 v 0 ln
 none,iI (.ofNat i),iI (.ofNat ln)] [la v n g]):=qh
def va6(m g:Nat->bw)(k i v n ln:Nat):cD 121 [1,2,0,1,2,0,0,2,1,2,2] [1,5,6,7] [cH m k none,.own 0 v 0 ln none,iI (ofNat i),iI (ofNat ln)] [la v n g] [1,5,6,7,63] =
( bif decide (0<ofNat ln) then gD (v==v&&true)<|gD (decide (0<=i64.wrap (ofNat ln-1))&&decide (i64.wrap (ofNat ln-1)<ofNat ln))<|gD (v==v&&true)<|gD (v==v&&true)<|gD (((0:Nat)+(i64.wrap (ofNat ln-(1:Int))).toNat).blt n)<|gD (decide (0<=ofNat i)&&decide (ofNat i<ofNat k))<|bif decide ((g ((0:Nat)+(i64.wrap (ofNat ln-(1:Int))).toNat)).y=(m i).y) then bif decide ((g ((0:Nat)+(i64.wrap (ofNat ln-(1:Int))).toNat)).n=(m i).n) then gD (v==v&&true)<|gD (decide (0<=i64.wrap (ofNat ln-1))&&decide (i64.wrap (ofNat ln-1)<ofNat ln))<|gD (v==v&&true)<|gD (v==v&&true)<|gD (((0:Nat)+(i64.wrap (ofNat ln-(1:Int))).toNat).blt n)<|bif (g ((0:Nat)+(i64.wrap (ofNat ln-(1:Int))).toNat)).f then gD (decide (0<=ofNat i)&&decide (ofNat i<ofNat k))<|bif (m i).f then gD (v==v&&true)<|gD (decide (0<=i64.wrap (ofNat ln-1))&&decide (i64.wrap (ofNat ln-1)<ofNat ln))<|gD (v==v&&true)<|gD (v==v&&true)<|gD (((0:Nat)+(i64.wrap (ofNat ln-(1:Int))).toNat).blt n)<|gD (decide (0<=ofNat i)&&decide (ofNat i<ofNat k))<|bif decide (u8.wrap ((g ((0:Nat)+(i64.wrap (ofNat ln-(1:Int))).toNat)).d+(m i).d)=(1:Int)) then zN [cH m k
 none,.own 0 v 0 ln
 none,iI (.ofNat i),iI (.ofNat ln),.bool true] [la v n g] else
 zN [cH m k
 none,.own 0 v 0 ln
 none,iI (.ofNat i),iI (.ofNat ln),.bool false] [la v n g] else
 zN [cH m k
 none,.own 0 v 0 ln
 none,iI (.ofNat i),iI (.ofNat ln),.bool false] [la v n g] else
 gD (decide (0<=ofNat i)&&decide (ofNat i<ofNat k))<|bif (m i).f then zN [cH m k
 none,.own 0 v 0 ln
 none,iI (.ofNat i),iI (.ofNat ln),.bool false] [la v n g] else
 gD (v==v&&true)<|gD (decide (0<=i64.wrap (ofNat ln-1))&&decide (i64.wrap (ofNat ln-1)<ofNat ln))<|gD (v==v&&true)<|gD (v==v&&true)<|gD (((0:Nat)+(i64.wrap (ofNat ln-(1:Int))).toNat).blt n)<|gD (decide (0<=ofNat i)&&decide (ofNat i<ofNat k))<|bif decide (u8.wrap ((g ((0:Nat)+(i64.wrap (ofNat ln-(1:Int))).toNat)).d+(m i).d)=(1:Int)) then zN [cH m k
 none,.own 0 v 0 ln
 none,iI (.ofNat i),iI (.ofNat ln),.bool true] [la v n g] else
 zN [cH m k
 none,.own 0 v 0 ln
 none,iI (.ofNat i),iI (.ofNat ln),.bool false] [la v n g] else
 zN [cH m k
 none,.own 0 v 0 ln
 none,iI (.ofNat i),iI (.ofNat ln),.bool false] [la v n g] else
 zN [cH m k
 none,.own 0 v 0 ln
 none,iI (.ofNat i),iI (.ofNat ln),.bool false] [la v n g] else
 zN [cH m k
 none,.own 0 v 0 ln
 none,iI (.ofNat i),iI (.ofNat ln),.bool false] [la v n g]):=qh
def va7(m g:Nat->bw)(k i v n ln:Nat):cD 121 [3,2,2,0,1,2,0,0,2,1,2,2] [1,5,6,7,63] [cH m k none,.own 0 v 0 ln none,iI (ofNat i),iI (ofNat ln),.bool true] [la v n g] [1,5,6] =
( gD (v==v&&true)<|gD (decide (0<=i64.wrap (ofNat ln-1))&&decide (i64.wrap (ofNat ln-1)<=ofNat n))<|zN [cH m k
 none,.own 0 v 0 (i64.wrap (ofNat ln-(1:Int))).toNat
 none,iI (.ofNat i)] [la v n g]):=qh
def va8(m g:Nat->bw)(k i v n ln:Nat):cK (KG qv) 121 [4,2,2,0,1,2,0,0,2,1,2,2] [1,5,6,7,63] [cH m k none,.own 0 v 0 ln none,iI (ofNat i),iI (ofNat ln),.bool false] [la v n g] [1,5,6] =
( gD (decide (0<=ofNat i)&&decide (ofNat i<ofNat k))<|gD (v==v&&true)<|gD (((0:Nat)+ln).ble n)<|gD (((ln+(1:Nat))*(25:Nat)).ble 70368744177664)<|bif ((0:Nat)+ln+(1:Nat)).ble n then zN [cH m k
 none,.own 0 v 0 (ln+1)
 none,iI (.ofNat i)] [.mk v 4 n (λj=>bif ((0:Nat)+ln).ble j&&j.blt (0+ln+1) then List.map Qj ([(m i).c].getD (j-(0+ln)) [])
 else(g j).c) true false
 none] else
 zN [cH m k
 none,.own 0 (v+1) (0:Nat) (ln+1)
 none,iI (.ofNat i)] [.mk (v+1) (4:Nat) (ln+1) (λj=>bif j.blt ln then(g ((0:Nat)+j)).c
 else List.map Qj ([(m i).c].getD (j-ln) [])) true false
 none]):=qh
def va9(a b:T)(i:Nat)(H:qa):cD 121 [2,2,0,0,2,1,2,2] [1,5,6] [a,b,iI (ofNat i)] H [1,5,6] =
( zN [a,b,iI (i64.wrap (ofNat i+1))] H):=qh
def qtH(v ln:Nat)(H:qa):cD 121 [2,2,2] [5] [.own 0 v 0 ln none] H [4] =
( zR [.own 0 v 0 ln
 none] H):=qh
def qtI(g:Nat->bw)(v n ln:Nat):ZE aw G17 (az 121).aa Tryz.f121 (qB [4] [.own 0 v 0 ln none] [la v n g]) (λx=>some (ye [la v n g] x)) =
( some (bif v==v&&((0:Nat)+ln).ble n then .fresh true (4:Nat) n (λj=>(g ((0:Nat)+j)).c) ln none else .undef)):=qh
def Ak(p q:bw):Bool:=decide (p.y=q.y)&&(decide (p.n=q.n)&&((p.f==q.f)&&decide (u8.wrap (p.d+q.d)=1)))
def KO(st:List bw)(p:bw):List bw:=if (decide (0<st.length)&&Ak (st.getD (st.length-1) fv) p)=true then st.dropLast else st++[p]
def Zz(l m:List bw):List bw:=m.foldl KO l
def qtJ(m g:Nat->bw)(k i v n ln:Nat)(u:i<k)(h1:ln<=n)(h2:ln<=2000000):cD 121 [1,2,0,1,2,0,0,2,1,2,2] [1,5,6,7] [cH m k none,.own 0 v 0 ln none,iI (ofNat i),iI (ofNat ln)] [la v n g] [1,5,6,7,63] =
 some (.normal,[cH m k none,.own 0 v 0 ln none,iI (ofNat i),iI (ofNat ln),.bool (decide (0<ln)&&Ak (g (ln-1)) (m i))],[la v n g]):=by
 refine(va6 m g k i v n ln).trans ?_;by_cases j:0<ln
 .have e:i64.wrap (ofNat ln-1)=ofNat (ln-1):=by rw[Qp bH bH];simp only[wu];omega
  rw[e,show(ofNat (ln-1)).toNat=ln-1 from rfl,wn,qL (show ln-1<n by omega),wq (show(0:Int)<ofNat ln by simp only[wu];omega),wq j];have s:(decide ((0:Int)<=ofNat (ln-1))&&decide (ofNat (ln-1)<ofNat ln))=true:=by simp;omega
  have r:(decide ((0:Int)<=ofNat i)&&decide (ofNat i<ofNat k))=true:=by simp;omega
  have o:(v==v&&true)=true:=by simp
  rw[s,r,o];simp only[wm,xx];unfold Ak;generalize g (ln-1)=a;generalize m i=b;cases decide (a.y=b.y) with
  |false=>rfl
  |true =>
   cases decide (a.n=b.n) with
   |false=>rfl
   |true =>
    cases a.f<;>cases b.f<;>cases decide (u8.wrap (a.d+b.d)=1)<;>rfl
 .rw[dF (show ¬(0:Int)<ofNat ln by simp only[wu];omega),dF j];rfl
structure Pn where
 (v n:Nat) (g:Nat->bw)
def Pn.step(s:Pn)(st:List bw)(p:bw):Pn :=
 if (decide (0<st.length)&&Ak (st.getD (st.length-1) fv) p)=true then s else if st.length+1<=s.n then ⟨s.v,s.n,aB s.g st.length p⟩ else ⟨s.v+1,st.length+1,aB s.g st.length p⟩
def gm(l:List bw)(m:Nat->bw):Nat->List bw×Pn
 |0=>(l,⟨0,l.length,λj=>l.getD j fv⟩)
 |i+1=>(KO (gm l m i).1 (m i),(gm l m i).2.step (gm l m i).1 (m i))
def qjt{α:Type}(l:List α)(d:α)(j:Nat)(h:j<l.length-1):l.dropLast.getD j d=l.getD j d:=by
 rw[wh,wh,List.getElem?_dropLast,wl h]
def Vi(l:List bw)(m:Nat->bw):∀i,(gm l m i).1.length<=(gm l m i).2.n/\(gm l m i).1.length<=l.length+i/\∀j,j<(gm l m i).1.length->(gm l m i).2.g j=(gm l m i).1.getD j fv
 |0=>⟨wc _,wc _,λ_ _=>rfl⟩
 |i+1=>by
  obtain⟨h1,k,f⟩:=Vi l m i;show(KO (gm l m i).1 (m i)).length<=((gm l m i).2.step (gm l m i).1 (m i)).n/\(KO (gm l m i).1 (m i)).length<=l.length+(i+1)/\∀j,j<(KO (gm l m i).1 (m i)).length->((gm l m i).2.step (gm l m i).1 (m i)).g j=(KO (gm l m i).1 (m i)).getD j fv;generalize (gm l m i).1=st at *
  generalize (gm l m i).2=s at *
  unfold KO Pn.step;by_cases c:(decide (0<st.length)&&Ak (st.getD (st.length-1) fv) (m i))=true
  .rw[wl c,wl c];rw[xY];exact⟨ae,ae,λj a=>by rw[qjt _ _ _ a];exact f j ae⟩
  ·rw[we c,we c];have e:∀j,j<(st++[m i]).length->aB s.g st.length (m i) j=(st++[m i]).getD j fv:=λj a=>by
    rw[Zs];unfold aB;by_cases q:j=st.length
    ·rw[wl q,wl q]
    ·rw[we q,we q];simp only[wD,xD] at a;exact f j ae
   by_cases d:st.length+1<=s.n
   .rw[wl d];exact⟨by simp;omega,by simp;omega,e⟩
   .rw[we d];exact⟨au,by simp;omega,e⟩
def Vj(l:List bw)(m:List bw):∀i,i<=m.length->(gm l (λj=>m.getD j fv) i).1=Zz l (m.take i)
 |0,_=>rfl
 |i+1,h=>by
  show KO (gm l (λj=>m.getD j fv) i).1 (m.getD i fv)=_;rw[Vj l m i ae,List.take_add_one,show m[i]?=some (m.getD i fv) by rw[wh,wj ae];rfl];unfold Zz;rw[Option.toList_some,xL];rfl
def vP(k:Nat)(m:Nat->bw)(i:Nat)(s:Pn)(ln:Nat):JO:=[cH m k none,.own 0 s.v 0 ln none,iI (ofNat i)]
def Vk(b:Bool){d a:Nat}(s:Pn)(st:List bw)(p:bw)(f:Nat->JO)(i:∀j,j<a->(aB s.g st.length p j).c=f j):ak [aq.mk d 4 a f true false none] [la d a (aB s.g st.length p)] :=
 .cons ⟨rfl,rfl,rfl,λh=>h,λj e=>i j e⟩ .nil rfl
def qmj{h0:qa}(m:Nat->bw)(k i:Nat)(D:i<k)(J:k<=1000000)(st:List bw)(s:Pn)(h1:st.length<=s.n)(h2:st.length<=2000000)(E:∀j,j<st.length->s.g j=st.getD j fv) :
 Pq 121 h0 [0,0,2,1,2,2] [1,5,6] (vP k m i s st.length) [la s.v s.n s.g] .normal [1,5,6] (vP k m (i+1) (s.step st (m i)) (KO st (m i)).length) [la (s.step st (m i)).v (s.step st (m i)).n (s.step st (m i)).g]:=by
 have run:=λ{p l r h C u h1 e} (q:cD 121 p l r h C=some (e,u,h1))=>cf h0 q;have o:(s.v==s.v&&true)=true:=by simp
 have B:=run ((va4 m k i (.own 0 s.v 0 st.length none) [la s.v s.n s.g]).trans (qk (wq bH) rfl));have A:=run ((va5 m s.g k i s.v s.n st.length).trans (qk o rfl));have x:=run (qtJ m s.g k i s.v s.n st.length D h1 ae);have last:∀(s2:Pn) (ln:Nat),Pq 121 h0 [2,2,0,0,2,1,2,2] [1,5,6] (vP k m i s2 ln) [la s2.v s2.n s2.g] .normal [1,5,6] (vP k m (i+1) s2 ln) [la s2.v s2.n s2.g]:=λs2 ln=>by
  have q:=va9 (cH m k none) (.own 0 s2.v 0 ln none) i [la s2.v s2.n s2.g];rw[il ae] at q;exact run q
 have a:Pq 121 h0 [2,2,0,1,2,0,0,2,1,2,2] [1,5,6,7,63] [cH m k none,.own 0 s.v 0 st.length none,iI (ofNat i),iI (ofNat st.length),.bool (decide (0<st.length)&&Ak (s.g (st.length-1)) (m i))] [la s.v s.n s.g] .normal [1,5,6] (vP k m i (s.step st (m i)) (KO st (m i)).length) [la (s.step st (m i)).v (s.step st (m i)).n (s.step st (m i)).g]:=by
  have I:(decide (0<st.length)&&Ak (s.g (st.length-1)) (m i))=(decide (0<st.length)&&Ak (st.getD (st.length-1) fv) (m i)):=by
   by_cases q:0<st.length
   .rw[E (st.length-1) ae]
   .rw[dF q,xT,xT]
  rw[I];unfold KO Pn.step;cases c:decide (0<st.length)&&Ak (st.getD (st.length-1) fv) (m i) with
  |true =>
   rw[wl rfl,wl rfl,xY];have M:0<st.length:=by
    rcases vS st.length with z|z
    .rw[z] at c;simp at c
    .exact z
   have e:i64.wrap (ofNat st.length-1)=ofNat (st.length-1):=by rw[Qp bH bH];simp only[wu];omega
   have q:=va7 m s.g k i s.v s.n st.length;rw[e] at q;exact Pz.gE 63 qh rfl (run (q.trans (qk o (qk (by simp;omega) rfl))))
  |false =>
   rw[we (show ¬(false=true) by simp),we (show ¬(false=true) by simp)];have H:(st++[m i]).length=st.length+1:=by simp
   rw[H];have q:=va8 m s.g k i s.v s.n st.length;have q:=q.trans (qk (by simp;omega) (qk o (qk (qO ae) (qk (qO ae) rfl))));refine Pz.fc 63 qh rfl ?_;by_cases d:st.length+1<=s.n
   .rw[wl d];refine Pz.post (eD (qC qp (λ_ _ _ _ h=>(by cases h))) h0 (q.trans (qk (qO ae) rfl))) λnt=>.same (Vk true s st (m i) _ λj f=>?_);unfold aB;by_cases z:j=st.length
    .rw[wl z,z,qO ae,qL ae,wn,wW];rfl
    .rw[we z];by_cases y:j<st.length
     .rw[ZG ae];rfl
     .rw[QP (show 0+st.length+1<=j by omega),Bool.and_false];rfl
   .rw[we d];refine Pz.post (eD (qC qp (λ_ _ _ _ h=>(by cases h))) h0 (q.trans (qF (by rw[ZG ae];simp) rfl))) λnt=>.same (Vk true s st (m i) _ λj f=>?_);have f:j<st.length+1:=f;unfold aB;by_cases z:j=st.length
    .rw[wl z,z,QP (wc _),wW];rfl
    .rw[we z,qL ae,wn];rfl
 exact av B (av (fi 1 (av A (av x a))) (last _ _))
def qju(l:List bw)(m:Nat->bw)(k:Nat)(f:l.length<=1000000):Pq 121 [] [1,2] [0,1] [lV l,cH m k none] [] .normal [1,5] [cH m k none,.own 0 0 0 l.length none] [la 0 l.length λj=>l.getD j fv]:=by
 have q:=va2 (λj=>l.getD j fv) m l.length k;by_cases z:l.length=0
 .have d:l=[]:=vN z;subst d;refine Pz.post (cf [] (q.trans (qk rfl rfl))) λnt=>?_;refine .trans (am.Gp (dE:=[cH m k none,.own 0 0 0 0 none]) rfl λi x y h1 a=>?_) (.same (.cons ⟨rfl,rfl,rfl,λh=>h,λj e=>absurd e (vm j)⟩ .nil rfl))
  match i with
  |0=>obtain rfl:=wa h1;obtain rfl:=wa a;exact .refl _
  |1=>obtain rfl:=wa h1;obtain rfl:=wa a;exact .inr ⟨0,0,0,0,0,_,rfl,rfl,rfl,wc _⟩
  |i+2=>simp at h1
 .have q:=q.trans (qF (by simpa using z) (qk (by rw[wn,qO ae]) (qF (by rw[wn,ZG ae];simp) rfl)));refine Pz.post (cf [] q) λnt=>.bZ [1] rfl (by rw[wn];rfl) (by rw[wn];rfl) (.cons ⟨rfl,rfl,rfl,λh=>h,λ_ _=>rfl⟩ .nil rfl)
def Vl(l m:List bw)(z:l.length<=1000000)(x:m.length<=1000000):TO 121 [lV l,lV m] (.new (lV (Zz l m))):=by
 have run:=λ{p l o h u r h1 e} (q:cD 121 p l o h u=some (e,r,h1))=>cf [] q
 let a:Nat->bw:=λj=>m.getD j fv
 have ok:=Vi l a;have d:=Vj l m m.length (wc _);rw[xm] at d;have d:(gm l a m.length).1=Zz l m:=d;have lp:Pq 121 [] [0,2,1,2,2] [1,5,6] [cH a m.length none,.own 0 0 0 l.length none,iI (ofNat 0)] [la 0 l.length λj=>l.getD j fv] (.exit 0) [5] [.own 0 (gm l a m.length).2.v 0 (Zz l m).length none] [la (gm l a m.length).2.v (gm l a m.length).2.n (gm l a m.length).2.g] :=
  Pz.count qh (λi=>vP m.length a i (gm l a i).2 (gm l a i).1.length) (λi=>[la (gm l a i).2.v (gm l a i).2.n (gm l a i).2.g]) (n:=m.length) au (λi C=>by
   obtain⟨k,s,f⟩:=ok i;exact qmj a m.length i C x (gm l a i).1 (gm l a i).2 k ae f) (by
   rw[←d];exact lk (run ((qtG a m.length m.length (.own 0 (gm l a m.length).2.v 0 (gm l a m.length).1.length none) [la (gm l a m.length).2.v (gm l a m.length).2.n (gm l a m.length).2.g]).trans (qF (hZ bH) rfl))))
 obtain⟨k,s,f⟩:=ok m.length;rw[d] at k f;have t:=Pz.told (A:=az) Qn Tryz.func121 qh qh (l:=[0,1]) rfl
  (av (run (va1 (λj=>l.getD j fv) a l.length m.length)) (av (qju l a m.length z) (av (av (run (va3 _ _ _)) (fi 0 lp)) (run (qtH _ _ _)))))
  ((qtI (gm l a m.length).2.g (gm l a m.length).2.v (gm l a m.length).2.n (Zz l m).length).trans (vD some (show(bif (gm l a m.length).2.v==(gm l a m.length).2.v&&Nat.ble (0+(Zz l m).length) (gm l a m.length).2.n then _ else _)=T.fresh true 4 (gm l a m.length).2.n (λj=>((gm l a m.length).2.g (0+j)).c) (Zz l m).length none by rw[qO ae,wF];rfl)))
 refine(aI.fh t).tn (.new (.view (.inl rfl) λj B=>?_));rw[wn,f j B];exact .refl _
def q6(v n a m b d:Nat):JO:=[.own 0 v 0 n (some n),iI (ofNat a),iI (ofNat m),iI (ofNat b),.fn 124 [],iI (ofNat d)]
def q7(v n a m b d w:Nat):JO:=[.own 0 v 0 n (some n),iI (ofNat a),iI (ofNat m),iI (ofNat b),.fn 124 [],iI (ofNat d),iI (ofNat w)]
def q8(v n a m b d w s:Nat):JO:=[.own 0 v 0 n (some n),iI (ofNat a),iI (ofNat m),iI (ofNat b),.fn 124 [],iI (ofNat d),iI (ofNat w),iI (ofNat s)]
def q9(v n a m b d w s r:Nat):JO:=[.own 0 v 0 n (some n),iI (ofNat a),iI (ofNat m),iI (ofNat b),.fn 124 [],iI (ofNat d),iI (ofNat w),iI (ofNat s),iI (ofNat r)]
def r7(v n a b d s e:Nat):JO:=[.own 0 v 0 n (some n),iI (ofNat a),iI (ofNat b),.fn 124 [],iI (ofNat d),iI (ofNat s),iI (ofNat e)]
def r5(v n b d e:Nat):JO:=[.own 0 v 0 n (some n),iI (ofNat b),.fn 124 [],iI (ofNat d),iI (ofNat e)]
def vb1(l:Nat->aV)(n:Nat)(a b:aL)(s:Int):cD 119 [1] [0,1,2,3] [sL l n none,.agg a.c,.agg b.c,iI s] [] [0,3,5,6] =
( zN [sL l n
 none,iI s,.ah a.c,.ah b.c] []):=qh
def vb2(t:T)(a b:aL)(s:Int):cD 119 [1,2] [0,3,5,6] [t,iI s,.ah a.c,.ah b.c] [] [0,3,5,6] =
( bif decide (b.y<a.y) then zN [t,iI s,.ah b.c,.ah a.c] [] else
 bif decide (a.y=b.y) then bif decide (b.n<a.n) then zN [t,iI s,.ah b.c,.ah a.c] [] else
 zN [t,iI s,.ah a.c,.ah b.c] [] else
 zN [t,iI s,.ah a.c,.ah b.c] []):=qh
def vb3(a b c d:T):cD 119 [1,2,2] [0,3,5,6] [a,b,c,d] [] [0,3,5,6,9] =
( zN [a,b,c,d,.ag] []):=qh
def vb4(a b c d e:T)(H:qa):cD 119 [1,2,2,2] [0,3,5,6,9] [a,b,c,d,e] H [0,3,5,6,9,10] =
( zN [a,b,c,d,e,iI 0] H):=qh
def vb5(a b c d e f:T)(H:qa):cD 119 [1,1,2,2,2,2] [0,3,5,6,9,10] [a,b,c,d,e,f] H [0,3,5,6,9,10,11] =
( zN [a,b,c,d,e,f,iI 0] H):=qh
def vb6(l:Nat->aV)(n i:Nat)(b c d e f:T)(H:qa):cD 119 [1,0,0,2,1,2,2,2,2] [0,3,5,6,9,10,11] [sL l n none,b,c,d,e,f,iI (ofNat i)] H [0,3,5,6,9,10,11] =
( bif decide (ofNat i<ofNat n) then zN [sL l n
 none,b,c,d,e,f,iI (.ofNat i)] H else
 zX 0 [sL l n
 none,b,c,d,e,f,iI (.ofNat i)] H):=qh
def qtK(l:Nat->aV)(n i:Nat)(b c d e f:T)(H:qa):cD 119 [1,0,0,2,1,2,2,2,2] [0,3,5,6,9,10,11] [sL l n none,b,c,d,e,f,iI (ofNat i)] H [3,5,6,9,10] =
( bif decide (ofNat i<ofNat n) then zN [b,c,d,e,f] H else
 zX 0 [b,c,d,e,f] H):=qh
def vb8(l:Nat->aV)(n i:Nat)(b c d e f:T)(H:qa):cD 119 [1,0,1,2,0,0,2,1,2,2,2,2] [0,3,5,6,9,10,11] [sL l n none,b,c,d,e,f,iI (ofNat i)] H [0,3,5,6,9,10,11,12] =
( gD (decide (0<=ofNat i)&&decide (ofNat i<ofNat n))<|zN [sL l n
 none,b,c,d,e,f,iI (.ofNat i),.ah (l i).c] H):=qh
def vb9(a b:aL)(x:aV)(t u v w z:T)(H:qa):cD 119 [1,2,0,1,2,0,0,2,1,2,2,2,2] [0,3,5,6,9,10,11,12] [t,u,.ah a.c,.ah b.c,v,w,z,.ah x.c] H [0,3,5,6,9,10,11,12,13] =
( bif decide (x.ay<a.y) then zN [t,u,.ah a.c,.ah b.c,v,w,z,.ah x.c,.bool true] H else
 bif decide (x.ay=a.y) then bif decide (x.an<a.n) then zN [t,u,.ah a.c,.ah b.c,v,w,z,.ah x.c,.bool true] H else
 bif decide (x.an=a.n) then bif decide (x.cy<b.y) then zN [t,u,.ah a.c,.ah b.c,v,w,z,.ah x.c,.bool true] H else
 bif decide (x.cy=b.y) then bif decide (x.cn<b.n) then zN [t,u,.ah a.c,.ah b.c,v,w,z,.ah x.c,.bool true] H else
 zN [t,u,.ah a.c,.ah b.c,v,w,z,.ah x.c,.bool false] H else
 zN [t,u,.ah a.c,.ah b.c,v,w,z,.ah x.c,.bool false] H else
 zN [t,u,.ah a.c,.ah b.c,v,w,z,.ah x.c,.bool false] H else
 zN [t,u,.ah a.c,.ah b.c,v,w,z,.ah x.c,.bool false] H):=qh
def qtL(a b:aL)(x:aV)(t z v:T)(s d:Int)(e:Bool)(H:qa):cD 119 [1,1,2,2,0,1,2,0,0,2,1,2,2,2,2] [0,3,5,6,9,10,11,12,13] [t,iI s,.ah a.c,.ah b.c,v,iI d,z,.ah x.c,.bool e] H [0,3,5,6,9,10,11,12,116] =
( bif e then zN [t,iI s,.ah a.c,.ah b.c,v,iI d,z,.ah x.c,.bool false] H else
 bif decide (d=0) then bif decide (x.ay=a.y) then bif decide (x.an=a.n) then bif decide (x.cy=b.y) then bif decide (x.cn=b.n) then zN [t,iI s,.ah a.c,.ah b.c,v,iI d,z,.ah x.c,.bool false] H else
 zN [t,iI s,.ah a.c,.ah b.c,v,iI d,z,.ah x.c,.bool true] H else
 zN [t,iI s,.ah a.c,.ah b.c,v,iI d,z,.ah x.c,.bool true] H else
 zN [t,iI s,.ah a.c,.ah b.c,v,iI d,z,.ah x.c,.bool true] H else
 zN [t,iI s,.ah a.c,.ah b.c,v,iI d,z,.ah x.c,.bool true] H else
 zN [t,iI s,.ah a.c,.ah b.c,v,iI d,z,.ah x.c,.bool false] H):=qh
def qtM(a b:aL)(x:aV)(t z:T)(s d:Int)(k:Nat)(y:Nat->aV):cK (KG qv) 119 [3,2,1,2,2,0,1,2,0,0,2,1,2,2,2,2] [0,3,5,6,9,10,11,12,116] [t,iI s,.ah a.c,.ah b.c,.own 0 k 0 k none,iI d,z,.ah x.c,.bool true] [cB k k y] [0,3,5,6,9,10,11,12] =
( gD (k==k&&true)<|gD (((0:Nat)+k).ble k)<|gD (((k+(1:Nat))*(41:Nat)).ble 70368744177664)<|bif ((0:Nat)+k+(1:Nat)).ble k then zN [t,iI s,.ah a.c,.ah b.c,.own 0 k 0 (k+1)
 none,iI 1,z,.ah x.c] [.mk k 5 k (λj=>bif ((0:Nat)+k).ble j&&j.blt (0+k+1) then List.map Qj ([[uI a.y,iI a.n,uI b.y,iI b.n,iI s]].getD (j-(0+k)) [])
 else(y j).c) true false
 none] else
 zN [t,iI s,.ah a.c,.ah b.c,.own 0 (k+1) (0:Nat) (k+1)
 none,iI 1,z,.ah x.c] [.mk (k+1) (5:Nat) (k+1) (λj=>bif j.blt k then(y ((0:Nat)+j)).c
 else List.map Qj ([[uI a.y,iI a.n,uI b.y,iI b.n,iI s]].getD (j-k) [])) true false
 none]):=qh
def qtN(a b c d e f g h:T)(H:qa):cD 119 [4,2,1,2,2,0,1,2,0,0,2,1,2,2,2,2] [0,3,5,6,9,10,11,12,116] [a,b,c,d,e,f,g,h,.bool false] H [0,3,5,6,9,10,11,12] =
( zN [a,b,c,d,e,f,g,h] H):=qh
def qtO(a b:aL)(x:aV)(t v z:T)(s d:Int)(H:qa):cD 119 [1,2,2,2,0,1,2,0,0,2,1,2,2,2,2] [0,3,5,6,9,10,11,12] [t,iI s,.ah a.c,.ah b.c,v,iI d,z,.ah x.c] H [0,3,5,6,9,10,11,12] =
( bif decide (x.ay=a.y) then bif decide (x.an=a.n) then bif decide (x.cy=b.y) then bif decide (x.cn=b.n) then zN [t,iI s,.ah a.c,.ah b.c,v,iI 1,z,.ah [uI x.ay,iI x.an,uI x.cy,iI x.cn,iI (i64.wrap (x.n+s))]] H else
 zN [t,iI s,.ah a.c,.ah b.c,v,iI d,z,.ah x.c] H else
 zN [t,iI s,.ah a.c,.ah b.c,v,iI d,z,.ah x.c] H else
 zN [t,iI s,.ah a.c,.ah b.c,v,iI d,z,.ah x.c] H else
 zN [t,iI s,.ah a.c,.ah b.c,v,iI d,z,.ah x.c] H):=qh
def qtP(x:aV)(t c d e f z:T)(k:Nat)(y:Nat->aV):cK (KG qv) 119 [2,2,2,2,0,1,2,0,0,2,1,2,2,2,2] [0,3,5,6,9,10,11,12] [t,c,d,e,.own 0 k 0 k none,f,z,.ah x.c] [cB k k y] [0,3,5,6,9,10,11] =
( bif !decide (x.n=0) then gD (k==k&&true)<|gD (((0:Nat)+k).ble k)<|gD (((k+(1:Nat))*(41:Nat)).ble 70368744177664)<|bif ((0:Nat)+k+(1:Nat)).ble k then zN [t,c,d,e,.own 0 k 0 (k+1)
 none,f,z] [.mk k 5 k (λj=>bif ((0:Nat)+k).ble j&&j.blt (0+k+1) then List.map Qj ([x.c].getD (j-(0+k)) [])
 else(y j).c) true false
 none] else
 zN [t,c,d,e,.own 0 (k+1) (0:Nat) (k+1)
 none,f,z] [.mk (k+1) (5:Nat) (k+1) (λj=>bif j.blt k then(y ((0:Nat)+j)).c
 else List.map Qj ([x.c].getD (j-k) [])) true false
 none] else
 zN [t,c,d,e,.own 0 k 0 k
 none,f,z] [cB k k y]):=qh
def vb7(a b c d e f:T)(i:Nat)(H:qa):cD 119 [2,2,0,0,2,1,2,2,2,2] [0,3,5,6,9,10,11] [a,b,c,d,e,f,iI (ofNat i)] H [0,3,5,6,9,10,11] =
( zN [a,b,c,d,e,f,iI (i64.wrap (ofNat i+1))] H):=qh
def qtQ(a b:aL)(s d:Int)(k:Nat)(y:Nat->aV):cK (KG qv) 119 [1,2,2,2,2,2] [3,5,6,9,10] [iI s,.ah a.c,.ah b.c,.own 0 k 0 k none,iI d] [cB k k y] [9] =
( bif decide (d=0) then gD (k==k&&true)<|gD (((0:Nat)+k).ble k)<|gD (((k+(1:Nat))*(41:Nat)).ble 70368744177664)<|bif ((0:Nat)+k+(1:Nat)).ble k then zN [.own 0 k 0 (k+1)
 none] [.mk k 5 k (λj=>bif ((0:Nat)+k).ble j&&j.blt (0+k+1) then List.map Qj ([[uI a.y,iI a.n,uI b.y,iI b.n,iI s]].getD (j-(0+k)) [])
 else(y j).c) true false
 none] else
 zN [.own 0 (k+1) (0:Nat) (k+1)
 none] [.mk (k+1) (5:Nat) (k+1) (λj=>bif j.blt k then(y ((0:Nat)+j)).c
 else List.map Qj ([[uI a.y,iI a.n,uI b.y,iI b.n,iI s]].getD (j-k) [])) true false
 none] else
 zN [.own 0 k 0 k
 none] [cB k k y]):=qh
def qtR(k:Nat)(H:qa):cD 119 [2,2,2,2,2,2] [9] [.own 0 k 0 k none] H [8] =
( zR [.own 0 k 0 k
 none] H):=qh
def qtS(k:Nat)(y:Nat->aV):ZE aw G17 (az 119).aa Tryz.f119 (qB [8] [.own 0 k 0 k none] [cB k k y]) (λx=>some (ye [cB k k y] x)) =
( some (bif k==k&&((0:Nat)+k).ble k then .fresh true (5:Nat) k (λj=>(y ((0:Nat)+j)).c) k none else .undef)):=qh
def Jo{α β:Type}(f:β->α->β)(z:β)(g:Nat->α):Nat->β
 |0=>z
 |i+1=>f (Jo f z g i) (g i)
def Vm{α β:Type}(f:β->α->β)(z:β)(l:List α)(d:α):∀i,i<=l.length->Jo f z (λj=>l.getD j d) i=(l.take i).foldl f z
 |0,_=>rfl
 |i+1,h=>by
  show f (Jo f z (λj=>l.getD j d) i) (l.getD i d)=_;rw[Vm f z l d i ae,List.take_add_one,show l[i]?=some (l.getD i d) by rw[wh,wj ae];rfl,Option.toList_some,xL];rfl
def qjv{α β:Type}(f:β->α->β)(z:β)(l:List α)(d:α):Jo f z (λj=>l.getD j d) l.length=l.foldl f z:=by
 rw[Vm f z l d l.length (wc _),xm]
def uL(a b:aL)(s:Int):aV:=⟨a.y,a.n,b.y,b.n,s⟩
def dZ(x:aV)(a b:aL):Bool:=decide (x.ay=a.y)&&(decide (x.an=a.n)&&(decide (x.cy=b.y)&&decide (x.cn=b.n)))
def ff(x:aV)(a b:aL):Bool:=decide (x.ay<a.y) || (decide (x.ay=a.y)&&(decide (x.an<a.n) || (decide (x.an=a.n)&&(decide (x.cy<b.y) || (decide (x.cy=b.y)&&decide (x.cn<b.n))))))
def Bq(a b:aL):Bool:=decide (b.y<a.y) || (decide (a.y=b.y)&&decide (b.n<a.n))
def Ky(a b:aL)(s:Int)(p:List aV×Bool)(x:aV):List aV×Bool:=bif !ff x a b&&(!p.2&&!dZ x a b) then(p.1++[uL a b s],true) else p
def iP(a b:aL)(s:Int)(x:aV):aV:=bif dZ x a b then ⟨x.ay,x.an,x.cy,x.cn,i64.wrap (x.n+s)⟩ else x
def fD(a b:aL)(s:Int)(p:List aV×Bool)(x:aV):List aV×Bool :=
 (bif !decide ((iP a b s x).n=0) then(Ky a b s p x).1++[iP a b s x] else(Ky a b s p x).1,dZ x a b || (Ky a b s p x).2)
def jy(a b:aL)(s:Int)(p:List aV×Bool):List aV:=bif p.2 then p.1 else p.1++[uL a b s]
def Z9(l:List aV)(a b:aL)(s:Int):List aV:=bif Bq a b then jy b a s (l.foldl (fD b a s) ([],false)) else jy a b s (l.foldl (fD a b s) ([],false))
def nB(d:Bool):Int:=bif d then 1 else 0
def oC(st:List aV):T:=.own 0 st.length 0 st.length none
def hC(st:List aV):qa:=[cB st.length st.length λj=>st.getD j pN]
def O9(st:List aV)(x:aV)(c:JO)(d:List.map Qj c=x.c):ak [aq.mk (st.length+1) 5 (st.length+1) (λj=>bif j.blt st.length then(st.getD (0+j) pN).c else List.map Qj ([c].getD (j-st.length) [])) true false none] (hC (st++[x])):=by
 have e:(st++[x]).length=st.length+1:=by simp
 unfold hC cB;rw[e];refine .cons ⟨rfl,rfl,rfl,λh=>h,λj a=>?_⟩ .nil rfl;have a:j<st.length+1:=a;show((st++[x]).getD j pN).c=bif j.blt st.length then(st.getD (0+j) pN).c else List.map Qj ([c].getD (j-st.length) []);rw[Zs];by_cases q:j=st.length
 .subst q;rw[wl rfl,QP (wc _),wW];exact d.symm
 .rw[we q,qL ae,wn];rfl
def Pa(st:List aV)(x:aV):oC (st++[x]) = .own 0 (st.length+1) 0 (st.length+1) none:=by
 unfold oC;rw[show(st++[x]).length=st.length+1 by simp]
def vC(l:Nat->aV)(n:Nat)(a b:aL)(s:Int)(i:Nat)(p:List aV×Bool):JO:=[sL l n none,iI s,.ah a.c,.ah b.c,oC p.1,iI (nB p.2),iI (ofNat i)]
def qn6(a b:aL)(s:Int)(p:List aV×Bool)(x:aV):(fD a b s p x).1.length<=p.1.length+2:=by
 unfold fD Ky;cases (!ff x a b&&(!p.2&&!dZ x a b))<;>cases !decide ((iP a b s x).n=0)<;>simp
def qmk{h0:qa}(l:Nat->aV)(n:Nat)(a b:aL)(s:Int)(i:Nat)(P:i<n)(O:n<=1000000)(p:List aV×Bool)(hp:p.1.length<=2*i) :
 Pq 119 h0 [0,0,2,1,2,2,2,2] [0,3,5,6,9,10,11] (vC l n a b s i p) (hC p.1) .normal [0,3,5,6,9,10,11] (vC l n a b s (i+1) (fD a b s p (l i))) (hC (fD a b s p (l i)).1):=by
 obtain⟨st,dn⟩:=p;have hp:st.length<=2*i:=hp;have run:=λ{p l B h f C h1 e} (q:cD 119 p l B h f=some (e,C,h1))=>cf h0 q;have g:OO (KG qv):=qC qp (λ_ _ _ _ h=>(by cases h));have A:∀k:Nat,(k==k&&true)=true:=λk=>by simp
 let t:T:=sL l n none
 let x:aV:=l i
 have J:=run ((vb6 l n i (iI s) (.ah a.c) (.ah b.c) (oC st) (iI (nB dn)) (hC st)).trans (qk (wq bH) rfl));have I:=run ((vb8 l n i (iI s) (.ah a.c) (.ah b.c) (oC st) (iI (nB dn)) (hC st)).trans (qk (by simp;omega) rfl));have N:cD 119 [1,2,0,1,2,0,0,2,1,2,2,2,2] [0,3,5,6,9,10,11,12] [t,iI s,.ah a.c,.ah b.c,oC st,iI (nB dn),iI (ofNat i),.ah x.c] (hC st) [0,3,5,6,9,10,11,12,13]=some (.normal,[t,iI s,.ah a.c,.ah b.c,oC st,iI (nB dn),iI (ofNat i),.ah x.c,.bool (ff x a b)],hC st):=by
  refine(vb9 a b x t (iI s) (oC st) (iI (nB dn)) (iI (ofNat i)) (hC st)).trans ?_;unfold ff;cases decide (x.ay<a.y)<;>cases decide (x.ay=a.y)<;>cases decide (x.an<a.n)<;>cases decide (x.an=a.n)<;>cases decide (x.cy<b.y)<;>cases decide (x.cy=b.y)<;>cases decide (x.cn<b.n)<;>rfl
 have u:cD 119 [1,1,2,2,0,1,2,0,0,2,1,2,2,2,2] [0,3,5,6,9,10,11,12,13] [t,iI s,.ah a.c,.ah b.c,oC st,iI (nB dn),iI (ofNat i),.ah x.c,.bool (ff x a b)] (hC st) [0,3,5,6,9,10,11,12,116]=some (.normal,[t,iI s,.ah a.c,.ah b.c,oC st,iI (nB dn),iI (ofNat i),.ah x.c,.bool (!ff x a b&&(!dn&&!dZ x a b))],hC st):=by
  refine(qtL a b x t (iI (ofNat i)) (oC st) s (nB dn) (ff x a b) (hC st)).trans ?_;unfold dZ;cases ff x a b<;>cases dn<;>cases decide (x.ay=a.y)<;>cases decide (x.an=a.n)<;>cases decide (x.cy=b.y)<;>cases decide (x.cn=b.n)<;>rfl
 have E:Pq 119 h0 [1,2,2,0,1,2,0,0,2,1,2,2,2,2] [0,3,5,6,9,10,11,12,13] [t,iI s,.ah a.c,.ah b.c,oC st,iI (nB dn),iI (ofNat i),.ah x.c,.bool (ff x a b)] (hC st) .normal [0,3,5,6,9,10,11,12] [t,iI s,.ah a.c,.ah b.c,oC (Ky a b s (st,dn) x).1,iI (nB (Ky a b s (st,dn) x).2),iI (ofNat i),.ah x.c] (hC (Ky a b s (st,dn) x).1):=by
  refine av (run u) ?_;unfold Ky;cases (!ff x a b&&(!dn&&!dZ x a b)) with
  |true =>
   refine Pz.gE 116 qh rfl ?_;have q:=(qtM a b x t (iI (ofNat i)) s (nB dn) st.length (λj=>st.getD j pN)).trans (qk (A _) (qk (qO ae) (qk (qO ae) (qF (by rw[ZG ae];simp) rfl))));rw[wm,Pa];exact Pz.post (eD g h0 q) λnt=>.same (O9 st (uL a b s) _ rfl)
  |false =>
   refine Pz.fc 116 qh rfl ?_;exact run (qtN t (iI s) (.ah a.c) (.ah b.c) (oC st) (iI (nB dn)) (iI (ofNat i)) (.ah x.c) (hC st))
 have f:(Ky a b s (st,dn) x).1.length<=2*i+1:=by
  unfold Ky;cases (!ff x a b&&(!dn&&!dZ x a b))
  .show st.length<=_;omega
  .show(st++[_]).length<=_;simp;omega
 have hx:fD a b s (st,dn) x=(bif !decide ((iP a b s x).n=0) then(Ky a b s (st,dn) x).1++[iP a b s x] else(Ky a b s (st,dn) x).1,dZ x a b || (Ky a b s (st,dn) x).2):=rfl;show Pq 119 h0 _ _ _ _ .normal _ (vC l n a b s (i+1) (fD a b s (st,dn) x)) (hC (fD a b s (st,dn) x).1);rw[hx];generalize (Ky a b s (st,dn) x)=M at *
 obtain⟨s1,d1⟩:=M;have f:s1.length<=2*i+1:=f;have r:cD 119 [1,2,2,2,0,1,2,0,0,2,1,2,2,2,2] [0,3,5,6,9,10,11,12] [t,iI s,.ah a.c,.ah b.c,oC s1,iI (nB d1),iI (ofNat i),.ah x.c] (hC s1) [0,3,5,6,9,10,11,12]=some (.normal,[t,iI s,.ah a.c,.ah b.c,oC s1,iI (nB (dZ x a b || d1)),iI (ofNat i),.ah (iP a b s x).c],hC s1):=by
  refine(qtO a b x t (oC s1) (iI (ofNat i)) s (nB d1) (hC s1)).trans ?_;unfold iP dZ;cases decide (x.ay=a.y)<;>cases decide (x.an=a.n)<;>cases decide (x.cy=b.y)<;>cases decide (x.cn=b.n)<;>rfl
 have D:Pq 119 h0 [2,2,2,2,0,1,2,0,0,2,1,2,2,2,2] [0,3,5,6,9,10,11,12] [t,iI s,.ah a.c,.ah b.c,oC s1,iI (nB (dZ x a b || d1)),iI (ofNat i),.ah (iP a b s x).c] (hC s1) .normal [0,3,5,6,9,10,11] (vC l n a b s i (bif !decide ((iP a b s x).n=0) then s1++[iP a b s x] else s1,dZ x a b || d1)) (hC (bif !decide ((iP a b s x).n=0) then s1++[iP a b s x] else s1)):=by
  have q:=qtP (iP a b s x) t (.int .i64 s) (.ah a.c) (.ah b.c) (.int .i64 (nB (dZ x a b || d1))) (.int .i64 (ofNat i)) s1.length (λj=>s1.getD j pN);cases z:!decide ((iP a b s x).n=0) with
  |true =>
   have q:=q.trans (qk z (qk (A _) (qk (qO ae) (qk (qO ae) (qF (by rw[ZG ae];simp) rfl)))));unfold vC;rw[wm,Pa];exact Pz.post (eD g h0 q) λnt=>.same (O9 s1 (iP a b s x) _ rfl)
  |false=>exact eD g h0 (q.trans (qF (by rw[z];simp) rfl))
 have q7:=λ(o d:T) (H:qa)=>vb7 t (iI s) (.ah a.c) (.ah b.c) o d i H;have q7:∀(o d:T) (H:qa),_:=λo d H=>by
  have:=q7 o d H;rw[il ae] at this;exact this
 exact av J (av (fi 1 (av I (av (run N) (av E (av (run r) D))))) (run (q7 _ _ _)))
def Pb(a b:aL)(s:Int)(l:Nat->aV):∀i,(Jo (fD a b s) ([],false) l i).1.length<=2*i
 |0=>wc _
 |i+1=>by
  have h:=Pb a b s l i;have d:=qn6 a b s (Jo (fD a b s) ([],false) l i) (l i);show(fD a b s (Jo (fD a b s) ([],false) l i) (l i)).1.length<=_;omega
def qn7(l:List aV)(a b:aL)(s:Int)(M:l.length<=1000000):TO 119 [aM l,.agg a.c,.agg b.c,iI s] (.new (aM (Z9 l a b s))):=by
 have run:=λ{p l D h I E h1 e} (q:cD 119 p l D h I=some (e,E,h1))=>cf [] q;have B:OO (KG qv):=qC qp (λ_ _ _ _ h=>(by cases h));have J:∀k:Nat,(k==k&&true)=true:=λk=>by simp
 let g:Nat->aV:=λj=>l.getD j pN
 have f:∀(a b:aL),Pq 119 [] [2,2] [0,3,5,6] [aM l,iI s,.ah a.c,.ah b.c] [] .ret [8] [oC (jy a b s (l.foldl (fD a b s) ([],false)))] (hC (jy a b s (l.foldl (fD a b s) ([],false)))):=by
  intro a b;have st:Pq 119 [] [1,2,2] [0,3,5,6] [aM l,iI s,.ah a.c,.ah b.c] [] .normal [0,3,5,6,9] [aM l,iI s,.ah a.c,.ah b.c,oC []] (hC []) :=
   Pz.post (run (vb3 _ _ _ _)) λnt=>am.gh (hC []) (by intro b O;obtain rfl:=wM.1 O;exact⟨rfl,rfl⟩) (.Ue (.Ue (.Ue (.Ue (.cons (.inl (.own (k:=0) (b:=cB 0 0 _) (wR _) rfl rfl)) .nil))))) (cT.refl _)
  have C:Jo (fD a b s) ([],false) g l.length=l.foldl (fD a b s) ([],false):=qjv _ _ l pN;have z:=Pb a b s g l.length;rw[C] at z;have lp:Pq 119 [] [0,2,1,2,2,2,2] [0,3,5,6,9,10,11] (vC g l.length a b s 0 ([],false)) (hC []) (.exit 0) [3,5,6,9,10] [iI s,.ah a.c,.ah b.c,oC (l.foldl (fD a b s) ([],false)).1,iI (nB (l.foldl (fD a b s) ([],false)).2)] (hC (l.foldl (fD a b s) ([],false)).1) :=
   Pz.count qh (λi=>vC g l.length a b s i (Jo (fD a b s) ([],false) g i)) (λi=>hC (Jo (fD a b s) ([],false) g i).1) (n:=l.length) au (λi N=>qmk g l.length a b s i N M _ (Pb a b s g i)) (by
    rw[C];exact lk (run ((qtK g l.length l.length (iI s) (.ah a.c) (.ah b.c) (oC (l.foldl (fD a b s) ([],false)).1) (iI (nB (l.foldl (fD a b s) ([],false)).2)) (hC (l.foldl (fD a b s) ([],false)).1)).trans (qF (hZ bH) rfl))))
  generalize l.foldl (fD a b s) ([],false)=p at *
  obtain⟨o,d⟩:=p;have z:o.length<=2*l.length:=z;have H:Pq 119 [] [1,2,2,2,2,2] [3,5,6,9,10] [iI s,.ah a.c,.ah b.c,oC o,iI (nB d)] (hC o) .normal [9] [oC (jy a b s (o,d))] (hC (jy a b s (o,d))):=by
   have q:=qtQ a b s (nB d) o.length (λj=>o.getD j pN);unfold jy;cases d with
   |true=>exact eD B [] (q.trans (qF (by simp[nB]) rfl))
   |false =>
    have q:=q.trans (qk (by simp[nB]) (qk (J _) (qk (qO ae) (qk (qO ae) (qF (by rw[ZG ae];simp) rfl)))));show Pq 119 [] _ _ _ _ .normal [9] [oC (o++[uL a b s])] (hC (o++[uL a b s]));rw[Pa];exact Pz.post (eD B [] q) λnt=>.same (O9 o (uL a b s) _ rfl)
  exact av st (av (run (vb4 _ _ _ _ _ _)) (av (av (run (vb5 _ _ _ _ _ _ _)) (fi 0 lp)) (av H (run (qtR _ _)))))
 have all:Pq 119 [] [] [0,1,2,3] [aM l,.agg a.c,.agg b.c,iI s] [] .ret [8] [oC (Z9 l a b s)] (hC (Z9 l a b s)):=by
  refine av (run (vb1 g l.length a b s)) ?_;have q:=vb2 (aM l) a b s;unfold Z9 Bq;by_cases r:b.y<a.y
  .rw[wq r,Bool.true_or,wm];exact av (run (q.trans (qk (wq r) rfl))) (f b a)
  .by_cases u:a.y=b.y
   .by_cases x:b.n<a.n
    .rw[dF r,wq u,wq x,ub,xx,wm];exact av (run (q.trans (qF (hZ r) (qk (wq u) (qk (wq x) rfl))))) (f b a)
    .rw[dF r,wq u,dF x,ub,xx,wp];exact av (run (q.trans (qF (hZ r) (qk (wq u) (qF (hZ x) rfl))))) (f a b)
   .rw[dF r,dF u,ub,xT,wp];exact av (run (q.trans (qF (hZ r) (qF (hZ u) rfl)))) (f a b)
 generalize Z9 l a b s=o at *
 have t:=Pz.told (A:=az) Qn Tryz.func119 qh qh (l:=[0,1,2,3]) rfl all
  ((qtS o.length (λj=>o.getD j pN)).trans (vD some (show(bif o.length==o.length&&Nat.ble (0+o.length) o.length then _ else _)=T.fresh true 5 o.length (λj=>(o.getD (0+j) pN).c) o.length none by rw[qO ae,wF];rfl)))
 refine(aI.fh t).tn (.new (.view (.inl rfl) λj P=>?_));rw[wn];exact .refl _
structure Wx where
 (sl cr he fa:T) (d:Int)
def wB(x:Wx):aq:=⟨0,7,1,λ_=>[x.sl,.own 1 0 0 6 none,.own 2 0 0 6 none,x.cr,x.he,x.fa,uI x.d],false,false,none⟩
def sM(x:Wx)(Y:aq)(t:aq)(ln v:Nat->Nat)(L:Nat->Nat->dO)(rest:qa):qa:=wB x::Y::t::rB ln v L 0::rB ln v L 1::rB ln v L 2::rB ln v L 3::rB ln v L 4::rB ln v L 5::rest
def HW(x:Wx)(Y:Nat->b6)(ln v:Nat->Nat)(L:Nat->Nat->dO)(rest:qa):qa:=sM x (yB Y) (tB ln v) ln v L rest
def mn(x:Wx)(Y:Nat->b6)(ln v:Nat->Nat)(L:Nat->Nat->dO)(t:aq)(K:Nat)(b:aq)(rest:qa):qa:=wB x::yB Y::t::tz ln v L K b 0::tz ln v L K b 1::tz ln v L K b 2::tz ln v L K b 3::tz ln v L K b 4::tz ln v L K b 5::rest
def yK(K:Nat):T:=iI (ofNat K+1)
def yD(K:Nat):Int:=i64.wrap (ofNat K+1-1)
def yP(K:Nat):T:=.ptr 1 0 K 0
def eQ(K:Nat)(ct:Int):T:=.ah [uI (u8.wrap (ofNat K+1)),iI ct]
def Br(b:Int)(w:Bool):JO:=[uI b,.bool w,.view 2 0 (λj=>([]:List JO).getD j []) (some 0),.view 4 0 (λj=>([]:List JO).getD j []) (some 0)]
section
variable (x:Wx) (Y:Nat->b6) (ln v:Nat->Nat) (L:Nat->Nat->dO) (rest H:qa) (K:Nat) (b:Int) (th:T) (ct:Int)
def Pc:cD 80 [1] [0,1,2,3] [p0,yK K,uI b,th] (HW x Y ln v L rest) [0,1,2,3,8]=some (.normal,[p0,yK K,uI b,th,rz],HW x Y ln v L rest):=qh
def Pd:cD 80 [1,2] [0,1,2,3,8] [p0,yK K,uI b,th,rz] (HW x Y ln v L rest) [0,1,2,3,8,9] =
 (bif decide (0<=yD K)&&decide (yD K<6) then some (.normal,[p0,yK K,uI b,th,rz,.ptr 1 0 (0+(yD K).toNat) 0],HW x Y ln v L rest) else none):=qh
def Pe:cD 80 [1,2,2] [0,1,2,3,8,9] [p0,yK K,uI b,th,rz,yP K] (HW x Y ln v L rest) [0,1,2,3,8,9,10] =
 (bif K.blt 6 then some (.normal,[p0,yK K,uI b,th,rz,yP K,eQ K (Y K).ct],HW x Y ln v L rest) else none):=qh
def qtT(d:K<6)(pe:Nat->bw)(i:Bool)(pl:Int)(w:Bool)(a:Nat->b6):cK (KG qv) 80 [1,2,2,2] [0,1,2,3,8,9,10] [p0,yK K,uI b,.ag,rz,yP K,eQ K ct] (HW x (aB a K ⟨i,pl,ct,w,pe,0⟩) ln v L rest) [8,9,10] =
 (bif w then(bif v K==v K&&true then bif (0+ln K).ble (ln K) then bif ((ln K+1)*57).ble 70368744177664 then bif (0+ln K+1).ble (ln K) then some (.normal,[rz,yP K,eQ K ct],mn x (aB a K ⟨i,pl,ct,w,pe,0⟩) ln v L (lx ln v K (v K)) K (O7 ln v L K (Br b true)) rest) else
  some (.normal,[rz,yP K,eQ K ct],mn x (aB a K ⟨i,pl,ct,w,pe,0⟩) ln v L (lx ln v K (v K+1)) K (rR ln v L K (Br b true)) rest) else none else none else none)
  else(bif v K==v K&&true then bif (0+ln K).ble (ln K) then bif ((ln K+1)*57).ble 70368744177664 then bif (0+ln K+1).ble (ln K) then some (.normal,[rz,yP K,eQ K ct],mn x (aB a K ⟨i,pl,ct,w,pe,0⟩) ln v L (lx ln v K (v K)) K (O7 ln v L K (Br b false)) rest) else
   some (.normal,[rz,yP K,eQ K ct],mn x (aB a K ⟨i,pl,ct,w,pe,0⟩) ln v L (lx ln v K (v K+1)) K (rR ln v L K (Br b false)) rest) else none else none else none)):=by
 cases zy d
 all_goals kernel_rfl
def Pf:cD 80 [1,2,2,2,2] [8,9,10] [rz,yP K,eQ K ct] (HW x Y ln v L rest) [8,9,10] =
 (bif K.blt 6 then bif K.blt 6&&true&&true&&true then some (.normal,[rz,yP K,eQ K ct],sM x (yG Y K [.bool (Y K).i,iI (Y K).pl,iI (i64.wrap ((Y K).ct+1)),.bool (Y K).w,cH (Y K).pe (Y K).np none]) (tB ln v) ln v L rest) else none else none):=qh
def Pg:cD 80 [1,2,2,2,2,2] [8,9,10] [rz,yP K,eQ K ct] (HW x Y ln v L rest) [8,9,10] =
 (bif K.blt 6&&true&&true&&true then some (.normal,[rz,yP K,eQ K ct],sM x (yG Y K [.bool (Y K).i,iI (Y K).pl,iI (Y K).ct,.bool false,cH (Y K).pe (Y K).np none]) (tB ln v) ln v L rest) else none):=qh
def Ph:cD 80 [1,2,2,2,2,2,2] [8,9,10] [rz,yP K,eQ K ct] (HW x Y ln v L rest) [8,10] =
 (bif K.blt 6&&true&&true&&true then some (.normal,[rz,eQ K ct],sM x (yG Y K [.bool (Y K).i,iI (Y K).pl,iI (Y K).ct,.bool (Y K).w,.ag]) (tB ln v) ln v L rest) else none):=qh
def Pj:cD 80 [2,2,2,2,2,2,2] [8,10] [rz,eQ K ct] H [8]=some (.ret,[eQ K ct],H):=qh
end
def Ys.hw(q:Ys)(x:Wx)(v:Nat->Nat)(rest:qa):qa:=HW x (λe=>(q.Y e).y) (λe=>(q.tb e).length) v (λe j=>((q.tb e).getD j eG).l) rest
def Zt{x:Wx}{Y:Nat->b6}{ln v:Nat->Nat}{L:Nat->Nat->dO}{rest:qa}{K:Nat}{c:JO}{y:b6}(d:dY c y.c){aa:Wa}{nt k:Nat}{l:Wa}{vs:JO}:am G17 aa nt l k vs (sM x (yG Y K c) (tB ln v) ln v L rest) vs (HW x (aB Y K y) ln v L rest):=by
 refine .mJ rfl (λi a b h1 f=>by obtain rfl:=wa (h1.symm.trans f);exact .refl _) (.cons ⟨rfl,rfl,rfl⟩ (λh=>(by cases h)) (λ_ _=>.refl _) (.cons ⟨rfl,rfl,rfl⟩ (λh=>(by cases h)) (λe he=>?_) (.refl _)));show dY (k8 (e==K) c (Y e).c) (aB Y K y e).c;rw[kB];unfold aB;by_cases q:e=K
 .rw[wl q,show(e==K)=true by simpa using q];exact d
 .rw[we q,show(e==K)=false by simpa using q];exact .refl _
def Pk{x:Wx}{Y:Nat->b6}{ln v:Nat->Nat}{L:Nat->Nat->dO}{rest:qa}{K:Nat}{c:JO}{z:dO}(B:dY c z.c){aa:Wa}{nt k:Nat}{l:Wa}{vs:JO} :
 am G17 aa nt l k vs (mn x Y ln v L (lx ln v K (v K+1)) K (rR ln v L K c) rest) vs (HW x Y (aB ln K (ln K+1)) (aB v K (v K+1)) (mY L K (ln K) z) rest):=by
 have key:∀e,(rB (aB ln K (ln K+1)) (aB v K (v K+1)) (mY L K (ln K) z) e).mp=(tz ln v L K (rR ln v L K c) e).mp ∧
  (rB (aB ln K (ln K+1)) (aB v K (v K+1)) (mY L K (ln K) z) e).aj=(tz ln v L K (rR ln v L K c) e).aj ∧
  (rB (aB ln K (ln K+1)) (aB v K (v K+1)) (mY L K (ln K) z) e).sz=(tz ln v L K (rR ln v L K c) e).sz ∧
  (rB (aB ln K (ln K+1)) (aB v K (v K+1)) (mY L K (ln K) z) e).n=(tz ln v L K (rR ln v L K c) e).n ∧
  ∀j,j<(tz ln v L K (rR ln v L K c) e).n->dY ((tz ln v L K (rR ln v L K c) e).get j) ((rB (aB ln K (ln K+1)) (aB v K (v K+1)) (mY L K (ln K) z) e).get j):=by
  intro e;unfold tz;by_cases d:e=K
  .subst d;rw[wF,wm];refine⟨rfl,wl rfl,rfl,wl rfl,λj g=>?_⟩;have g:j<ln e+1:=g;show dY (bif j.blt (ln e) then(L e (0+j)).c else [c].getD (j-ln e) []) (mY L e (ln e) z e j).c;unfold mY;by_cases q:j=ln e
   .subst q;rw[wl ⟨rfl,rfl⟩,QP (wc _),wW];exact B
   .rw[we (λh=>q h.2),qL ae,wn];exact .refl _
  .rw[show(e==K)=false by simpa using d,wp];refine⟨rfl,we d,rfl,we d,λj g=>?_⟩;show dY (L e j).c (mY L K (ln K) z e j).c;unfold mY;rw[we (λh=>d h.1)];exact .refl _
 have step:∀e,∀{h f:qa},bk h f->bk (tz ln v L K (rR ln v L K c) e::h) (rB (aB ln K (ln K+1)) (aB v K (v K+1)) (mY L K (ln K) z) e::f):=λe _ _ A=>by
  obtain⟨u,s,k3,r,o⟩:=key e;exact .cons ⟨s,k3,r⟩ (λh=>(by cases h)) o A u
 refine .mJ rfl (λi a b h1 f=>by obtain rfl:=wa (h1.symm.trans f);exact .refl _) (.cons ⟨rfl,rfl,rfl⟩ (λh=>(by cases h)) (λ_ _=>.refl _) (.cons ⟨rfl,rfl,rfl⟩ (λh=>(by cases h)) (λ_ _=>.refl _) (.cons ⟨rfl,rfl,rfl⟩ (λh=>(by cases h)) (λe he=>?_)
  (step 0 (step 1 (step 2 (step 3 (step 4 (step 5 (.refl _))))))))))
 show dY [bif e==K then T.own (3+K) (v K+1) 0 (ln K+1) none else .own (3+e) (v e) 0 (ln e) none] [T.own (3+e) (aB v K (v K+1) e) 0 (aB ln K (ln K+1) e) none];unfold aB;by_cases d:e=K
 .rw[wl d,wl d,show(e==K)=true by simpa using d,d];exact .refl _
 .rw[we d,we d,show(e==K)=false by simpa using d];exact .refl _
def Pl(q:Ys)(x:Wx)(v:Nat->Nat)(rest:qa)(K:Nat)(b:Int)(th:List aL) :
 HW x (aB (λe=>(q.Y e).y) K (q.Y K).next.y) (aB (λe=>(q.tb e).length) K ((q.tb K).length+1)) (aB v K (v K+1)) (mY (λe j=>((q.tb e).getD j eG).l) K (q.tb K).length ((q.Y K).lp b th).l) rest=(q.loop K b th).hw x (aB v K (v K+1)) rest:=by
 have h:=qnX q .ag .ag 0 v K b th;have h1:=vD Sx.Y h;have d:=vD Sx.ln h;have a:=vD Sx.L h;show HW x (((q.sx .ag .ag 0 v).loop K b (λj=>th.getD j bU) th.length).Y) (((q.sx .ag .ag 0 v).loop K b (λj=>th.getD j bU) th.length).ln) (aB v K (v K+1)) (((q.sx .ag .ag 0 v).loop K b (λj=>th.getD j bU) th.length).L) rest=_;rw[h1,d,a];rfl
def Pm(q:Ys)(x:Wx)(v:Nat->Nat)(rest:qa)(K:Nat)(b:Int)(o:K<6)(hp:(q.Y K).pe=[])(hi:(q.Y K).i=true)(h0:0<=(q.Y K).ct)(h1:(q.Y K).ct<1000000)(hn:(q.tb K).length<=1000000) :
 aR aw G17 80 [p0,yK K,uI b,.ag] (q.hw x v rest) (.agg [uI (ofNat K+1),iI (q.Y K).ct]) ((q.loop K b []).hw x (aB v K (v K+1)) rest):=by
 have hD:yD K=ofNat K:=by
  unfold yD;rw[show ofNat K+1-1=ofNat K by omega,Qp bH bH]
 have h8:u8.wrap (ofNat K+1)=ofNat K+1:=s9 bH bH
 let Y:Nat->b6:=λe=>(q.Y e).y
 let ln:Nat->Nat:=λe=>(q.tb e).length
 let L:Nat->Nat->dO:=λe j=>((q.tb e).getD j eG).l
 have eY:aB Y K ⟨(q.Y K).i,(q.Y K).pl,(q.Y K).ct,(q.Y K).w,λj=>([]:List bw).getD j fv,0⟩ = Y:=funext λe=>by
  show(if e=K then _ else Y e)=Y e;by_cases c:e=K
  .subst c;rw[wl rfl];show _=(q.Y e).y;unfold Yn.y;rw[hp];rfl
  .rw[we c]
 have pa:=cf (q.hw x v rest) (Pc x Y ln v L rest K b .ag);have M:=Pd x Y ln v L rest K b .ag;rw[hD,show 0+(ofNat K).toNat=K by simp] at M;have Z:=cf (q.hw x v rest) (M.trans (qk (EF o) rfl));have X:=cf (q.hw x v rest) ((Pe x Y ln v L rest K b .ag).trans (qk (qL o) rfl));have R:cK (KG qv) 80 [1,2,2,2] [0,1,2,3,8,9,10] [p0,yK K,uI b,.ag,rz,yP K,eQ K (q.Y K).ct] (HW x Y ln v L rest) [8,9,10]=some (.normal,[rz,yP K,eQ K (q.Y K).ct],mn x Y ln v L (lx ln v K (v K+1)) K (rR ln v L K (Br b (q.Y K).w)) rest):=by
  have z:=qtT x ln v L rest K b (q.Y K).ct o (λj=>([]:List bw).getD j fv) (q.Y K).i (q.Y K).pl (q.Y K).w Y;rw[eY] at z;have hl:ln K<=1000000:=hn;refine z.trans ?_;have u:∀w,(bif v K==v K&&true then bif (0+ln K).ble (ln K) then bif ((ln K+1)*57).ble 70368744177664 then bif (0+ln K+1).ble (ln K) then some (Ex.normal,[rz,yP K,eQ K (q.Y K).ct],mn x Y ln v L (lx ln v K (v K)) K (O7 ln v L K (Br b w)) rest) else
   some (.normal,[rz,yP K,eQ K (q.Y K).ct],mn x Y ln v L (lx ln v K (v K+1)) K (rR ln v L K (Br b w)) rest) else none else none else none)=some (Ex.normal,[rz,yP K,eQ K (q.Y K).ct],mn x Y ln v L (lx ln v K (v K+1)) K (rR ln v L K (Br b w)) rest):=λw =>
   qk au (qk (qO ae) (qk (qO ae) (qF (by rw[ZG ae];simp) rfl)))
  cases hw:(q.Y K).w with
  |true=>exact qk rfl (u true)
  |false=>exact qF au (u false)
 have W:=Pz.post (eD (qC qp (λ_ _ _ _ h=>(by cases h))) (q.hw x v rest) R) (v2:=[rz,yP K,eQ K (q.Y K).ct]) (h2:=HW x Y (aB ln K (ln K+1)) (aB v K (v K+1)) (mY L K (ln K) ((q.Y K).lp b []).l) rest) λnt =>
  Pk (c:=Br b (q.Y K).w) (z:=((q.Y K).lp b []).l) (.Ue (.Ue (.cons (.view (.inr rfl) λj B=>absurd B (vm j)) (.cons (by
   show fu (.view 4 0 _ (some 0)) (cH (λj=>(q.Y K).pe.getD j fv) (q.Y K).pe.length none);rw[hp];exact .view (.inr rfl) λj B=>absurd B (vm j)) .nil))))
 have key:∀(a:Nat->b6) (g:Nat->Nat) (k:Nat->Nat->dO) (d:Nat->Nat),(a K).i=true->(a K).ct=(q.Y K).ct->(a K).pl=(q.Y K).pl →
  Pq 80 (q.hw x v rest) [2,2,2,2] [8,9,10] [rz,yP K,eQ K (q.Y K).ct] (HW x a g d k rest) .ret [8] [eQ K (q.Y K).ct] (HW x (aB a K (q.Y K).next.y) g d k rest):=by
  intro a g k d Q P O;have e1:i64.wrap ((a K).ct+1)=(q.Y K).ct+1:=by rw[P];exact Qp ae ae
  have J:=Pf x a g d k rest K (q.Y K).ct;rw[e1] at J;have pe:=Pz.post (cf (q.hw x v rest) (J.trans (qk (qL o) (qk (by rw[qL o];rfl) rfl)))) (v2:=[rz,yP K,eQ K (q.Y K).ct]) (h2:=HW x (aB a K ⟨true,(q.Y K).pl,(q.Y K).ct+1,(a K).w,(a K).pe,(a K).np⟩) g d k rest) λnt=>Zt (by rw[Q,O];exact .refl _);have I:=Pg x (aB a K ⟨true,(q.Y K).pl,(q.Y K).ct+1,(a K).w,(a K).pe,(a K).np⟩) g d k rest K (q.Y K).ct;have E:∀(f:Nat->b6) (z:b6),aB f K z K=z:=λf z=>wl rfl;have D:∀(f:Nat->b6) (z s:b6),aB (aB f K z) K s=aB f K s:=λf z s=>funext λe=>by
   show(if e=K then s else if e=K then z else f e)=if e=K then s else f e;by_cases c:e=K
   .rw[wl c,wl c]
   .rw[we c,we c,we c]
  rw[E] at I;have V:=Pz.post (cf (q.hw x v rest) (I.trans (qk (by rw[qL o];rfl) rfl))) (v2:=[rz,yP K,eQ K (q.Y K).ct]) (h2:=HW x (aB a K ⟨true,(q.Y K).pl,(q.Y K).ct+1,false,(a K).pe,(a K).np⟩) g d k rest) λnt=>by
   rw[←D a ⟨true,(q.Y K).pl,(q.Y K).ct+1,(a K).w,(a K).pe,(a K).np⟩ ⟨true,(q.Y K).pl,(q.Y K).ct+1,false,(a K).pe,(a K).np⟩];exact Zt (c:=(b6.mk true (q.Y K).pl ((q.Y K).ct+1) false (a K).pe (a K).np).c) (y:=⟨true,(q.Y K).pl,(q.Y K).ct+1,false,(a K).pe,(a K).np⟩) (.refl _)
  have H:=Ph x (aB a K ⟨true,(q.Y K).pl,(q.Y K).ct+1,false,(a K).pe,(a K).np⟩) g d k rest K (q.Y K).ct;rw[E] at H;have U:=Pz.post (cf (q.hw x v rest) (H.trans (qk (by rw[qL o];rfl) rfl))) (v2:=[rz,eQ K (q.Y K).ct]) (h2:=HW x (aB a K (q.Y K).next.y) g d k rest) λnt=>by
   rw[←D a ⟨true,(q.Y K).pl,(q.Y K).ct+1,false,(a K).pe,(a K).np⟩ (q.Y K).next.y];exact Zt (c:=[.bool true,iI (q.Y K).pl,iI ((q.Y K).ct+1),.bool false,.ag]) (y:=(q.Y K).next.y) (.Ue (.Ue (.Ue (.Ue (.cons (.fG _ _ (.inl rfl)) .nil)))))
  have S:=cf (q.hw x v rest) (Pj (HW x (aB a K (q.Y K).next.y) g d k rest) K (q.Y K).ct);exact av pe (av V (av U S))
 have N:=key Y (aB ln K (ln K+1)) (mY L K (ln K) ((q.Y K).lp b []).l) (aB v K (v K+1)) hi rfl rfl;have e2:HW x (aB Y K (q.Y K).next.y) (aB ln K (ln K+1)) (aB v K (v K+1)) (mY L K (ln K) ((q.Y K).lp b []).l) rest=(q.loop K b []).hw x (aB v K (v K+1)) rest:=Pl q x v rest K b [];rw[e2] at N;have t:=Pz.fI (A:=az) Qn Tryz.func80 qh qh (l:=[0,1,2,3]) rfl (av pa (av Z (av X (av W N)))) (r:=.agg [uI (u8.wrap (ofNat K+1)),iI (q.Y K).ct]) rfl;rw[h8] at t;exact t
def Po(v n:Nat)(g:Nat->aL):aq:=.mk v 2 n (λj=>(g j).c) true false none
def GH(l:List aF)(c:Option Nat)(v n i:Nat):JO:=[bR l c,.own 0 v 0 n none,iI (ofNat i)]
def Vn(l:List aF)(c:Option Nat)(v n i:Nat)(g:Nat->aL):cD 81 [0,0,2,1,2,2] [0,3,4] (GH l c v n i) [Po v n g] [0,3,4] =
(
 bif decide (ofNat i<ofNat l.length) then
 bif decide (0<=ofNat i)&&decide (ofNat i<ofNat l.length) then
 bif v==v&&true then
 bif ((0:Nat)+n).ble n then
 bif (l.getD i (aF.mk (0:Int) [])).l.length==(0:Nat) then
 some ((.normal,[bR l c,.own 0 v 0 n
 none,iI (i64.wrap (ofNat i+1))],[Po v n g]))
 else
 bif ((n+(l.getD i (aF.mk (0:Int) [])).l.length)*(17:Nat)).ble 70368744177664 then
 bif ((0:Nat)+n+(l.getD i (aF.mk (0:Int) [])).l.length).ble n then
 some ((.normal,[bR l c,.own 0 v 0 (n+(l.getD i (aF.mk (0:Int) [])).l.length)
 none,iI (i64.wrap (ofNat i+1))],[.mk v 2 n (λj=>bif ((0:Nat)+n).ble j&&j.blt (0+n+(l.getD i (aF.mk (0:Int) [])).l.length) then((l.getD i (aF.mk (0:Int) [])).l.getD (j-((0:Nat)+n)) (aL.mk (0:Int) (0:Int))).c
 else(g j).c) true false
 none]))
 else
 some ((.normal,[bR l c,.own 0 (v+1) (0:Nat) (n+(l.getD i (aF.mk (0:Int) [])).l.length)
 none,iI (i64.wrap (ofNat i+1))],[.mk (v+1) (2:Nat) (n+(l.getD i (aF.mk (0:Int) [])).l.length) (λj=>bif j.blt n then(g ((0:Nat)+j)).c
 else((l.getD i (aF.mk (0:Int) [])).l.getD (j-n) (aL.mk (0:Int) (0:Int))).c) true false
 none]))
 else none else none else none else none else
 some ((.exit 0,GH l c v n i,[Po v n g]))):=qh
def qtU(l:List aF)(c:Option Nat):cD 81 [1] [0] [bR l c] [] [0]=some (.normal,[bR l c],[]):=qh
def qtV(l:List aF)(c:Option Nat):cD 81 [1,2] [0] [bR l c] [] [0,3]=some (.normal,[bR l c,.ag],[]):=qh
def qtW(l:List aF)(c:Option Nat)(v n:Nat)(h:qa):cD 81 [1,1,2,2] [0,3] [bR l c,.own 0 v 0 n none] h [0,3,4]=some (.normal,GH l c v n 0,h):=qh
def qtX(v n:Nat)(h:qa):cD 81 [2,2,2] [3] [.own 0 v 0 n none] h [2]=some (.ret,[.own 0 v 0 n none],h):=qh
def sg(l:List aF):Nat->Nat
 |0=>0
 |i+1=>if (l.getD i be).l.length=0 then sg l i else sg l i+1
def lX(l:List aF)(i:Nat):List aL:=bO (l.take i)
def qmm(l:List aF){i:Nat}(h:i<l.length):lX l (i+1)=lX l i++(l.getD i be).l:=by
 unfold lX bO;rw[List.take_succ,wj h,vF,xN,wh,wj h];simp
def Lu{α:Type}(a b:List α)(d:α)(j:Nat):(a++b).getD j d=if j<a.length then a.getD j d else b.getD (j-a.length) d:=by
 rw[wh,wh,wh];by_cases h:j<a.length
 .rw[wl h,wx h]
 .rw[we h,wH ae]
def Vo(l:List aF)(c:Option Nat)(h1:l.length<=1000000)(h2:(bO l).length<=1000000):TO 81 [bR l c] (.new (aX (bO l))):=by
 have u:∀i,(lX l i).length<=(bO l).length:=λi=>by
  have:bO l=lX l i++bO (l.drop i):=by
   unfold lX bO;rw[←xN,←vF,xw]
  rw[this,wD];omega
 have D:=cf [] (qtU l c);have C:=Pz.post (cf [] (qtV l c)) (v2:=[bR l c,.own 0 0 0 0 none]) (h2:=[AM 0 []]) λnt =>
  .gh [AM 0 []] (by simp[AM]) (.Ue (.cons (.inl (.own (k:=0) (b:=AM 0 []) (wc _) rfl rfl)) .nil)) (.refl _)
 have B:=cf [] (qtW l c 0 0 [AM 0 []]);have o:=Pz.count (P:=aw) (G:=G17) (A:=az) (f:=81) (h0:=[]) (p:=[0,2,1,2,2]) (l:=[0,3,4]) (e:=.exit 0) qh (λi=>GH l c (sg l i) (lX l i).length i) (λi=>[AM (sg l i) (lX l i)]) (n:=l.length) au (λi a=>by
  have q:=Vn l c (sg l i) (lX l i).length i (λj=>(lX l i).getD j bU);have e:=qmm l a;have N:=u (i+1);have O:=u i;have M:(lX l (i+1)).length=(lX l i).length+(l.getD i be).l.length:=by rw[e,wD]
  rw[il ae] at q;by_cases z:(l.getD i be).l.length=0
  .have H:lX l (i+1)=lX l i:=by rw[e,List.length_eq_zero_iff.1 z,vu]
   rw[show sg l (i+1)=sg l i from wl z,H];exact cf _ (q.trans (qk (by simpa using a) (qk (EF a) (qk au (qk (qO ae) (qk (by simpa [be] using z) rfl))))))
  .rw[show sg l (i+1)=sg l i+1 from we z];have I:0<(l.getD i ⟨0,[]⟩).l.length:=Nat.pos_of_ne_zero z;refine Pz.post (cf _ (q.trans (qk (by simpa using a) (qk (EF a) (qk au (qk (qO ae) (qF (by simpa [be] using z) (qk (qO (by show((lX l i).length+(l.getD i be).l.length)*17<=_;omega)) (qF (by rw[ZG (by show(lX l i).length<0+(lX l i).length+(l.getD i be).l.length;omega)];simp) rfl))))))))) (v2:=GH l c (sg l i+1) (lX l (i+1)).length (i+1)) (h2:=[AM (sg l i+1) (lX l (i+1))]) λnt=>?_;rw[e,wD];refine .same (.cons ⟨rfl,rfl,by show(lX l i++(l.getD i be).l).length=_;rw[wD];rfl,id,λj s=>?_⟩ .nil);have s:j<(lX l i).length+(l.getD i be).l.length:=s;show((lX l i++(l.getD i be).l).getD j bU).c=bif j.blt (lX l i).length then((lX l i).getD (0+j) bU).c else((l.getD i be).l.getD (j-(lX l i).length) bU).c;rw[Lu,wn];by_cases d:j<(lX l i).length
   .rw[wl d,qL d];rfl
   .rw[we d,QP ae];rfl)
  (Pz.only (cf _ ((Vn l c (sg l l.length) (lX l l.length).length l.length (λj=>(lX l l.length).getD j bU)).trans (qF au rfl))) (l2:=[3]) rfl)
 have E:lX l l.length=bO l:=by unfold lX;rw[xm]
 rw[E] at o;have pe:=cf [] (qtX (sg l l.length) (bO l).length [AM (sg l l.length) (bO l)]);have t:=Pz.told (A:=az) Qn Tryz.func81 qh qh (l:=[0]) rfl (av D (av C (av (av B (fi 0 o)) pe)))
  (r:=bif (true&&(sg l l.length==sg l l.length&&Nat.ble (0+(bO l).length) (bO l).length)) then .fresh true 2 ((bO l).length-0) (λj=>((bO l).getD (0+j) bU).c) (bO l).length none else .undef) rfl
 rw[wF,qO (show 0+(bO l).length<=(bO l).length by omega)] at t;have g:=t.fh;simp only[wn] at g;exact g
def Bs:aq:=⟨0,5,6,λ_=>[.bool false,iI 0,iI 0,.bool false,.ag],false,false,none⟩
def CC:aq:=⟨0,1,6,λ_=>[.ag],false,false,none⟩
def wzB(i j:Nat):aq:=⟨0,7,1,λe=>k8 (e==0) [.ag,.own i 0 0 6 (some 6),.own j 0 0 6 (some 6),.ag,.ag,.ag,uI 0] bL,false,false,none⟩
def EL(y:Int)(n:Int)(k:Nat):JO:=[uI y,iI n,.ah bL,.ptr k 0 0 0]
def sN(i j k m:Nat):aq:=bif m==i then Bs else bif m==j then CC else wzB i j
def oc(y n:Int)(i j k:Nat):JO×qa:=(EL y n k,[sN i j k 0,sN i j k 1,sN i j k 2])
def Vs(y n:Int):List (JO×qa):=[oc y n 2 1 0,oc y n 2 1 0,oc y n 1 2 0,oc y n 2 0 1,oc y n 2 0 1,oc y n 2 0 1,oc y n 1 0 2,oc y n 1 0 2,oc y n 1 0 2,oc y n 1 0 2,oc y n 1 0 2,oc y n 0 2 1,oc y n 0 1 2,oc y n 0 1 2,oc y n 0 1 2]
def qrp(y n:Int):CB aw qv G17 (az 44).aa (GI aw 44) (YP aw 44 [1,2]) [0,1,4,5] (YP aw 44 [1,2]).size (Array.replicate (YP aw 44 [1,2]).size false) (qB [0,1,4] [uI y,iI n,.ah bL] []) [] some=some (Vs y n):=qh
def Lv(y i:Int)(H:qa)(_:JO)(_:qa):Option (T×qa):=some (.agg [uI y,iI i],H)
def x9(i:Nat):Wx:=⟨.own 9 i 0 i none,.ag,.ag,.ag,0⟩
def bW(v n:Nat)(g:Nat->JO):aq:=.mk v 2 n g false false none
def Lw{R:Type}:Nat->Bool->Option R->Option R
 |0,_,x=>x
 |n+1,c,x=>bif c then Lw n c x else none
def Vt{R:Type}{c:Bool}(h:c=true)(x:Option R):∀n,Lw n c x=x
 |0=>rfl
 |n+1=>by
  show(bif c then Lw n c x else none)=x;rw[h,wm,←h];exact Vt h x n
def tD(y:Int)(n i:Nat):JO:=[uI y,iI (ofNat n),.ah bL,p0,iI (ofNat i)]
inductive rU:Nat->Prop|a:rU 0|b:rU 1|c:rU 2|d:rU 3|e:rU 4|f:rU 5|g:rU 6|h:rU 7|i:rU 8|j:rU 9|k:rU 10|l:rU 11|m:rU 12|n:rU 13|o:rU 14|p:rU 15
def qW:∀{i:Nat},i<16->rU i|0,_=>.a|1,_=>.b|2,_=>.c|3,_=>.d|4,_=>.e|5,_=>.f|6,_=>.g|7,_=>.h|8,_=>.i|9,_=>.j|10,_=>.k|11,_=>.l|12,_=>.m|13,_=>.n|14,_=>.o|15,_=>.p|n+16,h=>absurd h ae
def wU(i:Nat):aq:=⟨0,7,1,λe=>k8 (e==0) [.own 9 (i+1) 0 (i+1) none,.own 1 0 0 6 none,.own 2 0 0 6 none,.ag,.ag,.ag,uI 0] [.own 9 i 0 i none,.own 1 0 0 6 none,.own 2 0 0 6 none,.ag,.ag,.ag,uI 0],false,false,none⟩
def slG(i:Nat)(y:Int)(g:Nat->JO):aq:=bW (i+1) (i+1) λj=>bif j.blt i then g (0+j) else [[uI 0,.view 2 1 (λj=>[[uI y,iI (ofNat i)]].getD j []) (some 1)]].getD (j-i) []
set_option maxHeartbeats 0 in
def qtY(w:JO->qa->T->qa->Prop)(q d:Ys)(v a:Nat->Nat)(g:Nat->JO)(y:Int)(n i:Nat)(e:i<16):CB aw (KG (qv.cE 80 (jo w (Lv y (ofNat i) (d.hw (x9 i) a [bW i i g]))))) G17 (az 44).aa (GI aw 44) (YP aw 44 [0,1,2,0,0,2,1,2,2,2]) [0,1,4,5,6] (YP aw 44 [0,1,2,0,0,2,1,2,2,2]).size (Array.replicate (YP aw 44 [0,1,2,0,0,2,1,2,2,2]).size false) (qB [0,1,4,5,6] (tD y n i) (q.hw (x9 i) v [bW i i g])) [] some =
 Lw 10 (qM (w [p0,iI (i64.wrap y),uI 0,.ag] (q.hw (x9 i) v [bW i i g]) (.agg [uI y,iI (ofNat i)]) (d.hw (x9 i) a [bW i i g]))) (some (List.replicate 28 (tD y n i,wU i::(d.hw (x9 i) a [slG i y g]).tail))):=by
 cases qW e
 all_goals kernel_rfl
section
variable (y n:Int) (K:Nat) (m i:Nat) (h H:qa) (q:Ys) (v:Nat->Nat) (x:Wx) (rest:qa) (Y:Nat->b6) (ln:Nat->Nat) (L:Nat->Nat->dO)
def qtZ:cD 44 [1] [0,1] [uI y,iI n] [] [0,1,4]=some (.normal,[uI y,iI n,.ah bL],[]):=qh
def qt0:cD 44 [1,2,2] [0,1,4,5] [yI K,iI n,.ah bL,p0] (HW x Y ln v L rest) [0,1,4,5] =
 (bif decide (0<=yJ K)&&decide (yJ K<6) then bif (0+(yJ K).toNat).blt 6&&true&&true&&true then some (.normal,[yI K,iI n,.ah bL,p0],sM x (yG Y (0+(yJ K).toNat) [.bool true,iI 179,iI 0,.bool true,.ag]) (tB ln v) ln v L rest) else none else none):=qh
def qt1:cD 44 [1,1,2,2,2] [0,1,4,5] [yI K,iI (ofNat m),.ah bL,p0] h [0,1,4,5,6]=some (.normal,tD (ofNat K+1) m 0,h):=qh
def Vu:cD 44 [1,1,0,0,2,1,2,2,2] [0,1,4,5,6] (tD y m i) h [0,1,4,5,6,19]=(bif decide (ofNat i<ofNat m) then some (.normal,tD y m i++[.bool true],h) else some (.normal,tD y m i++[.bool false],h)):=qh
def qrr:cD 44 [3,2,1,0,0,2,1,2,2,2] [0,1,4,5,6,19] (tD y m i++[.bool true]) h [0,1,4,5,6]=some (.normal,tD y m i,h):=qh
def qrs:cD 44 [4,2,1,0,0,2,1,2,2,2] [0,1,4,5,6,19] (tD y m i++[.bool false]) h [4,5]=some (.exit 0,[.ah bL,p0],h):=qh
def qt2:cD 44 [2,2,0,0,2,1,2,2,2] [0,1,4,5,6] (tD y m i) h [0,1,4,5,6]=some (.normal,[uI y,iI (ofNat m),.ah bL,p0,iI (i64.wrap (ofNat i+1))],h):=qh
def qt3(p:JO->T->Prop)(z:Nat->aL)(k a:Nat):cK (qv.add 81 (Qa p (qtq (fj z k none)))) 44 [1,2,2,2,2] [4,5] [.ah bL,p0] (HW ⟨.own 9 a 0 a none,.ag,.ag,.ag,0⟩ Y ln v L rest) [4,5] =
 (bif qM (p [zo (HW ⟨.own 9 a 0 a none,.ag,.ag,.ag,0⟩ Y ln v L rest) (.own 9 a 0 a none)] (.new (fj z k none))) then some (.normal,[.ah bL,p0],.mk 0 7 1 (λe=>k8 (e==0) [.own 9 a 0 a none,.own 1 0 0 6 none,.own 2 0 0 6 none,.ag,fj z k none,.ag,uI 0] [.own 9 a 0 a none,.own 1 0 0 6 none,.own 2 0 0 6 none,.ag,.ag,.ag,uI 0]) false false none::(HW ⟨.own 9 a 0 a none,.ag,.ag,.ag,0⟩ Y ln v L rest).tail) else none):=qh
def qt4:cD 44 [2,2,2,2,2] [4,5] [.ah bL,p0] (HW x Y ln v L rest) [4]=some (.ret,[.ah [x.sl,.own 1 0 0 6 none,.own 2 0 0 6 none,x.cr,x.he,x.fa,uI x.d]],HW x Y ln v L rest):=qh
end
def mq(b:aq)(X:Nat->aq)(y t:aq)(R:Nat->aq)(r:qa):qa:=b::X 0::X 1::X 2::X 3::X 4::X 5::X 6::X 7::X 8::X 9::X 10::X 11::X 12::X 13::X 14::X 15::y::t::R 0::R 1::R 2::R 3::R 4::R 5::r
def bz(w:bD):T:=.ah (w.cc none)
def nC(a y t:Nat)(cr he fa:T)(d:Int):T:=.ah [.own 0 a 0 a none,.own 17 y 0 y none,.own 18 t 0 t none,cr,he,fa,uI d]
def cq1(w:bD):cD 20 [1] [0] [.agg (w.cc none)] [] [1,2] =
( zN [bz w,.ah [.ag,.ag,.ag,.ag,.ag,.ag,uI 0]] []):=qh
def cq2(w:bD):cD 20 [1,2] [1,2] [bz w,.ah bL] [] [1,2,3] =
( zN [bz w,.ah [.ag,.ag,.ag,.ag,.ag,.ag,uI 0],.ah [.ag,.ag,.ag,.ag,.ag,.ag,uI w.d]] []):=qh
def cq3(a b c:T)(H:qa):cD 20 [1,1,2,2] [1,2,3] [a,b,c] H [1,2,3,4] =
( zN [a,b,c,iI 0] H):=qh
def cq4(w:bD)(b c:T)(i:Nat)(H:qa):cD 20 [1,0,0,2,1,2,2] [1,2,3,4] [bz w,b,c,iI (ofNat i)] H [1,2,3,4] =
( bif decide (ofNat i<ofNat w.sl.length) then zN [bz w,b,c,iI (.ofNat i)] H else
 zX 0 [bz w,b,c,iI (.ofNat i)] H):=qh
def qt5(w:bD)(b c:T)(i:Nat)(H:qa):cD 20 [1,0,0,2,1,2,2] [1,2,3,4] [bz w,b,c,iI (ofNat i)] H [1,2,3] =
( bif decide (ofNat i<ofNat w.sl.length) then zN [bz w,b,c] H else
 zX 0 [bz w,b,c] H):=qh
def cq5(w:bD)(i y t:Nat)(d:Int)(g:Nat->JO)(X R:Nat->aq)(Y a:aq):cK (KG qv) 20 [0,1,2,0,0,2,1,2,2] [1,2,3,4] [bz w,.ah bL,nC i y t .ag .ag .ag d,iI (ofNat i)] (mq (bW i i g) X Y a R []) [1,2,3,4] =
( gD (decide (0<=ofNat i)&&decide (ofNat i<ofNat w.sl.length))<|gD (decide (0<=ofNat i)&&decide (ofNat i<ofNat w.sl.length))<|bif (w.sl.getD i (aF.mk (0:Int) [])).l.length==(0:Nat) then gD (i==i&&true)<|gD (((0:Nat)+i).ble i)<|gD (((i+(1:Nat))*(33:Nat)).ble 70368744177664)<|bif ((0:Nat)+i+(1:Nat)).ble i then zN [bz w,.ah [.ag,.ag,.ag,.ag,.ag,.ag,uI 0],.ah [.own 0 i 0 (i+1)
 none,.own 17 y 0 y
 none,.own 18 t 0 t
 none,.ag,.ag,.ag,uI d],iI (.ofNat i)] [bW i i λj=>bif ((0:Nat)+i).ble j&&j.blt (0+i+1) then [[uI (w.sl.getD i (aF.mk (0:Int) [])).b,T.view 2 0 (λj=>[]) (some 0)]].getD (j-(0+i)) []
 else g j,X (0:Nat),X (1:Nat),X (2:Nat),X (3:Nat),X (4:Nat),X (5:Nat),X (6:Nat),X (7:Nat),X (8:Nat),X (9:Nat),X (10:Nat),X (11:Nat),X (12:Nat),X (13:Nat),X (14:Nat),X (15:Nat),Y,a,R (0:Nat),R (1:Nat),R (2:Nat),R (3:Nat),R (4:Nat),R (5:Nat)] else
 zN [bz w,.ah [.ag,.ag,.ag,.ag,.ag,.ag,uI 0],.ah [.own 0 (i+1) (0:Nat) (i+1)
 none,.own 17 y 0 y
 none,.own 18 t 0 t
 none,.ag,.ag,.ag,uI d],iI (.ofNat i)] [bW (i+1) (i+1) λj=>bif j.blt i then g (0+j)
 else [[uI (w.sl.getD i (aF.mk (0:Int) [])).b,T.view 2 0 (λj=>[]) (some 0)]].getD (j-i) [],X (0:Nat),X (1:Nat),X (2:Nat),X (3:Nat),X (4:Nat),X (5:Nat),X (6:Nat),X (7:Nat),X (8:Nat),X (9:Nat),X (10:Nat),X (11:Nat),X (12:Nat),X (13:Nat),X (14:Nat),X (15:Nat),Y,a,R (0:Nat),R (1:Nat),R (2:Nat),R (3:Nat),R (4:Nat),R (5:Nat)] else
 gD (Nat.blt 0 ((0:Nat)+(w.sl.getD i (aF.mk (0:Int) [])).l.length)&&(((0:Nat)+(w.sl.getD i (aF.mk (0:Int) [])).l.length)*(17:Nat)).ble 70368744177664)<|gD (i==i&&true)<|gD (((0:Nat)+i).ble i)<|gD (((i+(1:Nat))*(33:Nat)).ble 70368744177664)<|bif ((0:Nat)+i+(1:Nat)).ble i then zN [bz w,.ah [.ag,.ag,.ag,.ag,.ag,.ag,uI 0],.ah [.own 0 i 0 (i+1)
 none,.own 17 y 0 y
 none,.own 18 t 0 t
 none,.ag,.ag,.ag,uI d],iI (.ofNat i)] [bW i i λj=>bif ((0:Nat)+i).ble j&&j.blt (0+i+1) then [[uI (w.sl.getD i (aF.mk (0:Int) [])).b,T.own 25 0 0 ((0:Nat)+(w.sl.getD i (aF.mk (0:Int) [])).l.length)
 none]].getD ((0:Nat)+(j-(0+i))) []
 else g j,X (0:Nat),X (1:Nat),X (2:Nat),X (3:Nat),X (4:Nat),X (5:Nat),X (6:Nat),X (7:Nat),X (8:Nat),X (9:Nat),X (10:Nat),X (11:Nat),X (12:Nat),X (13:Nat),X (14:Nat),X (15:Nat),Y,a,R (0:Nat),R (1:Nat),R (2:Nat),R (3:Nat),R (4:Nat),R (5:Nat),jB ((0:Nat)+(w.sl.getD i (aF.mk (0:Int) [])).l.length) (w.sl.getD i (aF.mk (0:Int) [])).l,.mk 0 2 1 (λj=>[[uI (w.sl.getD i (aF.mk (0:Int) [])).b,T.own 25 0 0 ((0:Nat)+(w.sl.getD i (aF.mk (0:Int) [])).l.length)
 none]].getD j []) false true
 none] else
 zN [bz w,.ah [.ag,.ag,.ag,.ag,.ag,.ag,uI 0],.ah [.own 0 (i+1) (0:Nat) (i+1)
 none,.own 17 y 0 y
 none,.own 18 t 0 t
 none,.ag,.ag,.ag,uI d],iI (.ofNat i)] [bW (i+1) (i+1) λj=>bif j.blt i then g (0+j)
 else [[uI (w.sl.getD i (aF.mk (0:Int) [])).b,T.own 25 0 0 ((0:Nat)+(w.sl.getD i (aF.mk (0:Int) [])).l.length)
 none]].getD ((0:Nat)+(j-i)) [],X (0:Nat),X (1:Nat),X (2:Nat),X (3:Nat),X (4:Nat),X (5:Nat),X (6:Nat),X (7:Nat),X (8:Nat),X (9:Nat),X (10:Nat),X (11:Nat),X (12:Nat),X (13:Nat),X (14:Nat),X (15:Nat),Y,a,R (0:Nat),R (1:Nat),R (2:Nat),R (3:Nat),R (4:Nat),R (5:Nat),jB ((0:Nat)+(w.sl.getD i (aF.mk (0:Int) [])).l.length) (w.sl.getD i (aF.mk (0:Int) [])).l,.mk 0 2 1 (λj=>[[uI (w.sl.getD i (aF.mk (0:Int) [])).b,T.own 25 0 0 ((0:Nat)+(w.sl.getD i (aF.mk (0:Int) [])).l.length)
 none]].getD j []) false true
 none]):=qh
def cq6(a b c:T)(i:Nat)(H:qa):cD 20 [2,2,0,0,2,1,2,2] [1,2,3,4] [a,b,c,iI (ofNat i)] H [1,2,3,4] =
( zN [a,b,c,iI (i64.wrap (ofNat i+1))] H):=qh
def DE(i:Nat):Wa:=0::((List.range 16).map (λk=>bif k==i then 25 else 1+k)++[17,18,19,20,21,22,23,24])
def AP:Wa:=List.range 25
def qmq(i j:Nat)(d:i<16)(a:j<16)(e:j≠i)(h:qa)(aj off len:Nat)(cap:Option Nat):qJ (DE i) h (.own (1+j) aj off len cap) = .own (1+j) aj off len cap:=by
 cases qW d
 all_goals
  cases qW a
  all_goals first|rfl|exact absurd rfl e
def Vv(j:Nat)(a:j<16)(h:qa)(aj off len:Nat)(cap:Option Nat):qJ AP h (.own (1+j) aj off len cap) = .own (1+j) aj off len cap:=by
 cases qW a
 all_goals rfl
def qlg(i:Nat)(a:i<16)(h:qa)(aj off len:Nat)(cap:Option Nat):qJ (DE i) h (.own 25 aj off len cap) = .own (1+i) aj off len cap:=by
 cases qW a
 all_goals rfl
section
variable (A:Nat->Bool) (w:bD)
def bl(j:Nat):aF:=w.sl.getD j be
def iv(j:Nat):JO:=[uI (bl w j).b,bif A j then .own (1+j) 0 0 (bl w j).l.length none else aX (bl w j).l]
def XA(i k:Nat):aq:=.mk 0 2 (bif A k&&Nat.blt k i then(bl w k).l.length else 0) (λe=>((bl w k).l.getD e bU).c) true false none
def YG:aq:=.mk 0 5 0 (λ_=>[]) true false none
def TG:aq:=.mk 0 1 0 (λ_=>[]) true false none
def RG(_:Nat):aq:=.mk 0 4 0 (λ_=>[]) true false none
def qt6(i:Nat):aq:=.mk 0 2 1 (λj=>[[uI (bl w i).b,.own 25 0 0 (0+(bl w i).l.length) none]].getD j []) false true none
def GJ(i j:Nat):JO:=bif j.blt i then iv A w (0+j) else [[uI (bl w i).b,.own 25 0 0 (0+(bl w i).l.length) none]].getD (0+(j-i)) []
def EM(i:Nat):qa:=mq (bW (i+1) (i+1) (GJ A w i)) (XA A w i) YG TG RG [jB (0+(bl w i).l.length) (bl w i).l,qt6 w i]
def qrt{i:Nat}(a:i<16)(d:A i=true)(h:qa)(j:Nat)(e:j<i+1):iv A w j=(GJ A w i j).map (qJ (DE i) h):=by
 unfold GJ;by_cases c:j=i
 .subst c;rw[QP (wc _),wW,wp];show iv A w j=[qJ (DE j) h (uI (bl w j).b),qJ (DE j) h (.own 25 0 0 (0+(bl w j).l.length) none)];rw[qlg j a,wn];unfold iv;rw[d];rfl
 .rw[qL ae,wm,wn];unfold iv;cases A j with
  |false=>rfl
  |true =>
   show [uI (bl w j).b,T.own (1+j) 0 0 (bl w j).l.length none]=[uI (bl w j).b,qJ (DE i) h (.own (1+j) 0 0 (bl w j).l.length none)];rw[qmq i j a ae c]
def qru{i:Nat}(f:i<16)(a:A i=false)(j:Nat)(d:j<i+1):iv A w j=(GJ A w i j).map (qJ AP (EM A w i)):=by
 unfold GJ;by_cases c:j=i
 .subst c;rw[QP (wc _),wW,wp];show iv A w j=[uI (bl w j).b,bif Nat.ble (0+(0+(bl w j).l.length)) (0+(bl w j).l.length) then T.view 2 (0+(bl w j).l.length) (λe=>((bl w j).l.getD (0+e) bU).c) none else .undef];rw[qO ae,wm,wn];unfold iv;rw[a,wp];simp only[wn];rfl
 .rw[qL ae,wm,wn];unfold iv;cases A j with
  |false=>rfl
  |true =>
   show [uI (bl w j).b,T.own (1+j) 0 0 (bl w j).l.length none]=[uI (bl w j).b,qJ AP (EM A w i) (.own (1+j) 0 0 (bl w j).l.length none)];rw[Vv j ae]
def qrv{i k:Nat}(a:A k=true)(h:k<i):(XA A w i k).n=(bl w k).l.length:=by
 show(bif A k&&Nat.blt k i then(bl w k).l.length else 0)=_;rw[a,qL h];rfl
def Vw{i k:Nat}(a:A k=false):(XA A w i k).n=0:=by
 show(bif A k&&Nat.blt k i then(bl w k).l.length else 0)=_;rw[a];rfl
def EN(d:Int)(i:Nat):JO:=[bz w,.ah bL,nC (i+1) 0 0 .ag .ag .ag d,iI (ofNat i)]
def qrw{aa:Wa}{nt:Nat}{l:Wa}(d:Int){i:Nat}(a:i<16)(e:A i=true):am G17 aa nt l 0 (EN w d i) (EM A w i) (EN w d i) (mq (bW (i+1) (i+1) (iv A w)) (XA A w (i+1)) YG TG RG []):=by
 have cl:=qrt A w a e (EM A w i);have f:(XA A w (i+1) i).n=0+(bl w i).l.length:=by rw[qrv A w e ae,wn]
 cases qW a
 all_goals
  refine am.bZ (DE _) rfl rfl rfl (.cons ⟨rfl,rfl,rfl,λh=>h,cl⟩ ?_ rfl)
  repeat (first|exact .nil|refine .cons ⟨rfl,rfl,rfl,λh=>h,λ_ _=>rfl⟩ ?_ rfl|refine .cons ⟨rfl,rfl,f,λh=>h,λ_ _=>rfl⟩ ?_ rfl)
end
section
variable (A:Nat->Bool) (w:bD)
def qrx{aa:Wa}{nt:Nat}{l:Wa}(d:Int){i:Nat}(e:i<16)(a:A i=false):am G17 aa nt l 0 (EN w d i) (EM A w i) (EN w d i) (mq (bW (i+1) (i+1) (iv A w)) (XA A w (i+1)) YG TG RG []):=by
 have cl:=qru A w e a;have f:(XA A w (i+1) i).n=(XA A w i i).n:=by rw[Vw A w a,Vw A w a]
 cases qW e
 all_goals
  refine am.bZ AP rfl rfl rfl (.cons ⟨rfl,rfl,rfl,λh=>h,cl⟩ ?_ rfl)
  repeat (first|exact .nil|refine .cons ⟨rfl,rfl,rfl,λh=>h,λ_ _=>rfl⟩ ?_ rfl|refine .cons ⟨rfl,rfl,f,λh=>h,λ_ _=>rfl⟩ ?_ rfl)
def qt7{aa:Wa}{nt:Nat}{l:Wa}(d:Int){i:Nat}(a:i<16):am G17 aa nt l 0 (EN w d i) (EM A w i) (EN w d i) (mq (bW (i+1) (i+1) (iv A w)) (XA A w (i+1)) YG TG RG []):=by
 cases e:A i with
 |true=>exact qrw A w d a e
 |false=>exact qrx A w d a e
def Lx(d:Int)(i:Nat):JO:=[bz w,.ah bL,nC i 0 0 .ag .ag .ag d,iI (ofNat i)]
def uk(i:Nat):qa:=mq (bW i i (iv A w)) (XA A w i) YG TG RG []
def qms(d:Int)(i:Nat)(o:i<w.sl.length)(u:w.sl.length<=16)(s:∀j,j<w.sl.length->1<=(bl w j).l.length/\(bl w j).l.length<=1000) :
 Pq 20 [] [0,0,2,1,2,2] [1,2,3,4] (Lx w d i) (uk A w i) .normal [1,2,3,4] (Lx w d (i+1)) (uk A w (i+1)):=by
 have run:=λ{p l f h k g h1 e} (q:cD 20 p l f h k=some (e,g,h1))=>cf [] q;have r:OO (KG qv):=qC qp (λ_ _ _ _ h=>(by cases h));obtain⟨n1,n2⟩:=s i o;have a:(decide ((0:Int)<=ofNat i)&&decide (ofNat i<ofNat w.sl.length))=true:=by simp;omega
 have q:=(cq5 w i 0 0 d (iv A w) (XA A w i) RG YG TG).trans (qk a (qk a (qF (by
  show ¬((bl w i).l.length==0)=true;rw[vf];omega) (qk (by
  show(Nat.blt 0 (0+(bl w i).l.length)&&Nat.ble ((0+(bl w i).l.length)*17) 70368744177664)=true;rw[qL ae,qO ae];rfl) (qk au (qk (qO ae) (qk (qO ae) (qF (by rw[ZG ae];simp) rfl))))))))
 have q6:=cq6 (bz w) (.ah bL) (nC (i+1) 0 0 .ag .ag .ag d) i (uk A w (i+1));rw[il ae] at q6;exact av (run ((cq4 w (.ah bL) (nC i 0 0 .ag .ag .ag d) i (uk A w i)).trans (qk (wq bH) rfl)))
  (av (fi 1 (Pz.post (eD r [] q) λnt=>qt7 A w d ae)) (run q6))
def qmt(g:w.sl.length<=16)(r:∀j,j<w.sl.length->1<=(bl w j).l.length/\(bl w j).l.length<=1000) :
 Pq 20 [] [2,1,2,2] [1,2,3,4] (Lx w w.d 0) (uk A w 0) .normal [1,2,3] [bz w,.ah bL,nC w.sl.length 0 0 .ag .ag .ag w.d] (uk A w w.sl.length):=by
 have run:=λ{p l a h k f h1 e} (q:cD 20 p l a h k=some (e,f,h1))=>cf [] q;exact fi 0 (Pz.count qh (λi=>Lx w w.d i) (λi=>uk A w i) (n:=w.sl.length) au (λi o=>qms A w w.d i o g r)
  (lk (run ((qt5 w (.ah bL) (nC w.sl.length 0 0 .ag .ag .ag w.d) w.sl.length (uk A w w.sl.length)).trans (qF au rfl)))))
end
def Kz(k:Nat)(Y:Nat->b6):aq:=.mk k 5 k (λe=>(Y e).c) false false none
def cr1(a b c:T)(H:qa):cD 20 [1,1,2,2,2] [1,2,3] [a,b,c] H [1,2,3,5] =
( zN [a,b,c,iI 0] H):=qh
def cr2(w:bD)(b c:T)(i:Nat)(H:qa):cD 20 [1,0,0,2,1,2,2,2] [1,2,3,5] [bz w,b,c,iI (ofNat i)] H [1,2,3,5] =
( bif decide (ofNat i<6) then zN [bz w,b,c,iI (.ofNat i)] H else
 zX 2 [bz w,b,c,iI (.ofNat i)] H):=qh
def qt8(w:bD)(b c:T)(i:Nat)(H:qa):cD 20 [1,0,0,2,1,2,2,2] [1,2,3,5] [bz w,b,c,iI (ofNat i)] H [1,2,3] =
( bif decide (ofNat i<6) then zN [bz w,b,c] H else
 zX 2 [bz w,b,c] H):=qh
def cr3(w:bD)(b c:T)(i:Nat)(H:qa):cD 20 [1,0,1,2,0,0,2,1,2,2,2] [1,2,3,5] [bz w,b,c,iI (ofNat i)] H [1,2,3,5,6] =
( gD (decide (0<=ofNat i)&&decide (ofNat i<6))<|zN [bz w,b,c,iI (.ofNat i),.ah [.bool (w.q.Y i).i,iI (w.q.Y i).pl,iI (w.q.Y i).ct,.bool (w.q.Y i).w,lV (w.q.Y i).pe]] H):=qh
def cr4(w:bD)(y:b6)(a k t i:Nat)(d:Int)(S e f:aq)(X R:Nat->aq):cK (KG qv) 20 [1,2,0,1,2,0,0,2,1,2,2,2] [1,2,3,5,6] [bz w,.ah bL,nC a k t .ag .ag .ag d,iI (ofNat i),.ah y.c] (mq S X e f R []) [1,2,3,5,6] =
( bif y.np==(0:Nat) then zN [bz w,.ah [.ag,.ag,.ag,.ag,.ag,.ag,uI 0],.ah [.own 0 a 0 a
 none,.own 17 k 0 k
 none,.own 18 t 0 t
 none,.ag,.ag,.ag,uI d],iI (.ofNat i),.ah [.bool y.i,iI y.pl,iI y.ct,.bool y.w,.view 4 0 (λj=>[]) (some 0)]] [S,X (0:Nat),X (1:Nat),X (2:Nat),X (3:Nat),X (4:Nat),X (5:Nat),X (6:Nat),X (7:Nat),X (8:Nat),X (9:Nat),X (10:Nat),X (11:Nat),X (12:Nat),X (13:Nat),X (14:Nat),X (15:Nat),e,f,R (0:Nat),R (1:Nat),R (2:Nat),R (3:Nat),R (4:Nat),R (5:Nat)] else
 gD (Nat.blt 0 (0+y.np)&&(((0:Nat)+y.np)*(25:Nat)).ble 70368744177664)<|zN [bz w,.ah [.ag,.ag,.ag,.ag,.ag,.ag,uI 0],.ah [.own 0 a 0 a
 none,.own 17 k 0 k
 none,.own 18 t 0 t
 none,.ag,.ag,.ag,uI d],iI (.ofNat i),.ah [.bool y.i,iI y.pl,iI y.ct,.bool y.w,.own 25 0 0 (0+y.np)
 none]] [S,X (0:Nat),X (1:Nat),X (2:Nat),X (3:Nat),X (4:Nat),X (5:Nat),X (6:Nat),X (7:Nat),X (8:Nat),X (9:Nat),X (10:Nat),X (11:Nat),X (12:Nat),X (13:Nat),X (14:Nat),X (15:Nat),e,f,R (0:Nat),R (1:Nat),R (2:Nat),R (3:Nat),R (4:Nat),R (5:Nat),EH (0+y.np) y.pe]):=qh
def cr5(w:bD)(y:b6)(a k t i:Nat)(d:Int)(S e:aq)(Y:Nat->b6)(X R:Nat->aq):cK (KG qv) 20 [2,2,0,1,2,0,0,2,1,2,2,2] [1,2,3,5,6] [bz w,.ah bL,nC a k t .ag .ag .ag d,iI (ofNat i),.ah y.c] (mq S X (Kz k Y) e R []) [1,2,3,5] =
( gD (k==k&&true)<|gD (((0:Nat)+k).ble k)<|gD (((k+(1:Nat))*(57:Nat)).ble 70368744177664)<|bif ((0:Nat)+k+(1:Nat)).ble k then zN [bz w,.ah [.ag,.ag,.ag,.ag,.ag,.ag,uI 0],.ah [.own 0 a 0 a
 none,.own 17 k 0 (k+1)
 none,.own 18 t 0 t
 none,.ag,.ag,.ag,uI d],iI (.ofNat i)] [S,X (0:Nat),X (1:Nat),X (2:Nat),X (3:Nat),X (4:Nat),X (5:Nat),X (6:Nat),X (7:Nat),X (8:Nat),X (9:Nat),X (10:Nat),X (11:Nat),X (12:Nat),X (13:Nat),X (14:Nat),X (15:Nat),.mk k 5 k (λj=>bif ((0:Nat)+k).ble j&&j.blt (0+k+1) then [y.c].getD (j-(0+k)) []
 else(Y j).c) false false
 none,e,R (0:Nat),R (1:Nat),R (2:Nat),R (3:Nat),R (4:Nat),R (5:Nat)] else
 zN [bz w,.ah [.ag,.ag,.ag,.ag,.ag,.ag,uI 0],.ah [.own 0 a 0 a
 none,.own 17 (k+1) (0:Nat) (k+1)
 none,.own 18 t 0 t
 none,.ag,.ag,.ag,uI d],iI (.ofNat i)] [S,X (0:Nat),X (1:Nat),X (2:Nat),X (3:Nat),X (4:Nat),X (5:Nat),X (6:Nat),X (7:Nat),X (8:Nat),X (9:Nat),X (10:Nat),X (11:Nat),X (12:Nat),X (13:Nat),X (14:Nat),X (15:Nat),.mk (k+1) (5:Nat) (k+1) (λj=>bif j.blt k then(Y ((0:Nat)+j)).c
 else [y.c].getD (j-k) []) false false
 none,e,R (0:Nat),R (1:Nat),R (2:Nat),R (3:Nat),R (4:Nat),R (5:Nat)]):=qh
def cr6(a b c:T)(i:Nat)(H:qa):cD 20 [2,2,0,0,2,1,2,2,2] [1,2,3,5] [a,b,c,iI (ofNat i)] H [1,2,3,5] =
( zN [a,b,c,iI (i64.wrap (ofNat i+1))] H):=qh
def cr7(a b c:T)(H:qa):cD 20 [1,1,2,2,2,2] [1,2,3] [a,b,c] H [1,2,3,7] =
( zN [a,b,c,iI 0] H):=qh
def cr8(w:bD)(b c:T)(i:Nat)(H:qa):cD 20 [1,0,0,2,1,2,2,2,2] [1,2,3,7] [bz w,b,c,iI (ofNat i)] H [1,2,3,7] =
( bif decide (ofNat i<6) then zN [bz w,b,c,iI (.ofNat i)] H else
 zX 4 [bz w,b,c,iI (.ofNat i)] H):=qh
def qt9(w:bD)(b c:T)(i:Nat)(H:qa):cD 20 [1,0,0,2,1,2,2,2,2] [1,2,3,7] [bz w,b,c,iI (ofNat i)] H [1,2,3] =
( bif decide (ofNat i<6) then zN [bz w,b,c] H else
 zX 4 [bz w,b,c] H):=qh
def cra(a b c:T)(i:Nat)(H:qa):cD 20 [2,2,0,0,2,1,2,2,2,2] [1,2,3,7] [a,b,c,iI (ofNat i)] H [1,2,3,7] =
( zN [a,b,c,iI (i64.wrap (ofNat i+1))] H):=qh
def Ly{l m:JO}(h:dY l m):mI (.ah l) (.ah m):=.inr (.inl ⟨l,m,rfl,rfl,h⟩)
section
variable (A:Nat->Bool) (w:bD)
def YF(e:Nat):b6:=(w.q.Y e).y
def Pr:aq:=.mk 0 1 0 (λ_=>[]) false false none
def rh(k:Nat)(r:qa):qa:=mq (bW w.sl.length w.sl.length (iv A w)) (XA A w w.sl.length) (Kz k (YF w)) Pr RG r
def qli{aa:Wa}{nt k:Nat}{l:Wa}{vs:JO}:am G17 aa nt l k vs (uk A w w.sl.length) vs (rh A w 0 []):=by
 refine .same (.cons ⟨rfl,rfl,rfl,λh=>h,λ_ _=>rfl⟩ ?_ rfl)
 repeat (first|exact .nil|refine .cons ⟨rfl,rfl,rfl,λh=>h,λ_ _=>rfl⟩ ?_ rfl|refine .cons ⟨rfl,rfl,rfl,(λh=>by cases h),λj a=>absurd a (vm j)⟩ ?_ rfl)
def Vx(h:qa)(j:Nat)(a:j<16):iv A w j=(iv A w j).map (qJ AP h):=by
 unfold iv;cases A j with
 |false=>rfl
 |true =>
  show [uI (bl w j).b,T.own (1+j) 0 0 (bl w j).l.length none]=[uI (bl w j).b,qJ AP h (.own (1+j) 0 0 (bl w j).l.length none)];rw[Vv j a]
def o6(k:Nat)(d:Int):T:=nC w.sl.length k 0 .ag .ag .ag d
def qmu{aa:Wa}{nt:Nat}{l:Wa}(f:w.sl.length<=16)(k i:Nat)(y:b6):am G17 aa nt l 0 [bz w,.ah bL,o6 w k w.d,iI (ofNat i),.ah [.bool y.i,iI y.pl,iI y.ct,.bool y.w,.own 25 0 0 (0+y.np) none]] (rh A w k [EH (0+y.np) y.pe])
 [bz w,.ah bL,o6 w k w.d,iI (ofNat i),.ah y.c] (rh A w k []):=by
 refine am.bZ AP rfl ?_ rfl (.cons ⟨rfl,rfl,rfl,λh=>h,λj a=>Vx A w _ j (by have:j<w.sl.length:=a;omega)⟩ ?_ rfl)
 .show [bz w,.ah bL,o6 w k w.d,iI (ofNat i),.ah [.bool y.i,iI y.pl,iI y.ct,.bool y.w,bif Nat.ble (0+(0+y.np)) (0+y.np) then T.view 4 (0+y.np) (λe=>(y.pe (0+e)).c) none else .undef]]=_;rw[qO ae,wm,wn];simp only[wn];rfl
 .repeat (first|exact .nil|refine .cons ⟨rfl,rfl,rfl,λh=>h,λ_ _=>rfl⟩ ?_ rfl)
def qjx(x:w.sl.length<=16)(hp:∀e,(w.q.Y e).pe.length<=1000000)(k:Nat)(E:k<6) :
 Pq 20 [] [0,0,2,1,2,2,2] [1,2,3,5] [bz w,.ah bL,o6 w k w.d,iI (ofNat k)] (rh A w k []) .normal [1,2,3,5] [bz w,.ah bL,o6 w (k+1) w.d,iI (ofNat (k+1))] (rh A w (k+1) []):=by
 have run:=λ{p l g h B i h1 e} (q:cD 20 p l g h B=some (e,i,h1))=>cf [] q;have a:OO (KG qv):=qC qp (λ_ _ _ _ h=>(by cases h));have u:=run ((cr2 w (.ah bL) (o6 w k w.d) k (rh A w k [])).trans (qk (wq bH) rfl));have s:=run ((cr3 w (.ah bL) (o6 w k w.d) k (rh A w k [])).trans (qk (by simp;omega) rfl));have r:Pq 20 [] [1,2,0,1,2,0,0,2,1,2,2,2] [1,2,3,5,6] [bz w,.ah bL,o6 w k w.d,iI (ofNat k),.ah (YF w k).c] (rh A w k []) .normal [1,2,3,5,6] [bz w,.ah bL,o6 w k w.d,iI (ofNat k),.ah (YF w k).c] (rh A w k []):=by
  have q:=cr4 w (YF w k) w.sl.length k 0 k w.d (bW w.sl.length w.sl.length (iv A w)) (Kz k (YF w)) Pr (XA A w w.sl.length) RG;have D:(YF w k).np<=1000000:=hp k;by_cases z:(YF w k).np=0
  ·refine Pz.post (eD a [] (q.trans (qk (by simpa using z) rfl))) λnt=>.sl (.Ue (.Ue (.Ue (.Ue (.cons (Ly (.Ue (.Ue (.Ue (.Ue (.cons (by
    show fu (.view 4 0 (λj=>[]) (some 0)) (cH (YF w k).pe (YF w k).np none);rw[z];exact .view (.inr rfl) λj f=>absurd f (vm j)) .nil)))))) .nil))))) (.refl _)
  .exact Pz.post (eD a [] (q.trans (qF (by simpa using z) (qk (by rw[qL ae,qO ae];rfl) rfl)))) λnt=>qmu A w x k k (YF w k)
 have o:Pq 20 [] [2,2,0,1,2,0,0,2,1,2,2,2] [1,2,3,5,6] [bz w,.ah bL,o6 w k w.d,iI (ofNat k),.ah (YF w k).c] (rh A w k []) .normal [1,2,3,5] [bz w,.ah bL,o6 w (k+1) w.d,iI (ofNat k)] (rh A w (k+1) []):=by
  have q:=(cr5 w (YF w k) w.sl.length k 0 k w.d (bW w.sl.length w.sl.length (iv A w)) Pr (YF w) (XA A w w.sl.length) RG).trans (qk au (qk (qO ae) (qk (qO ae) (qF (by rw[ZG ae];simp) rfl))));have C:∀j,j<k+1->(YF w j).c=bif j.blt k then(YF w (0+j)).c else [(YF w k).c].getD (j-k) []:=λj f=>by
   by_cases c:j=k
   .subst c;rw[QP (wc _),wW];rfl
   .rw[qL ae,wn];rfl
  refine Pz.post (eD a [] q) λnt=>.same ?_
  repeat (first|exact .nil|refine .cons ⟨rfl,rfl,rfl,λh=>h,λ_ _=>rfl⟩ ?_ rfl|refine .cons ⟨rfl,rfl,rfl,λh=>h,C⟩ ?_ rfl)
 have q6:=cr6 (bz w) (.ah bL) (o6 w (k+1) w.d) k (rh A w (k+1) []);rw[il ae] at q6;exact av u (av (fi 3 (av s (av r o))) (run q6))
def qmv(g:w.sl.length<=16)(hp:∀e,(w.q.Y e).pe.length<=1000000):Pq 20 [] [1,2,2,2] [1,2,3] [bz w,.ah bL,o6 w 0 w.d] (rh A w 0 []) .normal [1,2,3] [bz w,.ah bL,o6 w 6 w.d] (rh A w 6 []):=by
 have run:=λ{p l a h i f h1 e} (q:cD 20 p l a h i=some (e,f,h1))=>cf [] q;exact av (run (cr1 _ _ _ _)) (fi 2 (Pz.count qh (λk=>[bz w,.ah bL,o6 w k w.d,iI (ofNat k)]) (λk=>rh A w k []) (n:=6) au (λk j=>qjx A w g hp k j)
  (lk (run ((qt8 w (.ah bL) (o6 w 6 w.d) 6 (rh A w 6 [])).trans (qF au rfl))))))
end
end Go.Ab
