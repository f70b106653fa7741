/- A part of the proof: nothing is assumed. -/
import Derived.Test.YtifccdcnhibceaaGreatDoorP2
import Derived.Test.YtifccdcnhibceaaGreatDoorProg
import Derived.KernelRfl
import Derived.Test.YtifccdcnhibceaaGreatDoorP3
set_option linter.all false
namespace Go.Ab
open IntKind(i64 u8)
open Int(ofNat)
open Go.Proofs
def G16:Nat->Option t7:=J6 [(0,[uI 107,uI 112,uI 111,uI 47,uI 118,uI 116,uI 115,uI 99])]
def ar:FuncId->cW:=λf=>match f with
 |2=>⟨[],λ_ _=>[],false⟩
 |3=>⟨[5],λ_ _=>[],false⟩
 |4=>⟨[1,4,5,8],λr o=>match r with|6=>bif o then [2] else [3,4,5,7]|_=>[],false⟩
 |5=>⟨[3,8,9,13],λ_ _=>[],false⟩
 |6=>⟨[2,7,17,18],λr o=>match r with|5=>bif o then [1,5] else [1,2,5,6]|9=>bif o then [1,2,5,6,7] else [1,2,5,6,7,8]|18=>bif o then [5,9,10] else [1,5,9,10,11,12]|29=>bif o then [4] else [9,14,15,16]|_=>[],false⟩
 |7=>⟨[2,6,9,16],λr o=>match r with|9=>bif o then [4,5,7,9,12,14] else [5,7,8,9,11,12,14,15]|_=>[],false⟩
 |8=>⟨[2,6,8,9,14,23,24],λr o=>match r with|10=>bif o then [8,9,11] else [6,7,8,9,11,12,13]|15=>bif o then [6,7,8,9,11,12,13,15] else [6,7,8,9,11,12,13,14,15,16]|18=>bif o then [6,7,8,9,11,12,13,14,15,16] else [6,7,8,9,11,12,13,14,15,16,17]|29=>bif o then [4] else [8,9,11,20,21]|32=>bif o then [4,8,9,11,20,21] else [8,9,11,20,21,22]|_=>[],false⟩
 |9=>⟨[2,6,7,8,13,16],λr o=>match r with|6=>bif o then [7,9] else [7,8,9,10]|14=>bif o then [7,11] else [7,9,11,12]|22=>bif o then [13,16] else [13,16,17]|_=>[],false⟩
 |10=>⟨[3,8,11,15,16],λr o=>match r with|13=>bif o then [7,10,11,12,13] else [7,10,11,12,13,14]|_=>[],false⟩
 |11=>⟨[3,8,9,14,16,18,21],λ_ _=>[],false⟩
 |12=>⟨[3],λr o=>match r with|3=>bif o then [0] else [1,2]|7=>bif o then [1,2,3] else [1,2,3,4]|11=>bif o then [1,2,3,4,5] else [1,2,3,4,5,6]|_=>[],false⟩
 |13=>⟨[4,6,11],λr o=>match r with|10=>bif o then [0,4,5,6,7,9] else [0,4,6,7,9,45,46]|_=>[],false⟩
 |14=>⟨[2,3],λ_ _=>[],false⟩
 |15=>⟨[1,4,6],λr o=>match r with|4=>bif o then [1,2] else [1,20,21,22]|12=>bif o then [1,2] else [1,62,63,64]|_=>[],false⟩
 |16=>⟨[2,3,6,7],λr o=>match r with|4=>bif o then [4] else [2,3,5]|_=>[],false⟩
 |17=>⟨[4],λr o=>match r with|4=>bif o then [4,5] else [0,1,4,5,6]|_=>[],false⟩
 |18=>⟨[1,3,4,5],λr o=>match r with|5=>bif o then [3,4,6] else [3,4,5,6,7]|_=>[],false⟩
 |19=>⟨[],λr o=>match r with|3=>bif o then [3] else [0,3,4]|_=>[],false⟩
 |20=>⟨[],λr o=>match r with|3=>bif o then [3] else [0,3,4]|_=>[],false⟩
 |21=>⟨[2,4],λ_ _=>[],false⟩
 |22=>⟨[1,2,3,6],λr o=>match r with|3=>bif o then [1,2,3] else [1,2,3,4]|7=>bif o then [1,2,3] else [1,2,3,5]|13=>bif o then [1,2,3] else [1,2,3,7]|_=>[],false⟩
 |23=>⟨[4],λ_ _=>[],false⟩
 |24=>⟨[2],λr o=>match r with|3=>bif o then [5] else [1,2,5,6]|_=>[],false⟩
 |25=>⟨[8,10],λr o=>match r with|4=>bif o then [1,6] else [1,6,16,17,18]|7=>bif o then [1,6,16,17,18] else [1,6,8,16,17,18,23,24,25]|_=>[],false⟩
 |26=>⟨[2,5],λ_ _=>[],false⟩
 |27=>⟨[2,12,17],λr o=>match r with|11=>bif o then [4,5,6,8,10] else [1,2,8,9,10,11]|18=>bif o then [1,2,8,9,10,11,12,13,14,15] else [1,2,8,9,10,11,12,13,14,15,16]|38=>bif o then [1,2,8,9,10,11,12,15] else [1,2,8,9,10,11,12,15,20,21]|41=>bif o then [1,2,8,9,10,11,12,15,20,21] else [1,2,8,9,10,11,12,15,20,21,22]|44=>bif o then [1,2,8,9,10,11,12,15,20,21,22] else [1,2,8,9,10,11,12,15,20,21,22,23]|47=>bif o then [1,2,8,9,10,11,12,15,20,21,22,23] else [1,2,8,9,10,11,12,15,20,21,22,23,24]|_=>[],false⟩
 |28=>⟨[],λr o=>match r with|4=>bif o then [4] else [0,1,5]|_=>[],false⟩
 |29=>⟨[],λr o=>match r with|3=>bif o then [3] else [0,3,4]|_=>[],false⟩
 |30=>⟨[2,3,8,9],λr o=>match r with|4=>bif o then [2,3,4] else [2,3,5]|9=>bif o then [4] else [2,3,6]|14=>bif o then [2,3,4,6] else [2,3,6,7]|_=>[],false⟩
 |31=>⟨[1],λ_ _=>[],false⟩
 |32=>⟨[3,4,5,7,9],λr o=>match r with|3=>bif o then [6] else [7,14,15,16]|_=>[],false⟩
 |33=>⟨[2,4,10],λr o=>match r with|6=>bif o then [1,2,4,5,6] else [1,2,4,20,21,22]|_=>[],false⟩
 |34=>⟨[2,4,11],λr o=>match r with|9=>bif o then [2,4,6,9] else [1,2,4,6,9,10,11,12]|13=>bif o then [1,2,4,6,9,10,11,12,13] else [1,2,4,6,9,10,11,12,13,14]|29=>bif o then [2,4,9] else [2,4,6,9,16]|_=>[],false⟩
 |35=>⟨[5],λr o=>match r with|3=>bif o then [3] else [0,3,4]|_=>[],false⟩
 |36=>⟨[0],λ_ _=>[],false⟩
 |37=>⟨[6,7],λ_ _=>[],false⟩
 |38=>⟨[8,10,11,13],λ_ _=>[],false⟩
 |39=>⟨[9],λ_ _=>[],false⟩
 |40=>⟨[4,6],λr o=>match r with|2=>bif o then [0,2,4,6] else [0,2,4,6,12,13,14]|_=>[],false⟩
 |41=>⟨[3,4,6,8,10,11],λ_ _=>[],false⟩
 |42=>⟨[],λr o=>match r with|4=>bif o then [4] else [0,1,5]|9=>bif o then [0,1,4,5] else [0,1,5,6]|_=>[],false⟩
 |43=>⟨[3,8],λr o=>match r with|6=>bif o then [6] else [2,31,32,33]|_=>[],false⟩
 |44=>⟨[1],λ_ _=>[],false⟩
 |45=>⟨[],λr o=>match r with|4=>bif o then [4] else [0,1,12,13]|_=>[],false⟩
 |46=>⟨[5],λr o=>match r with|3=>bif o then [3] else [3,9,10,11]|_=>[],false⟩
 |47=>⟨[],λr o=>match r with|4=>bif o then [4] else [0,1,5]|_=>[],false⟩
 |48=>⟨[8,10],λ_ _=>[],false⟩
 |49=>⟨[1,2,6],λr o=>match r with|3=>bif o then [1,2,3] else [1,2,3,4]|11=>bif o then [2,6] else [1,2,3,5,6,7]|_=>[],false⟩
 |50=>⟨[1],λ_ _=>[],false⟩
 |51=>⟨[2,4,5,7,9],λr o=>match r with|6=>bif o then [4,5,7,9] else [4,5,7,9,35]|_=>[],false⟩
 |52=>⟨[],λr o=>match r with|1=>bif o then [] else [0,2,3]|_=>[],false⟩
 |53=>⟨[2,5,11,19,20],λr o=>match r with|9=>bif o then [1,2,4,5,6,8] else [1,2,5,8,9,41,42,43]|14=>bif o then [1,2,5,8,9,10,11,12,13,41,42,43] else [1,2,5,8,9,10,11,12,13,41,42,43,53,54]|26=>bif o then [2,5,8,17] else [2,5,8,17,86,87,88]|_=>[],false⟩
 |54=>⟨[],λr o=>match r with|6=>bif o then [0,2] else [0,3]|_=>[],false⟩
 |55=>⟨[2],λr o=>match r with|6=>bif o then [1,2,4,5] else [1,2,6]|22=>bif o then [7] else [2,7,8]|_=>[],false⟩
 |56=>⟨[5,6,12],λr o=>match r with|6=>bif o then [3,5,6,9,10] else [0,3,5,6,9,10,11]|_=>[],false⟩
 |57=>⟨[],λr o=>match r with|4=>bif o then [4] else [0,1,5]|_=>[],false⟩
 |58=>⟨[1],λ_ _=>[],false⟩
 |59=>⟨[2,3,4],λ_ _=>[],false⟩
 |60=>⟨[2,3],λ_ _=>[],false⟩
 |61=>⟨[1,2],λ_ _=>[],false⟩
 |62=>⟨[],λr o=>match r with|1=>bif o then [] else [0,1,2,3,4,5,12]|9=>bif o then [0,1,2,3,4,5,12] else [0,1,2,3,4,5,12,13,14]|_=>[],false⟩
 |63=>⟨[2,4],λr o=>match r with|5=>bif o then [0,2,4] else [0,2,4,12,13]|_=>[],false⟩
 |64=>⟨[],λ_ _=>[],false⟩
 |65=>⟨[],λ_ _=>[],false⟩
 |66=>⟨[2,4],λ_ _=>[],false⟩
 |67=>⟨[],λ_ _=>[],false⟩
 |68=>⟨[],λr o=>match r with|3=>bif o then [0,3] else [0,3,10,11,12]|10=>bif o then [6] else [6,7,23,24,25]|_=>[],false⟩
 |69=>⟨[],λr o=>match r with|3=>bif o then [3] else [3,6,7,8]|_=>[],false⟩
 |70=>⟨[1,2,3,6],λ_ _=>[],false⟩
 |71=>⟨[],λ_ _=>[],false⟩
 |72=>⟨[],λ_ _=>[],false⟩
 |73=>⟨[3,6,10],λr o=>match r with|7=>bif o then [1,2,3,6,7] else [1,2,3,6,22,23,24]|_=>[],false⟩
 |74=>⟨[],λ_ _=>[],false⟩
 |75=>⟨[1,4],λr o=>match r with|10=>bif o then [2] else [1,40,41,42]|_=>[],false⟩
 |76=>⟨[1],λ_ _=>[],false⟩
 |77=>⟨[],λ_ _=>[],false⟩
 |78=>⟨[1,4],λr o=>match r with|2=>bif o then [2] else [1,6,7,8]|_=>[],false⟩
 |79=>⟨[1,6,8,14],λr o=>match r with|2=>bif o then [1,2] else [1,22,23]|5=>bif o then [1,2,22,23] else [1,22,23,26,27,28]|12=>bif o then [1,2] else [1,40,41,42]|22=>bif o then [1,9] else [1,9,10,72,73,74]|25=>bif o then [1,9,10,72,73,74] else [1,9,10,72,73,74,78,79,80]|31=>bif o then [2] else [9,91,92,93]|34=>bif o then [2,9,91,92,93] else [9,15,91,92,93,99,100]|_=>[],false⟩
 |80=>⟨[],λr o=>match r with|3=>bif o then [0,3] else [0,3,10,11,12]|10=>bif o then [6] else [6,7,23,24,25]|_=>[],false⟩
 |81=>⟨[11,13],λr o=>match r with|5=>bif o then [6,7] else [0,1,6,7,8,9]|_=>[],false⟩
 |82=>⟨[1],λr o=>match r with|5=>bif o then [2] else [1,3]|8=>bif o then [1,2,3] else [1,3,4]|_=>[],false⟩
 |83=>⟨[5],λr o=>match r with|3=>bif o then [3] else [3,8,9,10]|_=>[],false⟩
 |84=>⟨[],λ_ _=>[],false⟩
 |85=>⟨[6],λr o=>match r with|6=>bif o then [0,1,4] else [0,1,6,23,24]|_=>[],false⟩
 |86=>⟨[4],λr o=>match r with|6=>bif o then [0,2] else [0,13,14,15]|_=>[],false⟩
 |87=>⟨[],λ_ _=>[],false⟩
 |88=>⟨[2],λr o=>match r with|6=>bif o then [1,2,4,5] else [1,2,18,19,20]|13=>bif o then [1,2,8] else [1,2,8,35,36]|_=>[],false⟩
 |89=>⟨[3,8,10,11],λr o=>match r with|6=>bif o then [6] else [0,3,5,6,18,19,20]|9=>bif o then [0,3,5,6,18,19,20] else [0,3,5,6,8,18,19,20,28,29,30]|_=>[],false⟩
 |90=>⟨[3],λr o=>match r with|9=>bif o then [0] else [0,3,30,31]|_=>[],false⟩
 |91=>⟨[1,2],λ_ _=>[],false⟩
 |92=>⟨[9],λr o=>match r with|5=>bif o then [4,5,7] else [7,20,21,22]|_=>[],false⟩
 |93=>⟨[],λr o=>match r with|3=>bif o then [3] else [0,3,4]|_=>[],false⟩
 |94=>⟨[1],λ_ _=>[],false⟩
 |95=>⟨[2,3],λ_ _=>[],false⟩
 |96=>⟨[],λr o=>match r with|3=>bif o then [2,3] else [3,6,7,8]|_=>[],false⟩
 |97=>⟨[5],λr o=>match r with|3=>bif o then [3] else [3,8,9,10]|_=>[],false⟩
 |98=>⟨[5],λr o=>match r with|11=>bif o then [2] else [0,2,3,9,10]|_=>[],false⟩
 |99=>⟨[],λr o=>match r with|3=>bif o then [5] else [1,5,6]|_=>[],false⟩
 |100=>⟨[1],λ_ _=>[],false⟩
 |101=>⟨[],λ_ _=>[],false⟩
 |102=>⟨[],λ_ _=>[],false⟩
 |103=>⟨[],λ_ _=>[],false⟩
 |104=>⟨[1],λ_ _=>[],false⟩
 |105=>⟨[6],λr o=>match r with|2=>bif o then [0] else [0,8,9,10]|_=>[],false⟩
 |106=>⟨[2,3],λ_ _=>[],false⟩
 |107=>⟨[],λ_ _=>[],false⟩
 |108=>⟨[3],λ_ _=>[],false⟩
 |109=>⟨[4],λr o=>match r with|1=>bif o then [] else [1,5,6,7]|_=>[],false⟩
 |110=>⟨[1,2,3,4],λ_ _=>[],false⟩
 |111=>⟨[],λ_ _=>[],false⟩
 |112=>⟨[],λr o=>match r with|1=>bif o then [] else [0,1,3]|_=>[],false⟩
 |113=>⟨[2],λ_ _=>[],false⟩
 |114=>⟨[],λ_ _=>[],false⟩
 |115=>⟨[4],λ_ _=>[],false⟩
 |116=>⟨[],λ_ _=>[],false⟩
 |117=>⟨[7],λr o=>match r with|3=>bif o then [5] else [1,5,8,9,10]|_=>[],false⟩
 |118=>⟨[1],λ_ _=>[],false⟩
 |119=>⟨[1],λ_ _=>[],false⟩
 |120=>⟨[7],λr o=>match r with|3=>bif o then [3] else [3,11,12,13]|7=>bif o then [3,11,12,13] else [3,4,11,12,13,23,24,25]|_=>[],false⟩
 |121=>⟨[],λ_ _=>[],false⟩
 |122=>⟨[],λr o=>match r with|3=>bif o then [0,3] else [0,3,10,11,12]|10=>bif o then [6] else [6,7,23,24,25]|_=>[],false⟩
 |123=>⟨[],λ_ _=>[],false⟩
 |124=>⟨[2,3],λ_ _=>[],false⟩
 |125=>⟨[7],λr o=>match r with|5=>bif o then [0,5] else [0,1,5,6]|_=>[],false⟩
 |126=>⟨[1],λ_ _=>[],false⟩
 |127=>⟨[],λ_ _=>[],false⟩
 |128=>⟨[],λ_ _=>[],false⟩
 |129=>⟨[],λ_ _=>[],false⟩
 |130=>⟨[],λ_ _=>[],false⟩
 |131=>⟨[],λ_ _=>[],false⟩
 |132=>⟨[],λ_ _=>[],false⟩
 |133=>⟨[6],λr o=>match r with|2=>bif o then [2] else [0,7,8,9]|5=>bif o then [0,2,7,8,9] else [0,7,8,9,13,14,15]|_=>[],false⟩
 |134=>⟨[7,9],λr o=>match r with|3=>bif o then [2] else [3,11,12,13]|6=>bif o then [2,3,11,12,13] else [3,11,12,13,17,18,19]|9=>bif o then [2,3,11,12,13,17,18,19] else [3,11,12,13,17,18,19,24,25,26]|_=>[],false⟩
 |135=>⟨[10,11],λr o=>match r with|5=>bif o then [4] else [0,3,4,5,6]|8=>bif o then [0,3,4,5,6,7] else [0,3,4,5,6,7,28,29,30]|12=>bif o then [0,3,4,5,6,7,8,28,29,30] else [0,3,4,5,6,7,8,10,28,29,30]|_=>[],false⟩
 |136=>⟨[],λ_ _=>[],false⟩
 |137=>⟨[],λr o=>match r with|2=>bif o then [4] else [0,1,7,8]|_=>[],false⟩
 |138=>⟨[],λ_ _=>[],false⟩
 |139=>⟨[7],λr o=>match r with|3=>bif o then [4] else [1,2,5,17,18]|_=>[],false⟩
 |140=>⟨[5],λ_ _=>[],false⟩
 |141=>⟨[5],λ_ _=>[],false⟩
 |142=>⟨[],λ_ _=>[],false⟩
 |143=>⟨[],λr o=>match r with|2=>bif o then [0,1,2,6,7] else [0,1,2,6,7,8]|7=>bif o then [] else [0,1,2,6]|9=>bif o then [0,1,2,6,7] else [0,1,2,6,7,8]|_=>[],false⟩
 |144=>⟨[],λr o=>match r with|2=>bif o then [4] else [0,1,7,8]|_=>[],false⟩
 |145=>⟨[],λ_ _=>[],false⟩
 |146=>⟨[],λ_ _=>[],false⟩
 |147=>⟨[3,6,8],λr o=>match r with|6=>bif o then [0,3,4] else [0,3,28,29,30]|12=>bif o then [3,4] else [0,3,40,41,42]|_=>[],false⟩
 |148=>⟨[2,4],λ_ _=>[],false⟩
 |149=>⟨[],λr o=>match r with|1=>bif o then [] else [0,1,2,3,8]|4=>bif o then [0,1,2,3,8] else [0,1,2,3,8,9]|_=>[],false⟩
 |150=>⟨[],λr o=>match r with|3=>bif o then [0,1,10] else [0,1,4,10,11]|9=>bif o then [] else [0,10,13]|15=>bif o then [0,2,14] else [0,2,4,14,15]|21=>bif o then [] else [0,14,17]|33=>bif o then [0,1,2,3,4,18,19,20] else [0,1,2,3,4,18,19,20,21,22]|_=>[],false⟩
 |151=>⟨[3],λ_ _=>[],false⟩
 |152=>⟨[],λ_ _=>[],false⟩
 |153=>⟨[],λr o=>match r with|2=>bif o then [0,2,4,10] else [0,2,4,10,11]|_=>[],false⟩
 |154=>⟨[],λr o=>match r with|1=>bif o then [] else [0,1,2,3,10]|_=>[],false⟩
 |174=>⟨[],λ_ _=>[],false⟩
 |_=>⟨[],λ_ _=>[],false⟩
noncomputable abbrev au:Program:=Tryz.prog
def qV:au.follows .mixedOrders=true:=qh
def qY:QN au=true:=qh
def qrG:laidOutB au=true:=qh
abbrev Pq:=Pz au G16 ar
abbrev TO:=aD au G16
abbrev OO:=aS au G16
noncomputable abbrev cK(K:bv)(f:FuncId)(p l:t8)(v:t7)(h:qa)(m:t8):=Lh au G16 ar K 0 f [] (mo p) l v h m
noncomputable abbrev cD:=cK qt
def bR{K:bv}(d:aS au G16 K){f:FuncId}{p:t8}(H:qa){l vs h l1 v1 h1 e}(k:cK K f p l vs h l1=some (e,v1,h1))(a:(QP au f&&Lm au f)=true:=by kernel_rfl):Pz au G16 ar f H p l vs h e l1 v1 h1:=Pz.run qV d (m:=0) a qW k
def aP{f:FuncId}{p:t8}(H:qa){l vs h l1 v1 h1 e}(k:cD f p l vs h l1=some (e,v1,h1))(a:(QP au f&&Lm au f)=true:=by kernel_rfl):Pz au G16 ar f H p l vs h e l1 v1 h1:=bR qm H k a
structure aw where
 (y n:Int)
structure bl where
 (y n:Int) (f:Bool) (d:Int)
structure cQ where
 (b:Int) (w:Bool) (th:Nat->aw) (nt:Nat) (ps:Nat->bl) (np:Nat)
def aw.c(a:aw):t7:=[uI a.y,iI a.n]
def bl.c(p:bl):t7:=[uI p.y,iI p.n,.bool p.f,uI p.d]
def bl.id(p:bl):aw:=⟨p.y,p.n⟩
def aX(g:Nat->aw)(n:Nat)(c:Option Nat):T:=.view 2 n (λj=>(g j).c) c
def bY(g:Nat->bl)(n:Nat)(c:Option Nat):T:=.view 4 n (λj=>(g j).c) c
def cQ.c(l:cQ):t7:=[uI l.b,.bool l.w,aX l.th l.nt none,bY l.ps l.np none]
structure bt where
 h:Nat
 ln:Nat->Nat
 L:Nat->Nat->cQ
def oh(g:Nat->cQ)(n:Nat)(c:Option Nat):T:=.view 4 n (λj=>(g j).c) c
def bt.v(t:bt):T:=.view 1 t.h (λy=>[oh (t.L y) (t.ln y) none]) none
structure aw.Ok(a:aw):Prop where
 y:0<=a.y/\a.y<256
 n:-9223372036854775808<=a.n/\a.n<=9223372036854775807
structure bl.Ok(p:bl):Prop where
 i:p.id.Ok
 d:0<=p.d/\p.d<256
structure cQ.Ok(l:cQ):Prop where
 b:0<=l.b/\l.b<256
 th:∀j,(l.th j).Ok
 ps:∀j,(l.ps j).Ok
 nt:l.nt<=100000
 np:l.np<=100000
structure bt.Ok(t:bt):Prop where
 h:t.h<=1000
 ln:∀y,t.ln y<=10000
 L:∀y i,(t.L y i).Ok
def bt.has(t:bt)(a:aw):Bool:=decide (1<=a.y)&&decide (a.y<=t.h)&&decide (0<=a.n)&&decide (a.n<(t.ln (a.y-1).toNat:Int))
def bt.sum(t:bt):Nat->Nat
 |0=>0
 |y+1=>t.sum y+t.ln y
def lm(t:bt)(x:Int)(i:Nat):t7:=[iI x,t.v,iI t.h,iI i]
def sm(p q:bl):Bool:=(decide (p.d=0) || decide (p.d=1))&&(decide (q.d=0) || decide (q.d=1))&&!decide (p.d=q.d)&&(decide (p.y=q.y)&&decide (p.n=q.n)&&(p.f==q.f))
noncomputable def UE(p:t7->T->Prop)(a b:Int):bv:=qt.add 101 (qH p λl=>match l with|[.int _ x]=>some (.bool (decide (x=0) || decide (x=1)))|_=>none)
def Lo(t:bt)(d:t.Ok)(a)(e:a.Ok):TO 151 [t.v,.agg a.c] (.bool (t.has a)):=by
 refine qE qV qY qm (A:=ar) (m:=0) ?_;rw[(show QK au G16 ar qt 0 151 [t.v,.agg a.c] =
( bif decide (1<=a.y) then bif decide (i64.wrap a.y<=ofNat t.h) then bif decide (0<=a.n) then gD (decide (0<=u8.wrap (a.y-1))&&decide (u8.wrap (a.y-1)<ofNat t.h))<|bif decide (a.n<ofNat (t.ln (u8.wrap (a.y-(1:Int))).toNat)) then some (.bool true) else
 some (.bool false) else
 some (.bool false) else
 some (.bool false) else
 some (.bool false)) from qh)]
 unfold bt.has;have:=e.y;have:=d.h;clear d e;by_cases j:1<=a.y
 .have r:i64.wrap a.y=a.y:=Qv ab ab;have o:u8.wrap (a.y-1)=a.y-1:=nY ab ab;rw[r,o,dT j];by_cases i:a.y<=t.h
  .rw[dT i];by_cases g:0<=a.n
   .rw[dT g];generalize t.ln (a.y-1).toNat=k;by_cases f:a.n<(k:Int)
    .rw[dT f]
     exact ST
    .rw[dF f]
     exact ST
   .rw[dF g]
    exact ST
  .rw[dF i]
   exact ST
 grind
def i11(t:bt)(x:Int)(i:Nat):QO au G16 ar qt 0 69 [] 3 (lm t x i) [] =
( bif decide (ofNat i<ofNat t.h) then gD (decide (0<=ofNat i)&&decide (ofNat i<ofNat t.h))<|zN [iI (i64.wrap (x+ofNat (t.ln i))),t.v,iI (.ofNat t.h),iI (i64.wrap (ofNat i+1))] [] else
 zX 0 [iI x] []):=qh
def qnH(g)(n)(c)(hn:n<=1000000):TO 136 [aX g n c] (.fresh true 2 n (λj=>(g j).c) n (some n)):=by
 refine aD.ma (r:=.fresh true 2 (n-0) (λj=>bif Nat.ble 0 (0+j)&&Nat.blt (0+j) (0+n.min n) then(g (0+j-0)).c else [uI 0,iI 0]) n (some n)) ?_ (.fresh (wc _) ab (λm d=>rx) λj a=>by rw[wo,qR (wN _),show Nat.min n n=n from Nat.min_self n,wo,qN a];rfl);refine qE qV qY qm (K:=qt) (A:=ar) (m:=0) ?_;rw[(show QK au G16 ar qt 0 136 [aX g n c] =
( gD (decide (0<=ofNat n)&&decide (ofNat n<=ofNat n)&&decide (ofNat n*16<=140737488355328)&&decide (ofNat n<=9223372036854775807))<|gD (((0:Nat)+n).ble n)<|some (bif ((0:Nat)+n).ble n then .fresh true (2:Nat) n (λj=>bif Nat.ble 0 (0+j)&&((0:Nat)+j).blt (0+n.min n) then(g ((0:Nat)+j)).c
 else [uI 0,iI 0]) n (some n)
 else .undef)) from qh)]
 refine BS ?_;refine BS ?_;rw[wo,qR (wc _)];rfl
def OV(d):TO 101 [uI d] (.bool (decide (d=0) || decide (d=1))):=by
 refine qE qV qY qm (A:=ar) (m:=0) ?_;rw[(show QK au G16 ar qt 0 101 [uI d] =
( bif decide (d=0) then some (.bool true) else
 bif decide (d=1) then some (.bool true) else
 some (.bool false)) from qh)]
 cases decide (d=0)<;>cases decide (d=1)<;>rfl
def UF(a b:bl):TO 106 [.agg a.c,.agg b.c] (.bool (sm a b)):=by
 obtain⟨p,e⟩:=qz au G16 101;refine qE qV qY (qr qm (qn e)) (K:=UE p a.d b.d) (A:=ar) (m:=0) ?_;rw[(show QK au G16 ar (UE p a.d b.d) 0 106 [.agg a.c,.agg b.c] =
(
 bif qx (p [uI a.d] (.bool (decide (a.d=0) || decide (a.d=1)))) then
 bif decide (a.d=0) || decide (a.d=1) then
 bif qx (p [uI b.d] (.bool (decide (b.d=0) || decide (b.d=1)))) then
 bif decide (b.d=0) || decide (b.d=1) then
 bif decide (a.d=b.d) then
 some (.bool false)
 else
 bif decide (a.y=b.y) then
 bif decide (a.n=b.n) then
 bif
 bif a.f then b.f
 else !b.f then
 bif decide (a.d=a.d) then
 some (.bool true)
 else
 some (.bool false)
 else
 some (.bool false)
 else
 some (.bool false)
 else
 some (.bool false)
 else
 some (.bool false)
 else none else
 some (.bool false)
 else
 none) from qh)]
 refine qj (qu e (OV a.d)) ?_;unfold sm;cases decide (a.d=0) || decide (a.d=1)
 .rfl
 rw[wp];refine qj (qu e (OV b.d)) ?_;cases decide (b.d=0) || decide (b.d=1)
 .rfl
 rw[dT (show a.d=a.d from rfl)];cases decide (a.d=b.d)<;>cases decide (a.y=b.y)<;>cases decide (a.n=b.n)<;>cases a.f<;>cases b.f<;>rfl
def nT(t:bt)(a:t.Ok):∀y,t.sum y<=10000*y
 |0=>wc _
 |y+1=>by
  have e:=nT t a y;have d:=a.ln y;show t.sum y+t.ln y<=_;omega
def UG(t:bt)(a:t.Ok):TO 69 [t.v] (iI (t.sum t.h)):=by
 have f:ax au G16 (ar 69) 69 3 (Qx (lm t 0 0) [] (.exit 0) [iI (t.sum t.h)] []):=by
  refine QC qV qh (λi=>lm t (t.sum i) i) (λ_=>[]) (n:=t.h) (λi g=>?_) ?_
  .have e:t.sum (i+1)=t.sum i+t.ln i:=rfl;have d:=nT t a i;have k:=a.ln i;have j:=a.h;rw[e];clear a e;generalize t.sum i=x at *
   refine Step.dO (A:=ar) (m:=0) qm rfl rfl qW (h1:=[]) ?_ .nil;rw[i11,dH ab,Qv (x:=(x:Int)+ofNat (t.ln i)) (by rw[zu];omega) (by rw[zu];omega)]
   exact ST
  .clear a;generalize t.sum t.h=x at *
   refine bM.dO (A:=ar) (m:=0) qm rfl rfl qW (h1:=[]) aq ?_ .nil;rw[i11]
   grind
 generalize t.sum t.h=x at *
 refine Qs qV qY qm (A:=ar) (m:=0) qh (Qo f) ?_;rw[(show Z6 au G16 ar qt 0 69 [(3,Qx (lm t 0 0) [] (.exit 0) [iI x] [])] [t.v] =
( gD (KU (lm t (0:Int) (nat_lit 0)) [] (lm t (0:Int) (nat_lit 0)) [])<|some (iI (.ofNat x))) from qh)]
 exact ST
def Zh(l:cQ)(i:Nat):aw:=if i<l.nt then l.th i else(l.ps (i-l.nt)).id
def za(l:Nat->bl):Nat->Nat×(Nat->bl)
 |0=>(0,λ_=>⟨0,0,false,0⟩)
 |k+1=>if (decide (0<(za l k).1)&&sm ((za l k).2 ((za l k).1-1)) (l k))=true then((za l k).1-1,(za l k).2) else((za l k).1+1,λe=>if e=(za l k).1 then l k else(za l k).2 e)
def pU(g:Nat->bl)(n:Nat):ap:=⟨0,4,n,λe=>(g e).c,true,false,none⟩
def B4(l:Nat->bl)(n:Nat)(c:Option Nat)(m k:Nat):t7:=[.own 0 0 0 m (some n),bY l n c,iI n,iI k]
noncomputable def UH(p:t7->T->Prop)(b:Bool):bv:=qt.add 106 (qH p λ_=>some (.bool b))
noncomputable def UI(p:t7->qa->T->qa->Prop)(q:t7->T->Prop)(g:Nat->bl)(m n:Nat):bv:=(qt.bW 105 (kH p λ_ _=>some (.own 0 0 0 m (some n),[pU g n]))).add 102 (qH q λ_=>some (.fresh true 4 m (λj=>(g j).c) m (some m)))
def qrH(l)(a:l.Ok)(i:Nat)(d:i<l.nt+l.np):TO 148 [.agg l.c,iI i] (.agg (Zh l i).c):=by
 refine qE qV qY qm (A:=ar) (m:=0) ?_;rw[(show QK au G16 ar qt 0 148 [.agg l.c,iI i] =
( bif decide (ofNat i<ofNat l.nt) then gD (decide (0<=ofNat i)&&decide (ofNat i<ofNat l.nt))<|some (.agg (l.th i).c) else
 gD (decide (0<=i64.wrap (ofNat i-ofNat l.nt))&&decide (i64.wrap (ofNat i-ofNat l.nt)<ofNat l.np))<|some (.agg [uI (l.ps (i64.wrap (ofNat i-ofNat l.nt)).toNat).y,iI (l.ps (i64.wrap (ofNat i-ofNat l.nt)).toNat).n])) from qh)]
 have g:=a.nt;have f:=a.np;clear a;unfold Zh;by_cases q:i<l.nt
 .rw[wl q]
  grind
 ·have e:i64.wrap (ofNat i-ofNat l.nt)=ofNat (i-l.nt):=by
   rw[Qv (by show(-9223372036854775808:Int)<=(i:Int)-(l.nt:Int);omega) (by show(i:Int)-(l.nt:Int)<=_;omega)];grind
  rw[wh q,e]
  exact ST
def Lq(l g:Nat->bl)(n)(c)(m k)(b)(p):QO au G16 ar (UH p b) 0 105 [] 2 (B4 l n c m k) [pU g n] =
( bif decide (ofNat k<ofNat n) then gD (decide (0<=ofNat k)&&decide (ofNat k<ofNat n))<|bif decide (0<ofNat m) then gD (decide (0<=i64.wrap (ofNat m-1))&&decide (i64.wrap (ofNat m-1)<ofNat m))<|gD (((0:Nat)+(i64.wrap (ofNat m-(1:Int))).toNat).blt n)<|gD (qx (p [.agg (g ((0:Nat)+(i64.wrap (ofNat m-(1:Int))).toNat)).c,.agg (l k).c] (.bool b)))<|bif b then gD (decide (0<=i64.wrap (ofNat m-1))&&decide (i64.wrap (ofNat m-1)<=ofNat n)&&decide (ofNat n<=ofNat n))<|zN [.own 0 0 0 (i64.wrap (ofNat m-(1:Int))).toNat (some n),bY l n c,iI (.ofNat n),iI (i64.wrap (ofNat k+1))] [pU g n] else
 gD (((0:Nat)+m).ble n)<|gD (((m+(1:Nat))*(25:Nat)).ble 70368744177664)<|bif (m+(1:Nat)).ble n then gD (((0:Nat)+m+(1:Nat)).ble n)<|zN [.own 0 0 0 (m+1) (some n),bY l n c,iI (.ofNat n),iI (i64.wrap (ofNat k+1))] [.mk 0 4 n (λj=>bif ((0:Nat)+m).ble j&&j.blt (0+m+1) then [(l k).c].getD ((0:Nat)+(j-(0+m))) []
 else(g j).c) true false
 none,.mk 0 4 1 (λj=>[(l k).c].getD j []) true true
 none] else
 zN [.own 2 0 0 (m+1)
 none,bY l n c,iI (.ofNat n),iI (i64.wrap (ofNat k+1))] [pU g n,.mk 0 4 1 (λj=>[(l k).c].getD j []) true true
 none,.mk 0 4 (m+1) (λj=>bif j.blt m then(g ((0:Nat)+j)).c
 else [(l k).c].getD ((0:Nat)+(j-m)) []) true false
 none] else
 gD (((0:Nat)+m).ble n)<|gD (((m+(1:Nat))*(25:Nat)).ble 70368744177664)<|bif (m+(1:Nat)).ble n then gD (((0:Nat)+m+(1:Nat)).ble n)<|zN [.own 0 0 0 (m+1) (some n),bY l n c,iI (.ofNat n),iI (i64.wrap (ofNat k+1))] [.mk 0 4 n (λj=>bif ((0:Nat)+m).ble j&&j.blt (0+m+1) then [(l k).c].getD ((0:Nat)+(j-(0+m))) []
 else(g j).c) true false
 none,.mk 0 4 1 (λj=>[(l k).c].getD j []) true true
 none] else
 zN [.own 2 0 0 (m+1)
 none,bY l n c,iI (.ofNat n),iI (i64.wrap (ofNat k+1))] [pU g n,.mk 0 4 1 (λj=>[(l k).c].getD j []) true true
 none,.mk 0 4 (m+1) (λj=>bif j.blt m then(g ((0:Nat)+j)).c
 else [(l k).c].getD ((0:Nat)+(j-m)) []) true false
 none] else
 zX 0 [.own 0 0 0 m (some n)] [pU g n]):=qh
def k64(l g)(n)(c)(m):Uu au G16 ar qt 0 105 [(2,Qx (B4 l n c 0 0) [pU (λ_=>⟨0,0,false,0⟩) n] (.exit 0) [.own 0 0 0 m (some n)] [pU g n])] [.own 0 0 0 0 (some n),bY l n c] [pU (λ_=>⟨0,0,false,0⟩) n] =
( gD (KU (B4 l n c (0:Nat) (nat_lit 0)) [.mk 0 4 n (λe=>[uI 0,iI 0,.bool false,uI 0]) true false
 none] (B4 l n c (0:Nat) (nat_lit 0)) [.mk 0 4 n (λe=>[uI 0,iI 0,.bool false,uI 0]) true false
 none])<|some ((.own 0 0 0 m (some n),[pU g n]))):=qh
def qlK(g)(n)(c)(hn:n<=1000000):TO 102 [bY g n c] (.fresh true 4 n (λj=>(g j).c) n (some n)):=by
 refine aD.ma (r:=.fresh true 4 (n-0) (λj=>bif Nat.ble 0 (0+j)&&Nat.blt (0+j) (0+n.min n) then(g (0+j-0)).c else [uI 0,iI 0,T.bool false,uI 0]) n (some n)) ?_ (.fresh (wc _) ab (λm d=>rx) λj a=>by rw[wo,qR (wN _),show Nat.min n n=n from Nat.min_self n,wo,qN a];rfl);refine qE qV qY qm (K:=qt) (A:=ar) (m:=0) ?_;rw[(show QK au G16 ar qt 0 102 [bY g n c] =
( gD (decide (0<=ofNat n)&&decide (ofNat n<=ofNat n)&&decide (ofNat n*24<=140737488355328)&&decide (ofNat n<=9223372036854775807))<|gD (((0:Nat)+n).ble n)<|some (bif ((0:Nat)+n).ble n then .fresh true (4:Nat) n (λj=>bif Nat.ble 0 (0+j)&&((0:Nat)+j).blt (0+n.min n) then(g ((0:Nat)+j)).c
 else [uI 0,iI 0,.bool false,uI 0]) n (some n)
 else .undef)) from qh)]
 refine BS ?_;refine BS ?_;rw[wo,qR (wc _)];rfl
def k57(l g:Nat->bl)(n:Nat)(c:Option Nat)(m:Nat)(p:t7->qa->T->qa->Prop)(q):QK au G16 ar (UI p q g m n) 0 152 [bY l n c] =
( gD (decide (0<=ofNat n)&&decide (ofNat n*24<=140737488355328)&&decide (ofNat n<=9223372036854775807))<|gD (qx (p [.own 0 0 0 0 (some n),bY l n c] [.mk 0 4 n (λx=>[uI 0,iI 0,.bool false,uI 0]) true false
 none] (.own 0 0 0 m (some n)) [pU g n]))<|gD (qx (q [bif ((0:Nat)+m).ble n then bY (λj=>g (0+j)) m (some n)
 else .undef] (.fresh true (4:Nat) m (λj=>(g j).c) m (some m))))<|some (bif ((0:Nat)+m).ble m then .fresh true (4:Nat) m (λj=>(g ((0:Nat)+j)).c) m (some m)
 else .undef)):=qh
def OW(l):∀k,(za l k).1<=k
 |0=>wc _
 |k+1=>by
  have a:=OW l k;grind[za]
def qrI(l)(n:Nat)(c)(hn:n<=1000000):aR au G16 105 [.own 0 0 0 0 (some n),bY l n c] [pU (λ_=>⟨0,0,false,0⟩) n] (.own 0 0 0 (za l n).1 (some n)) [pU (za l n).2 n]:=by
 obtain⟨p,u⟩:=qz au G16 106;have a:∀b,OO (UH p b):=λb=>qr qm (qn u);have x:ax au G16 (ar 105) 105 2 (Qx (B4 l n c 0 0) [pU (λ_=>⟨0,0,false,0⟩) n] (.exit 0) [.own 0 0 0 (za l n).1 (some n)] [pU (za l n).2 n]):=by
  refine QC qV qh (λk=>B4 l n c (za l k).1 k) (λk=>[pU (za l k).2 n]) (n:=n) (λk C=>?_) ?_
  .have B:=OW l k;have e:za l (k+1)=if (decide (0<(za l k).1)&&sm ((za l k).2 ((za l k).1-1)) (l k))=true then((za l k).1-1,(za l k).2) else((za l k).1+1,λe=>if e=(za l k).1 then l k else(za l k).2 e):=rfl;rw[e];generalize (za l k).2=g at *
   generalize (za l k).1=m at *
   clear e;have same:∀j,j<n->(λe=>(if e=m then l k else g e).c) j=(bif Nat.ble (0+m) j&&Nat.blt j (0+m+1) then([(l k).c]:List t7).getD (0+(j-(0+m))) [] else(g j).c):=λj D=>by
    simp only[wo];by_cases q:j=m
    .subst q;rw[wl rfl,qR (wc _),qN ab,va];rfl
    .rw[wh q];by_cases s:m<=j
     .rw[qR s,QZ ab];rfl
     .rw[ZE ab];rfl
   by_cases i:0<m
   ·have t:=UF (g (m-1)) (l k);have o:i64.wrap (ofNat m-1)=ofNat (m-1):=by
     rw[Qv (by show(-9223372036854775808:Int)<=(m:Int)-1;omega) (by show(m:Int)-1<=_;omega)];grind
    rw[dT i,wQ];cases f:sm (g (m-1)) (l k)
    .rw[f] at t;rw[wh aq];refine Step.mk (A:=ar) (m:=0) (a false) rfl rfl qW 1 (wc _) (h1:=[⟨0,4,n,λj=>bif Nat.ble (0+m) j&&Nat.blt j (0+m+1) then([(l k).c]:List t7).getD (0+(j-(0+m))) [] else(g j).c,true,false,none⟩,⟨0,4,1,λj=>[(l k).c].getD j [],true,true,none⟩]) (aW:=B4 l n c (m+1) (k+1)) ?_ rfl (.cons ⟨rfl,rfl,rfl,id,same⟩ .nil);rw[Lq,dH ab,o,show(ofNat (m-1)).toNat=m-1 from rfl,wo];clear same
     exact ST
    .rw[f] at t;rw[wl rfl];refine Step.dO (A:=ar) (m:=0) (a true) rfl rfl qW (h1:=[pU g n]) (aW:=B4 l n c (m-1) (k+1)) ?_ (.refl _);rw[Lq,dH ab,o,show(ofNat (m-1)).toNat=m-1 from rfl,wo];clear same
     exact ST
   .rw[dF i,xT,wh aq];refine Step.mk (A:=ar) (m:=0) (a false) rfl rfl qW 1 (wc _) (h1:=[⟨0,4,n,λj=>bif Nat.ble (0+m) j&&Nat.blt j (0+m+1) then([(l k).c]:List t7).getD (0+(j-(0+m))) [] else(g j).c,true,false,none⟩,⟨0,4,1,λj=>[(l k).c].getD j [],true,true,none⟩]) (aW:=B4 l n c (m+1) (k+1)) ?_ rfl (.cons ⟨rfl,rfl,rfl,id,same⟩ .nil);rw[Lq,dH ab];clear same
    exact ST
  .generalize (za l n).2=g at *
   generalize (za l n).1=m at *
   refine bM.dO (A:=ar) (m:=0) (a false) rfl rfl qW (h1:=[pU g n]) aq ?_ (.refl _);rw[Lq]
   grind
 generalize (za l n).2=g at *
 generalize (za l n).1=m at *
 refine qio qV qY qm (A:=ar) (m:=0) qh (Qo x) ?_;rw[k64];exact qj (YQ ⟨rfl,.refl _⟩) rfl
def qnJ(l:Nat->bl)(n:Nat)(c:Option Nat)(hn:n<=1000000):TO 152 [bY l n c] (.fresh true 4 (za l n).1 (λj=>((za l n).2 j).c) (za l n).1 (some (za l n).1)):=by
 obtain⟨p,d⟩:=ZY au G16 105;obtain⟨q,a⟩:=qz au G16 102;have i:=OW l n;have f:=qrI l n c hn;have e:=qlK (za l n).2 (za l n).1 (some n) ab;generalize (za l n).2=g at *
 generalize (za l n).1=m at *
 refine qE qV qY (qr (qA qm (Qy d)) (qn a)) (K:=UI p q g m n) (A:=ar) (m:=0) ?_;rw[k57];refine qj (by rw[dT (by rw[zu];omega),dT (by rw[zu];omega),dT (by rw[zu];omega)];rfl) ?_;refine qj (QR d f) ?_;simp only[wo];rw[qR i,qR (wc _)];refine qj (qu a e) ?_;rfl
def D3(t:bt)(l:cQ)(i:Nat):Bool:=t.has (l.th i)
def Bl(t:bt)(l:cQ)(i:Nat):Bool:=t.has (l.ps i).id&&(decide ((l.ps i).d=0) || decide ((l.ps i).d=1))
def D4(t:bt)(l:cQ):Bool:=bif decide (l.b=0) || decide (l.b=1) then(bif decide (4<l.nt) || decide (4096<l.np) then false else bif qL (D3 t l) l.nt then(bif qL (Bl t l) l.np then decide ((za l.ps l.np).1=l.np) else false) else false) else false
def Bm(t:bt)(l:cQ)(i:Nat):t7:=[t.v,.ag l.c,aX l.th l.nt none,iI l.nt,iI i]
def Bn(t:bt)(l:cQ)(i:Nat):t7:=[t.v,.ag l.c,bY l.ps l.np none,iI l.np,iI i]
noncomputable def Lr(p:t7->T->Prop)(b:Bool):bv:=qt.add 151 (qH p λ_=>some (.bool b))
noncomputable def UJ(p:t7->T->Prop)(r:T):bv:=qt.add 152 (qH p λ_=>some r)
noncomputable def UK(x y:t7->qa->Ex->t7->qa->Prop)(t:bt)(l:cQ)(b1 b2:Bool):List (Nat×(t7->qa->LT)) :=
 [(6,Zy x (.ite b1 (.ret (.exit 0) [t.v,.ag l.c,.undef] []) (.ret .ret [t.v,.ag l.c,.bool false] []))),
  (12,Zy y (.ite b2 (.ret (.exit 2) [.ag l.c,.undef] []) (.ret .ret [.ag l.c,.bool false] [])))]
def CZ(t:bt)(y i:Nat):Bool:=D4 t (t.L y i)&&(!(i==0) || (t.L y i).w)
def B5(t:bt)(y:Nat):Bool:=qL (CZ t y) (t.ln y)
def EY(t:bt)(y i:Nat):t7:=[t.v,t.v,iI t.h,iI y,oh (t.L y) (t.ln y) none,iI (t.ln y),iI i]
def EZ(t:bt)(y:Nat):t7:=[t.v,t.v,iI t.h,iI y]
noncomputable def UL(p:t7->T->Prop)(b:Bool):bv:=qt.add 147 (qH p λ_=>some (.bool b))
noncomputable def Ls(x:t7->qa->Ex->t7->qa->Prop)(t:bt)(y:Nat)(b:Bool):List (Nat×(t7->qa->LT)) :=
 [(5,Zy x (.ite b (.ret (.exit 2) [t.v,.undef,t.v,iI t.h,iI y] []) (.ret .ret [t.v,iI 1,t.v,iI t.h,iI y] [])))]
noncomputable def UM(x:t7->qa->Ex->t7->qa->Prop)(b:Bool):List (Nat×(t7->qa->LT)) :=
 [(2,Zy x (.ite b (.ret (.exit 0) [.undef] []) (.ret .ret [iI 1] [])))]
section
variable (t:bt) (l:cQ) (i y:Nat) (b b1 b2:Bool) (p:t7->T->Prop) (x z:t7->qa->Ex->t7->qa->Prop) (g:Nat->bl) (m:Nat)
def OX:QO au G16 ar (Lr p b) 0 147 [] 6 (Bm t l i) [] =
( bif decide (ofNat i<ofNat l.nt) then gD (decide (0<=ofNat i)&&decide (ofNat i<ofNat l.nt))<|gD (qx (p [t.v,.agg (l.th i).c] (.bool b)))<|bif b then zN [t.v,.ag l.c,aX l.th l.nt
 none,iI (.ofNat l.nt),iI (i64.wrap (ofNat i+1))] [] else
 zR [t.v,.ag l.c,.bool false] [] else
 zX 0 [t.v,.ag l.c,.undef] []):=qh
def Lt:QO au G16 ar (Lr p b) 0 147 [] 12 (Bn t l i) [] =
( bif decide (ofNat i<ofNat l.np) then gD (decide (0<=ofNat i)&&decide (ofNat i<ofNat l.np))<|gD (qx (p [t.v,.agg [uI (l.ps i).y,iI (l.ps i).n]] (.bool b)))<|bif b then bif !decide ((l.ps i).d=0) then bif !decide ((l.ps i).d=1) then zR [.ag l.c,.bool false] [] else
 zN [t.v,.ag l.c,bY l.ps l.np
 none,iI (.ofNat l.np),iI (i64.wrap (ofNat i+1))] [] else
 zN [t.v,.ag l.c,bY l.ps l.np
 none,iI (.ofNat l.np),iI (i64.wrap (ofNat i+1))] [] else
 zR [.ag l.c,.bool false] [] else
 zX 2 [.ag l.c,.undef] []):=qh
def k45:Z6 au G16 ar (UJ p (.fresh true 4 m (λj=>(g j).c) m (some m))) 0 147 (UK x z t l b1 b2) [t.v,.agg l.c] =
( bif !decide (l.b=0) then bif !decide (l.b=1) then some (.bool false) else
 bif decide (4<ofNat l.nt) then some (.bool false) else
 bif decide (4096<ofNat l.np) then some (.bool false) else
 bif b1 then gD (qx (x (Bm t l (nat_lit 0)) [] (.exit 0) [t.v,.ag l.c,.undef] []))<|bif b2 then gD (qx (z (Bn t l (nat_lit 0)) [] (.exit 2) [.ag l.c,.undef] []))<|gD (qx (p [bY l.ps l.np
 none] (.fresh true (4:Nat) m (λj=>(g j).c) m (some m))))<|bif decide (ofNat m=ofNat l.np) then some (.bool true) else
 some (.bool false) else
 gD (qx (z (Bn t l (nat_lit 0)) [] .ret [.ag l.c,.bool false] []))<|some (.bool false) else
 gD (qx (x (Bm t l (nat_lit 0)) [] .ret [t.v,.ag l.c,.bool false] []))<|some (.bool false) else
 bif decide (4<ofNat l.nt) then some (.bool false) else
 bif decide (4096<ofNat l.np) then some (.bool false) else
 bif b1 then gD (qx (x (Bm t l (nat_lit 0)) [] (.exit 0) [t.v,.ag l.c,.undef] []))<|bif b2 then gD (qx (z (Bn t l (nat_lit 0)) [] (.exit 2) [.ag l.c,.undef] []))<|gD (qx (p [bY l.ps l.np
 none] (.fresh true (4:Nat) m (λj=>(g j).c) m (some m))))<|bif decide (ofNat m=ofNat l.np) then some (.bool true) else
 some (.bool false) else
 gD (qx (z (Bn t l (nat_lit 0)) [] .ret [.ag l.c,.bool false] []))<|some (.bool false) else
 gD (qx (x (Bm t l (nat_lit 0)) [] .ret [t.v,.ag l.c,.bool false] []))<|some (.bool false)):=qh
def Lu:QO au G16 ar (UL p b) 0 133 [] 5 (EY t y i) [] =
( bif decide (ofNat i<ofNat (t.ln y)) then gD (decide (0<=ofNat i)&&decide (ofNat i<ofNat (t.ln y)))<|gD (qx (p [t.v,.agg (t.L y i).c] (.bool b)))<|bif b then bif decide (ofNat i=0) then bif (t.L y i).w then zN [t.v,t.v,iI (.ofNat t.h),iI (.ofNat y),oh (t.L y) (t.ln y)
 none,iI (.ofNat (t.ln y)),iI (i64.wrap (ofNat i+1))] [] else
 zR (t.v::lm t (1:Int) y) [] else
 zN [t.v,t.v,iI (.ofNat t.h),iI (.ofNat y),oh (t.L y) (t.ln y)
 none,iI (.ofNat (t.ln y)),iI (i64.wrap (ofNat i+1))] [] else
 zR (t.v::lm t (1:Int) y) [] else
 zX 2 [t.v,.undef,t.v,iI (.ofNat t.h),iI (.ofNat y)] []):=qh
def OY:QO au G16 ar qt 0 133 (Ls x t y b) 2 (EZ t y) [] =
( bif decide (ofNat y<ofNat t.h) then gD (decide (0<=ofNat y)&&decide (ofNat y<ofNat t.h))<|bif b then gD (qx (x (EY t y (nat_lit 0)) [] (.exit 2) [t.v,.undef,t.v,iI (.ofNat t.h),iI (.ofNat y)] []))<|zN [t.v,t.v,iI (.ofNat t.h),iI (i64.wrap (ofNat y+1))] [] else
 gD (qx (x (EY t y (nat_lit 0)) [] .ret (t.v::lm t (1:Int) y) []))<|zR [iI 1] [] else
 zX 0 [.undef] []):=qh
def k36:Z6 au G16 ar qt 0 133 (UM x b) [t.v] =
( bif b then gD (qx (x (EZ t (nat_lit 0)) [] (.exit 0) [.undef] []))<|some (iI 0) else
 gD (qx (x (EZ t (nat_lit 0)) [] .ret [iI 1] []))<|some (iI 1)):=qh
end
def qnN(t:bt)(d:t.Ok)(l)(a:l.Ok):(qL (D3 t l) l.nt=true->ax au G16 (ar 147) 147 6 (Qx (Bm t l 0) [] (.exit 0) [t.v,.ag l.c,.undef] []))/\(qL (D3 t l) l.nt=false->ax au G16 (ar 147) 147 6 (Qx (Bm t l 0) [] .ret [t.v,.ag l.c,.bool false] [])):=by
 obtain⟨p,o⟩:=qz au G16 151;have j:∀b,OO (Lr p b):=λb=>qr qm (qn o);have hn:=a.nt;refine ZO qV qh (λi=>Bm t l i) (λ_=>[]) (D3 t l) (n:=l.nt) (λi r _ f=>?_) (λi r _ f=>?_) (λ_=>?_)
 .have e:=Lo t d (l.th i) (a.th i);rw[show t.has (l.th i)=true from f] at e;clear d a;refine Step.dO (A:=ar) (m:=0) (j true) rfl rfl qW (h1:=[]) ?_ .nil;rw[OX,dH ab]
  exact ST
 .have e:=Lo t d (l.th i) (a.th i);rw[show t.has (l.th i)=false from f] at e;clear d a;refine bM.dO (A:=ar) (m:=0) (j false) rfl rfl qW (h1:=[]) aq ?_ .nil;rw[OX]
  exact ST
 .clear d a;refine bM.dO (A:=ar) (m:=0) (j false) rfl rfl qW (h1:=[]) aq ?_ .nil;rw[OX];grind
def qnO(t:bt)(f:t.Ok)(l)(e:l.Ok):(qL (Bl t l) l.np=true->ax au G16 (ar 147) 147 12 (Qx (Bn t l 0) [] (.exit 2) [.ag l.c,.undef] []))/\(qL (Bl t l) l.np=false->ax au G16 (ar 147) 147 12 (Qx (Bn t l 0) [] .ret [.ag l.c,.bool false] [])):=by
 obtain⟨p,u⟩:=qz au G16 151;have o:∀b,OO (Lr p b):=λb=>qr qm (qn u);have hn:=e.np;refine ZO qV qh (λi=>Bn t l i) (λ_=>[]) (Bl t l) (n:=l.np) (λi B _ a=>?_) (λi B _ a=>?_) (λ_=>?_)
 .have j:=Lo t f (l.ps i).id (e.ps i).i;simp only[Bl,wd,vI,wm] at a;rw[a.1] at j;have D:=a.2;clear f e a;refine Step.dO (A:=ar) (m:=0) (o true) rfl rfl qW (h1:=[]) ?_ .nil;rw[Lt,dH ab];by_cases q:(l.ps i).d=0
  ·exact ST
  .have s:(l.ps i).d=1:=by omega
   exact ST
 .have j:=Lo t f (l.ps i).id (e.ps i).i;unfold Bl at a;clear f e;cases k:t.has (l.ps i).id
  .rw[k] at j;refine bM.dO (A:=ar) (m:=0) (o false) rfl rfl qW (h1:=[]) aq ?_ .nil;rw[Lt];clear k
   exact ST
  .rw[k] at j a;simp only[wQ,vf,wV] at a;obtain⟨C,s⟩:=a;refine bM.dO (A:=ar) (m:=0) (o true) rfl rfl qW (h1:=[]) aq ?_ .nil;rw[Lt];clear k
   exact ST
 .clear f e;refine bM.dO (A:=ar) (m:=0) (o false) rfl rfl qW (h1:=[]) aq ?_ .nil;rw[Lt];grind
def UN(t:bt)(e:t.Ok)(l:cQ)(a:l.Ok):TO 147 [t.v,.agg l.c] (.bool (D4 t l)):=by
 obtain⟨x,hx⟩:=QU au G16 (ar 147) 147 6;obtain⟨z,hz⟩:=QU au G16 (ar 147) 147 12;obtain⟨p,s⟩:=qz au G16 152;have C:=qnJ l.ps l.np none (by have:=a.np;omega);have B:=qnN t e l a;have u:=qnO t e l a;unfold D4;generalize (za l.ps l.np).2=g at *
 generalize (za l.ps l.np).1=m at *
 generalize qL (D3 t l) l.nt=b1 at *
 generalize qL (Bl t l) l.np=b2 at *
 refine Qs qV qY (K:=UJ p (.fresh true 4 m (λj=>(g j).c) m (some m))) (qr qm (qn s)) (A:=ar) (m:=0) (l:=UK x z t l b1 b2) qh (Ut (qX hx _) (Qo (qX hz _))) ?_;rw[k45];have key:∀r:Option T,r=some (.bool (bif decide (4<l.nt) || decide (4096<l.np) then false else bif b1 then(bif b2 then decide (m=l.np) else false) else false))->r=some (.bool (bif decide (l.b=0) || decide (l.b=1) then(bif decide (4<l.nt) || decide (4096<l.np) then false else bif b1 then(bif b2 then decide (m=l.np) else false) else false) else false))∨¬(l.b=0∨l.b=1):=λr h=>by
  by_cases q:l.b=0∨l.b=1
  .left;rw[h];rcases q with q|q
   .rw[dT q];rfl
   .rw[dT q,Bool.or_true];rfl
  .exact .inr q
 have f:∀r:Option T,(bif decide ((4:Int)<ofNat l.nt) then some (T.bool false) else bif decide ((4096:Int)<ofNat l.np) then some (T.bool false) else
  bif b1 then bif qx (x (Bm t l 0) [] (Ex.exit 0) [t.v,T.ag l.c,T.undef] []) then
   bif b2 then bif qx (z (Bn t l 0) [] (Ex.exit 2) [T.ag l.c,T.undef] []) then
    bif qx (p [bY l.ps l.np none] (T.fresh true 4 m (λj=>(g j).c) m (some m))) then
     bif decide (ofNat m=ofNat l.np) then some (T.bool true) else some (T.bool false) else none else none
   else bif qx (z (Bn t l 0) [] Ex.ret [T.ag l.c,T.bool false] []) then some (T.bool false) else none else none
  else bif qx (x (Bm t l 0) [] Ex.ret [t.v,T.ag l.c,T.bool false] []) then some (T.bool false) else none)=r->r=some (.bool (bif decide (4<l.nt) || decide (4096<l.np) then false else bif b1 then(bif b2 then decide (m=l.np) else false) else false)):=λr h=>by
  rw[←h];clear h key e a;by_cases o:4<l.nt
  .rw[dT o];exact qj (by rw[zu];exact dT ab) rfl
  rw[dF o];refine qB (by rw[zu,dF ab];simp) ?_;by_cases k:4096<l.np
  .rw[dT k];exact qj (by rw[zu];exact dT ab) rfl
  rw[dF k];refine qB (by rw[zu,dF ab];simp) ?_;cases b1
  .exact qB aq (qj (Yo hx (B.2 rfl)) rfl)
  refine qj rfl (qj (Yo hx (B.1 rfl)) ?_);cases b2
  .exact qB aq (qj (Yo hz (u.2 rfl)) rfl)
  refine qj rfl (qj (Yo hz (u.1 rfl)) ?_);refine qj (qu s C) ?_;by_cases d:m=l.np
  .rw[dT d];exact qj (by rw[d];simp) rfl
  .rw[dF d];exact qB (by rw[zu,zu,dF ab];simp) rfl
 grind
def UO(t:bt)(a:t.Ok)(y):(qL (CZ t y) (t.ln y)=true->ax au G16 (ar 133) 133 5 (Qx (EY t y 0) [] (.exit 2) [t.v,.undef,t.v,iI t.h,iI y] []))/\(qL (CZ t y) (t.ln y)=false->ax au G16 (ar 133) 133 5 (Qx (EY t y 0) [] .ret [t.v,iI 1,t.v,iI t.h,iI y] [])):=by
 obtain⟨p,r⟩:=qz au G16 147;have j:∀b,OO (UL p b):=λb=>qr qm (qn r);have hn:=a.ln y;refine ZO qV qh (λi=>EY t y i) (λ_=>[]) (CZ t y) (n:=t.ln y) (λi s _ d=>?_) (λi s _ d=>?_) (λ_=>?_)
 .have e:=UN t a (t.L y i) (a.L y i);simp only[CZ,wd,vI,wR,xA] at d;rw[d.1] at e;have k:=d.2;clear a d;refine Step.dO (A:=ar) (m:=0) (j true) rfl rfl qW (h1:=[]) ?_ .nil;rw[Lu,dH ab];by_cases q:i=0
  .have hw:(t.L y i).w=true:=by grind
   rw[hw]
   exact ST
  ·exact ST
 .have e:=UN t a (t.L y i) (a.L y i);unfold CZ at d;clear a;cases f:D4 t (t.L y i)
  .rw[f] at e;refine bM.dO (A:=ar) (m:=0) (j false) rfl rfl qW (h1:=[]) aq ?_ .nil;rw[Lu];clear f
   exact ST
  .rw[f] at e d;have k:i=0/\(t.L y i).w=false:=by grind
   refine bM.dO (A:=ar) (m:=0) (j true) rfl rfl qW (h1:=[]) aq ?_ .nil;rw[Lu,k.2];have k:=k.1;clear f
   exact ST
 .clear a;refine bM.dO (A:=ar) (m:=0) (j false) rfl rfl qW (h1:=[]) aq ?_ .nil;rw[Lu];grind
def qgX(t:bt)(a:t.Ok):TO 133 [t.v] (iI (bif qL (B5 t) t.h then 0 else 1)):=by
 obtain⟨x,hx⟩:=QU au G16 (ar 133) 133 2;obtain⟨z,hz⟩:=QU au G16 (ar 133) 133 5;have o:=a.h;have e:(qL (B5 t) t.h=true->ax au G16 (ar 133) 133 2 (Qx (EZ t 0) [] (.exit 0) [.undef] []))/\(qL (B5 t) t.h=false->ax au G16 (ar 133) 133 2 (Qx (EZ t 0) [] .ret [iI 1] [])):=by
  refine ZO qV qh (λy=>EZ t y) (λ_=>[]) (B5 t) (n:=t.h) (λy j _ d=>?_) (λy j _ d=>?_) (λ_=>?_)
  .have k:=(UO t a y).1 d;clear a;refine Step.dO (A:=ar) (m:=0) qm rfl rfl (l:=Ls z t y true) (Qo (qX hz _)) (h1:=[]) ?_ .nil;rw[OY,dH ab]
   exact ST
  .have k:=(UO t a y).2 d;clear a;refine bM.dO (A:=ar) (m:=0) qm rfl rfl (l:=Ls z t y false) (Qo (qX hz _)) (h1:=[]) aq ?_ .nil;rw[OY]
   exact ST
  .clear a;refine bM.dO (A:=ar) (m:=0) qm rfl rfl (l:=Ls z t t.h false) (Qo (qX hz _)) (h1:=[]) aq ?_ .nil;rw[OY];grind
 generalize qL (B5 t) t.h=b at *
 refine Qs qV qY qm (A:=ar) (m:=0) (l:=UM x b) qh (Qo (qX hx _)) ?_;rw[k36];cases b
 .exact qB aq (qj (Yo hx (e.2 rfl)) rfl)
 .exact qj rfl (qj (Yo hx (e.1 rfl)) rfl)
def UP(hs:List Int->Bool)(vl:List Int->Int)(bn:List Int->Nat)(ck:Nat):bk:=⟨.row [some .u8,some .i64],.i64,hs,vl,bn,ck,none⟩
def zg(hs:List Int->Bool)(vl:List Int->Int)(bn:List Int->Nat)(ck:Nat):qa:=[yX 0 (UP hs vl bn ck)]
def E0(t:bt)(y i k:Nat):t7:=[.mp 0 0,t.v,iI t.h,iI y,oh (t.L y) (t.ln y) none,iI (t.ln y),iI i,aX (t.L y i).th (t.L y i).nt none,iI (t.L y i).nt,iI k]
def C0(v:T)(t:bt)(y i:Nat):t7:=[v,.mp 0 0,t.v,iI t.h,iI y,oh (t.L y) (t.ln y) none,iI (t.ln y),iI i]
def E1(t:bt)(y i:Nat):t7:=[.mp 0 0,t.v,iI t.h,iI y,oh (t.L y) (t.ln y) none,iI (t.ln y),iI i]
def C1(v:T)(t:bt)(y:Nat):t7:=[v,.mp 0 0,t.v,iI t.h,iI y]
def E2(t:bt)(y:Nat):t7:=[.mp 0 0,t.v,iI t.h,iI y]
noncomputable def Lv(x:t7->qa->Ex->t7->qa->Prop)(t:bt)(y i:Nat)(b:Bool)(h1 h2:qa):List (Nat×(t7->qa->LT)) :=
 [(9,Zy x (.ite b (.ret (.exit 4) (C0 .undef t y i) h1) (.ret .ret (C0 (iI 8) t y i) h2)))]
noncomputable def Lw(x:t7->qa->Ex->t7->qa->Prop)(t:bt)(y:Nat)(b:Bool)(h1 h2:qa):List (Nat×(t7->qa->LT)) :=
 [(6,Zy x (.ite b (.ret (.exit 2) (C1 .undef t y) h1) (.ret .ret (C1 (iI 8) t y) h2)))]
noncomputable def OZ(x:t7->qa->Ex->t7->qa->Prop)(b:Bool)(h1 h2:qa):List (Nat×(t7->qa->LT)) :=
 [(3,Zy x (.ite b (.ret (.exit 0) [.undef] h1) (.ret .ret [iI 8] h2)))]
def nZ(a:aw):List Int:=[a.y,a.n]
def tkH(K:List Int)(hs:List Int->Bool):List Int->Bool:=λl=>gi l K || (gi l K || hs l)
def D5(K:List Int)(vl:List Int->Int):List Int->Int:=λl=>bif gi l K then i64.wrap (vl K+1) else bif gi l K then vl K else vl l
def tkB(K:List Int)(hs:List Int->Bool)(bn:List Int->Nat)(ck:Nat):List Int->Nat:=λl=>bif gi l K then(bif gi K K || hs K then(bif gi K K then(bif hs K then bn K else ck) else bn K) else(bif hs K then ck else ck+1)) else bif gi l K then(bif hs K then bn K else ck) else bn l
def tkC(K:List Int)(hs:List Int->Bool)(ck:Nat):Nat:=bif gi K K || hs K then(bif hs K then ck else ck+1) else(bif hs K then ck else ck+1)+1
def hF:List (List Int)->List Int->Bool
 |[]=>λ_=>false
 |K::L=>tkH K (hF L)
def vF:List (List Int)->List Int->Int
 |[]=>λ_=>0
 |K::L=>D5 K (vF L)
def cF:List (List Int)->Nat
 |[]=>0
 |K::L=>tkC K (hF L) (cF L)
def bF:List (List Int)->List Int->Nat
 |[]=>λ_=>0
 |K::L=>tkB K (hF L) (bF L) (cF L)
def iR(L:List (List Int)):qa:=zg (hF L) (vF L) (bF L) (cF L)
def kA(f:Nat->aw):Nat->List (List Int)->List (List Int)
 |0,L=>L
 |k+1,L=>nZ (f k)::kA f k L
def kB(l:Nat->cQ):Nat->List (List Int)→ List (List Int)
 |0,L=>L
 |i+1,L=>kA (l i).th (l i).nt (kB l i L)
def kC(t:bt):Nat->List (List Int)
 |0=>[]
 |y+1=>kB (t.L y) (t.ln y) (kC t y)
def C2(t:bt)(y i k:Nat):Bool:=!decide (nZ ((t.L y i).th k)∈kA (t.L y i).th k (kB (t.L y) i (kC t y)))
def E3(t:bt)(y i:Nat):Bool:=qL (C2 t y i) (t.L y i).nt
def uU(t:bt)(y:Nat):Bool:=qL (E3 t y) (t.ln y)
section
variable (t:bt) (y i k:Nat) (hs fc gI:List Int->Bool) (vl AB AC:List Int->Int) (bn AD AE:List Int->Nat) (ck AF AG:Nat) (x:t7->qa->Ex->t7->qa->Prop) (b:Bool)
def O0(t:bt)(y i k:Nat)(hs:List Int->Bool)(vl:List Int->Int)(bn:List Int->Nat)(ck:Nat):QO au G16 ar qt 0 134 [] 9 (E0 t y i k) (zg hs vl bn ck) =
( bif decide (ofNat k<ofNat (t.L y i).nt) then gD (decide (0<=ofNat k)&&decide (ofNat k<ofNat (t.L y i).nt))<|gD (decide (IntKind.i64=IntKind.i64)&&true&&decide (ofNat (bif hs [((t.L y i).th k).y,((t.L y i).th k).n] then bn [((t.L y i).th k).y,((t.L y i).th k).n]
 else ck)=ofNat (bif hs [((t.L y i).th k).y,((t.L y i).th k).n] then bn [((t.L y i).th k).y,((t.L y i).th k).n]
 else ck)))<|bif decide ((1:Int) <
 bif decide (((t.L y i).th k).y=((t.L y i).th k).y)&&(decide (((t.L y i).th k).n=((t.L y i).th k).n)&&true) then i64.wrap (vl [((t.L y i).th k).y,((t.L y i).th k).n]+(1:Int))
 else
 bif decide (((t.L y i).th k).y=((t.L y i).th k).y)&&(decide (((t.L y i).th k).n=((t.L y i).th k).n)&&true) then vl [((t.L y i).th k).y,((t.L y i).th k).n]
 else vl [((t.L y i).th k).y,((t.L y i).th k).n]) then zR (C0 (iI 8) t y i) (zg (λl=>gi l [((t.L y i).th k).y,((t.L y i).th k).n] || (gi l [((t.L y i).th k).y,((t.L y i).th k).n] || hs l)) (λl=>bif gi l [((t.L y i).th k).y,((t.L y i).th k).n] then i64.wrap (vl [((t.L y i).th k).y,((t.L y i).th k).n]+(1:Int))
 else
 bif gi l [((t.L y i).th k).y,((t.L y i).th k).n] then vl [((t.L y i).th k).y,((t.L y i).th k).n]
 else vl l) (λl=>bif gi l [((t.L y i).th k).y,((t.L y i).th k).n] then
 bif decide (((t.L y i).th k).y=((t.L y i).th k).y)&&(decide (((t.L y i).th k).n=((t.L y i).th k).n)&&true) || hs [((t.L y i).th k).y,((t.L y i).th k).n] then
 bif decide (((t.L y i).th k).y=((t.L y i).th k).y)&&(decide (((t.L y i).th k).n=((t.L y i).th k).n)&&true) then
 bif hs [((t.L y i).th k).y,((t.L y i).th k).n] then bn [((t.L y i).th k).y,((t.L y i).th k).n]
 else ck
 else bn [((t.L y i).th k).y,((t.L y i).th k).n]
 else
 bif hs [((t.L y i).th k).y,((t.L y i).th k).n] then ck
 else ck+1
 else
 bif gi l [((t.L y i).th k).y,((t.L y i).th k).n] then
 bif hs [((t.L y i).th k).y,((t.L y i).th k).n] then bn [((t.L y i).th k).y,((t.L y i).th k).n]
 else ck
 else bn l) (bif decide (((t.L y i).th k).y=((t.L y i).th k).y)&&(decide (((t.L y i).th k).n=((t.L y i).th k).n)&&true) || hs [((t.L y i).th k).y,((t.L y i).th k).n] then
 bif hs [((t.L y i).th k).y,((t.L y i).th k).n] then ck
 else ck+1
 else(bif hs [((t.L y i).th k).y,((t.L y i).th k).n] then ck
 else ck+1)+(1:Nat))) else
 zN [T.mp (0:Nat) (0:Nat),t.v,iI (.ofNat t.h),iI (.ofNat y),oh (t.L y) (t.ln y)
 none,iI (.ofNat (t.ln y)),iI (.ofNat i),aX (t.L y i).th (t.L y i).nt
 none,iI (.ofNat (t.L y i).nt),iI (i64.wrap (ofNat k+1))] (zg (λl=>gi l [((t.L y i).th k).y,((t.L y i).th k).n] || (gi l [((t.L y i).th k).y,((t.L y i).th k).n] || hs l)) (λl=>bif gi l [((t.L y i).th k).y,((t.L y i).th k).n] then i64.wrap (vl [((t.L y i).th k).y,((t.L y i).th k).n]+(1:Int))
 else
 bif gi l [((t.L y i).th k).y,((t.L y i).th k).n] then vl [((t.L y i).th k).y,((t.L y i).th k).n]
 else vl l) (λl=>bif gi l [((t.L y i).th k).y,((t.L y i).th k).n] then
 bif decide (((t.L y i).th k).y=((t.L y i).th k).y)&&(decide (((t.L y i).th k).n=((t.L y i).th k).n)&&true) || hs [((t.L y i).th k).y,((t.L y i).th k).n] then
 bif decide (((t.L y i).th k).y=((t.L y i).th k).y)&&(decide (((t.L y i).th k).n=((t.L y i).th k).n)&&true) then
 bif hs [((t.L y i).th k).y,((t.L y i).th k).n] then bn [((t.L y i).th k).y,((t.L y i).th k).n]
 else ck
 else bn [((t.L y i).th k).y,((t.L y i).th k).n]
 else
 bif hs [((t.L y i).th k).y,((t.L y i).th k).n] then ck
 else ck+1
 else
 bif gi l [((t.L y i).th k).y,((t.L y i).th k).n] then
 bif hs [((t.L y i).th k).y,((t.L y i).th k).n] then bn [((t.L y i).th k).y,((t.L y i).th k).n]
 else ck
 else bn l) (bif decide (((t.L y i).th k).y=((t.L y i).th k).y)&&(decide (((t.L y i).th k).n=((t.L y i).th k).n)&&true) || hs [((t.L y i).th k).y,((t.L y i).th k).n] then
 bif hs [((t.L y i).th k).y,((t.L y i).th k).n] then ck
 else ck+1
 else(bif hs [((t.L y i).th k).y,((t.L y i).th k).n] then ck
 else ck+1)+(1:Nat))) else
 zX 4 (C0 .undef t y i) (zg hs vl bn ck)):=qh
def O1(t:bt)(y i:Nat)(hs fc gI:List Int->Bool)(vl AB AC:List Int->Int)(bn AD AE:List Int->Nat)(ck AF AG:Nat)(x:t7->qa->Ex->t7->qa->Prop)(b:Bool):QO au G16 ar qt 0 134 (Lv x t y i b (zg fc AB AD AF) (zg gI AC AE AG)) 6 (E1 t y i) (zg hs vl bn ck) =
( bif decide (ofNat i<ofNat (t.ln y)) then gD (decide (0<=ofNat i)&&decide (ofNat i<ofNat (t.ln y)))<|bif b then gD (qx (x (E0 t y i (nat_lit 0)) (zg hs vl bn ck) (.exit 4) (C0 .undef t y i) (zg fc AB AD AF)))<|zN [T.mp (0:Nat) (0:Nat),t.v,iI (.ofNat t.h),iI (.ofNat y),oh (t.L y) (t.ln y)
 none,iI (.ofNat (t.ln y)),iI (i64.wrap (ofNat i+1))] (zg fc AB AD AF) else
 gD (qx (x (E0 t y i (nat_lit 0)) (zg hs vl bn ck) .ret (C0 (iI 8) t y i) (zg gI AC AE AG)))<|zR (C1 (iI 8) t y) (zg gI AC AE AG) else
 zX 2 (C1 .undef t y) (zg hs vl bn ck)):=qh
def O2(t:bt)(y:Nat)(hs fc gI:List Int->Bool)(vl AB AC:List Int->Int)(bn AD AE:List Int->Nat)(ck AF AG:Nat)(x:t7->qa->Ex->t7->qa->Prop)(b:Bool):QO au G16 ar qt 0 134 (Lw x t y b (zg fc AB AD AF) (zg gI AC AE AG)) 3 (E2 t y) (zg hs vl bn ck) =
( bif decide (ofNat y<ofNat t.h) then gD (decide (0<=ofNat y)&&decide (ofNat y<ofNat t.h))<|bif b then gD (qx (x (E1 t y (nat_lit 0)) (zg hs vl bn ck) (.exit 2) (C1 .undef t y) (zg fc AB AD AF)))<|zN [T.mp (0:Nat) (0:Nat),t.v,iI (.ofNat t.h),iI (i64.wrap (ofNat y+1))] (zg fc AB AD AF) else
 gD (qx (x (E1 t y (nat_lit 0)) (zg hs vl bn ck) .ret (C1 (iI 8) t y) (zg gI AC AE AG)))<|zR [iI 8] (zg gI AC AE AG) else
 zX 0 [.undef] (zg hs vl bn ck)):=qh
def UQ(t:bt)(fc gI:List Int->Bool)(AB AC:List Int->Int)(AD AE)(AF AG:Nat)(x:t7->qa->Ex->t7->qa->Prop)(b:Bool):Z6 au G16 ar qt 0 134 (OZ x b (zg fc AB AD AF) (zg gI AC AE AG)) [t.v] =
( bif b then gD (qx (x (E2 t (nat_lit 0)) (zg (λx=>false) (λx=>(0:Int)) (λx=>(0:Nat)) (0:Nat)) (.exit 0) [.undef] (zg fc AB AD AF)))<|some (iI 0) else
 gD (qx (x (E2 t (nat_lit 0)) (zg (λx=>false) (λx=>(0:Int)) (λx=>(0:Nat)) (0:Nat)) .ret [iI 8] (zg gI AC AE AG)))<|some (iI 8)):=qh
end
def Lx:∀{L:List (List Int)},L.Nodup->∀K,vF L K=if K∈L then 1 else 0
 |[],_,K=>by simp[vF]
 |a::L,h,K=>by
  rw[xu] at h;have d:=Lx h.2;show D5 a _ K=_;unfold D5;by_cases q:K=a
  .subst q;rw[yL,d K,wh h.1,wl vO];rfl
  .rw[Is q,wq,wq,d K];grind
def O3(f:Nat->aw)(L:List (List Int))(a:L.Nodup):∀k,(∀j,j<k->nZ (f j)∉kA f j L)->(kA f k L).Nodup
 |0,_=>a
 |k+1,h=>xu.2 ⟨h k ab,O3 f L a k λj d=>h j ab⟩
def qpY(t:bt)(y i:Nat)(d:(kB (t.L y) i (kC t y)).Nodup)(h:E3 t y i=true):(kB (t.L y) (i+1) (kC t y)).Nodup:=by
 refine O3 _ _ d _ λj a=>?_;have:=(qI _ _).1 h j a;unfold C2 at this;grind
def Ly(t:bt)(y:Nat)(a:(kC t y).Nodup):∀n,(∀i,i<n->E3 t y i=true)->(kB (t.L y) n (kC t y)).Nodup
 |0,_=>a
 |n+1,h=>qpY t y n (Ly t y a n λi d=>h i ab) (h n ab)
def O4(t:bt):∀n,(∀y,y<n->uU t y=true)->(kC t n).Nodup
 |0,_=>List.nodup_nil
 |n+1,h=>Ly t n (O4 t n λy a=>h y ab) _ ((qI _ _).1 (h n ab))
def O5(vs:t7):Ex->t7->qa->Prop:=λe v h=>e = .ret/\v=vs/\∃hs vl bn ck,h=zg hs vl bn ck
def UR(t:bt)(r:t.Ok)(y i:Nat)(o:(kB (t.L y) i (kC t y)).Nodup) :
 (E3 t y i=true->ax au G16 (ar 134) 134 9 (Qx (E0 t y i 0) (iR (kB (t.L y) i (kC t y))) (.exit 4) (C0 .undef t y i) (iR (kB (t.L y) (i+1) (kC t y))))) ∧
 (E3 t y i=false->∃e v h,O5 (C0 (iI 8) t y i) e v h/\ax au G16 (ar 134) 134 9 (Qx (E0 t y i 0) (iR (kB (t.L y) i (kC t y))) e v h)):=by
 have hn:=(r.L y i).nt;clear r;generalize hB:kB (t.L y) i (kC t y)=L at *
 have g:∀k,(∀j,j<k->C2 t y i j=true)->(kA (t.L y i).th k L).Nodup:=λk h=>O3 _ _ o k λj a=>by
  have:=h j a;unfold C2 at this;rw[hB] at this;grind
 refine YS qV qh (λk=>E0 t y i k) (λk=>iR (kA (t.L y i).th k L)) (C2 t y i) (n:=(t.L y i).nt) _ (λk u a d=>?_) (λk u a d=>?_) (λ_=>?_)
 .have f:=Lx (g k a) (nZ ((t.L y i).th k));unfold C2 at d;rw[hB] at d;rw[wh rx] at f;clear d a g o;refine Step.dO (A:=ar) (m:=0) qm rfl rfl qW (h1:=iR (kA (t.L y i).th (k+1) L)) ?_ (.refl _);unfold iR
  try dsimp only
  rw[O0,dH ab];refine BT (BT (qj aq (qB ?_ rfl)));show ¬decide (1<D5 (nZ ((t.L y i).th k)) (vF (kA (t.L y i).th k L)) (nZ ((t.L y i).th k)))=true;unfold D5;rw[yL,wp,f];decide
 .have f:=Lx (g k a) (nZ ((t.L y i).th k));unfold C2 at d;rw[hB] at d;rw[wl rx] at f;clear d a g o;refine⟨_,_,iR (kA (t.L y i).th (k+1) L),⟨rfl,rfl,_,_,_,_,rfl⟩,?_⟩;refine bM.dO (A:=ar) (m:=0) qm rfl rfl qW (h1:=iR (kA (t.L y i).th (k+1) L)) aq ?_ (.refl _);unfold iR
  try dsimp only
  rw[O0];refine BT (BT (qj aq (qj ?_ rfl)));show decide (1<D5 (nZ ((t.L y i).th k)) (vF (kA (t.L y i).th k L)) (nZ ((t.L y i).th k)))=true;unfold D5;rw[yL,wp,f];decide
 .refine bM.dO (A:=ar) (m:=0) qm rfl rfl qW (h1:=iR (kA (t.L y i).th (t.L y i).nt L)) aq ?_ (by rw[←hB];exact .refl _);unfold iR
  try dsimp only
  rw[O0];grind
def US(t:bt)(a:t.Ok)(y:Nat)(g:(kC t y).Nodup) :
 (uU t y=true->ax au G16 (ar 134) 134 6 (Qx (E1 t y 0) (iR (kC t y)) (.exit 2) (C1 .undef t y) (iR (kC t (y+1))))) ∧
 (uU t y=false->∃e v h,O5 (C1 (iI 8) t y) e v h/\ax au G16 (ar 134) 134 6 (Qx (E1 t y 0) (iR (kC t y)) e v h)):=by
 obtain⟨x,hx⟩:=QU au G16 (ar 134) 134 9;have hn:=a.ln y;refine YS qV qh (λi=>E1 t y i) (λi=>iR (kB (t.L y) i (kC t y))) (E3 t y) (n:=t.ln y) _ (λi r d f=>?_) (λi r d f=>?_) (λ_=>?_)
 .have o:=(UR t a y i (Ly t y g i d)).1 f;clear f d g a;refine Step.dO (A:=ar) (m:=0) (l:=Lv x t y i true (iR (kB (t.L y) (i+1) (kC t y))) (zg (λ_=>false) (λ_=>0) (λ_=>0) 0)) qm rfl rfl (Qo (qX hx _)) (h1:=iR (kB (t.L y) (i+1) (kC t y))) ?_ (.refl _);unfold iR at *
  try dsimp only
  rw[O1,dH ab];exact BT (BT (qj rfl (BS rfl)))
 .obtain⟨e,v,h,⟨rfl,rfl,hs,vl,bn,ck,rfl⟩,o⟩:=(UR t a y i (Ly t y g i d)).2 f;clear f d g a;refine⟨_,_,_,⟨rfl,rfl,hs,vl,bn,ck,rfl⟩,?_⟩;refine bM.dO (A:=ar) (m:=0) (l:=Lv x t y i false (zg (λ_=>false) (λ_=>0) (λ_=>0) 0) (zg hs vl bn ck)) qm rfl rfl (Qo (qX hx _)) (h1:=zg hs vl bn ck) aq ?_ (.refl _);unfold iR at *
  try dsimp only
  rw[O1];exact BT (BT (qB aq (BS rfl)))
 .refine bM.dO (A:=ar) (m:=0) (l:=Lv x t y (t.ln y) true (zg (λ_=>false) (λ_=>0) (λ_=>0) 0) (zg (λ_=>false) (λ_=>0) (λ_=>0) 0)) qm rfl rfl (Qo (qX hx _)) (h1:=iR (kC t (y+1))) aq ?_ (.refl _);unfold iR
  try dsimp only
  rw[O1];exact BF rfl
def qnR(t:bt)(a:t.Ok) :
 (qL (uU t) t.h=true->ax au G16 (ar 134) 134 3 (Qx (E2 t 0) (iR []) (.exit 0) [.undef] (iR (kC t t.h)))) ∧
 (qL (uU t) t.h=false->∃e v h,O5 [iI 8] e v h/\ax au G16 (ar 134) 134 3 (Qx (E2 t 0) (iR []) e v h)):=by
 obtain⟨x,hx⟩:=QU au G16 (ar 134) 134 6;have hn:=a.h;refine YS qV qh (λy=>E2 t y) (λy=>iR (kC t y)) (uU t) (n:=t.h) _ (λy o d f=>?_) (λy o d f=>?_) (λ_=>?_)
 .have j:=(US t a y (O4 t y d)).1 f;clear f d a;refine Step.dO (A:=ar) (m:=0) (l:=Lw x t y true (iR (kC t (y+1))) (zg (λ_=>false) (λ_=>0) (λ_=>0) 0)) qm rfl rfl (Qo (qX hx _)) (h1:=iR (kC t (y+1))) ?_ (.refl _);unfold iR at *
  try dsimp only
  rw[O2,dH ab];exact BT (BT (qj rfl (BS rfl)))
 .obtain⟨e,v,h,⟨rfl,rfl,hs,vl,bn,ck,rfl⟩,j⟩:=(US t a y (O4 t y d)).2 f;clear f d a;refine⟨_,_,_,⟨rfl,rfl,hs,vl,bn,ck,rfl⟩,?_⟩;refine bM.dO (A:=ar) (m:=0) (l:=Lw x t y false (zg (λ_=>false) (λ_=>0) (λ_=>0) 0) (zg hs vl bn ck)) qm rfl rfl (Qo (qX hx _)) (h1:=zg hs vl bn ck) aq ?_ (.refl _);unfold iR at *
  try dsimp only
  rw[O2];exact BT (BT (qB aq (BS rfl)))
 .refine bM.dO (A:=ar) (m:=0) (l:=Lw x t t.h true (zg (λ_=>false) (λ_=>0) (λ_=>0) 0) (zg (λ_=>false) (λ_=>0) (λ_=>0) 0)) qm rfl rfl (Qo (qX hx _)) (h1:=iR (kC t t.h)) aq ?_ (.refl _);unfold iR
  try dsimp only
  rw[O2];grind
def qd6(t:bt)(a:t.Ok):TO 134 [t.v] (iI (bif qL (uU t) t.h then 0 else 8)):=by
 obtain⟨x,hx⟩:=QU au G16 (ar 134) 134 3;have h:=qnR t a;generalize qL (uU t) t.h=b at h ⊢;cases b
 .obtain⟨e,v,f,⟨rfl,rfl,hs,vl,bn,ck,rfl⟩,d⟩:=h.2 rfl;clear h a;refine Qs qV qY (K:=qt) qm (A:=ar) (m:=0) (l:=OZ x false (zg (λ_=>false) (λ_=>0) (λ_=>0) 0) (zg hs vl bn ck)) qh (Qo (qX hx _)) ?_;rw[UQ];unfold iR at d;exact qB aq (BS rfl)
 .have d:=h.1 rfl;clear h a;refine Qs qV qY (K:=qt) qm (A:=ar) (m:=0) (l:=OZ x true (iR (kC t t.h)) (zg (λ_=>false) (λ_=>0) (λ_=>0) 0)) qh (Qo (qX hx _)) ?_;unfold iR at *
  rw[UQ];exact qj rfl (BS rfl)
def UT(g:Nat->aw)(n:Nat):ap:=⟨0,2,n,λe=>(g e).c,true,false,none⟩
def Bo(m:Nat->Int)(h:Nat):ap:=⟨0,1,h,λe=>[iI (m e)],true,false,none⟩
def cY(g:Nat->aw)(n:Nat)(m s:Nat->Int)(h:Nat):qa:=[UT g n,Bo m h,Bo s h]
def uV(t:bt)(n R a y:Nat)(l:cQ):t7:=[t.v,iI n,.own 0 0 0 R (some n),.own 1 0 0 t.h (some t.h),.own 2 0 0 t.h (some t.h),iI a,iI y,.ag l.c,t.v,iI t.h,iI y]
def AH(t:bt)(n R a y:Nat):t7:=[t.v,iI n,.own 0 0 0 R (some n),.own 1 0 0 t.h (some t.h),.own 2 0 0 t.h (some t.h),iI a,iI y,t.v,iI t.h,iI y]
def Bp(t:bt)(n R a y:Nat):t7:=[t.v,iI n,.own 0 0 0 R (some n),.own 1 0 0 t.h (some t.h),.own 2 0 0 t.h (some t.h),iI a,t.v,iI t.h,iI y]
def E4(t:bt)(n R:Nat):t7:=[t.v,iI n,.own 0 0 0 R (some n),.own 1 0 0 t.h (some t.h),.own 2 0 0 t.h (some t.h)]
noncomputable def UU(p:t7->T->Prop)(n:Nat):bv:=qt.add 69 (qH p λ_=>some (iI n))
noncomputable def Lz(p:t7->T->Prop)(a:aw):bv:=qt.add 148 (qH p λ_=>some (.agg a.c))
noncomputable def GV(x:t7->qa->Ex->t7->qa->Prop)(t:bt)(n R a y:Nat)(b:Bool)(h1 h2:qa):List (Nat×(t7->qa->LT)) :=
 [(12,Zy x (.ite b (.ret (.exit 4) (AH t n R a y) h1) (.ret (.exit 3) (AH t n R a y) h2)))]
def B6(t:bt)(n R a:Nat):t7:=[t.v,iI n,.own 0 0 0 R (some n),.own 1 0 0 t.h (some t.h),.own 2 0 0 t.h (some t.h),iI a]
def iw(m:Nat->Int)(a:aw):Bool:=decide (a.n<m (a.y-1).toNat)
def gY(s:Nat->Int)(y:Nat)(v:Int):Nat->Int:=λe=>bif e==y then v else s e
def qlQ(s:Nat->Int)(y):gY s y (s y)=s:=by
 funext e;show(bif e==y then s y else s e)=s e;grind
def E5(s:Nat->Int)(y)(v):gY s y v y=v:=by simp[gY]
def qnT(s:Nat->Int)(y)(v w):gY (gY s y v) y w=gY s y w:=by
 funext e;unfold gY;cases (e==y)<;>rfl
def O6(t:bt)(n R d y:Nat)(l:cQ)(g:Nat->aw)(m s:Nat->Int)(p)(a):QO au G16 ar (Lz p a) 0 135 [] 12 (uV t n R d y l) (cY g n m s t.h) =
( gD (decide (0<=ofNat y)&&decide (ofNat y<ofNat t.h))<|gD (((0:Nat)+y).blt t.h)<|bif decide (s (0+y)<i64.wrap (ofNat l.nt+ofNat l.np)) then gD (decide (0<=ofNat y)&&decide (ofNat y<ofNat t.h))<|gD (((0:Nat)+y).blt t.h)<|gD (qx (p [.agg l.c,iI (s (0+y))] (.agg a.c)))<|gD (decide (0<=u8.wrap (a.y-1))&&decide (u8.wrap (a.y-1)<ofNat t.h))<|gD (((0:Nat)+(u8.wrap (a.y-(1:Int))).toNat).blt t.h)<|bif decide (m ((0:Nat)+(u8.wrap (a.y-(1:Int))).toNat)<=a.n) then zX 3 (AH t n R d y) (cY g n m s t.h) else
 gD (decide (0<=ofNat y)&&decide (ofNat y<ofNat t.h))<|gD (((0:Nat)+y).blt t.h)<|gD (decide (0<=ofNat y)&&decide (ofNat y<ofNat t.h))<|gD (((0:Nat)+y).blt t.h&&true&&true&&true)<|zN (uV t n R d y l) (cY g n m (λe=>bif e==0+y then i64.wrap (s (0+y)+(1:Int))
 else s e) t.h) else
 zX 4 (AH t n R d y) (cY g n m s t.h)):=qh
def LA(t:bt)(n R a y:Nat)(g:Nat->aw)(m s s1 d:Nat->Int)(x:t7->qa->Ex->t7->qa->Prop)(b:Bool):QO au G16 ar qt 0 135 (GV x t n R a y b (cY g n m s1 t.h) (cY g n m d t.h)) 8 (Bp t n R a y) (cY g n m s t.h) =
( bif decide (ofNat y<ofNat t.h) then gD (decide (0<=ofNat y)&&decide (ofNat y<ofNat t.h))<|gD (decide (0<=ofNat y)&&decide (ofNat y<ofNat t.h))<|gD (((0:Nat)+y).blt t.h)<|bif decide (m (0+y)=ofNat (t.ln y)) then zN [t.v,iI (.ofNat n),.own 0 0 0 R (some n),.own 1 0 0 t.h (some t.h),.own 2 0 0 t.h (some t.h),iI (.ofNat a),t.v,iI (.ofNat t.h),iI (i64.wrap (ofNat y+1))] (cY g n m s t.h) else
 gD (decide (0<=ofNat y)&&decide (ofNat y<ofNat t.h))<|gD (((0:Nat)+y).blt t.h)<|gD (decide (0<=m (0+y))&&decide (m (0+y)<ofNat (t.ln y)))<|bif b then gD (qx (x (uV t n R a y (t.L y (m ((0:Nat)+y)).toNat)) (cY g n m s t.h) (.exit 4) (AH t n R a y) (cY g n m s1 t.h)))<|gD (decide (0<=ofNat y)&&decide (ofNat y<ofNat t.h))<|gD (((0:Nat)+y).blt t.h)<|gD (((0:Nat)+R).ble n)<|gD (((R+(1:Nat))*(17:Nat)).ble 70368744177664)<|bif (R+(1:Nat)).ble n then gD (((0:Nat)+R+(1:Nat)).ble n)<|gD (decide (0<=ofNat y)&&decide (ofNat y<ofNat t.h))<|gD (((0:Nat)+y).blt t.h)<|gD (decide (0<=ofNat y)&&decide (ofNat y<ofNat t.h))<|gD (((0:Nat)+y).blt t.h&&true&&true&&true)<|gD (decide (0<=ofNat y)&&decide (ofNat y<ofNat t.h))<|gD (((0:Nat)+y).blt t.h&&true&&true&&true)<|zX 2 (B6 t n (R+1) a) [.mk 0 2 n (λj=>bif ((0:Nat)+R).ble j&&j.blt ((0:Nat)+R+1) then [[uI (u8.wrap (i64.wrap (ofNat y+(1:Int)))),iI (m ((0:Nat)+y))]].getD ((0:Nat)+(j-((0:Nat)+R))) []
 else(g j).c) true false
 none,Bo (λe=>bif e==0+y then i64.wrap (m (0+y)+(1:Int))
 else m e) t.h,Bo (λe=>bif e==0+y then(0:Int)
 else s1 e) t.h,.mk 0 2 1 (λj=>[[uI (u8.wrap (i64.wrap (ofNat y+(1:Int)))),iI (m ((0:Nat)+y))]].getD j []) true true
 none] else
 gD (decide (0<=ofNat y)&&decide (ofNat y<ofNat t.h))<|gD (((0:Nat)+y).blt t.h)<|gD (decide (0<=ofNat y)&&decide (ofNat y<ofNat t.h))<|gD (((0:Nat)+y).blt t.h&&true&&true&&true)<|gD (decide (0<=ofNat y)&&decide (ofNat y<ofNat t.h))<|gD (((0:Nat)+y).blt t.h&&true&&true&&true)<|zX 2 [t.v,iI (.ofNat n),.own 4 0 0 (R+1)
 none,.own 1 0 0 t.h (some t.h),.own 2 0 0 t.h (some t.h),iI (.ofNat a)] [UT g n,Bo (λe=>bif e==0+y then i64.wrap (m (0+y)+(1:Int))
 else m e) t.h,Bo (λe=>bif e==0+y then(0:Int)
 else s1 e) t.h,.mk 0 2 1 (λj=>[[uI (u8.wrap (i64.wrap (ofNat y+(1:Int)))),iI (m ((0:Nat)+y))]].getD j []) true true
 none,.mk 0 2 (R+1) (λj=>bif j.blt R then(g ((0:Nat)+j)).c
 else [[uI (u8.wrap (i64.wrap (ofNat y+(1:Int)))),iI (m ((0:Nat)+y))]].getD ((0:Nat)+(j-R)) []) true false
 none] else
 gD (qx (x (uV t n R a y (t.L y (m ((0:Nat)+y)).toNat)) (cY g n m s t.h) (.exit 3) (AH t n R a y) (cY g n m d t.h)))<|zN [t.v,iI (.ofNat n),.own 0 0 0 R (some n),.own 1 0 0 t.h (some t.h),.own 2 0 0 t.h (some t.h),iI (.ofNat a),t.v,iI (.ofNat t.h),iI (i64.wrap (ofNat y+1))] (cY g n m d t.h) else
 zX 2 (B6 t n R a) (cY g n m s t.h)):=qh
def UV(t:bt)(j:t.Ok)(n R f y:Nat)(l:cQ)(e:l.Ok)(g)(m s:Nat->Int)(N:y<t.h)(k:Nat)(o:s y=(k:Int))(D:k<l.nt+l.np)(i:t.has (Zh l k)=true)(u:(Zh l k).Ok){ex:Bool}(d:iw m (Zh l k)=ex) :
 (bif ex then Step au G16 (ar 135) 135 12 3 (uV t n R f y l) (cY g n m s t.h) (uV t n R f y l) (cY g n m (gY s y ((k:Int)+1)) t.h)
  else bM au G16 (ar 135) 135 12 3 (uV t n R f y l) (cY g n m s t.h) (.exit 3) (AH t n R f y) (cY g n m s t.h))=True:=by
 obtain⟨p,r⟩:=qz au G16 148;have H:=qrH l e k D;have P:=j.h;have C:=e.nt;have O:=e.np;have x:=u.y;clear j e u;unfold bt.has at i;unfold iw at d;simp only[wd,wm] at i;obtain⟨⟨⟨M,L⟩,J⟩,I⟩:=i;generalize Zh l k=a at *
 have hw:u8.wrap (a.y-1)=a.y-1:=nY ab ab;cases ex
 .refine eq_true ?_;refine bM.dO (A:=ar) (m:=0) (K:=Lz p a) (qr qm (qn r)) rfl rfl qW (h1:=cY g n m s t.h) aq ?_ (.refl _);rw[O6];have d:=of_decide_eq_false d;simp only[wo,o,hw]
  exact ST
 .refine eq_true ?_;refine Step.dO (A:=ar) (m:=0) (K:=Lz p a) (qr qm (qn r)) rfl rfl qW (h1:=cY g n m (gY s y ((k:Int)+1)) t.h) ?_ (.refl _);rw[O6];have d:=xX d;have B:i64.wrap ((k:Int)+1)=(k:Int)+1:=Qv ab ab;simp only[wo,o,hw,B]
  exact ST
def qp0(t:bt)(n R a y:Nat)(l:cQ)(g:Nat->aw)(m s:Nat->Int)(c:Nat):Ex->t7->qa->Prop:=λe v h=>e = .exit 3/\v=AH t n R a y ∧
 ∃j:Nat,c<=j/\j<l.nt+l.np/\iw m (Zh l j)=false/\(∀i,c<=i->i<j->iw m (Zh l i)=true)/\h=cY g n m (gY s y j) t.h
def qp1(t)(f:t.Ok)(n R a y)(l:cQ)(d:l.Ok)(g:Nat->aw)(m s:Nat->Int)(x:y<t.h)(c:Nat)(J:c<=l.nt+l.np)(o:∀i,i<l.nt+l.np->t.has (Zh l i)=true)(u:∀i,(Zh l i).Ok) :
 (qL (λk=>iw m (Zh l (c+k))) (l.nt+l.np-c)=true->ax au G16 (ar 135) 135 12 (Qx (uV t n R a y l) (cY g n m (gY s y ((c+0:Nat):Int)) t.h) (.exit 4) (AH t n R a y) (cY g n m (gY s y ((l.nt+l.np:Nat):Int)) t.h))) ∧
 (qL (λk=>iw m (Zh l (c+k))) (l.nt+l.np-c)=false->∃e v h,qp0 t n R a y l g m s c e v h/\ax au G16 (ar 135) 135 12 (Qx (uV t n R a y l) (cY g n m (gY s y ((c+0:Nat):Int)) t.h) e v h)):=by
 refine YS qV qh (λk=>uV t n R a y l) (λk=>cY g n m (gY s y ((c+k:Nat):Int)) t.h) _ (n:=l.nt+l.np-c) _ (λk H B j=>?_) (λk H B j=>?_) (λ_=>?_)
 .have r:=of_eq_true (UV t f n R a y l d g m (gY s y ((c+k:Nat):Int)) x (c+k) (E5 _ _ _) ab (o _ ab) (u _) j);rw[qnT] at r;exact r
 .have r:=of_eq_true (UV t f n R a y l d g m (gY s y ((c+k:Nat):Int)) x (c+k) (E5 _ _ _) ab (o _ ab) (u _) j);refine⟨_,_,_,⟨rfl,rfl,c+k,ab,ab,j,λi I L=>?_,rfl⟩,r⟩;have:=B (i-c) ab;rw[show c+(i-c)=i by omega] at this;omega
 .rw[show c+(l.nt+l.np-c)=l.nt+l.np by omega];have C:gY s y ((l.nt+l.np:Nat):Int) y=((l.nt+l.np:Nat):Int):=E5 _ _ _;generalize gY s y ((l.nt+l.np:Nat):Int)=s at *
  have N:=f.h;have E:=d.nt;have M:=d.np;clear f d o u;obtain⟨p,D⟩:=qz au G16 148;refine bM.dO (A:=ar) (m:=0) (K:=Lz p ⟨0,0⟩) (qr qm (qn D)) rfl rfl qW (h1:=cY g n m s t.h) aq ?_ (.refl _);rw[O6];simp only[wo,C]
  exact ST
def D6(g:Nat->aw)(R:Nat)(a:aw):Nat->aw:=λe=>bif e==R then a else g e
def qlR(g:Nat->aw)(R:Nat)(a:aw)(j:Nat):(D6 g R a j).c=(bif Nat.ble R j&&Nat.blt j (R+1) then([a.c]:List t7).getD (j-R) [] else(g j).c):=by
 unfold D6;by_cases h:j=R
 .subst h;rw[qR (wc _),qN ab,va,show(j==j)=true by simp];rfl
 .rw[show(j==R)=false by grind];by_cases q:R<=j
  .rw[qR q,QZ ab];rfl
  .rw[ZE ab];rfl
def qrL(t:bt)(n R a:Nat)(g:Nat->aw)(m s:Nat->Int):bM au G16 (ar 135) 135 8 3 (Bp t n R a t.h) (cY g n m s t.h) (.exit 2) (B6 t n R a) (cY g n m s t.h):=by
 obtain⟨x,hx⟩:=QU au G16 (ar 135) 135 12;refine bM.dO (A:=ar) (m:=0) (l:=GV x t n R a t.h true (cY g n m s t.h) (cY g n m s t.h)) qm rfl rfl (Qo (qX hx _)) (h1:=cY g n m s t.h) aq ?_ (.refl _);rw[LA];grind
def qp2(t:bt)(d:t.Ok)(n R a y:Nat)(g:Nat->aw)(m s:Nat->Int)(f:y<t.h)(e:m y=(t.ln y:Int)):Step au G16 (ar 135) 135 8 3 (Bp t n R a y) (cY g n m s t.h) (Bp t n R a (y+1)) (cY g n m s t.h):=by
 obtain⟨x,hx⟩:=QU au G16 (ar 135) 135 12;have j:=d.h;clear d;refine Step.dO (A:=ar) (m:=0) (l:=GV x t n R a y true (cY g n m s t.h) (cY g n m s t.h)) qm rfl rfl (Qo (qX hx _)) (h1:=cY g n m s t.h) ?_ (.refl _);rw[LA,dH ab];simp only[wo,e]
 exact ST
def qp3(t:bt)(e:t.Ok)(n R a y:Nat)(g:Nat->aw)(m s d:Nat->Int)(j:y<t.h)(k:Nat)(f:m y=(k:Int))(r:k<t.ln y)
 (o:ax au G16 (ar 135) 135 12 (Qx (uV t n R a y (t.L y k)) (cY g n m s t.h) (.exit 3) (AH t n R a y) (cY g n m d t.h))):Step au G16 (ar 135) 135 8 3 (Bp t n R a y) (cY g n m s t.h) (Bp t n R a (y+1)) (cY g n m d t.h):=by
 obtain⟨x,hx⟩:=QU au G16 (ar 135) 135 12;have B:=e.h;have i:=e.ln y;clear e;refine Step.dO (A:=ar) (m:=0) (l:=GV x t n R a y false (cY g n m s t.h) (cY g n m d t.h)) qm rfl rfl (Qo (qX hx _)) (h1:=cY g n m d t.h) ?_ (.refl _);rw[LA,dH ab];simp only[wo,f,Int.toNat_natCast]
 exact ST
def qp4(t:bt)(d:t.Ok)(n R a y:Nat)(g:Nat->aw)(m s s1:Nat->Int)(u:y<t.h)(r:t.h<=255)(k:Nat)(f:m y=(k:Int))(C:k<t.ln y)(hR:R<n)(hn:n<=10000000)
 (B:ax au G16 (ar 135) 135 12 (Qx (uV t n R a y (t.L y k)) (cY g n m s t.h) (.exit 4) (AH t n R a y) (cY g n m s1 t.h))):bM au G16 (ar 135) 135 8 3 (Bp t n R a y) (cY g n m s t.h) (.exit 2) (B6 t n (R+1) a) (cY (D6 g R ⟨(y:Int)+1,k⟩) n (gY m y ((k:Int)+1)) (gY s1 y 0) t.h):=by
 obtain⟨x,hx⟩:=QU au G16 (ar 135) 135 12;have H:=d.h;have i:=d.ln y;clear d;have o:u8.wrap (ofNat (y+1))=((y:Int)+1):=by rw[nY (by show(0:Int)<=((y+1:Nat):Int);omega) (by show((y+1:Nat):Int)<=255;omega)];grind
 have e:i64.wrap ((k:Int)+1)=(k:Int)+1:=Qv ab ab;refine bM.mk (A:=ar) (m:=0) (l:=GV x t n R a y true (cY g n m s1 t.h) (cY g n m s t.h)) qm rfl rfl (Qo (qX hx _)) (aW:=B6 t n (R+1) a) aq 3 (wc _) (h1:=[⟨0,2,n,λj=>bif Nat.ble R j&&Nat.blt j (R+1) then([[uI ((y:Int)+1),iI k]]:List t7).getD (j-R) [] else(g j).c,true,false,none⟩,Bo (gY m y ((k:Int)+1)) t.h,Bo (gY s1 y 0) t.h,⟨0,2,1,λj=>[[uI ((y:Int)+1),iI k]].getD j [],true,true,none⟩]) ?_ rfl (.cons ⟨rfl,rfl,rfl,id,λj _=>qlR g R ⟨(y:Int)+1,k⟩ j⟩ (.refl _));rw[LA,dH ab];simp only[wo,f,Int.toNat_natCast,o,e]
 exact ST
def cM(M:Nat->Nat):Nat->Int:=λe=>(M e:Int)
def nN(t:bt)(M:Nat->Nat)(y:Nat):Nat:=(t.L y (M y)).nt+(t.L y (M y)).np
def rO(t:bt)(M:Nat->Nat)(y:Nat):Bool:=decide (M y<t.ln y)&&qL (λi=>iw (cM M) (Zh (t.L y (M y)) i)) (nN t M y)
def inc(M:Nat->Nat)(y:Nat):Nat->Nat:=λe=>bif e==y then M e+1 else M e
def O7(M:Nat->Nat)(y:Nat):inc M y y=M y+1:=by grind[inc]
def GW(M:Nat->Nat){y e:Nat}(h:e≠y):inc M y e=M e:=by grind[inc]
def qp5(M:Nat->Nat)(y:Nat):gY (cM M) y ((M y:Int)+1)=cM (inc M y):=by
 funext e;by_cases h:e=y
 .rw[h,E5];unfold cM;rw[O7];omega
 .unfold cM;rw[GW M h];grind[gY]
def qnV{M:Nat->Nat}{y:Nat}{a:aw}(h:iw (cM M) a=true):iw (cM (inc M y)) a=true:=by
 unfold iw cM at *
 rw[wm] at *
 by_cases q:(a.y-1).toNat=y
 .rw[q] at h ⊢;rw[O7];omega
 .rw[GW M q];exact h
def AI(t:bt)(M:Nat->Nat)(s:Nat->Int):Prop:=∀y,y<t.h->∃c:Nat,s y=(c:Int)/\c<=nN t M y/\∀i,i<c->iw (cM M) (Zh (t.L y (M y)) i)=true
def TR(t:bt):Prop:=∀y i,y<t.h->i<t.ln y->∀k,k<(t.L y i).nt+(t.L y i).np->t.has (Zh (t.L y i) k)=true
def UX(t:bt)(M:Nat->Nat):Prop:=∀y,y<t.h->M y<=t.ln y
def qp6{l:cQ}(a:l.Ok)(i:Nat):(Zh l i).Ok:=by
 unfold Zh;by_cases h:i<l.nt
 .rw[wl h];exact a.th i
 .rw[wh h];exact(a.ps _).i
def AI.gY{t:bt}{M:Nat->Nat}{s:Nat->Int}(h:AI t M s){y c:Nat}(e:c<=nN t M y)(a:∀i,i<c->iw (cM M) (Zh (t.L y (M y)) i)=true):AI t M (Go.Ab.gY s y c):=by
 intro z hz;by_cases q:z=y
 .subst q;exact⟨c,E5 _ _ _,e,a⟩
 .obtain⟨d,j,g,f⟩:=h z hz;grind[Go.Ab.gY]
def AI.take{t:bt}{M:Nat->Nat}{s:Nat->Int}(h:AI t M s)(y:Nat):AI t (inc M y) (Go.Ab.gY s y 0):=by
 intro z hz;by_cases q:z=y
 .subst q;exact⟨0,E5 _ _ _,wN _,λi a=>ab⟩
 .obtain⟨d,g,f,e⟩:=h z hz;refine⟨d,?_,?_,?_⟩
  .rw[←g];grind[Go.Ab.gY]
  .unfold nN at *;rw[GW M q];exact f
  .rw[GW M q];exact λi a=>qnV (e i a)
def qrM(t:bt)(n R a:Nat)(g:Nat->aw)(M:Nat->Nat):Ex->t7->qa->Prop:=λe v h=>e = .exit 2 ∧
 ((∃s,(∀y,y<t.h->rO t M y=false)/\v=B6 t n R a/\h=cY g n (cM M) s t.h/\AI t M s) ∨
  (∃y s,y<t.h/\rO t M y=true/\(∀z,z<y->rO t M z=false)/\v=B6 t n (R+1) a/\h=cY (D6 g R ⟨(y:Int)+1,M y⟩) n (cM (inc M y)) s t.h/\AI t (inc M y) s))
def qrN(t:bt)(u:t.Ok)(tr:TR t)(I:t.h<=255)(n R d:Nat)(hR:R<n)(hn:n<=10000000)(g:Nat->aw)(M:Nat->Nat)(U:UX t M)(s:Nat->Int)(o:AI t M s) :
 ∃e v h,qrM t n R d g M e v h/\ax au G16 (ar 135) 135 8 (Qx (Bp t n R d 0) (cY g n (cM M) s t.h) e v h):=by
 refine UA (P:=au) (Gl:=G16) (f:=135) (r:=8) (an:=ar 135) (k:=3) qV qh
  (λr E h=>∃y s,r=t.h-y/\y<=t.h/\E=Bp t n R d y/\h=cY g n (cM M) s t.h/\AI t M s/\∀z,z<y->rO t M z=false) _ ?_ (n:=t.h) rfl ⟨0,s,rfl,wN _,rfl,rfl,o,λz hz=>ab⟩
 rintro r E h ⟨y,s,rfl,a,rfl,rfl,o,hz⟩;by_cases he:y=t.h
 .right;subst he;exact⟨_,_,_,qrL t n R d g (cM M) s,rfl,.inl ⟨s,hz,rfl,rfl,o⟩⟩
 .have a:y<t.h:=by omega
  by_cases S:M y=t.ln y
  .left;refine⟨t.h-(y+1),_,_,ab,qp2 t u n R d y g (cM M) s a (by unfold cM;rw[S]),y+1,s,rfl,ab,rfl,rfl,o,λz Q=>?_⟩;grind[rO]
  .have x:M y<t.ln y:=by have:=U y a;omega
   obtain⟨c,N,J,V⟩:=o y a;have B:=qp1 t u n R d y (t.L y (M y)) (u.L _ _) g (cM M) s a c J (tr y (M y) a x) λi=>qp6 (u.L _ _) i;have es:gY s y ((c+0:Nat):Int)=s:=by rw[Nat.add_zero,←N,qlQ]
   rw[es] at B;cases D:qL (λk=>iw (cM M) (Zh (t.L y (M y)) (c+k))) ((t.L y (M y)).nt+(t.L y (M y)).np-c)
   .left;obtain⟨e,v,h,⟨rfl,rfl,j,Y,X,O,W,rfl⟩,A⟩:=B.2 D;refine⟨t.h-(y+1),_,_,ab,qp3 t u n R d y g (cM M) s (gY s y j) a (M y) rfl x A,y+1,_,rfl,ab,rfl,rfl,o.gY (by grind[nN]) λi C=>?_,λz Q=>?_⟩
    .grind
    .by_cases q:z=y
     .subst q;unfold rO;rw[(YR _ _).2 ⟨j,by unfold nN;omega,O⟩,Bool.and_false]
     grind
   .right;have A:=B.1 D;have H:=(qI _ _).1 D;refine⟨_,_,_,qp4 t u n R d y g (cM M) s _ a I (M y) rfl x hR hn A,rfl,.inr ⟨y,_,a,?_,hz,rfl,by rw[←qp5],(o.gY (y:=y) (c:=(t.L y (M y)).nt+(t.L y (M y)).np) (wc _) λi C=>?_).take y⟩⟩
    .unfold rO;rw[show decide (M y<t.ln y)=true by rw[wm];exact x,wQ];refine(qI _ _).2 λi C=>?_;by_cases q:i<c
     .grind
     .have:=H (i-c) (by unfold nN at C;omega);rw[show c+(i-c)=i by omega] at this;omega
    .by_cases q:i<c
     .grind
     .have:=H (i-c) ab;rw[show c+(i-c)=i by omega] at this;omega
noncomputable def LB(x:t7->qa->Ex->t7->qa->Prop)(t:bt)(n R a:Nat)(h1:qa):List (Nat×(t7->qa->LT)) :=
 [(8,Zy x (.ret (.exit 2) (B6 t n a R) h1))]
noncomputable def UY(x:t7->qa->Ex->t7->qa->Prop)(n R:Nat)(h1:qa):List (Nat×(t7->qa->LT)) :=
 [(5,Zy x (.ret (.exit 0) [.own 0 0 0 R (some n)] h1))]
def pick(t:bt)(M:Nat->Nat):Option Nat:=(List.range t.h).find? (rO t M)
def oM(t:bt):Nat->Nat->Nat
 |0=>λ_=>0
 |k+1=>match pick t (oM t k) with|some y=>inc (oM t k) y|none=>oM t k
def oG(t:bt):Nat->Nat->aw
 |0=>λ_=>⟨0,0⟩
 |k+1=>match pick t (oM t k) with|some y=>D6 (oG t k) k ⟨(y:Int)+1,oM t k y⟩|none=>oG t k
def uW(t:bt)(k:Nat):Bool:=(pick t (oM t k)).isSome
def qkE{t}{M}{y}(a:y<t.h)(hr:rO t M y=true)(hz:∀z,z<y->rO t M z=false):pick t M=some y:=by
 unfold pick;rw[List.find?_eq_some_iff_getElem];grind
def qkF{t}{M}(hz:∀z,z<t.h->rO t M z=false):pick t M=none:=by
 grind[pick]
def UZ{t}{M}{y}(h:pick t M=some y):y<t.h/\rO t M y=true:=by
 unfold pick at h;grind
def O8(t):∀k,UX t (oM t k)
 |0=>λy _=>wN _
 |k+1=>by
  have a:=O8 t k;unfold oM;cases h:pick t _ with
  |none=>exact a
  |some y =>
   intro z hz;show inc _ y z<=_;by_cases q:z=y
   .subst q;rw[O7];have:=(UZ h).2;unfold rO at this;grind
   .rw[GW _ q];exact a z hz
def qrO(t:bt)(n:Nat):Ex->t7->qa->Prop:=λe v h=>e = .exit 0/\∃R s,R<=n/\(∀j,j<R->uW t j=true)/\(R=n∨uW t R=false)/\v=[.own 0 0 0 R (some n)]/\h=cY (oG t R) n (cM (oM t R)) s t.h
def O9(t:bt)(n R a)(g d)(m m1 s s1)(x):QO au G16 ar qt 0 135 (LB x t n R a (cY d n m1 s1 t.h)) 5 (E4 t n R) (cY g n m s t.h) =
( bif decide (ofNat R<ofNat n) then gD (qx (x (Bp t n R R (nat_lit 0)) (cY g n m s t.h) (.exit 2) (B6 t n a R) (cY d n m1 s1 t.h)))<|bif decide (ofNat a=ofNat R) then zX 0 [.own 0 0 0 a (some n)] (cY d n m1 s1 t.h) else
 zN (E4 t n a) (cY d n m1 s1 t.h) else
 zX 0 [.own 0 0 0 R (some n)] (cY g n m s t.h)):=qh
def k38(t:bt)(n R:Nat)(g)(m s)(p)(x):Z6 au G16 ar (UU p n) 0 135 (UY x n R (cY g n m s t.h)) [t.v] =
( gD (qx (p [t.v] (iI (.ofNat n))))<|gD (decide (0<=ofNat n)&&decide (ofNat n*16<=140737488355328)&&decide (ofNat n<=9223372036854775807))<|gD (decide (0<=ofNat t.h)&&decide (ofNat t.h<=ofNat t.h)&&decide (ofNat t.h*8<=140737488355328)&&decide (ofNat t.h<=9223372036854775807))<|gD (decide (0<=ofNat t.h)&&decide (ofNat t.h<=ofNat t.h)&&decide (ofNat t.h*8<=140737488355328)&&decide (ofNat t.h<=9223372036854775807))<|gD (qx (x (E4 t n (0:Nat)) [.mk 0 2 n (λx=>[uI 0,iI 0]) true false
 none,Bo (λe=>(0:Int)) t.h,Bo (λe=>(0:Int)) t.h] (.exit 0) [.own 0 0 0 R (some n)] (cY g n m s t.h)))<|some (bif ((0:Nat)+R).ble n then .fresh true (2:Nat) n (λj=>(g ((0:Nat)+j)).c) R (some n)
 else .undef)):=qh
def qrP(t:bt)(I:t.Ok)(tr:TR t)(N:t.h<=255)(n)(hn:n<=10000000) :
 ∃e v h,qrO t n e v h/\ax au G16 (ar 135) 135 5 (Qx (E4 t n 0) (cY (oG t 0) n (cM (oM t 0)) (λ_=>0) t.h) e v h):=by
 obtain⟨x,hx⟩:=QU au G16 _ 135 8;refine UA (P:=au) (Gl:=G16) (f:=135) (r:=5) (an:=ar 135) (k:=3) qV qh
  (λr D h=>∃k s,r=n-k/\k<=n/\D=E4 t n k/\h=cY (oG t k) n (cM (oM t k)) s t.h/\AI t (oM t k) s/\∀j,j<k->uW t j=true) _ ?_ (n:=n) rfl ⟨0,_,rfl,wN _,rfl,rfl,λy _=>⟨0,rfl,wN _,λi O=>ab⟩,λz hz=>ab⟩
 rintro r D h ⟨k,s,rfl,B,rfl,rfl,u,o⟩;by_cases he:k=n
 .right;subst he;refine⟨.exit 0,[.own 0 0 0 k (some k)],cY (oG t k) k (cM (oM t k)) s t.h,?_,rfl,k,s,B,o,.inl rfl,rfl,rfl⟩;refine bM.dO (A:=ar) (m:=0) (l:=LB x t k k k (cY (oG t k) k (cM (oM t k)) s t.h)) qm rfl rfl (Qo (qX hx _)) (h1:=cY (oG t k) k (cM (oM t k)) s t.h) aq ?_ (.refl _);rw[O9];grind
 .have B:k<n:=by omega
  obtain⟨e,v,h,⟨rfl,d⟩,M⟩:=qrN t I tr N n k k B hn (oG t k) (oM t k) (O8 t k) s u;clear I tr;rcases d with⟨s1,a,rfl,rfl,g⟩|⟨y,s1,a,g,H,rfl,rfl,E⟩
  .right;refine⟨.exit 0,[.own 0 0 0 k (some n)],cY (oG t k) n (cM (oM t k)) s1 t.h,?_,rfl,k,s1,ab,o,.inr (by unfold uW;rw[qkF a];rfl),rfl,rfl⟩;clear a g u o;refine bM.dO (A:=ar) (m:=0) (l:=LB x t n k k (cY (oG t k) n (cM (oM t k)) s1 t.h)) qm rfl rfl (Qo (qX hx _)) (h1:=cY (oG t k) n (cM (oM t k)) s1 t.h) aq ?_ (.refl _);rw[O9];exact BT (BS (BT rfl))
  .left;have d:=qkE a g H;have C:oM t (k+1)=inc (oM t k) y:=by show(match pick t (oM t k) with|some y=>inc (oM t k) y|none=>oM t k)=_;rw[d]
   have L:oG t (k+1)=D6 (oG t k) k ⟨(y:Int)+1,oM t k y⟩:=by show(match pick t (oM t k) with|some y=>D6 (oG t k) k ⟨(y:Int)+1,oM t k y⟩|none=>oG t k)=_;rw[d]
   refine⟨n-(k+1),E4 t n (k+1),cY (oG t (k+1)) n (cM (oM t (k+1))) s1 t.h,ab,?_,k+1,s1,rfl,ab,rfl,rfl,by rw[C];exact E,λj Q=>?_⟩
   .rw[←C,←L] at M;clear a g H E u o d C L;refine Step.dO (A:=ar) (m:=0) (l:=LB x t n k (k+1) (cY (oG t (k+1)) n (cM (oM t (k+1))) s1 t.h)) qm rfl rfl (Qo (qX hx _)) (h1:=cY (oG t (k+1)) n (cM (oM t (k+1))) s1 t.h) ?_ (.refl _);rw[O9];exact BT (BS (BF rfl))
   grind[uW]
def qp8(t:bt)(a:t.Ok)(tr:TR t)(g:t.h<=255) :
 ∃R,R<=t.sum t.h/\(∀j,j<R->uW t j=true)/\(R=t.sum t.h∨uW t R=false)/\TO 135 [t.v] (.fresh true 2 (t.sum t.h) (λj=>(oG t R j).c) R (some (t.sum t.h))):=by
 obtain⟨x,hx⟩:=QU au G16 (ar 135) 135 5;obtain⟨p,k⟩:=qz au G16 69;have hn:=nT t a t.h;have o:=UG t a;obtain⟨e,v,h,⟨rfl,R,s,i,f,d,rfl,rfl⟩,u⟩:=qrP t a tr g (t.sum t.h) ab;refine⟨R,i,f,d,?_⟩;clear tr a f d;generalize t.sum t.h=n at *
 refine aD.ma (r:=.fresh true 2 (n-0) (λj=>(oG t R (0+j)).c) R (some n)) ?_ (.fresh ab ab (λm B=>rx) λj C=>by rw[wo]);refine Qs qV qY (K:=UU p n) (qr qm (qn k)) (A:=ar) (m:=0) (l:=UY x n R (cY (oG t R) n (cM (oM t R)) s t.h)) qh (Qo (qX hx _)) ?_;rw[k38,show Nat.ble (0+R) n=true from qR ab];refine BS (BT (BT (BT (BS ?_))));rfl
noncomputable def U0(p q r u w:t7->T->Prop)(n:Nat)(e1 a:Int)(R:Nat)(g:Nat->aw):bv :=
 ((((qt.add 69 (qH p λ_=>some (iI n))).add 133 (qH q λ_=>some (iI e1))).add 134 (qH r λ_=>some (iI a))).add 135 (qH u λ_=>some (.fresh true 2 n (λj=>(g j).c) R (some n)))).add 136 (qH w λ_=>some (.fresh true 2 R (λj=>(g j).c) R (some R)))
noncomputable def LC(p:t7->T->Prop)(v:T):bv:=qt.add 107 (qH p λ_=>some v)
def E6(p q r u w:t7->T->Prop)(n:Nat)(e1 a:Int)(R:Nat)(g:Nat->aw)(t:bt):QK au G16 ar (U0 p q r u w n e1 a R g) 0 107 [t.v] =
( bif !decide (ofNat t.h=6) then some (.aJ [.ae,iI 5]) else
 gD (qx (p [t.v] (iI (.ofNat n))))<|bif decide (2048<ofNat n) then some (.aJ [.ae,iI 3]) else
 gD (qx (q [t.v] (iI e1)))<|bif !decide (e1=0) then some (.aJ [.ae,iI e1]) else
 gD (qx (r [t.v] (iI a)))<|bif !decide (a=0) then some (.aJ [.ae,iI a]) else
 gD (qx (u [t.v] (.fresh true (2:Nat) n (λj=>(g j).c) R (some n))))<|gD (qx (p [t.v] (iI (.ofNat n))))<|bif decide (ofNat R<ofNat n) then some (.aJ [.ae,iI 6]) else
 gD (qx (w [bif ((0:Nat)+R).ble n then aX (λj=>g (0+j)) R (some n)
 else .undef] (.fresh true (2:Nat) R (λj=>(g j).c) R (some R))))<|some (.aJ [bif ((0:Nat)+R).ble R then .fresh true (2:Nat) R (λj=>(g ((0:Nat)+j)).c) R (some R)
 else .undef,iI 0])):=qh
def quD(p)(e)(t:bt):QK au G16 ar (LC p (.aJ [.ae,iI e])) 0 77 [t.v] =
( gD (qx (p [t.v] (.aJ [.ae,iI e])))<|some (iI e)):=qh
def quE(p)(R)(g:Nat->aw)(t:bt):QK au G16 ar (LC p (.aJ [.fresh true 2 R (λj=>(g j).c) R (some R),iI 0])) 0 77 [t.v] =
( gD (qx (p [t.v] (.aJ [.fresh true (2:Nat) R (λj=>(g j).c) R (some R),iI 0])))<|some (iI 0)):=qh
def Br(t:bt):Nat->Nat
 |0=>0
 |k+1=>bif Br t k==k&&uW t k then k+1 else Br t k
def yS(t:bt):Nat:=Br t (t.sum t.h)
def U3(t):∀k,Br t k<=k
 |0=>wc _
 |k+1=>by
  have a:=U3 t k;grind[Br]
def Pa(t)(n R)(h1:R<=n)(h2:∀j,j<R->uW t j=true)(a:R=n∨uW t R=false):∀k,k<=n->Br t k=min k R
 |0,_=>by simp[Br]
 |k+1,e=>by
  have d:=Pa t n R h1 h2 a k ab;grind[Br]
def yU(t:bt):Int:=if t.h≠6 then 5 else if 2048<t.sum t.h then 3 else bif qL (B5 t) t.h then(bif qL (uU t) t.h then(if yS t<t.sum t.h then 6 else 0) else 8) else 1
def C3(t:bt):T:=if yU t=0 then .fresh true 2 (yS t) (λj=>(oG t (yS t) j).c) (yS t) (some (yS t)) else .ae
def qrQ{t}(h:qL (B5 t) t.h=true):TR t:=by
 intro y i g j k o;have a:=(qI _ _).1 ((qI _ _).1 h y g) i j;unfold CZ D4 at a;cases d:(decide ((t.L y i).b=0) || decide ((t.L y i).b=1))
 .rw[d] at a;cases a
 rw[d,wp] at a;cases d:(decide (4<(t.L y i).nt) || decide (4096<(t.L y i).np))
 .rw[d,wq] at a;cases e:qL (D3 t (t.L y i)) (t.L y i).nt
  .rw[e] at a;cases a
  .rw[e,wp] at a;cases f:qL (Bl t (t.L y i)) (t.L y i).np
   .rw[f] at a;cases a
   .unfold Zh;by_cases q:k<(t.L y i).nt
    .rw[wl q];exact(qI _ _).1 e k q
    .rw[wh q];have:=(qI _ _).1 f (k-(t.L y i).nt) ab;unfold Bl at this;simp only[wd] at this;exact this.1
 grind
def qp9(t:bt)(d:t.Ok)(tr:TR t)(a:t.h<=255):TO 135 [t.v] (.fresh true 2 (t.sum t.h) (λj=>(oG t (yS t) j).c) (yS t) (some (t.sum t.h))):=by
 obtain⟨R,k,i,g,f⟩:=qp8 t d tr a;have e:yS t=R:=by
  unfold yS;rw[Pa t _ R k i g _ (wc _)];omega
 rw[e];exact f
def qqa(t:bt)(i:t.Ok):TO 107 [t.v] (.aJ [C3 t,iI (yU t)]):=by
 obtain⟨p,H⟩:=qz au G16 69;obtain⟨q,E⟩:=qz au G16 133;obtain⟨r,hr⟩:=qz au G16 134;obtain⟨u,D⟩:=qz au G16 135;obtain⟨w,hw⟩:=qz au G16 136;have f:∀n C B R g,OO (U0 p q r u w n C B R g):=λn C B R g=>qr (qr (qr (qr (qr qm (qn H)) (qn E)) (qn hr)) (qn D)) (qn hw);have M:=UG t i;have s:=qgX t i;have k:=qd6 t i;have N:yS t<=t.sum t.h:=U3 t _;by_cases I:t.h=6
 .by_cases o:2048<t.sum t.h
  .have e:yU t=3:=by unfold yU;rw[wh (by omega),wl o]
   unfold C3;rw[e,wh (by decide)];refine qE qV qY (f (t.sum t.h) 0 0 0 λ_=>⟨0,0⟩) (A:=ar) (m:=0) ?_;rw[E6];exact BF (BS (BS rfl))
  .cases a:qL (B5 t) t.h
   .have e:yU t=1:=by grind[yU]
    unfold C3;rw[e,wh (by decide)];rw[a] at s;clear k;refine qE qV qY (f (t.sum t.h) 1 0 0 λ_=>⟨0,0⟩) (A:=ar) (m:=0) ?_;rw[E6];exact BF (BS (BF (BS (qj (by decide) rfl))))
   .rw[a] at s;cases d:qL (uU t) t.h
    .have e:yU t=8:=by grind[yU]
     unfold C3;rw[e,wh (by decide)];rw[d] at k;refine qE qV qY (f (t.sum t.h) 0 8 0 λ_=>⟨0,0⟩) (A:=ar) (m:=0) ?_;rw[E6];exact BF (BS (BF (BS (qB (by decide) (BS (qj (by decide) rfl))))))
    .rw[d] at k;have L:=qp9 t i (qrQ a) ab;have J:=qnH (λj=>oG t (yS t) j) (yS t) (some (t.sum t.h)) ab;by_cases x:yS t<t.sum t.h
     .have e:yU t=6:=by unfold yU;rw[wh (by omega),wh o,a,d,wp,wp,wl x]
      unfold C3;rw[e,wh (by decide)];refine qE qV qY (f (t.sum t.h) 0 0 (yS t) (oG t (yS t))) (A:=ar) (m:=0) ?_;rw[E6];clear a d;exact BF (BS (BF (BS (qB (by decide) (BS (qB (by decide) (BS (BS (BS rfl)))))))))
     .have e:yU t=0:=by unfold yU;rw[wh (by omega),wh o,a,d,wp,wp,wh x]
      unfold C3;rw[e,wl rfl];refine qE qV qY (f (t.sum t.h) 0 0 (yS t) (oG t (yS t))) (A:=ar) (m:=0) ?_;rw[E6,show Nat.ble (0+yS t) (t.sum t.h)=true from qR ab,show Nat.ble (0+yS t) (yS t)=true from qR ab];clear a d;simp only[wo,wp];exact BF (BS (BF (BS (qB (by decide) (BS (qB (by decide) (BS (BS (BF (BS rfl))))))))))
 .have e:yU t=5:=by unfold yU;rw[wl (by simpa using I)]
  unfold C3;rw[e,wh (by decide)];refine qE qV qY (f (t.sum t.h) 0 0 0 λ_=>⟨0,0⟩) (A:=ar) (m:=0) ?_;rw[E6];grind
def qqb(t)(f:t.Ok):TO 77 [t.v] (iI (yU t)):=by
 obtain⟨p,d⟩:=qz au G16 107;have a:=qqa t f;unfold C3 at a;by_cases e:yU t=0
 .rw[wl e,e] at a;rw[e];refine qE qV qY (K:=LC p (.aJ [.fresh true 2 (yS t) (λj=>(oG t (yS t) j).c) (yS t) (some (yS t)),iI 0])) (qr qm (qn d)) (A:=ar) (m:=0) ?_;rw[quE];exact BS rfl
 .rw[wh e] at a;refine qE qV qY (K:=LC p (.aJ [.ae,iI (yU t)])) (qr qm (qn d)) (A:=ar) (m:=0) ?_;rw[quD];exact BS rfl
section
variable {E:Type}
structure MvR(n a b:Nat)(y z:Nat->E):Prop where
 perm:((List.range n).map z).Perm ((List.range n).map y)
 out:∀k,k<a∨b<=k->z k=y k
 rQ:∀k,a<=k->k<b->∃k',a<=k'/\k'<b/\z k=y k'
structure WkO(lt:E->E->Bool):Prop where
 tr:∀x y z,lt y x=false->lt z y=false->lt z x=false
 asy:∀x y,lt x y=true->lt y x=false
end
section
variable {E:Type} {lt:E->E->Bool}
end
section
variable {E:Type} {lt:E->E->Bool}
end
structure aU where
 (ay an cy cn n:Int)
def aU.c(x:aU):t7:=[uI x.ay,iI x.an,uI x.cy,iI x.cn,iI x.n]
def cB(v n:Nat)(y:Nat->aU):ap:=⟨v,5,n,λj=>(y j).c,true,false,none⟩
def U4{a b:Nat}(h:a+b<=4000000):i64.wrap (ofNat a+ofNat b)=ofNat (a+b):=by
 rw[Qv bP bP];rfl
noncomputable def KC(p q r:t7->T->Prop)(a b c:Int):bv:=((qt.add 128 (qH p λ_=>some (iI a))).add 129 (qH q λ_=>some (iI b))).add 96 (qH r λ_=>some (iI c))
noncomputable def KN:bv:=(qt.inl au G16 ar qt 0 145).inl au G16 ar qt 0 146
def U5:OO KN:=Uv qV qY (Uv qV qY qm qm) qm
def uX(x y:Int):Int:=if x=0 then y else x
def kI(x y:Int):Int:=if x<y then -1 else if y<x then 1 else 0
def uY(a b:aw):Int:=uX (kI a.y b.y) (kI a.n b.n)
def zv(a b c d:Int):Int:=uY ⟨a,b⟩ ⟨c,d⟩
def D7:t7->Option T
 |[.agg [.int _ a,.int _ b],.agg [.int _ c,.int _ d]]=>some (iI (zv a b c d))
 |_=>none
def qrR(x y:Int):TO 128 [uI x,uI y] (iI (kI x y)):=by
 refine qE qV qY U5 (K:=KN) (A:=ar) (m:=0) ?_;rw[(show QK au G16 ar KN 0 128 [uI x,uI y] =
( bif !decide (x=x) then bif !decide (y=y) then some (iI 0) else
 some (iI (-1:Int)) else
 bif !decide (y=y) then some (iI 1) else
 bif decide (x<y) then some (iI (-1:Int)) else
 bif decide (y<x) then some (iI 1) else
 some (iI 0)) from qh)]
 grind[kI]
def qrS(x y:Int):TO 129 [iI x,iI y] (iI (kI x y)):=by
 refine qE qV qY U5 (K:=KN) (A:=ar) (m:=0) ?_;rw[(show QK au G16 ar KN 0 129 [iI x,iI y] =
( bif !decide (x=x) then bif !decide (y=y) then some (iI 0) else
 some (iI (-1:Int)) else
 bif !decide (y=y) then some (iI 1) else
 bif decide (x<y) then some (iI (-1:Int)) else
 bif decide (y<x) then some (iI 1) else
 some (iI 0)) from qh)]
 grind[kI]
def U6(x y:Int):TO 96 [.view 1 2 (λj=>[[iI x],[iI y]].getD j []) (some 2)] (iI (uX x y)):=by
 refine qE qV qY qm (K:=qt) (A:=ar) (m:=3) ?_;rw[(show QK au G16 ar qt 3 96 [.view 1 2 (λj=>[[iI x],[iI y]].getD j []) (some 2)] =
( bif !decide (x=0) then some (iI x) else
 bif !decide (y=0) then some (iI y) else
 some (iI 0)) from qh)]
 grind[uX]
def k28(x y:aw)(p q r:t7->T->Prop)(a b c:Int):QK au G16 ar (KC p q r a b c) 0 95 [.agg x.c,.agg y.c] =
( gD (qx (p [uI x.y,uI y.y] (iI a)))<|gD (qx (q [iI x.n,iI y.n] (iI b)))<|gD (qx (r [.view 1 2 (λj=>[[iI a],[iI b]].getD j []) (some 2)] (iI c)))<|some (iI c)):=qh
def LD(x y:aw):TO 95 [.agg x.c,.agg y.c] (iI (uY x y)):=by
 obtain⟨p,e⟩:=qz au G16 128;obtain⟨q,d⟩:=qz au G16 129;obtain⟨r,hr⟩:=qz au G16 96;have i:=qrR x.y y.y;have g:=qrS x.n y.n;have f:=U6 (kI x.y y.y) (kI x.n y.n);unfold uY;generalize uX (kI x.y y.y) (kI x.n y.n)=c at *
 generalize kI x.y y.y=a at *
 generalize kI x.n y.n=b at *
 refine qE qV qY (K:=KC p q r a b c) (qr (qr (qr qm (qn e)) (qn d)) (qn hr)) (A:=ar) (m:=0) ?_;rw[k28];exact BS (BS (BS rfl))
def U7(a b:Int):uX a b<0↔a<0∨a=0/\b<0:=by
 grind[uX]
def U8(a b:Int):kI a b<0↔a<b:=by
 grind[kI]
def LF(a b:Int):kI a b=0↔a=b:=by
 grind[kI]
def Pc(a b c d:Int):zv a b c d<0↔a<c∨a=c/\b<d:=by
 show uX (kI a c) (kI b d)<0↔_;rw[U7,U8,U8,LF]
def qlU(a b c d:Int):zv a b c d=0↔a=c/\b=d:=by
 show uX (kI a c) (kI b d)=0↔_;unfold uX;by_cases h:kI a c=0
 .rw[wl h,LF];exact⟨λq=>⟨(LF _ _).1 h,q⟩,λq=>q.2⟩
 .rw[wh h];exact⟨λq=>absurd q h,λq=>absurd ((LF _ _).2 q.1) h⟩
structure dC where
 (t:bt) (cr:Nat->aU) (nc:Nat) (he:Nat->aw) (nh:Nat) (fa:Nat->aw) (nf:Nat)
def mb(g:Nat->aU)(n:Nat)(c:Option Nat):T:=.view 5 n (λj=>(g j).c) c
def dC.c(F:dC):t7:=[F.t.v,mb F.cr F.nc none,aX F.he F.nh none,aX F.fa F.nf none]
structure aU.Ok(x:aU):Prop where
 a:(aw.mk x.ay x.an).Ok
 b:(aw.mk x.cy x.cn).Ok
def n5(t:bt)(y n:Int):Bool:=t.has ⟨y,n⟩
def E7(t:bt):t7->Option T
 |[_,.agg [.int _ a,.int _ b]]=>some (.bool (n5 t a b))
 |_=>none
def Js(a b c d e f g h:Int):Int:=uX (zv a b e f) (zv c d g h)
def Pd:t7->Option T
 |[.agg [.int _ a,.int _ b,.int _ c,.int _ d,_],.agg [.int _ e,.int _ f,.int _ g,.int _ h,_]]=>some (iI (Js a b c d e f g h))
 |_=>none
def kOr(a:Int)(_:t7):Option T:=some (iI a)
def pV(F:dC)(i:Nat):t7:=[.ag F.c,mb F.cr F.nc none,iI (ofNat F.nc),iI (ofNat i)]
def quF(F:dC):cD 78 [1] [0] [.agg F.c] [] [1] =
( zN [.ag F.c] []):=qh
def quG(F:dC):cD 78 [1,1,2] [1] [.ag F.c] [] pm =
( zN (pV F (nat_lit 0)) []):=qh
def U9(p q r:t7->T->Prop)(F:dC)(i):cK (((qt.add 108 (qH p (E7 F.t))).add 95 (qH q D7)).add 60 (qH r Pd)) 78 pS pm (pV F i) [] pm =
( bif decide (ofNat i<ofNat F.nc) then gD (decide (0<=ofNat i)&&decide (ofNat i<ofNat F.nc))<|gD (qx (p [F.t.v,.agg [uI (F.cr i).ay,iI (F.cr i).an]] (.bool (n5 F.t (F.cr i).ay (F.cr i).an))))<|bif n5 F.t (F.cr i).ay (F.cr i).an then gD (qx (p [F.t.v,.agg [uI (F.cr i).cy,iI (F.cr i).cn]] (.bool (n5 F.t (F.cr i).cy (F.cr i).cn))))<|bif n5 F.t (F.cr i).cy (F.cr i).cn then gD (qx (q [.agg [uI (F.cr i).ay,iI (F.cr i).an],.agg [uI (F.cr i).cy,iI (F.cr i).cn]] (iI (zv (F.cr i).ay (F.cr i).an (F.cr i).cy (F.cr i).cn))))<|bif decide (0<=zv (F.cr i).ay (F.cr i).an (F.cr i).cy (F.cr i).cn) then zR (pV F i) [] else
 bif decide ((F.cr i).n<(-1048576:Int)) then zR (pV F i) [] else
 bif decide ((1048576:Int)<(F.cr i).n) then zR (pV F i) [] else
 bif decide ((F.cr i).n=0) then zR (pV F i) [] else
 bif decide (0<ofNat i) then gD (decide (0<=i64.wrap (ofNat i-1))&&decide (i64.wrap (ofNat i-1)<ofNat F.nc))<|gD (qx (r [.agg (F.cr (i64.wrap (ofNat i-(1:Int))).toNat).c,.agg (F.cr i).c] (iI (Js (F.cr (i64.wrap (ofNat i-(1:Int))).toNat).ay (F.cr (i64.wrap (ofNat i-(1:Int))).toNat).an (F.cr (i64.wrap (ofNat i-(1:Int))).toNat).cy (F.cr (i64.wrap (ofNat i-(1:Int))).toNat).cn (F.cr i).ay (F.cr i).an (F.cr i).cy (F.cr i).cn))))<|bif decide (0<=Js (F.cr (i64.wrap (ofNat i-(1:Int))).toNat).ay (F.cr (i64.wrap (ofNat i-(1:Int))).toNat).an (F.cr (i64.wrap (ofNat i-(1:Int))).toNat).cy (F.cr (i64.wrap (ofNat i-(1:Int))).toNat).cn (F.cr i).ay (F.cr i).an (F.cr i).cy (F.cr i).cn) then zR (pV F i) [] else
 zN [.ag F.c,mb F.cr F.nc
 none,iI (.ofNat F.nc),iI (i64.wrap (ofNat i+1))] [] else
 zN [.ag F.c,mb F.cr F.nc
 none,iI (.ofNat F.nc),iI (i64.wrap (ofNat i+1))] [] else
 zR (pV F i) [] else
 zR (pV F i) [] else
 zX 0 (pV F i) []):=qh
def quH(p q r:t7->T->Prop)(F:dC)(i):cK (((qt.add 108 (qH p (E7 F.t))).add 95 (qH q D7)).add 60 (qH r Pd)) 78 pS pm (pV F i) [] [2] =
( bif decide (ofNat i<ofNat F.nc) then gD (decide (0<=ofNat i)&&decide (ofNat i<ofNat F.nc))<|gD (qx (p [F.t.v,.agg [uI (F.cr i).ay,iI (F.cr i).an]] (.bool (n5 F.t (F.cr i).ay (F.cr i).an))))<|bif n5 F.t (F.cr i).ay (F.cr i).an then gD (qx (p [F.t.v,.agg [uI (F.cr i).cy,iI (F.cr i).cn]] (.bool (n5 F.t (F.cr i).cy (F.cr i).cn))))<|bif n5 F.t (F.cr i).cy (F.cr i).cn then gD (qx (q [.agg [uI (F.cr i).ay,iI (F.cr i).an],.agg [uI (F.cr i).cy,iI (F.cr i).cn]] (iI (zv (F.cr i).ay (F.cr i).an (F.cr i).cy (F.cr i).cn))))<|bif decide (0<=zv (F.cr i).ay (F.cr i).an (F.cr i).cy (F.cr i).cn) then zR [iI 1] [] else
 bif decide ((F.cr i).n<(-1048576:Int)) then zR [iI 1] [] else
 bif decide ((1048576:Int)<(F.cr i).n) then zR [iI 1] [] else
 bif decide ((F.cr i).n=0) then zR [iI 1] [] else
 bif decide (0<ofNat i) then gD (decide (0<=i64.wrap (ofNat i-1))&&decide (i64.wrap (ofNat i-1)<ofNat F.nc))<|gD (qx (r [.agg (F.cr (i64.wrap (ofNat i-(1:Int))).toNat).c,.agg (F.cr i).c] (iI (Js (F.cr (i64.wrap (ofNat i-(1:Int))).toNat).ay (F.cr (i64.wrap (ofNat i-(1:Int))).toNat).an (F.cr (i64.wrap (ofNat i-(1:Int))).toNat).cy (F.cr (i64.wrap (ofNat i-(1:Int))).toNat).cn (F.cr i).ay (F.cr i).an (F.cr i).cy (F.cr i).cn))))<|bif decide (0<=Js (F.cr (i64.wrap (ofNat i-(1:Int))).toNat).ay (F.cr (i64.wrap (ofNat i-(1:Int))).toNat).an (F.cr (i64.wrap (ofNat i-(1:Int))).toNat).cy (F.cr (i64.wrap (ofNat i-(1:Int))).toNat).cn (F.cr i).ay (F.cr i).an (F.cr i).cy (F.cr i).cn) then zR [iI 1] [] else
 zN [.undef] [] else
 zN [.undef] [] else
 zR [iI 1] [] else
 zR [iI 1] [] else
 zX 0 [.undef] []):=qh
def quI :cD 78 [2,2] [] [] [] [2] =
( zR [iI 0] []):=qh
def k60(p q)(a b:Int)(x y:aU):QK au G16 ar ((qt.add 95 (qH p D7)).add 96 (qH q (kOr a))) 0 60 [.agg x.c,.agg y.c] =
( gD (qx (p [.agg [uI x.ay,iI x.an],.agg [uI y.ay,iI y.an]] (iI (zv x.ay x.an y.ay y.an))))<|gD (qx (p [.agg [uI x.cy,iI x.cn],.agg [uI y.cy,iI y.cn]] (iI (zv x.cy x.cn y.cy y.cn))))<|gD (qx (q [.view 1 2 (λj=>[[iI (zv x.ay x.an y.ay y.an)],[iI (zv x.cy x.cn y.cy y.cn)]].getD j []) (some 2)] (iI a)))<|some (iI a)):=qh
def Pe(t:bt)(d:t.Ok)(a)(e:a.Ok):TO 108 [t.v,.agg a.c] (.bool (t.has a)):=by
 refine qE qV qY qm (K:=qt) (A:=ar) (m:=0) ?_;rw[(show QK au G16 ar qt 0 108 [t.v,.agg a.c] =
( bif decide (1<=a.y) then bif decide (i64.wrap a.y<=ofNat t.h) then bif decide (0<=a.n) then gD (decide (0<=u8.wrap (a.y-1))&&decide (u8.wrap (a.y-1)<ofNat t.h))<|bif decide (a.n<ofNat (t.ln (u8.wrap (a.y-(1:Int))).toNat)) then some (.bool true) else
 some (.bool false) else
 some (.bool false) else
 some (.bool false) else
 some (.bool false)) from qh)]
 unfold bt.has;have:=e.y;have:=d.h;clear d e;by_cases j:1<=a.y
 .have r:i64.wrap a.y=a.y:=Qv ab ab;have o:u8.wrap (a.y-1)=a.y-1:=nY ab ab;rw[r,o,dT j];by_cases i:a.y<=t.h
  .rw[dT i];by_cases g:0<=a.n
   .rw[dT g];generalize t.ln (a.y-1).toNat=k;by_cases f:a.n<(k:Int)
    .rw[dT f]
     exact ST
    .rw[dF f]
     exact ST
   .rw[dF g]
    exact ST
  .rw[dF i]
   exact ST
 grind
def E8{j:Nat}(h:1<=j)(h2:j<=4000000):i64.wrap (ofNat j-1)=ofNat (j-1):=by
 rw[Qv bP bP];grind
def gV{j n:Nat}(h:j<n):(decide ((0:Int)<=ofNat j)&&decide (ofNat j<ofNat n))=true:=rx
def qqc(x y:aU):TO 60 [.agg x.c,.agg y.c] (iI (Js x.ay x.an x.cy x.cn y.ay y.an y.cy y.cn)):=by
 obtain⟨p,a⟩:=qz au G16 95;obtain⟨q,d⟩:=qz au G16 96;have g:=LD ⟨x.ay,x.an⟩ ⟨y.ay,y.an⟩;have f:=LD ⟨x.cy,x.cn⟩ ⟨y.cy,y.cn⟩;have e:=U6 (zv x.ay x.an y.ay y.an) (zv x.cy x.cn y.cy y.cn);exact qE qV qY (qr (qr qm (qn a)) (qn d)) (A:=ar) (m:=0) ((k60 p q (uX (zv x.ay x.an y.ay y.an) (zv x.cy x.cn y.cy y.cn)) 0 x y).trans (qj (qu a g) (qj (qu a f) (qj (qu d e) rfl))))
def YT{g:Nat->Bool}:∀{n:Nat},qL g n=false->∃i,i<n/\g i=false/\∀j,j<i->g j=true
 |0,h=>by cases h
 |n+1,h=>by
  cases e:qL g n with
  |false =>
   obtain⟨i,f,d,a⟩:=YT e;grind
  |true =>
   refine⟨n,ab,?_,(qI _ _).1 e⟩;have h:(qL g n&&g n)=false:=h;rw[e,wQ] at h;exact h
structure dC.Ok(F:dC):Prop where
 t:F.t.Ok
 cr:∀i,(F.cr i).Ok
 nc:F.nc<=1000000
 he:∀i,(F.he i).Ok
 nh:F.nh<=1000000
 fa:∀i,(F.fa i).Ok
 nf:F.nf<=1000000
def AJ(F:dC)(i:Nat):Bool:=n5 F.t (F.cr i).ay (F.cr i).an&&(n5 F.t (F.cr i).cy (F.cr i).cn&&(!decide (0<=zv (F.cr i).ay (F.cr i).an (F.cr i).cy (F.cr i).cn)&&(!decide ((F.cr i).n < -1048576)&&(!decide (1048576<(F.cr i).n)&&(!decide ((F.cr i).n=0)&&!(decide (0<i)&&decide (0<=Js (F.cr (i-1)).ay (F.cr (i-1)).an (F.cr (i-1)).cy (F.cr (i-1)).cn (F.cr i).ay (F.cr i).an (F.cr i).cy (F.cr i).cn)))))))
def qqd(F)(hF:F.Ok):TO 78 [.agg F.c] (iI (bif qL (AJ F) F.nc then 0 else 1)):=by
 obtain⟨p,x⟩:=qz au G16 108;obtain⟨q,Q⟩:=qz au G16 95;obtain⟨r,hr⟩:=qz au G16 60;have C:=qr (qr (qr (Gl:=G16) qm (qn x (F:=E7 F.t))) (qn Q (F:=D7))) (qn hr (F:=Pd));have V:=hF.nc;have I:∀i,p [F.t.v,.agg [uI (F.cr i).ay,iI (F.cr i).an]] (.bool (n5 F.t (F.cr i).ay (F.cr i).an)):=λi=>QF x (Pe F.t hF.t ⟨_,_⟩ (hF.cr i).a);have tb:∀i,p [F.t.v,.agg [uI (F.cr i).cy,iI (F.cr i).cn]] (.bool (n5 F.t (F.cr i).cy (F.cr i).cn)):=λi=>QF x (Pe F.t hF.t ⟨_,_⟩ (hF.cr i).b);have H:∀i,q [.agg [uI (F.cr i).ay,iI (F.cr i).an],.agg [uI (F.cr i).cy,iI (F.cr i).cn]] (iI (zv (F.cr i).ay (F.cr i).an (F.cr i).cy (F.cr i).cn)):=λi=>QF Q (LD ⟨_,_⟩ ⟨_,_⟩);have tr:∀i j,r [.agg (F.cr i).c,.agg (F.cr j).c] (iI (Js (F.cr i).ay (F.cr i).an (F.cr i).cy (F.cr i).cn (F.cr j).ay (F.cr j).an (F.cr j).cy (F.cr j).cn)):=λi j=>QF hr (qqc _ _);have cC:∀i,i<F.nc->AJ F i=true->Pq 78 [] pS pm (pV F i) [] .normal pm (pV F (i+1)) []:=by
  intro i g d;refine bR C _ ((U9 p q r F i).trans ?_);rw[dH ab];simp only[AJ,wd,wR,wV] at d;obtain⟨u,s,k3,O,N,M,R⟩:=d;refine qj rx (qj (gV g) (qj (qU.2 (I i)) (qj u (qj (qU.2 (tb i)) (qj s (qj (qU.2 (H i)) (qB rx (qB rx (qB rx (qB rx ?_))))))))));by_cases c:0<i
  .rw[E8 (j:=i) ab ab,show(ofNat (i-1)).toNat=i-1 from rfl];rw[wt c,wQ,wV] at R;exact qj rx (qj (gV ab) (qj (qU.2 (tr (i-1) i)) (qB rx rfl)))
  .exact qB rx rfl
 have E:∀i,i<F.nc->AJ F i=false->Pq 78 [] pS pm (pV F i) [] .ret [2] [iI 1] []:=by
  intro i g d;refine bR C _ ((quH p q r F i).trans ?_);refine qj rx (qj (gV g) (qj (qU.2 (I i)) ?_));unfold AJ at d;cases u:n5 F.t (F.cr i).ay (F.cr i).an with
  |false=>rfl
  |true =>
   rw[u,wQ] at d;rw[wp];refine qj (qU.2 (tb i)) ?_;cases s:n5 F.t (F.cr i).cy (F.cr i).cn with
   |false=>rfl
   |true =>
    rw[s,wQ] at d;rw[wp];refine qj (qU.2 (H i)) ?_;cases k3:decide (0<=zv (F.cr i).ay (F.cr i).an (F.cr i).cy (F.cr i).cn) with
    |true=>rfl
    |false =>
     rw[k3,xF,wQ] at d;rw[wq];cases O:decide ((F.cr i).n < -1048576) with
     |true=>rfl
     |false =>
      rw[O,xF,wQ] at d;rw[wq];cases N:decide (1048576<(F.cr i).n) with
      |true=>rfl
      |false =>
       rw[N,xF,wQ] at d;rw[wq];cases M:decide ((F.cr i).n=0) with
       |true=>rfl
       |false =>
        rw[M,xF,wQ,xP,wd,wm] at d;rw[wq,E8 (j:=i) ab ab,show(ofNat (i-1)).toNat=i-1 from rfl];exact qj rx (qj (gV ab) (qj (qU.2 (tr (i-1) i)) (qj d.2 rfl)))
 have D:Pq 78 [] pS pm (pV F F.nc) [] (.exit 0) pm (pV F F.nc) []:=bR C _ ((U9 p q r F F.nc).trans (qB aq rfl));have L:=aP [] (quF F);have J:=aP [] (quG F);cases k:qL (AJ F) F.nc with
 |true =>
  have k:=(qI _ _).1 k;have o:=Pz.count (P:=au) (G:=G16) (A:=ar) (f:=78) (h0:=[]) (p:=tf) (e:=.exit 0) qh (λi=>pV F i) (λ_=>[]) (n:=F.nc) aq (λi g=>cC i g (k i g)) D;exact Pz.told (A:=ar) qY Tryz.func78 qh qh (l:=[0]) rfl (ao L (ao (ao J (cO 0 (Pz.only o (l2:=[]) rfl))) (aP _ quI))) rfl
 |false =>
  obtain⟨i,g,d,U⟩:∃i,i<F.nc/\AJ F i=false/\∀j,j<i->AJ F j=true:=YT k;have o:=Pz.count (P:=au) (G:=G16) (A:=ar) (f:=78) (h0:=[]) (p:=tf) (e:=.ret) qh (λi=>pV F i) (λ_=>[]) (n:=i) aq (λj B=>cC j (by have B:j<i:=B;omega) (U j B)) (E i g d);exact Pz.told (A:=ar) qY Tryz.func78 qh qh (l:=[0]) rfl (ao L (ed (ao J (cO 0 o)))) rfl
structure bC where
 (i:Bool) (pl ct:Int) (w:Bool) (pe:Nat->bl) (np:Nat)
def bC.c(y:bC):t7:=[.bool y.i,iI y.pl,iI y.ct,.bool y.w,bY y.pe y.np none]
def LG(b:Bool)(_:t7):Option T:=some (.bool b)
def uw(y n d:Int):Bool:=decide (1<=y)&&(decide (y<=6)&&(decide (0<=n)&&(decide (n<2048)&&(decide (d=0) || decide (d=1)))))
def Pf:t7->Option T
 |[.agg [.int _ y,.int _ n,.bool _,.int _ d]]=>some (.bool (uw y n d))
 |_=>none
def D8(y n:Int)(f:Bool)(d a n2:Int)(e:Bool)(g:Int):Bool:=sm ⟨y,n,f,d⟩ ⟨a,n2,e,g⟩
def Pg:t7->Option T
 |[.agg [.int _ y,.int _ n,.bool f,.int _ d],.agg [.int _ a,.int _ n2,.bool e,.int _ g]]=>some (.bool (D8 y n f d a n2 e g))
 |_=>none
def AK(y:bC)(i:Nat):t7:=[.ag y.c,bY y.pe y.np none,iI (ofNat y.np),iI (ofNat i)]
def k76(a:aw):QK au G16 ar qt 0 76 [.agg a.c] =
(
 bif decide (1<=a.y) then
 bif decide (a.y<=6) then
 bif decide (0<=a.n) then
 bif decide (a.n<2048) then
 some (.bool true)
 else
 some (.bool false)
 else
 some (.bool false)
 else
 some (.bool false)
 else
 some (.bool false)):=qh
def quJ(x:Int):QK au G16 ar qt 0 103 [iI x] =
(
 bif !decide (x.tmod 2=0) then
 bif decide ((-13:Int)<=x) then
 bif decide (x<=179) then
 some (.bool true)
 else
 some (.bool false)
 else
 some (.bool false)
 else
 some (.bool false)):=qh
def quK(p q)(a:bl)(b c):QK au G16 ar ((qt.add 76 (qH p (LG b))).add 101 (qH q (LG c))) 0 104 [.agg a.c] =
(
 bif qx (p [.agg [uI a.y,iI a.n]] (.bool b)) then
 bif b then
 bif qx (q [uI a.d] (.bool c)) then
 bif c then
 some (.bool true)
 else
 some (.bool false)
 else none else
 some (.bool false)
 else
 none):=qh
def quL(y:bC):cD 75 [1] [0] [.agg y.c] [] [1] =
(
 some ((.normal,[.ag y.c],[]))):=qh
def quM(y:bC):cD 75 eH [1] [.ag y.c] [] [1] =
(
 bif decide (y.ct<0) then
 some ((.ret,[.ag y.c],[]))
 else
 bif decide (2048<y.ct) then
 some ((.ret,[.ag y.c],[]))
 else
 some ((.normal,[.ag y.c],[]))):=qh
def qrU(y:bC):cD 75 eH [1] [.ag y.c] [] [2] =
(
 bif decide (y.ct<0) then
 some ((.ret,[iI 1],[]))
 else
 bif decide (2048<y.ct) then
 some ((.ret,[iI 1],[]))
 else
 some ((.normal,[.undef],[]))):=qh
def quN(y:bC):cD 75 lD [1] [.ag y.c] [] [1] =
(
 bif y.i then
 some ((.normal,[.ag y.c],[]))
 else
 bif !decide (y.pl=0) then
 some ((.ret,[.ag y.c],[]))
 else
 bif y.w then
 some ((.ret,[.ag y.c],[]))
 else
 bif decide (0<ofNat y.np) then
 some ((.ret,[.ag y.c],[]))
 else
 some ((.ret,[.ag y.c],[]))):=qh
def qrV(y:bC):cD 75 lD [1] [.ag y.c] [] [2] =
(
 bif y.i then
 some ((.normal,[.undef],[]))
 else
 bif !decide (y.pl=0) then
 some ((.ret,[iI 1],[]))
 else
 bif y.w then
 some ((.ret,[iI 1],[]))
 else
 bif decide (0<ofNat y.np) then
 some ((.ret,[iI 1],[]))
 else
 some ((.ret,[iI 0],[]))):=qh
def quO(p)(b:Bool)(y:bC):cK (qt.add 103 (qH p (LG b))) 75 dd [1] [.ag y.c] [] [1] =
(
 bif qx (p [iI y.pl] (.bool b)) then
 bif b then
 bif decide (4096<ofNat y.np) then
 some ((.ret,[.ag y.c],[]))
 else
 some ((.normal,[.ag y.c],[]))
 else
 some ((.ret,[.ag y.c],[]))
 else
 none):=qh
def Va(p)(b:Bool)(y:bC):cK (qt.add 103 (qH p (LG b))) 75 dd [1] [.ag y.c] [] [2] =
(
 bif qx (p [iI y.pl] (.bool b)) then
 bif b then
 bif decide (4096<ofNat y.np) then
 some ((.ret,[iI 1],[]))
 else
 some ((.normal,[.undef],[]))
 else
 some ((.ret,[iI 1],[]))
 else
 none):=qh
def quP(y:bC):cD 75 mP [1] [.ag y.c] [] e9 =
(
 some ((.normal,AK y (nat_lit 0),[]))):=qh
def Vb(p q:t7->T->Prop)(y:bC)(i):cK ((qt.add 104 (qH p Pf)).add 106 (qH q Pg)) 75 ew e9 (AK y i) [] e9 =
(
 bif decide (ofNat i<ofNat y.np) then
 bif decide (0<=ofNat i)&&decide (ofNat i<ofNat y.np) then
 bif qx (p [.agg (y.pe i).c] (.bool (uw (y.pe i).y (y.pe i).n (y.pe i).d))) then
 bif uw (y.pe i).y (y.pe i).n (y.pe i).d then
 bif decide (0<ofNat i) then
 bif decide (0<=i64.wrap (ofNat i-1))&&decide (i64.wrap (ofNat i-1)<ofNat y.np) then
 bif qx (q [.agg (y.pe (i64.wrap (ofNat i-(1:Int))).toNat).c,.agg (y.pe i).c] (.bool (D8 (y.pe (i64.wrap (ofNat i-(1:Int))).toNat).y (y.pe (i64.wrap (ofNat i-(1:Int))).toNat).n (y.pe (i64.wrap (ofNat i-(1:Int))).toNat).f (y.pe (i64.wrap (ofNat i-(1:Int))).toNat).d (y.pe i).y (y.pe i).n (y.pe i).f (y.pe i).d))) then
 bif D8 (y.pe (i64.wrap (ofNat i-(1:Int))).toNat).y (y.pe (i64.wrap (ofNat i-(1:Int))).toNat).n (y.pe (i64.wrap (ofNat i-(1:Int))).toNat).f (y.pe (i64.wrap (ofNat i-(1:Int))).toNat).d (y.pe i).y (y.pe i).n (y.pe i).f (y.pe i).d then
 some ((.ret,AK y i,[]))
 else
 some ((.normal,[.ag y.c,bY y.pe y.np
 none,iI (.ofNat y.np),iI (i64.wrap (ofNat i+1))],[]))
 else none else none else
 some ((.normal,[.ag y.c,bY y.pe y.np
 none,iI (.ofNat y.np),iI (i64.wrap (ofNat i+1))],[]))
 else
 some ((.ret,AK y i,[]))
 else none else none else
 some ((.exit 0,AK y i,[]))):=qh
def qrX(p q:t7->T->Prop)(y:bC)(i):cK ((qt.add 104 (qH p Pf)).add 106 (qH q Pg)) 75 ew e9 (AK y i) [] [2] =
(
 bif decide (ofNat i<ofNat y.np) then
 bif decide (0<=ofNat i)&&decide (ofNat i<ofNat y.np) then
 bif qx (p [.agg (y.pe i).c] (.bool (uw (y.pe i).y (y.pe i).n (y.pe i).d))) then
 bif uw (y.pe i).y (y.pe i).n (y.pe i).d then
 bif decide (0<ofNat i) then
 bif decide (0<=i64.wrap (ofNat i-1))&&decide (i64.wrap (ofNat i-1)<ofNat y.np) then
 bif qx (q [.agg (y.pe (i64.wrap (ofNat i-(1:Int))).toNat).c,.agg (y.pe i).c] (.bool (D8 (y.pe (i64.wrap (ofNat i-(1:Int))).toNat).y (y.pe (i64.wrap (ofNat i-(1:Int))).toNat).n (y.pe (i64.wrap (ofNat i-(1:Int))).toNat).f (y.pe (i64.wrap (ofNat i-(1:Int))).toNat).d (y.pe i).y (y.pe i).n (y.pe i).f (y.pe i).d))) then
 bif D8 (y.pe (i64.wrap (ofNat i-(1:Int))).toNat).y (y.pe (i64.wrap (ofNat i-(1:Int))).toNat).n (y.pe (i64.wrap (ofNat i-(1:Int))).toNat).f (y.pe (i64.wrap (ofNat i-(1:Int))).toNat).d (y.pe i).y (y.pe i).n (y.pe i).f (y.pe i).d then
 some ((.ret,[iI 1],[]))
 else
 some ((.normal,[.undef],[]))
 else none else none else
 some ((.normal,[.undef],[]))
 else
 some ((.ret,[iI 1],[]))
 else none else none else
 some ((.exit 0,[.undef],[]))):=qh
def so(a:aw):Bool:=decide (1<=a.y)&&(decide (a.y<=6)&&(decide (0<=a.n)&&decide (a.n<2048)))
def Vc(a):TO 76 [.agg a.c] (.bool (so a)):=by
 refine qE qV qY qm ((k76 a).trans ?_);grind[so]
def E9(x:Int):Bool:=!decide (x.tmod 2=0)&&(decide (-13<=x)&&decide (x<=179))
def qlY(x):TO 103 [iI x] (.bool (E9 x)):=by
 refine qE qV qY qm ((quJ x).trans ?_);grind[E9]
def qqg(a:bl):TO 104 [.agg a.c] (.bool (uw a.y a.n a.d)):=by
 obtain⟨p,g⟩:=qz au G16 76;obtain⟨q,f⟩:=qz au G16 101;have j:=Vc ⟨a.y,a.n⟩;have i:=OV a.d;refine qE qV qY (qr (qr qm (qn g)) (qn f)) (m:=0) ((quK p q a (so ⟨a.y,a.n⟩) (decide (a.d=0) || decide (a.d=1))).trans (qj (qu g j) ?_));have e:uw a.y a.n a.d=(so ⟨a.y,a.n⟩&&(decide (a.d=0) || decide (a.d=1))):=by
  grind[Bool.and_assoc,so,uw]
 rw[e];cases so ⟨a.y,a.n⟩ with
 |false=>rfl
 |true =>
  rw[wp,qu f i,wp];cases (decide (a.d=0) || decide (a.d=1))<;>rfl
def D9(y:bC)(i:Nat):Bool:=uw (y.pe i).y (y.pe i).n (y.pe i).d&&!(decide (0<i)&&D8 (y.pe (i-1)).y (y.pe (i-1)).n (y.pe (i-1)).f (y.pe (i-1)).d (y.pe i).y (y.pe i).n (y.pe i).f (y.pe i).d)
def Bs(y:bC):Int:=bif decide (y.ct<0) || decide (2048<y.ct) then 1 else bif y.i then(bif E9 y.pl&&decide (y.np<=4096) then(bif qL (D9 y) y.np then 0 else 1) else 1) else(bif decide (y.pl=0)&&(!y.w&&decide (y.np=0)) then 0 else 1)
def qrY(y)(hn:y.np<=1000000):TO 75 [.agg y.c] (iI (Bs y)):=by
 obtain⟨M,x⟩:=qz au G16 103;obtain⟨p,Y⟩:=qz au G16 104;obtain⟨q,X⟩:=qz au G16 106;have B:=qlY y.pl;have S:∀i,p [.agg (y.pe i).c] (.bool (uw (y.pe i).y (y.pe i).n (y.pe i).d)):=λi=>QF Y (qqg (y.pe i));have R:∀i j,q [.agg (y.pe i).c,.agg (y.pe j).c] (.bool (D8 (y.pe i).y (y.pe i).n (y.pe i).f (y.pe i).d (y.pe j).y (y.pe j).n (y.pe j).f (y.pe j).d)):=λi j=>QF X (UF _ _);have D:=qr (qr (P:=au) (Gl:=G16) qm (qn Y (F:=Pf))) (qn X (F:=Pg));have pa:=aP [] (quL y);have a:∀r,Pq 75 [] [2] [1] [.ag y.c] [] .ret [2] [iI r] []->TO 75 [.agg y.c] (iI r):=λr h=>Pz.told (A:=ar) qY Tryz.func75 qh qh (l:=[0]) rfl (ao pa h) rfl;have U:=quM y;have J:=qrU y;unfold Bs;cases O:decide (y.ct<0) with
 |true =>
  rw[O] at J;exact a 1 (ed (aP _ J))
 |false =>
  cases c2:decide (2048<y.ct) with
  |true =>
   rw[O,c2] at J;exact a 1 (ed (aP _ J))
  |false =>
   rw[O,c2] at U;have o:=aP [] U;rw[xZ,wq];cases ci:y.i with
   |false =>
    have k:=qrV y;rw[ci,wq] at k;rw[wq];by_cases E:y.pl=0
    .have k:=k.trans (qB rx rfl);rw[wt E,wQ];cases d2:y.w with
     |true =>
      rw[d2,wp] at k;exact a 1 (ao o (ed (aP _ k)))
     |false =>
      rw[d2,wq] at k;rw[xF,wQ];by_cases Z:y.np=0
      .rw[wt Z];exact a 0 (ao o (ed (aP _ (k.trans (qB rx rfl)))))
      .rw[vJ Z];exact a 1 (ao o (ed (aP _ (k.trans (qj rx rfl)))))
    .rw[vJ E];exact a 1 (ao o (ed (aP _ (k.trans (qj rx rfl)))))
   |true =>
    have k:=quN y;rw[ci,wp] at k;rw[wp];have H:=aP [] k;cases cp:E9 y.pl with
    |false =>
     rw[cp] at B;exact a 1 (ao o (ao H (ed (bR (qr qm (qn x)) _ ((Va M false y).trans (qj (qu x B) rfl))))))
    |true =>
     rw[cp] at B;rw[wQ];by_cases E:y.np<=4096
     ·rw[wt E,wp];have V:=bR (qr qm (qn x)) [] ((quO M true y).trans (qj (qu x B) (qj rfl (qB rx rfl))));have pe:=aP [] (quP y);have cC:∀i,i<y.np->D9 y i=true->Pq 75 [] ew e9 (AK y i) [] .normal e9 (AK y (i+1)) []:=by
       intro i u s;have g:=Vb p q y i;rw[dH ab] at g;simp only[D9,wd,wR] at s;obtain⟨C,W⟩:=s;have g:=g.trans (qj rx (qj (gV u) (qj (qU.2 (S i)) (qj C rfl))));by_cases c:0<i
       ·rw[E8 (j:=i) ab ab,show(ofNat (i-1)).toNat=i-1 from rfl] at g;rw[wt c,wQ] at W;exact bR D _ (g.trans (qj rx (qj (gV ab) (qj (qU.2 (R (i-1) i)) (qB (by rw[W];simp) rfl)))))
       ·exact bR D _ (g.trans (qB rx rfl))
      cases I:qL (D9 y) y.np with
      |true =>
       have I:=(qI _ _).1 I;have L:=Pz.count (P:=au) (G:=G16) (A:=ar) (f:=75) (h0:=[]) (p:=lT) (e:=.exit 0) qh (λi=>AK y i) (λ_=>[]) (n:=y.np) aq (λi u=>cC i u (I i u)) (bR D _ ((Vb p q y y.np).trans (qB aq rfl)));exact a 0 (ao o (ao H (ao V (ao (ao pe (cO 0 (Pz.only L (l2:=[]) rfl))) (aP _ (show cD 75 sf [] [] [] [2]=some (.ret,[iI 0],[]) by kernel_rfl))))))
      |false =>
       obtain⟨i,u,s,aM⟩:=YT I;have Q:Pq 75 [] ew e9 (AK y i) [] .ret [2] [iI 1] []:=by
        have g:=qrX p q y i;have g:=g.trans (qj rx (qj (gV u) (qj (qU.2 (S i)) rfl)));unfold D9 at s;cases C:uw (y.pe i).y (y.pe i).n (y.pe i).d with
        |false =>
         rw[C,wq] at g;exact bR D _ g
        |true =>
         rw[C,wp] at g;rw[C,wQ,xP,wd,wm] at s;rw[E8 (j:=i) ab ab,show(ofNat (i-1)).toNat=i-1 from rfl] at g;exact bR D _ (g.trans (qj rx (qj (gV ab) (qj (qU.2 (R (i-1) i)) (qj s.2 rfl)))))
       have L:=Pz.count (P:=au) (G:=G16) (A:=ar) (f:=75) (h0:=[]) (p:=lT) (e:=.ret) qh (λi=>AK y i) (λ_=>[]) (n:=i) aq (λj N=>cC j (by have N:j<i:=N;omega) (aM j N)) Q;exact a 1 (ao o (ao H (ao V (ed (ao pe (cO 0 L))))))
     .rw[vJ E,wq];exact a 1 (ao o (ao H (ed (bR (qr qm (qn x)) _ ((Va M true y).trans (qj (qu x B) (qj rfl (qj rx rfl))))))))
def tw(a b:Nat->aw)(n m:Nat)(c d:Option Nat)(i:Nat):t7:=[aX a n c,aX b m d,iI (ofNat n),iI (ofNat i)]
def quQ(a b:Nat->aw)(n m:Nat)(c d:Option Nat):cD 45 [1] ir [aX a n c,aX b m d] [] ir =
( zN [aX a n c,aX b m d] []):=qh
def quR(a b:Nat->aw)(n m:Nat)(c d:Option Nat):cD 45 eH ir [aX a n c,aX b m d] [] ir =
( bif !decide (ofNat n=ofNat m) then zR [aX a n c,aX b m d] [] else
 zN [aX a n c,aX b m d] []):=qh
def qrZ(a b:Nat->aw)(n m:Nat)(c d:Option Nat):cD 45 eH ir [aX a n c,aX b m d] [] [4] =
( bif !decide (ofNat n=ofNat m) then zR [.bool false] [] else
 zN [.undef] []):=qh
def quS(a b:Nat->aw)(n m:Nat)(c d:Option Nat):cD 45 mQ ir [aX a n c,aX b m d] [] nl =
( zN (tw a b n m c d (nat_lit 0)) []):=qh
def quT(a b:Nat->aw)(n m:Nat)(c d:Option Nat)(i:Nat):cD 45 c7 nl (tw a b n m c d i) [] nl =
( bif decide (ofNat i<ofNat n) then gD (decide (0<=ofNat i)&&decide (ofNat i<ofNat n))<|gD (decide (0<=ofNat i)&&decide (ofNat i<ofNat m))<|bif decide ((a i).y=(b i).y) then bif decide ((a i).n=(b i).n) then zN [aX a n c,aX b m d,iI (.ofNat n),iI (i64.wrap (ofNat i+1))] [] else
 zR (tw a b n m c d i) [] else
 zR (tw a b n m c d i) [] else
 zX 0 (tw a b n m c d i) []):=qh
def qr0(a b:Nat->aw)(n m:Nat)(c d:Option Nat)(i:Nat):cD 45 c7 nl (tw a b n m c d i) [] [4] =
( bif decide (ofNat i<ofNat n) then gD (decide (0<=ofNat i)&&decide (ofNat i<ofNat n))<|gD (decide (0<=ofNat i)&&decide (ofNat i<ofNat m))<|bif decide ((a i).y=(b i).y) then bif decide ((a i).n=(b i).n) then zN [.undef] [] else
 zR [.bool false] [] else
 zR [.bool false] [] else
 zX 0 [.undef] []):=qh
def quU(a b:Nat->aw)(n m:Nat)(c d:Option Nat)(i:Nat):cD 45 c7 nl (tw a b n m c d i) [] [] =
( bif decide (ofNat i<ofNat n) then gD (decide (0<=ofNat i)&&decide (ofNat i<ofNat n))<|gD (decide (0<=ofNat i)&&decide (ofNat i<ofNat m))<|bif decide ((a i).y=(b i).y) then bif decide ((a i).n=(b i).n) then zN [] [] else
 zR [] [] else
 zR [] [] else
 zX 0 [] []):=qh
def B7(a b:Nat->aw)(i:Nat):Bool:=decide ((a i).y=(b i).y)&&decide ((a i).n=(b i).n)
def B8(a b:Nat->aw)(n m:Nat):Bool:=decide (n=m)&&qL (B7 a b) n
set_option maxHeartbeats 0
set_option maxRecDepth 100000
def qqh(a b:Nat->aw)(n m:Nat)(c d:Option Nat)(hn:n<=1000000):TO 45 [aX a n c,aX b m d] (.bool (B8 a b n m)):=by
 have k:∀v,Pq 45 [] [] ir [aX a n c,aX b m d] [] .ret [4] [.bool v] []->TO 45 [aX a n c,aX b m d] (.bool v):=λv h =>
  Pz.told (A:=ar) qY Tryz.func45 qh qh (l:=ir) rfl h rfl
 have x:=aP [] (quQ a b n m c d);unfold B8;by_cases e:n=m
 ·subst e;rw[wt rfl,wQ];have E:=aP [] ((quR a b n n c d).trans (qB aq rfl));have D:=aP [] (quS a b n n c d);have cC:∀i,i<n->B7 a b i=true->Pq 45 [] c7 nl (tw a b n n c d i) [] .normal nl (tw a b n n c d (i+1)) []:=by
   intro i g o;have r:=quT a b n n c d i;rw[dH ab] at r;simp only[B7,wd] at o;exact aP _ (r.trans (qj rx (qj (gV g) (qj (gV g) (qj o.1 (qj o.2 rfl))))))
  cases s:qL (B7 a b) n with
  |true =>
   have s:=(qI _ _).1 s;have u:=Pz.count (P:=au) (G:=G16) (A:=ar) (f:=45) (h0:=[]) (p:=hV) (e:=.exit 0) qh (λi=>tw a b n n c d i) (λ_=>[]) (n:=n) (by simp[tw]) (λi g=>cC i g (s i g)) (aP _ ((quU a b n n c d n).trans (qB aq rfl)));exact k true (ao x (ao E (ao (ao D (cO 0 u)) (aP _ (show cD 45 [2,2,2] [] [] [] [4]=some (.ret,[.bool true],[]) by rfl)))))
  |false =>
   obtain⟨i,g,o,I⟩:=YT s;have C:Pq 45 [] c7 nl (tw a b n n c d i) [] .ret [4] [.bool false] []:=by
    have r:=qr0 a b n n c d i;refine aP _ (r.trans (qj (by simpa using g) (qj (gV g) (qj (gV g) ?_))));unfold B7 at o;grind
   have u:=Pz.count (P:=au) (G:=G16) (A:=ar) (f:=45) (h0:=[]) (p:=hV) (e:=.ret) qh (λi=>tw a b n n c d i) (λ_=>[]) (n:=i) (by simp[tw]) (λj B=>cC j (by have B:j<i:=B;omega) (I j B)) C;exact k false (ao x (ao E (ed (ao D (cO 0 u)))))
 .rw[vJ e,xT];exact k false (ao x (ed (aP _ ((qrZ a b n m c d).trans (qj rx rfl)))))
def AL(e:Int)(_:t7):Option T:=some (iI e)
def k44(p q r:t7->T->Prop)(a b c:Int)(F:dC):QK au G16 ar (((qt.add 77 (qH p (AL a))).add 78 (qH q (AL b))).add 79 (qH r (AL c))) 0 44 [.agg F.c] =
( gD (qx (p [F.t.v] (iI a)))<|bif !decide (a=0) then some (iI a) else
 gD (qx (q [.agg F.c] (iI b)))<|bif !decide (b=0) then some (iI b) else
 gD (qx (r [.agg F.c] (iI c)))<|some (iI c)):=qh
def Bt(F:dC):Int:=bif qL (AJ F) F.nc then 0 else 1
def kJ(F:dC)(c:Int):Int:=bif !decide (yU F.t=0) then yU F.t else bif !decide (Bt F=0) then Bt F else c
def qkJ(F:dC)(hF:F.Ok)(c:Int)(h:TO 79 [.agg F.c] (iI c)):TO 44 [.agg F.c] (iI (kJ F c)):=by
 obtain⟨p,d⟩:=qz au G16 77;obtain⟨q,a⟩:=qz au G16 78;obtain⟨r,hr⟩:=qz au G16 79;have e:=qr (qr (qr (P:=au) (Gl:=G16) qm (qn d (F:=AL (yU F.t)))) (qn a (F:=AL (Bt F)))) (qn hr (F:=AL c));refine qE qV qY e (A:=ar) (m:=0) ((k44 p q r (yU F.t) (Bt F) c F).trans ?_);refine qj (qU.2 (QF d (qqb F.t hF.t))) ?_;unfold kJ;cases decide (yU F.t=0) with
 |false=>rfl
 |true =>
  rw[Bool.not_true,wq,wq];refine qj (qU.2 (QF a (qqd F hF))) ?_;cases decide (Bt F=0) with
  |false=>rfl
  |true =>
   rw[Bool.not_true,wq,wq];exact qj (qU.2 (QF hr h)) rfl
structure mq where
 (g:Nat->Nat->aw) (l:Nat->Nat) (n:Nat) (c:Option Nat)
def mq.v(s:mq):T:=.view 1 s.n (λi=>[aX (s.g i) (s.l i) none]) s.c
def Fb(s:mq)(a i:Nat):t7:=[s.v,iI (ofNat a),s.v,iI (ofNat s.n),iI (ofNat i)]
def quV(s:mq):cD 80 [1] [0] [s.v] [] [0] =
( zN [s.v] []):=qh
def quW(s:mq):cD 80 eH [0] [s.v] [] tR =
( zN [s.v,iI 0] []):=qh
def quX(s:mq)(a:Nat):cD 80 mQ tR [s.v,iI (ofNat a)] [] pr =
( zN (Fb s a (nat_lit 0)) []):=qh
def Vd(s:mq)(a i:Nat):cD 80 c7 pr (Fb s a i) [] pr =
( bif decide (ofNat i<ofNat s.n) then gD (decide (0<=ofNat i)&&decide (ofNat i<ofNat s.n))<|zN [s.v,iI (i64.wrap (ofNat a+ofNat (s.l i))),s.v,iI (.ofNat s.n),iI (i64.wrap (ofNat i+1))] [] else
 zX 0 (Fb s a i) []):=qh
def quY(s:mq)(a:Nat):cD 80 dd tR [s.v,iI (ofNat a)] [] [0,6] =
( gD (decide (0<=ofNat a)&&decide (ofNat a<=ofNat a)&&decide (ofNat a*16<=140737488355328)&&decide (ofNat a<=9223372036854775807))<|zN [s.v,.own 0 0 0 a (some a)] [.mk 0 2 a (λx=>[uI 0,iI 0]) true false
 none]):=qh
def iB(a:Nat)(z:Nat->aw):ap:=.mk 0 2 a (λx=>(z x).c) true false none
def Fc(s:mq)(a k i:Nat):t7:=[.own 0 0 0 a (some a),iI (ofNat k),s.v,iI (ofNat s.n),iI (ofNat i)]
def quZ(s:mq)(a:Nat)(z:Nat->aw):cD 80 k7 [0,6] [s.v,.own 0 0 0 a (some a)] [iB a z] [0,6,7] =
( zN [s.v,.own 0 0 0 a (some a),iI 0] [iB a z]):=qh
def qu0(s:mq)(a k:Nat)(z:Nat->aw):cD 80 [1,1,2,2,2,2,2] [0,6,7] [s.v,.own 0 0 0 a (some a),iI (ofNat k)] [iB a z] pE =
( zN (Fc s a k (nat_lit 0)) [iB a z]):=qh
def Ve(s:mq)(a k i:Nat)(z:Nat->aw):cD 80 ql pE (Fc s a k i) [iB a z] pE =
( bif decide (ofNat i<ofNat s.n) then gD (decide (0<=ofNat i)&&decide (ofNat i<ofNat s.n))<|gD (decide (0<=ofNat k)&&decide (ofNat k<=ofNat a)&&decide (ofNat a<=ofNat a))<|gD (((0:Nat)+k+(a-k)).ble a)<|zN [.own 0 0 0 a (some a),iI (i64.wrap (ofNat k+ofNat ((s.l i).min (a-k)))),s.v,iI (.ofNat s.n),iI (i64.wrap (ofNat i+1))] [.mk 0 2 a (λj=>bif ((0:Nat)+k).ble j&&j.blt (0+k+(s.l i).min (a-k)) then(s.g i (j-((0:Nat)+k))).c
 else(z j).c) true false
 none] else
 zX 2 (Fc s a k i) [iB a z]):=qh
def qu1(a:Nat)(z:Nat->aw):cD 80 sw [6] [.own 0 0 0 a (some a)] [iB a z] [2] =
( zR [.own 0 0 0 a (some a)] [iB a z]):=qh
def mq.sum(s:mq):Nat->Nat
 |0=>0
 |y+1=>s.sum y+s.l y
def mq.z(s:mq)(a:Nat):Nat->Nat->aw
 |0=>λ_=>⟨0,0⟩
 |i+1=>λj=>bif Nat.ble (0+s.sum i) j&&j.blt (0+s.sum i+(s.l i).min (a-s.sum i)) then s.g i (j-(0+s.sum i)) else s.z a i j
def mq.mono(s:mq){i n:Nat}(h:i<=n):s.sum i<=s.sum n:=by
 induction n with
 |zero=>grind
 |succ n a =>
  rcases wu i (n+1) with q|q
  .exact wM (a ab) (xR _ _)
  grind
def qnX(s:mq)(hn:s.n<=1000000)(Q:s.sum s.n<=1000000):TO 80 [s.v] (.fresh true 2 (s.sum s.n) (λj=>(s.z (s.sum s.n) s.n j).c) (s.sum s.n) (some (s.sum s.n))):=by
 have mono:∀i,i<=s.n->s.sum i<=s.sum s.n:=λi d=>s.mono d;have H:=aP [] (quV s);have E:=aP [] (quW s);have D:=aP [] (quX s 0);have cC:∀i,i<s.n->Pq 80 [] c7 pr (Fb s (s.sum i) i) [] .normal pr (Fb s (s.sum (i+1)) (i+1)) []:=by
  intro i d;have L:=mono (i+1) d;have J:s.sum (i+1)=s.sum i+s.l i:=rfl;have q:=Vd s (s.sum i) i;rw[dH ab,U4 ab] at q;exact aP _ (q.trans (qj rx (qj (gV d) rfl)))
 have o:=Pz.count (P:=au) (G:=G16) (A:=ar) (f:=80) (h0:=[]) (p:=hV) (e:=.exit 0) qh (λi=>Fb s (s.sum i) i) (λ_=>[]) (n:=s.n) aq cC (aP _ ((Vd s (s.sum s.n) s.n).trans (qB aq rfl)));have lens:∀i,s.sum (i+1)=s.sum i+s.l i:=λi=>rfl;have k:=quY s (s.sum s.n);generalize U:s.sum s.n=a at *
 have pe:=aP [] (k.trans (qj rx rfl));have C:=aP [] (quZ s a (s.z a 0));have B:=aP [] (qu0 s a 0 (s.z a 0));have O:∀i,i<s.n->Pq 80 [] ql pE (Fc s a (s.sum i) i) [iB a (s.z a i)] .normal pE (Fc s a (s.sum (i+1)) (i+1)) [iB a (s.z a (i+1))]:=by
  intro i d;have L:=mono (i+1) d;have J:=lens i;have q:=Ve s a (s.sum i) i (s.z a i);rw[dH ab,show(s.l i).min (a-s.sum i)=s.l i from uf ab,U4 ab] at q;refine aP _ (q.trans (qj rx (qj (gV d) (qj rx (qj (qR ab) ?_)))));refine vA some (vA (Prod.mk _) (vA (Prod.mk _) (vA (λx=>[x]) ?_)));refine vA (λg=>ap.mk 0 2 a g true false none) (funext λj=>?_);rw[show s.z a (i+1) j=bif Nat.ble (0+s.sum i) j&&j.blt (0+s.sum i+(s.l i).min (a-s.sum i)) then s.g i (j-(0+s.sum i)) else s.z a i j from rfl,show(s.l i).min (a-s.sum i)=s.l i from uf ab];cases Nat.ble (0+s.sum i) j&&j.blt (0+s.sum i+s.l i)<;>rfl
 have N:=Pz.count (P:=au) (G:=G16) (A:=ar) (f:=80) (h0:=[]) (p:=[0,2,1,2,2,2,2,2]) (e:=.exit 2) qh (λi=>Fc s a (s.sum i) i) (λi=>[iB a (s.z a i)]) (n:=s.n) aq O (aP _ ((Ve s a (s.sum s.n) s.n (s.z a s.n)).trans (qB aq rfl)));have u:=aP [] (qu1 a (s.z a s.n));have all:=ao H (ao E (ao (ao D (cO 0 (Pz.only o (l2:=tR) rfl))) (ao pe (ao C (ao (ao B (cO 2 (Pz.only N (l2:=[6]) rfl))) u)))));refine aD.ma (r:=.fresh true 2 (a-0) (λj=>(s.z a s.n (0+j)).c) a (some a)) ?_ (.fresh ab ab (λm R=>rx) λj S=>by rw[wo]);refine Pz.told (A:=ar) qY Tryz.func80 qh qh (l:=[0]) rfl all ?_;show some (bif Nat.ble (0+a) a then _ else T.undef)=_;rw[qR ab];rfl
structure oI where
 (b:Nat->Int) (s:mq)
def oI.v(x:oI):T:=.view 2 x.s.n (λi=>[uI (x.b i),aX (x.s.g i) (x.s.l i) none]) none
def hB(n:Nat)(w:Nat->T):ap:=.mk 0 1 n (λe=>[w e]) false false none
def Fe(x:oI)(i:Nat):t7:=[.own 0 0 0 x.s.n (some x.s.n),x.v,iI (ofNat x.s.n),iI (ofNat i)]
def LI(n:Nat)(z:Nat->aw)(_:t7):Option T:=some (.fresh true 2 n (λj=>(z j).c) n (some n))
def qu2(x:oI):cD 46 [1] [0] [x.v] [] [0] =
( zN [x.v] []):=qh
def qu3(x:oI):cD 46 eH [0] [x.v] [] tR =
( gD (decide (0<=ofNat x.s.n)&&decide (ofNat x.s.n<=ofNat x.s.n)&&decide (ofNat x.s.n*24<=140737488355328)&&decide (ofNat x.s.n<=9223372036854775807))<|zN [x.v,.own 0 0 0 x.s.n (some x.s.n)] [hB x.s.n λe=>.ae]):=qh
def qu4(x:oI)(w:Nat->T):cD 46 mQ tR [x.v,.own 0 0 0 x.s.n (some x.s.n)] [hB x.s.n w] sc =
( zN (Fe x (nat_lit 0)) [hB x.s.n w]):=qh
def Vf(x:oI)(w:Nat->T)(i:Nat):cD 46 c7 sc (Fe x i) [hB x.s.n w] sc =
( bif decide (ofNat i<ofNat x.s.n) then gD (decide (0<=ofNat i)&&decide (ofNat i<ofNat x.s.n))<|gD (decide (0<=ofNat i)&&decide (ofNat i<ofNat x.s.n))<|gD (((0:Nat)+i).blt x.s.n&&true&&true&&true)<|zN [.own 0 0 0 x.s.n (some x.s.n),x.v,iI (.ofNat x.s.n),iI (i64.wrap (ofNat i+1))] [hB x.s.n λe=>bif e==0+i then aX (x.s.g i) (x.s.l i) none else w e] else
 zX 0 (Fe x i) [hB x.s.n w]):=qh
def qu5(p:t7->T->Prop)(x:oI)(m:Nat)(z:Nat->aw)(g:Nat->Nat->aw)(l:Nat->Nat):cK (qt.add 80 (qH p (LI m z))) 46 [2,2,2] [3] [.own 0 0 0 x.s.n (some x.s.n)] [hB x.s.n (λi=>aX (g i) (l i) none)] [2] =
( gD (qx (p [bif ((0:Nat)+x.s.n).ble x.s.n then .view 1 x.s.n (λj=>[aX (g (0+j)) (l (0+j))
 none]) (some x.s.n)
 else .undef] (.fresh true (2:Nat) m (λj=>(z j).c) m (some m))))<|zR [.own 1 0 0 m (some m)] [hB x.s.n λe=>aX (g e) (l e)
 none,iB m z]):=qh
def oI.w(x:oI)(i:Nat):Nat->T:=λe=>bif e.blt i then aX (x.s.g e) (x.s.l e) none else .ae
def mq.cap(s:mq):mq:={ s with c:=some s.n }
def oI.hn(x:oI):Nat:=x.s.cap.sum x.s.n
def oI.hz(x:oI):Nat->aw:=x.s.cap.z x.hn x.s.n
def qr4(x:oI)(hn:x.s.n<=1000000)(E:x.hn<=1000000):TO 46 [x.v] (.fresh true 2 x.hn (λj=>(x.hz j).c) x.hn (some x.hn)):=by
 obtain⟨p,k⟩:=qz au G16 80;have a:=qnX x.s.cap hn E;have a:TO 80 [x.s.cap.v] (.fresh true 2 x.hn (λj=>(x.hz j).c) x.hn (some x.hn)):=a;have D:=aP [] (qu2 x);have C:=aP [] ((qu3 x).trans (qj rx rfl));have B:=aP [] (qu4 x (x.w 0));have cC:∀i,i<x.s.n->Pq 46 [] c7 sc (Fe x i) [hB x.s.n (x.w i)] .normal sc (Fe x (i+1)) [hB x.s.n (x.w (i+1))]:=by
  intro i o;have q:=Vf x (x.w i) i;rw[dH ab] at q;refine aP _ (q.trans (qj rx (qj (gV o) (qj (gV o) (qj (by rw[qN ab];rfl) ?_)))));refine vA some (vA (Prod.mk _) (vA (Prod.mk _) (vA (λy=>[y]) (vA (hB x.s.n) (funext λe=>?_)))));unfold oI.w;by_cases c:e=i
  .subst c;rw[show(e==0+e)=true by simp,qN (by omega:e<e+1)];rfl
  .rw[show(e==0+i)=false by grind,wq];rcases wu e i with d|d
   .rw[qN d,qN (by omega:e<i+1)]
   .rw[show e.blt i=false from xV.2 λh=>by have:=xL h;omega,show e.blt (i+1)=false from xV.2 λh=>by have:=xL h;omega]
 have u:=Pz.count (P:=au) (G:=G16) (A:=ar) (f:=46) (h0:=[]) (p:=hV) (e:=.exit 0) qh (λi=>Fe x i) (λi=>[hB x.s.n (x.w i)]) (n:=x.s.n) aq cC (aP _ ((Vf x (x.w x.s.n) x.s.n).trans (qB aq rfl)));have H:=Pz.post (Pz.only u (l2:=[3]) rfl) (v2:=[.own 0 0 0 x.s.n (some x.s.n)]) (h2:=[hB x.s.n (λe=>aX (x.s.g e) (x.s.l e) none)]) λnt=>.same (.cons ⟨rfl,rfl,rfl,id,λe he=>by
  show [aX (x.s.g e) (x.s.l e) none]=[x.w x.s.n e];unfold oI.w;rw[qN (show e<x.s.n from he)];rfl⟩ .nil)
 have pe:=bR (qr qm (qn k (F:=LI x.hn x.hz))) [] ((qu5 p x x.hn x.hz x.s.g x.s.l).trans (qj (by
  rw[qR ab,wp];simp only[wo];exact qU.2 (QF k a)) rfl))
 have all:=ao D (ao C (ao (ao B (cO 0 H)) pe));refine aD.ma (r:=.fresh true 2 (x.hn-0) (λj=>(x.hz (0+j)).c) x.hn (some x.hn)) ?_ (.fresh ab ab (λm L=>rx) λj a=>by rw[wo]);refine Pz.told (A:=ar) qY Tryz.func46 qh qh (l:=[0]) rfl all ?_;show some (bif Nat.ble (0+x.hn) x.hn then _ else T.undef)=_;rw[qR ab];rfl
def Pj:t7->Option T
 |[.agg [.int _ y,.int _ n]]=>some (.bool (so ⟨y,n⟩))
 |_=>none
def AM(t:bt)(y:bC)(i:Nat):t7:=[t.v,bY y.pe y.np none,iI (ofNat y.np),iI (ofNat i)]
def qu6(y:bC)(c:Int)(t:bt):cD 43 [1] [0,1,2] [.agg y.c,iI c,t.v] [] db =
(
 some ((.normal,[iI c,t.v,.ag y.c],[]))):=qh
def qu7(p:t7->T->Prop)(e:Int)(y:bC)(c:Int)(t:bt):cK (qt.add 75 (qH p (AL e))) 43 eH db [iI c,t.v,.ag y.c] [] ta =
(
 bif qx (p [.agg y.c] (iI e)) then
 bif !decide (e=0) then
 some ((.ret,[t.v,.ag y.c],[]))
 else
 bif !decide (y.ct=c) then
 some ((.ret,[t.v,.ag y.c],[]))
 else
 some ((.normal,[t.v,.ag y.c],[]))
 else
 none):=qh
def qr5(p:t7->T->Prop)(e:Int)(y:bC)(c:Int)(t:bt):cK (qt.add 75 (qH p (AL e))) 43 eH db [iI c,t.v,.ag y.c] [] [6] =
(
 bif qx (p [.agg y.c] (iI e)) then
 bif !decide (e=0) then
 some ((.ret,[.bool false],[]))
 else
 bif !decide (y.ct=c) then
 some ((.ret,[.bool false],[]))
 else
 some ((.normal,[.undef],[]))
 else
 none):=qh
def qu8(y:bC)(t:bt):cD 43 lD ta [t.v,.ag y.c] [] ta =
(
 bif y.i then
 bif !decide (y.pl=(-13:Int)) then
 bif !decide (y.pl=179) then
 some ((.ret,[t.v,.ag y.c],[]))
 else
 some ((.normal,[t.v,.ag y.c],[]))
 else
 some ((.normal,[t.v,.ag y.c],[]))
 else
 some ((.normal,[t.v,.ag y.c],[]))):=qh
def qr6(y:bC)(t:bt):cD 43 lD ta [t.v,.ag y.c] [] [6] =
(
 bif y.i then
 bif !decide (y.pl=(-13:Int)) then
 bif !decide (y.pl=179) then
 some ((.ret,[.bool false],[]))
 else
 some ((.normal,[.undef],[]))
 else
 some ((.normal,[.undef],[]))
 else
 some ((.normal,[.undef],[]))):=qh
def qu9(y:bC)(t:bt):cD 43 s5 ta [t.v,.ag y.c] [] n0 =
(
 some ((.normal,AM t y (nat_lit 0),[]))):=qh
def Vg(p:t7->T->Prop)(y:bC)(t:bt)(i:Nat):cK (qt.add 76 (qH p Pj)) 43 mf n0 (AM t y i) [] n0 =
(
 bif decide (ofNat i<ofNat y.np) then
 bif decide (0<=ofNat i)&&decide (ofNat i<ofNat y.np) then
 bif qx (p [.agg [uI (y.pe i).y,iI (y.pe i).n]] (.bool (decide ((1:Int)<=(y.pe i).y)&&(decide ((y.pe i).y<=6)&&(decide ((0:Int)<=(y.pe i).n)&&decide ((y.pe i).n<2048)))))) then
 bif decide ((1:Int)<=(y.pe i).y)&&(decide ((y.pe i).y<=6)&&(decide ((0:Int)<=(y.pe i).n)&&decide ((y.pe i).n<2048))) then
 bif decide (0<=u8.wrap ((y.pe i).y-1))&&decide (u8.wrap ((y.pe i).y-1)<ofNat t.h) then
 bif decide (ofNat (t.ln (u8.wrap ((y.pe i).y-(1:Int))).toNat)<=(y.pe i).n) then
 some ((.ret,AM t y i,[]))
 else
 some ((.normal,[t.v,bY y.pe y.np
 none,iI (.ofNat y.np),iI (i64.wrap (ofNat i+1))],[]))
 else none else
 some ((.ret,AM t y i,[]))
 else none else none else
 some ((.exit 0,AM t y i,[]))):=qh
def qr8(p:t7->T->Prop)(y:bC)(t:bt)(i:Nat):cK (qt.add 76 (qH p Pj)) 43 mf n0 (AM t y i) [] [6] =
(
 bif decide (ofNat i<ofNat y.np) then
 bif decide (0<=ofNat i)&&decide (ofNat i<ofNat y.np) then
 bif qx (p [.agg [uI (y.pe i).y,iI (y.pe i).n]] (.bool (decide ((1:Int)<=(y.pe i).y)&&(decide ((y.pe i).y<=6)&&(decide ((0:Int)<=(y.pe i).n)&&decide ((y.pe i).n<2048)))))) then
 bif decide ((1:Int)<=(y.pe i).y)&&(decide ((y.pe i).y<=6)&&(decide ((0:Int)<=(y.pe i).n)&&decide ((y.pe i).n<2048))) then
 bif decide (0<=u8.wrap ((y.pe i).y-1))&&decide (u8.wrap ((y.pe i).y-1)<ofNat t.h) then
 bif decide (ofNat (t.ln (u8.wrap ((y.pe i).y-(1:Int))).toNat)<=(y.pe i).n) then
 some ((.ret,[.bool false],[]))
 else
 some ((.normal,[.undef],[]))
 else none else
 some ((.ret,[.bool false],[]))
 else none else none else
 some ((.exit 0,[.undef],[]))):=qh
def qva :cD 43 tS [] [] [] [6] =
(
 some ((.ret,[.bool true],[]))):=qh
def B9(t:bt)(y:bC)(i:Nat):Bool:=so (y.pe i).id&&decide ((y.pe i).n<(t.ln ((y.pe i).y-1).toNat:Int))
def ux(t:bt)(y:bC)(c:Int):Bool:=decide (Bs y=0)&&(decide (y.ct=c)&&(!(y.i&&(!decide (y.pl = -13)&&!decide (y.pl=179)))&&qL (B9 t y) y.np))
def Vh(y:bC)(c:Int)(t:bt)(hn:y.np<=1000000)(ht:t.h=6):TO 43 [.agg y.c,iI c,t.v] (.bool (ux t y c)):=by
 obtain⟨q,R⟩:=qz au G16 75;obtain⟨p,S⟩:=qz au G16 76;have J:=qr qm (P:=au) (Gl:=G16) (qn S (F:=Pj));have I:=qr qm (P:=au) (Gl:=G16) (qn R (F:=AL (Bs y)));have W:=qU.2 (QF R (qrY y hn));have M:∀i,qx (p [.agg [uI (y.pe i).y,iI (y.pe i).n]] (.bool (so (y.pe i).id)))=true:=λi=>qU.2 (QF S (Vc (y.pe i).id));have X:=aP [] (qu6 y c t);have a:∀v,Pq 43 [] [2] db [iI c,t.v,.ag y.c] [] .ret [6] [.bool v] []->TO 43 [.agg y.c,iI c,t.v] (.bool v):=λv h=>Pz.told (A:=ar) qY Tryz.func43 qh qh (l:=[0,1,2]) rfl (ao X h) rfl;have r:=qu7 q (Bs y) y c t;have d:=qr5 q (Bs y) y c t;have B:=qu8 y t;have N:=qr6 y t;rw[W,wp] at r d;unfold ux;cases V:decide (Bs y=0) with
 |false =>
  rw[V] at d;exact a false (ed (bR I _ d))
 |true =>
  rw[V] at r d;cases U:decide (y.ct=c) with
  |false =>
   rw[U] at d;exact a false (ed (bR I _ d))
  |true =>
   rw[U] at r;have D:=bR I [] r;cases s:(y.i&&(!decide (y.pl = -13)&&!decide (y.pl=179))) with
   |true =>
    simp only[wd] at s;rw[s.1,s.2.1,s.2.2] at N;exact a false (ao D (ed (aP _ N)))
   |false =>
    have B:cD 43 lD ta [t.v,.ag y.c] [] ta=some (.normal,[t.v,.ag y.c],[]):=by
     rw[B];grind
    have Q:=aP [] B;have O:=aP [] (qu9 y t);have nm:∀i,so (y.pe i).id=true->1<=(y.pe i).y/\(y.pe i).y<=6:=λi h=>by
     simp only[so,wd,wm] at h;exact⟨h.1,h.2.1⟩
    have cC:∀i,i<y.np->B9 t y i=true->Pq 43 [] mf n0 (AM t y i) [] .normal n0 (AM t y (i+1)) []:=by
     intro i k g;simp only[B9,wd,wm] at g;have b:=nm i g.1;have o:=Vg p y t i;rw[dH ab,nY (x:=(y.pe i).y-1) ab ab] at o;exact bR J _ (o.trans (qj rx (qj (gV k) (qj (M i) (qj g.1 (qj rx (qB rx rfl)))))))
    cases u:qL (B9 t y) y.np with
    |true =>
     have u:=(qI _ _).1 u;have C:=Pz.count (P:=au) (G:=G16) (A:=ar) (f:=43) (h0:=[]) (p:=tu) (e:=.exit 0) qh (λi=>AM t y i) (λ_=>[]) (n:=y.np) aq (λi k=>cC i k (u i k)) (bR J _ ((Vg p y t y.np).trans (qB aq rfl)));exact a true (ao D (ao Q (ao (ao O (cO 0 (Pz.only C (l2:=[]) rfl))) (aP _ qva))))
    |false =>
     obtain⟨i,k,g,Z⟩:=YT u;have L:Pq 43 [] mf n0 (AM t y i) [] .ret [6] [.bool false] []:=by
      have o:=(qr8 p y t i).trans (qj rx (qj (gV k) (qj (M i) rfl)));refine bR J _ (o.trans ?_);unfold B9 at g;cases E:so (y.pe i).id with
      |false=>exact qB (by show ¬so (y.pe i).id=true;rw[E];simp) rfl
      |true =>
       have b:=nm i E;rw[E,wQ,wV] at g;rw[nY (x:=(y.pe i).y-1) ab ab];grind
     have C:=Pz.count (P:=au) (G:=G16) (A:=ar) (f:=43) (h0:=[]) (p:=tu) (e:=.ret) qh (λi=>AM t y i) (λ_=>[]) (n:=i) aq (λj H=>cC j (by have H:j<i:=H;omega) (Z j H)) L;exact a false (ao D (ao Q (ed (ao O (cO 0 C)))))
structure am where
 (k y a b:Int) (f:Bool)
def am.c(s:am):t7:=[uI s.k,uI s.y,iI s.a,iI s.b,.bool s.f]
def aN(r:Nat->am)(n:Nat)(c:Option Nat):T:=.view 5 n (λj=>(r j).c) c
def KW(y:Int):T:=.fn 113 [.vp [uI y]]
def Ff(r:Nat->am)(n:Nat)(c:Option Nat)(y:Int)(i:Nat):t7:=[aN r n c,KW y,iI n,iI i]
noncomputable def LM(p:t7->T->Prop)(s:am)(y:Int):bv:=qt.add 113 (qH p λ_=>some (.bool (decide (s.y=y))))
noncomputable def Pl(p:t7->T->Prop)(x:Int):bv:=qt.add 137 (qH p λ_=>some (iI x))
noncomputable def Pm(x:t7->qa->Ex->t7->qa->Prop)(b:Bool)(k:Nat):List (Nat×(t7->qa->LT)):=[(2,Zy x (.ite b (.ret .ret [iI k] []) (.ret (.exit 0) [.undef] [])))]
def Vt(s:am)(y:Int):TO 113 [.agg s.c,.vp [uI y]] (.bool (decide (s.y=y))):=by
 refine qE qV qY qm (K:=qt) (A:=ar) (m:=0) ?_;rw[(show QK au G16 ar qt 0 113 [.agg s.c,.vp [uI y]] =
( bif decide (s.y=y) then some (.bool true) else
 some (.bool false)) from qh)]
 cases decide (s.y=y)<;>rfl
def Po(r:Nat->am)(n:Nat)(c:Option Nat)(y:Int)(i:Nat)(p:t7->T->Prop):QO au G16 ar (LM p (r i) y) 0 137 [] 2 (Ff r n c y i) [] =
( bif decide (ofNat i<ofNat n) then gD (decide (0<=ofNat i)&&decide (ofNat i<ofNat n))<|gD (qx (p [.agg (r i).c,.vp [uI y]] (.bool (decide ((r i).y=y)))))<|bif decide ((r i).y=y) then zR [iI (.ofNat i)] [] else
 zN [aN r n c,KW y,iI (.ofNat n),iI (i64.wrap (ofNat i+1))] [] else
 zX 0 [.undef] []):=qh
def Vu(r:Nat->am)(n:Nat)(c:Option Nat)(y:Int)(b:Bool)(k:Nat)(x:t7->qa->Ex->t7->qa->Prop):Z6 au G16 ar qt 0 137 (Pm x b k) [aN r n c,KW y] =
( bif b then gD (qx (x (Ff r n c y (nat_lit 0)) [] .ret [iI (.ofNat k)] []))<|some (iI (.ofNat k)) else
 gD (qx (x (Ff r n c y (nat_lit 0)) [] (.exit 0) [.undef] []))<|some (iI (-1:Int))):=qh
def Vv(r:Nat->am)(n:Nat)(c:Option Nat)(y x:Int)(p:t7->T->Prop):QK au G16 ar (Pl p x) 0 114 [aN r n c,KW y] =
( gD (qx (p [aN r n c,KW y] (iI x)))<|bif decide (0<=x) then some (.bool true) else
 some (.bool false)):=qh
def uZ(r:Nat->am)(n:Nat)(y:Int):Bool:=!(qL (λi=>!(decide ((r i).y=y))) n)
def qn2(r:Nat->am)(n:Nat)(c:Option Nat)(y:Int)(hn:n<=1000000):(uZ r n y=false->ax au G16 (ar 137) 137 2 (Qx (Ff r n c y 0) [] (.exit 0) [.undef] []))/\(uZ r n y=true->∃e v h,(e = .ret/\h=[]/\∃k:Nat,v=[iI k])/\ax au G16 (ar 137) 137 2 (Qx (Ff r n c y 0) [] e v h)):=by
 obtain⟨p,a⟩:=qz au G16 113;have key:=YS (P:=au) (Gl:=G16) (e1:=.exit 0) (v1:=[.undef]) (h1:=[]) qV (f:=137) (r:=2) qh (an:=ar 137) (λi=>Ff r n c y i) (λ_=>[]) (λi=>!(decide ((r i).y=y))) (n:=n) (λe v h=>e = .ret/\h=[]/\∃k:Nat,v=[iI k]) (λi j _ o=>?_) (λi j _ o=>?_) (λ_=>?_)
 .grind[uZ]
 .have g:=Vt (r i) y;refine Step.dO (A:=ar) (m:=0) (K:=LM p (r i) y) (qr qm (qn a)) rfl rfl qW (h1:=[]) ?_ .nil;rw[Po,dH ab];have q:¬(r i).y=y:=by grind
  exact BT (BT (BS (BF rfl)))
 .have g:=Vt (r i) y;refine⟨_,_,_,⟨rfl,rfl,i,rfl⟩,?_⟩;refine bM.dO (A:=ar) (m:=0) (K:=LM p (r i) y) (qr qm (qn a)) rfl rfl qW (h1:=[]) aq ?_ .nil;rw[Po];have q:(r i).y=y:=by grind
  exact BT (BT (BS (BT rfl)))
 .refine bM.dO (A:=ar) (m:=0) (K:=LM p (r n) y) (qr qm (qn a)) rfl rfl qW (h1:=[]) aq ?_ .nil;rw[Po];grind
def qn3(r:Nat->am)(n:Nat)(c:Option Nat)(y:Int)(hn:n<=1000000):TO 114 [aN r n c,KW y] (.bool (uZ r n y)):=by
 obtain⟨x,hx⟩:=QU au G16 (ar 137) 137 2;obtain⟨p,d⟩:=qz au G16 137;have a:=qn2 r n c y hn;cases f:uZ r n y
 ·have i:=a.1 f;have g:TO 137 [aN r n c,KW y] (iI (-1)):=by
   refine Qs qV qY (K:=qt) qm (A:=ar) (m:=0) (l:=Pm x false 0) qh (Qo (qX hx _)) ?_;rw[Vu];exact qB aq (BS rfl)
  refine qE qV qY (K:=Pl p (-1)) (qr qm (qn d)) (A:=ar) (m:=0) ?_;rw[Vv];exact BS (qB (by decide) rfl)
 ·obtain⟨e,v,h,⟨rfl,rfl,k,rfl⟩,i⟩:=a.2 f;have g:TO 137 [aN r n c,KW y] (iI k):=by
   refine Qs qV qY (K:=qt) qm (A:=ar) (m:=0) (l:=Pm x true k) qh (Qo (qX hx _)) ?_;rw[Vu];exact qj rfl (BS rfl)
  refine qE qV qY (K:=Pl p k) (qr qm (qn d)) (A:=ar) (m:=0) ?_;rw[Vv];exact BS (qj aq rfl)
def am.t(s:am):T:=.agg s.c
structure am.Ok(s:am):Prop where
 k:0<=s.k/\s.k<256
 y:0<=s.y/\s.y<256
 a:-9223372036854775808<=s.a/\s.a<=9223372036854775807
 b:-9223372036854775808<=s.b/\s.b<=9223372036854775807
def am.v(s:am):Bool:=bif decide (s.k<1) then false else bif decide (8<s.k) then false else bif decide (s.y<1) then false else bif decide (6<s.y) then false else
 bif !decide (s.k=8) then(bif !decide (s.a=0) then false else bif !decide (s.b=0) then false else bif s.f then false else true) else
 bif decide (s.a<1) then false else bif decide (4<s.a) then false else bif decide (s.b<1) then false else bif decide (i64.wrap (4-s.a)<s.b) then false else true
def dX(s:am):Bool:=s.v
def GZ(b:Bool):Int:=bif b then 0 else 1
noncomputable def LN(p:t7->T->Prop)(s:am):bv:=qt.add 58 (qH p λ_=>some (iI (GZ (dX s))))
def am.n(s:am):Int:=bif dX s then(bif decide (s.k=3) then 0 else bif decide (s.k=4) then 2 else bif decide (s.k=5) then 2 else bif decide (s.k=8) then i64.wrap (s.a+s.b) else 1) else 0
def am.m(s:am):Int:=bif dX s then(bif decide (s.k=8) then i64.wrap (s.a+s.b) else 1) else 0
def jT(s:am):TO 58 [s.t] (iI (GZ (dX s))):=by
 refine qE qV qY qm (K:=qt) (A:=ar) (m:=0) ?_;rw[(show QK au G16 ar qt 0 58 [s.t] =
( bif decide (s.k<1) then some (iI 1) else
 bif decide (8<s.k) then some (iI 1) else
 bif decide (s.y<1) then some (iI 1) else
 bif decide (6<s.y) then some (iI 1) else
 bif !decide (s.k=8) then bif !decide (s.a=0) then some (iI 1) else
 bif !decide (s.b=0) then some (iI 1) else
 bif s.f then some (iI 1) else
 some (iI 0) else
 bif decide (s.a<1) then some (iI 1) else
 bif decide (4<s.a) then some (iI 1) else
 bif decide (s.b<1) then some (iI 1) else
 bif decide (i64.wrap (4-s.a)<s.b) then some (iI 1) else
 some (iI 0)) from qh)]
 have key:∀(c x y:Bool),some (iI (GZ (bif c then x else y)))=bif c then some (iI (GZ x)) else some (iI (GZ y)):=λc x y=>by cases c<;>rfl
 unfold dX am.v;simp only[key];rfl
def qkO(s:am):TO 31 [s.t] (iI s.n):=by
 obtain⟨p,d⟩:=qz au G16 58;refine qE qV qY (qr qm (qn d)) (K:=LN p s) (A:=ar) (m:=0) ?_;rw[(show QK au G16 ar (LN p s) 0 31 [s.t] =
( gD (qx (p [s.t] (iI (bif dX s then(0:Int)
 else(1:Int)))))<|bif !decide ((bif dX s then(0:Int)
 else(1:Int))=(0:Int)) then some (iI 0) else
 bif decide (s.k=3) then some (iI 0) else
 bif decide (s.k=4) then some (iI 2) else
 bif decide (s.k=5) then some (iI 2) else
 bif decide (s.k=8) then some (iI (i64.wrap (s.a+s.b))) else
 some (iI 1)) from qh)]
 refine qj (qu d (jT s)) ?_;unfold am.n;grind
def qkP(s:am):TO 118 [s.t] (iI s.m):=by
 obtain⟨p,d⟩:=qz au G16 58;refine qE qV qY (qr qm (qn d)) (K:=LN p s) (A:=ar) (m:=0) ?_;rw[(show QK au G16 ar (LN p s) 0 118 [s.t] =
( gD (qx (p [s.t] (iI (bif dX s then(0:Int)
 else(1:Int)))))<|bif !decide ((bif dX s then(0:Int)
 else(1:Int))=(0:Int)) then some (iI 0) else
 bif decide (s.k=8) then some (iI (i64.wrap (s.a+s.b))) else
 some (iI 1)) from qh)]
 refine qj (qu d (jT s)) ?_;unfold am.m;grind
def am.oJ(s:am)(h:s.Ok):dX s=true↔(1<=s.k/\s.k<=8/\1<=s.y/\s.y<=6/\((s.k≠8/\s.a=0/\s.b=0/\s.f=false)∨(s.k=8/\1<=s.a/\s.a<=4/\1<=s.b/\s.a+s.b<=4))):=by
 have:=h.a;unfold dX am.v;by_cases u:s.k<1
 .rw[dT u];simp;omega
 rw[dF u,wq];by_cases r:8<s.k
 .rw[dT r];simp;omega
 rw[dF r,wq];by_cases o:s.y<1
 .rw[dT o];simp;omega
 rw[dF o,wq];by_cases j:6<s.y
 .rw[dT j];simp;omega
 rw[dF j,wq];by_cases x:s.k=8
 .rw[dT x,Bool.not_true,wq];by_cases i:s.a<1
  .rw[dT i];simp;omega
  rw[dF i,wq];by_cases g:4<s.a
  .rw[dT g];simp;omega
  rw[dF g,wq];by_cases e:s.b<1
  .rw[dT e];simp;omega
  rw[dF e,wq,Qv ab ab];by_cases d:4-s.a<s.b
  .rw[dT d];simp;omega
  rw[dF d,wq];simp;omega
 grind
def am.sQ(s:am)(h:s.Ok):0<=s.n/\s.n<=4:=by
 have a:=s.oJ h;unfold am.n;cases q:dX s
 .simp
 .have a:=a.1 q;rw[wp];by_cases g:s.k=3
  .rw[dT g];simp
  rw[dF g,wq];by_cases f:s.k=4
  .rw[dT f];simp
  rw[dF f,wq];by_cases e:s.k=5
  .rw[dT e];simp
  rw[dF e,wq];by_cases d:s.k=8
  .rw[dT d,wp,Qv ab ab];omega
  rw[dF d];simp
def am.sR(s:am)(h:s.Ok):0<=s.m/\s.m<=4:=by
 have a:=s.oJ h;unfold am.m;cases q:dX s
 .simp
 .have a:=a.1 q;rw[wp];by_cases d:s.k=8
  .rw[dT d,wp,Qv ab ab];omega
  rw[dF d];simp
def zh(N:Nat->Int):Nat->Int
 |0=>0
 |i+1=>zh N i+N i
def cU(r:Nat->am)(n:Nat)(c:Option Nat):T:=.view 5 n (λj=>(r j).c) c
def su(r:Nat->am)(n:Nat)(c:Option Nat)(fn:Nat)(sum i:Int):t7:=[.fn fn [],iI sum,cU r n c,iI n,iI i]
noncomputable def LO(p:t7->T->Prop)(fn:Nat)(x:Int):bv:=qt.add fn (qH p λ_=>some (iI x))
def tz(r:Nat->am)(n:Nat)(c:Option Nat)(i:Int):t7:=[cU r n c,cU r n c,iI n,iI i]
noncomputable def LP(p:t7->T->Prop)(x:Int):bv:=qt.add 58 (qH p λ_=>some (iI x))
noncomputable def Vw(p q:t7->T->Prop)(x y:Int):bv:=(qt.add 87 (qH p λ_=>some (iI x))).add 116 (qH q λ_=>some (iI y))
noncomputable def LQ(p:t7->T->Prop)(x:Int):bv:=qt.add 117 (qH p λ_=>some (iI x))
def uy(r:Nat->am)(n:Nat):Int:=zh (λj=>(r j).n) n
def Ca(r:Nat->am)(n:Nat):Int:=zh (λj=>(r j).m) n
def C4(r:Nat->am):Nat->Bool
 |0=>true
 |k+1=>C4 r k&&dX (r k)
def G0(x:Int):Bool:=decide (1<=x)&&decide (x<=16)
def rE(r:Nat->am)(n:Nat):Int:=if 16<n then 3 else if n=0 then 1 else if C4 r n=true then(if G0 (uy r n)=true/\G0 (Ca r n)=true then 0 else 5) else 1
def G1{N}{b}(a:∀i,0<=N i/\N i<=b):∀i:Nat,0<=zh N i/\zh N i<=b*i
 |0=>by grind[zh]
 |i+1=>by
  have e:=G1 a i;grind[zh]
def qkQ(p:Nat->Bool)(n):(∀i,i<n->p i=true)∨∃I,I<n/\p I=false/\∀i,i<I->p i=true:=by
 induction n with
 |zero=>grind
 |succ n a =>
  grind
def LR(r):∀n,C4 r n=true↔∀i,i<n->dX (r i)=true
 |0=>⟨λ_ i h=>ab,λ_=>rfl⟩
 |n+1=>by
  have a:=LR r n;grind[C4]
def qg5(r)(n)(c)(hn:n<=1000)(hr:∀j,(r j).Ok):TO 117 [cU r n c,.fn 31 []] (iI (zh (λj=>(r j).n) n)):=by
 obtain⟨p,a⟩:=qz au G16 31;have d:∀j,0<=(r j).n/\(r j).n<=4:=λj=>(r j).sQ (hr j);have k:ax au G16 (ar 117) 117 3 (Qx (su r n c 31 0 0) [] (.exit 0) [iI (zh (λj=>(r j).n) n)] []):=by
  refine QC qV qh (λi=>su r n c 31 (zh (λj=>(r j).n) i) i) (λ_=>[]) (n:=n) (λi s=>?_) ?_
  .have g:=qkO (r i);have f:=G1 d i;have u:=d i;have e:zh (λj=>(r j).n) (i+1)=zh (λj=>(r j).n) i+(r i).n:=rfl;rw[e];generalize zh (λj=>(r j).n) i=sum at *
   generalize (r i).n=x at *
   refine Step.dO (A:=ar) (K:=LO p 31 x) (m:=0) (qr qm (qn a)) rfl rfl qW (h1:=[]) ?_ .nil;rw[(show QO au G16 ar (LO p 31 x) 0 117 [] 3 (su r n c 31 sum i) [] =
( bif decide (ofNat i<ofNat n) then gD (decide (0<=ofNat i)&&decide (ofNat i<ofNat n))<|gD (qx (p [(r i).t] (iI x)))<|zN (su r n c (31:Nat) (i64.wrap (sum+x)) (i64.wrap (ofNat i+1))) [] else
 zX 0 [iI sum] []) from qh)]
   have o:i64.wrap ((i:Int)+1)=((i+1:Nat):Int):=by rw[Qv ab ab];omega
   rw[zu i,o,Qv (x:=sum+x) ab ab];refine BT ?_;refine BT ?_;refine qj (qu a g) ?_;rfl
  .generalize zh (λj=>(r j).n) n=sum;refine bM.dO (A:=ar) (m:=0) qm rfl rfl qW (h1:=[]) aq ?_ .nil;rw[(show QO au G16 ar qt 0 117 [] 3 (su r n c 31 sum n) [] =
( bif decide (ofNat n<ofNat n) then gD (decide (0<=ofNat n)&&decide (ofNat n<ofNat n)) none else
 zX 0 [iI sum] []) from qh)]
   grind
 generalize zh (λj=>(r j).n) n=sum at *
 refine Qs qV qY qm (A:=ar) (m:=0) qh (Qo k) ?_;rw[(show Z6 au G16 ar qt 0 117 [(3,Qx (su r n c 31 0 0) [] (.exit 0) [iI sum] [])] [cU r n c,.fn 31 []] =
( gD (KU (su r n c (31:Nat) (0:Int) (0:Int)) [] (su r n c (31:Nat) (0:Int) (0:Int)) [])<|some (iI sum)) from qh)]
 exact qj (YQ ⟨rfl,.refl _⟩) rfl
def qkR(r)(n)(c:Option Nat)(hn:n<=1000)(hr:∀j,(r j).Ok):TO 87 [cU r n c] (iI (uy r n)):=by
 obtain⟨p,a⟩:=qz au G16 117;have d:=qg5 r n c hn hr;unfold uy;generalize zh (λj=>(r j).n) n=x at *
 refine qE qV qY (qr qm (qn a)) (K:=LQ p x) (A:=ar) (m:=0) ?_;rw[(show QK au G16 ar (LQ p x) 0 87 [cU r n c] =
( gD (qx (p [aN r n c,.fn (31:Nat) []] (iI x)))<|some (iI x)) from qh)]
 exact qj (qu a d) rfl
def qg6(r)(n)(c)(hn:n<=1000)(hr:∀j,(r j).Ok):TO 117 [cU r n c,.fn 118 []] (iI (zh (λj=>(r j).m) n)):=by
 obtain⟨p,a⟩:=qz au G16 118;have d:∀j,0<=(r j).m/\(r j).m<=4:=λj=>(r j).sR (hr j);have k:ax au G16 (ar 117) 117 3 (Qx (su r n c 118 0 0) [] (.exit 0) [iI (zh (λj=>(r j).m) n)] []):=by
  refine QC qV qh (λi=>su r n c 118 (zh (λj=>(r j).m) i) i) (λ_=>[]) (n:=n) (λi s=>?_) ?_
  .have g:=qkP (r i);have f:=G1 d i;have u:=d i;have e:zh (λj=>(r j).m) (i+1)=zh (λj=>(r j).m) i+(r i).m:=rfl;rw[e];generalize zh (λj=>(r j).m) i=sum at *
   generalize (r i).m=x at *
   refine Step.dO (A:=ar) (K:=LO p 118 x) (m:=0) (qr qm (qn a)) rfl rfl qW (h1:=[]) ?_ .nil;rw[(show QO au G16 ar (LO p 118 x) 0 117 [] 3 (su r n c 118 sum i) [] =
( bif decide (ofNat i<ofNat n) then gD (decide (0<=ofNat i)&&decide (ofNat i<ofNat n))<|gD (qx (p [(r i).t] (iI x)))<|zN (su r n c (118:Nat) (i64.wrap (sum+x)) (i64.wrap (ofNat i+1))) [] else
 zX 0 [iI sum] []) from qh)]
   have o:i64.wrap ((i:Int)+1)=((i+1:Nat):Int):=by rw[Qv ab ab];omega
   rw[zu i,o,Qv (x:=sum+x) ab ab];refine BT ?_;refine BT ?_;refine qj (qu a g) ?_;rfl
  .generalize zh (λj=>(r j).m) n=sum;refine bM.dO (A:=ar) (m:=0) qm rfl rfl qW (h1:=[]) aq ?_ .nil;rw[(show QO au G16 ar qt 0 117 [] 3 (su r n c 118 sum n) [] =
( bif decide (ofNat n<ofNat n) then gD (decide (0<=ofNat n)&&decide (ofNat n<ofNat n)) none else
 zX 0 [iI sum] []) from qh)]
   grind
 generalize zh (λj=>(r j).m) n=sum at *
 refine Qs qV qY qm (A:=ar) (m:=0) qh (Qo k) ?_;rw[(show Z6 au G16 ar qt 0 117 [(3,Qx (su r n c 118 0 0) [] (.exit 0) [iI sum] [])] [cU r n c,.fn 118 []] =
( gD (KU (su r n c (118:Nat) (0:Int) (0:Int)) [] (su r n c (118:Nat) (0:Int) (0:Int)) [])<|some (iI sum)) from qh)]
 exact qj (YQ ⟨rfl,.refl _⟩) rfl
def qkS(r)(n)(c:Option Nat)(hn:n<=1000)(hr:∀j,(r j).Ok):TO 116 [cU r n c] (iI (Ca r n)):=by
 obtain⟨p,a⟩:=qz au G16 117;have d:=qg6 r n c hn hr;unfold Ca;generalize zh (λj=>(r j).m) n=x at *
 refine qE qV qY (qr qm (qn a)) (K:=LQ p x) (A:=ar) (m:=0) ?_;rw[(show QK au G16 ar (LQ p x) 0 116 [cU r n c] =
( gD (qx (p [aN r n c,.fn (118:Nat) []] (iI x)))<|some (iI x)) from qh)]
 exact qj (qu a d) rfl
def i66(r:Nat->am)(n)(c)(x)(i:Nat)(p):QO au G16 ar (LP p x) 0 86 [] 6 (tz r n c i) [] =
( bif decide (ofNat i<ofNat n) then gD (decide (0<=ofNat i)&&decide (ofNat i<ofNat n))<|gD (qx (p [(r i).t] (iI x)))<|bif !decide (x=0) then zR [aN r n c,iI 1] [] else
 zN (tz r n c (i64.wrap (ofNat i+1))) [] else
 zX 0 [aN r n c,.undef] []):=qh
def Vx(r)(n)(c)(hn:n<=1000)(p)(hp:p=TO 58)(i:Nat)(f:i<n)(d:dX (r i)=true):Step au G16 (ar 86) 86 6 0 (tz r n c i) [] (tz r n c (i+1:Nat)) []:=by
 have a:=jT (r i);rw[d] at a;refine Step.dO (A:=ar) (K:=LP p 0) (m:=0) (qr qm (qn hp)) rfl rfl qW (h1:=[]) ?_ .nil;have e:i64.wrap ((i:Int)+1)=((i+1:Nat):Int):=by rw[Qv ab ab];omega
 rw[i66,zu i,e];refine BT ?_;refine BT ?_;refine qj (qu hp a) ?_;grind
def qkT(r:Nat->am)(n)(c:Option Nat)(hn:n<=1000)(hr:∀j,(r j).Ok):TO 86 [cU r n c] (iI (rE r n)):=by
 unfold rE;obtain⟨p,e⟩:=qz au G16 58;rcases qkQ (λi=>dX _) n with h|⟨I,H,B,L⟩
 ·rw[wl ((LR r n).2 h)];have u:ax au G16 (ar 86) 86 6 (Qx (tz r n c 0) [] (.exit 0) [cU r n c,.undef] []):=by
   refine QC qV qh (λi=>tz r n c i) (λ_=>[]) (n:=n) (λi g=>Vx r n c hn p e i g (h i g)) ?_;refine bM.dO (A:=ar) (K:=LP p 0) (m:=0) (qr qm (qn e)) rfl rfl qW (h1:=[]) aq ?_ .nil;rw[i66];refine BF ?_;rfl
  obtain⟨o,D⟩:=qz au G16 87;obtain⟨k,C⟩:=qz au G16 116;have f:=qkR r n c hn hr;have E:=qkS r n c hn hr;generalize uy r n=x at *
  generalize Ca r n=y at *
  refine Qs qV qY (qr (qr qm (qn D)) (qn C)) (K:=Vw o k x y) (A:=ar) (m:=0) qh (Qo u) ?_;rw[(show Z6 au G16 ar (Vw o k x y) 0 86 [(6,Qx (tz r n c 0) [] (.exit 0) [cU r n c,.undef] [])] [cU r n c] =
( bif decide (16<ofNat n) then some (iI 3) else
 bif decide (ofNat n=0) then some (iI 1) else
 gD (KU (tz r n c (0:Int)) [] (tz r n c (0:Int)) [])<|gD (qx (o [aN r n c] (iI x)))<|gD (qx (k [aN r n c] (iI y)))<|bif decide (x<1) then some (iI 5) else
 bif decide (16<x) then some (iI 5) else
 bif decide (y<1) then some (iI 5) else
 bif decide (16<y) then some (iI 5) else
 some (iI 0)) from qh)]
  by_cases d:16<n
  .rw[wl d];exact BT rfl
  rw[wh d];refine BF ?_;by_cases a:n=0
  .rw[wl a];exact BT rfl
  rw[wh a];refine BF ?_;refine qj (YQ ⟨rfl,.refl _⟩) ?_;refine qj (qu D f) ?_;refine qj (qu C E) ?_;unfold G0;grind
 ·have s:¬C4 r n=true:=λh=>by
   have:=(LR r n).1 h I H;rw[B] at this;grind
  rw[wh s];have u:ax au G16 (ar 86) 86 6 (Qx (tz r n c 0) [] .ret [cU r n c,iI 1] []):=by
   refine QC qV qh (λi=>tz r n c i) (λ_=>[]) (n:=I) (λi g=>Vx r n c hn p e i ab (L i g)) ?_;have f:=jT (r I);rw[show dX (r I)=false from B] at f;refine bM.dO (A:=ar) (K:=LP p 1) (m:=0) (qr qm (qn e)) rfl rfl qW (h1:=[]) aq ?_ .nil;rw[i66];refine BT ?_;refine BT ?_;refine qj (qu e f) ?_;rfl
  refine Qs qV qY qm (A:=ar) (m:=0) qh (Qo u) ?_;rw[(show Z6 au G16 ar qt 0 86 [(6,Qx (tz r n c 0) [] .ret [cU r n c,iI 1] [])] [cU r n c] =
( bif decide (16<ofNat n) then some (iI 3) else
 bif decide (ofNat n=0) then some (iI 1) else
 gD (KU (tz r n c (0:Int)) [] (tz r n c (0:Int)) [])<|some (iI 1)) from qh)]
  by_cases d:16<n
  .rw[wl d];grind
  rw[wh d];refine BF ?_;by_cases a:n=0
  .rw[wl a];omega
  rw[wh a];refine BF ?_;exact qj (YQ ⟨rfl,.refl _⟩) rfl
def cf(B:Nat->Int)(n:Nat)(c:Option Nat):T:=.view 1 n (λj=>[iI (B j)]) c
def y7(B:Nat->Int)(j:Nat):Bool:=decide (1<=B j)&&decide (B j<=3)
def Zi(B:Nat->Int):Nat->Bool
 |0=>true
 |j+1=>Zi B j&&y7 B j
def am.mN(s:am):Nat:=s.m.toNat
def am.nN(s:am):Nat:=s.n.toNat
def mr(s:am)(B:Nat->Int)(n:Nat):Int:=if dX s=false then 1 else if n≠s.nN then 5 else if Zi B n=false then 1 else if s.k=4∨s.k=5 then(if 4<B 0+B 1 then 9 else 0) else if s.k=6 then(if B 0=3 then 9 else 0) else 0
def iZ(s:am)(B:Nat->Int)(j:Nat):Int:=if s.k=6/\j=0 then B 0+1 else if s.k=7/\j=0 then B 0 else 1
def yq(B:Nat->Int):∀n,Zi B n=true↔∀i,i<n->y7 B i=true
 |0=>⟨λ_ i h=>ab,λ_=>rfl⟩
 |n+1=>by
  have a:=yq B n;grind[Zi]
def Yp(B:Nat->Int)(j:Nat):y7 B j=true↔1<=B j/\B j<=3:=by
 unfold y7;rw[wd,wm,wm]
def qsc{s:am}{B:Nat->Int}{n:Nat}(h:dX s=false):mr s B n=1:=by simp[mr,h]
def qsd{s:am}{B:Nat->Int}{n:Nat}(h:dX s=true)(h2:n≠s.nN):mr s B n=5:=by simp[mr,h,h2]
def qse{s:am}{B:Nat->Int}{n:Nat}(h:dX s=true)(h2:n=s.nN)(a:Zi B n=false):mr s B n=1:=by simp[mr,h,←h2,a]
def VA{s:am}{B:Nat->Int}{n:Nat}(h:dX s=true)(h2:n=s.nN)(a:Zi B n=true):mr s B n=if s.k=4∨s.k=5 then(if 4<B 0+B 1 then 9 else 0) else if s.k=6 then(if B 0=3 then 9 else 0) else 0:=by simp[mr,h,←h2,a]
noncomputable def C5(p:t7->T->Prop)(b:Bool):bv:=qt.add 82 (qH p λ_=>some (iI (bif b then 1 else 0)))
def u0(r:Nat->am)(n:Nat)(c:Option Nat)(x:Int)(i:Nat):t7:=[cU r n c,iI x,iI i]
noncomputable def C6(p:t7->T->Prop)(f:Nat)(x:Int):bv:=qt.add f (qH p λ_=>some (iI x))
def C7(r:Nat->am)(n:Nat)(c:Option Nat)(i:Nat):t7:=[cU r n c,iI i]
noncomputable def VB(d a:t7->T->Prop)(x y:Int):bv:=(qt.add 20 (qH d λ_=>some (iI x))).add 93 (qH a λ_=>some (iI y))
def C8(s:am)(a b:Nat):t7:=[.ag s.c,iI a,iI b]
def Fg(s:am)(a:Nat):t7:=[.ag s.c,iI a]
def u4(s:am)(a k:Nat):Bool:=!(decide (s.a=(a:Int))&&decide (s.b=((1+k:Nat):Int)))
def Fh(s:am)(k:Nat):Bool:=qL (u4 s (1+k)) (4-(1+k))
noncomputable def LS(x:t7->qa->Ex->t7->qa->Prop)(s:am)(a:Nat):List (Nat×(t7->qa->LT)):=[(8,Zy x (.ite (qL (u4 s a) (4-a)) (.ret (.exit 2) [.ag s.c,.undef,iI a] []) (.ret .ret [.ag s.c,iI 1,iI a] [])))]
noncomputable def VC(x:t7->qa->Ex->t7->qa->Prop)(s:am)(b:Bool):List (Nat×(t7->qa->LT)):=[(5,Zy x (.ite b (.ret (.exit 0) [.undef] []) (.ret .ret [iI 1] [])))]
def Pp(s:am)(a b:Nat):QO au G16 ar qt 0 82 [] 8 (C8 s a b) [] =
( bif decide (i64.wrap (ofNat a+ofNat b)<=(4:Int)) then bif decide (s.a=ofNat a) then bif decide (s.b=ofNat b) then zR (C8 s (nat_lit 1) a) [] else
 zN [.ag s.c,iI (.ofNat a),iI (i64.wrap (ofNat b+1))] [] else
 zN [.ag s.c,iI (.ofNat a),iI (i64.wrap (ofNat b+1))] [] else
 zX 2 [.ag s.c,.undef,iI (.ofNat a)] []):=qh
def i53(s:am)(a:Nat)(x:t7->qa->Ex->t7->qa->Prop):QO au G16 ar qt 0 82 (LS x s a) 5 (Fg s a) [] =
( bif decide (ofNat a<4) then bif qL (u4 s a) (4-a) then gD (qx (x (C8 s a (nat_lit 1)) [] (.exit 2) [.ag s.c,.undef,iI (.ofNat a)] []))<|zN [.ag s.c,iI (i64.wrap (ofNat a+1))] [] else
 gD (qx (x (C8 s a (nat_lit 1)) [] .ret (C8 s (nat_lit 1) a) []))<|zR [iI 1] [] else
 zX 0 [.undef] []):=qh
def k53(s:am)(b:Bool)(x:t7->qa->Ex->t7->qa->Prop):Z6 au G16 ar qt 0 82 (VC x s b) [s.t] =
( bif decide (s.y=0) then some (iI 0) else
 bif decide (6<s.y) then some (iI 0) else
 bif decide (s.k=0) then some (iI 0) else
 bif decide (8<s.k) then some (iI 0) else
 bif decide (s.k=8) then bif b then gD (qx (x (Fg s (nat_lit 1)) [] (.exit 0) [.undef] []))<|some (iI 0) else
 gD (qx (x (Fg s (nat_lit 1)) [] .ret [iI 1] []))<|some (iI 1) else
 bif !decide (s.a=0) then some (iI 0) else
 bif !decide (s.b=0) then some (iI 0) else
 bif s.f then some (iI 0) else
 some (iI 1)):=qh
def VD(s){a}(o:a<=4):(qL (u4 s a) (4-a)=true->ax au G16 (ar 82) 82 8 (Qx (C8 s a 1) [] (.exit 2) [.ag s.c,.undef,iI a] []))/\(qL (u4 s a) (4-a)=false->ax au G16 (ar 82) 82 8 (Qx (C8 s a 1) [] .ret [.ag s.c,iI 1,iI a] [])):=by
 refine ZO qV qh (λk=>C8 s a (1+k)) (λ_=>[]) _ (λk i _ d=>?_) (λk i _ d=>?_) (λ_=>?_)
 .refine Step.dO (m:=0) qm rfl rfl qW (h1:=[]) ?_ .nil;have e:i64.wrap (ofNat a+ofNat (1+k))=((a+1+k:Nat):Int):=by rw[zu,zu,Qv ab ab];omega
  rw[Pp,dH ab,e];unfold u4 at d;by_cases q:s.a=a
  .have g:¬s.b=((1+k:Nat):Int):=by rw[dT q] at d;grind
   exact ST
  ·exact ST
 .refine bM.dO (A:=ar) (m:=0) qm rfl rfl qW (h1:=[]) aq ?_ .nil;have e:i64.wrap (ofNat a+ofNat (1+k))=((a+1+k:Nat):Int):=by rw[zu,zu,Qv ab ab];omega
  rw[Pp,e];simp only[u4,xP,wd,wm] at d;obtain⟨j,g⟩:=d
  exact ST
 .refine bM.dO (A:=ar) (m:=0) qm rfl rfl qW (h1:=[]) aq ?_ .nil;have e:i64.wrap (ofNat a+ofNat (1+(4-a)))=5:=by rw[zu,zu,Qv ab ab];omega
  rw[Pp,e]
  grind
def qsg(s:am):(qL (Fh s) 3=true->ax au G16 (ar 82) 82 5 (Qx (Fg s 1) [] (.exit 0) [.undef] []))/\(qL (Fh s) 3=false->ax au G16 (ar 82) 82 5 (Qx (Fg s 1) [] .ret [iI 1] [])):=by
 obtain⟨x,hx⟩:=QU au G16 (ar 82) 82 8;refine ZO qV qh (λk=>Fg s (1+k)) (λ_=>[]) (Fh s) (n:=3) (λk g _ d=>?_) (λk g _ d=>?_) (λ_=>?_)
 .refine Step.dO (m:=0) qm rfl rfl (l:=LS x s (1+k)) (Qo (qX hx _)) (h1:=[]) ?_ .nil;have f:=(VD s (a:=1+k) ab).1 d;rw[i53,dH ab];refine BS ?_;rw[show qL (u4 s (1+k)) (4-(1+k))=true from d]
  exact ST
 .refine bM.dO (A:=ar) (m:=0) qm rfl rfl (l:=LS x s (1+k)) (Qo (qX hx _)) (h1:=[]) aq ?_ .nil;have f:=(VD s (a:=1+k) ab).2 d;rw[i53];refine BS ?_;rw[show qL (u4 s (1+k)) (4-(1+k))=false from d]
  exact ST
 .refine bM.dO (A:=ar) (m:=0) qm rfl rfl (l:=LS x s (1+3)) (Qo (qX hx _)) (h1:=[]) aq ?_ .nil;rw[i53];grind
def Kb(s:am)(f:s.Ok):TO 82 [s.t] (iI (bif dX s then 1 else 0)):=by
 obtain⟨x,hx⟩:=QU au G16 (ar 82) 82 5;refine Qs qV qY qm (A:=ar) (m:=0) (l:=VC x s (qL (Fh s) 3)) qh (Qo (qX hx _)) ?_;rw[k53];have d:=s.oJ f;have:=f.k;have:=f.y;have g:=qsg s;have i:qL (Fh s) 3=false↔(1<=s.a/\s.a<=4/\1<=s.b/\s.a+s.b<=4):=by
  rw[YR];constructor
  .rintro⟨k,r,h⟩;obtain⟨j,u,h⟩:=(YR _ _).1 h;simp only[u4,xP,wd,wm] at h;omega
  .intro h;refine⟨s.a.toNat-1,ab,(YR _ _).2 ⟨s.b.toNat-1,ab,?_⟩⟩;simp only[u4,xP,wd,wm];omega
 by_cases H:s.y=0
 .rw[show dX s=false by rw[←xv,d];omega];refine BS ?_;rfl
 refine BF ?_;by_cases E:6<s.y
 .rw[show dX s=false by rw[←xv,d];omega];refine BS ?_;rfl
 refine BF ?_;by_cases D:s.k=0
 .rw[show dX s=false by rw[←xv,d];omega];refine BS ?_;rfl
 refine BF ?_;by_cases C:8<s.k
 .rw[show dX s=false by rw[←xv,d];omega];refine BS ?_;rfl
 refine BF ?_;by_cases B:s.k=8
 .refine BS ?_;cases e:qL (Fh s) 3
  .rw[show dX s=true from d.2 (by have:=i.1 e;omega)];have o:=g.2 e
   exact ST
  .rw[show dX s=false by rw[←xv,d,←i,e];simp;omega];have o:=g.1 e
   exact ST
 grind
def jU(s:am)(d:s.Ok):TO 50 [s.t] (iI s.n):=by
 obtain⟨p,e⟩:=qz au G16 82;have t:=Kb s d;refine qE qV qY (qr qm (qn e)) (K:=C5 p (dX s)) (A:=ar) (m:=0) ?_;unfold am.n;generalize dX s=b at *
 rw[(show QK au G16 ar (C5 p b) 0 50 [s.t] =
( gD (qx (p [s.t] (iI (bif b then(1:Int)
 else(0:Int)))))<|bif decide ((bif b then(1:Int)
 else(0:Int))=(0:Int)) then some (iI 0) else
 bif decide (s.k=3) then some (iI 0) else
 bif decide (s.k=8) then some (iI (i64.wrap (s.a+s.b))) else
 bif decide (s.k=4) then some (iI 2) else
 bif decide (s.k=5) then some (iI 2) else
 some (iI 1)) from qh)]
 refine BS ?_;grind
def VE(s:am)(d:s.Ok):TO 94 [s.t] (iI s.m):=by
 obtain⟨p,e⟩:=qz au G16 82;have t:=Kb s d;refine qE qV qY (qr qm (qn e)) (K:=C5 p (dX s)) (A:=ar) (m:=0) ?_;unfold am.m;generalize dX s=b at *
 rw[(show QK au G16 ar (C5 p b) 0 94 [s.t] =
( gD (qx (p [s.t] (iI (bif b then(1:Int)
 else(0:Int)))))<|bif decide ((bif b then(1:Int)
 else(0:Int))=(0:Int)) then some (iI 0) else
 bif decide (s.k=8) then some (iI (i64.wrap (s.a+s.b))) else
 some (iI 1)) from qh)]
 refine BS ?_;grind
def i38(r:Nat->am)(n:Nat)(c:Option Nat)(a x:Int)(i:Nat)(p:t7->T->Prop):QO au G16 ar (C6 p 50 x) 0 20 [] 3 (u0 r n c a i) [] =
( bif decide (ofNat i<ofNat n) then gD (decide (0<=ofNat i)&&decide (ofNat i<ofNat n))<|gD (qx (p [(r i).t] (iI x)))<|zN [cU r n c,iI (i64.wrap (a+x)),iI (i64.wrap (ofNat i+1))] [] else
 zX 0 [iI a] []):=qh
def i39(r:Nat->am)(n:Nat)(c:Option Nat)(a x:Int)(i:Nat)(p:t7->T->Prop):QO au G16 ar (C6 p 94 x) 0 93 [] 3 (u0 r n c a i) [] =
( bif decide (ofNat i<ofNat n) then gD (decide (0<=ofNat i)&&decide (ofNat i<ofNat n))<|gD (qx (p [(r i).t] (iI x)))<|zN [cU r n c,iI (i64.wrap (a+x)),iI (i64.wrap (ofNat i+1))] [] else
 zX 0 [iI a] []):=qh
section
variable (r:Nat->am) (n:Nat) (c:Option Nat)
def KF(hn:n<=1000)(hr:∀j,(r j).Ok):TO 20 [cU r n c] (iI (uy r n)):=by
 obtain⟨p,k⟩:=qz au G16 50;have f:∀x,OO (C6 p 50 x):=λx=>qr qm (qn k);unfold uy;have d:=G1 (N:=λj=>(r j).n) (b:=4) λi=>(r i).sQ (hr i);have o:ax au G16 (ar 20) 20 3 (Qx (u0 r n c 0 0) [] (.exit 0) [iI (zh (λj=>(r j).n) n)] []):=by
  refine QC qV qh (λi=>u0 r n c (zh (λj=>(r j).n) i) i) (λ_=>[]) (n:=n) (λi s=>?_) ?_
  .have e:zh (λj=>(r j).n) (i+1)=zh (λj=>(r j).n) i+(r i).n:=rfl;have t:=jU (r i) (hr i);have g:=d i;have u:=(r i).sQ (hr i);rw[e];clear e d hr;generalize zh (λj=>(r j).n) i=a at *
   generalize (r i).n=x at *
   refine Step.dO (A:=ar) (m:=0) (f x) rfl rfl qW (h1:=[]) ?_ .nil;rw[i38,dH ab,Qv (x:=a+x) ab ab]
   exact ST
  .clear d hr;generalize zh (λj=>(r j).n) n=a at *
   refine bM.dO (A:=ar) (m:=0) (f 0) rfl rfl qW (h1:=[]) aq ?_ .nil;rw[i38]
   grind
 clear d hr;generalize zh (λj=>(r j).n) n=a at *
 refine Qs qV qY qm (A:=ar) (m:=0) qh (Qo o) ?_;rw[(show Z6 au G16 ar qt 0 20 [(3,Qx (u0 r n c 0 0) [] (.exit 0) [iI a] [])] [cU r n c] =
( gD (KU (u0 r n c (0:Int) (nat_lit 0)) [] (u0 r n c (0:Int) (nat_lit 0)) [])<|some (iI a)) from qh)]
 exact ST
def qfO(hn:n<=1000)(hr:∀j,(r j).Ok):TO 93 [cU r n c] (iI (Ca r n)):=by
 obtain⟨p,k⟩:=qz au G16 94;have f:∀x,OO (C6 p 94 x):=λx=>qr qm (qn k);unfold Ca;have d:=G1 (N:=λj=>(r j).m) (b:=4) λi=>(r i).sR (hr i);have o:ax au G16 (ar 93) 93 3 (Qx (u0 r n c 0 0) [] (.exit 0) [iI (zh (λj=>(r j).m) n)] []):=by
  refine QC qV qh (λi=>u0 r n c (zh (λj=>(r j).m) i) i) (λ_=>[]) (n:=n) (λi s=>?_) ?_
  .have e:zh (λj=>(r j).m) (i+1)=zh (λj=>(r j).m) i+(r i).m:=rfl;have t:=VE (r i) (hr i);have g:=d i;have u:=(r i).sR (hr i);rw[e];clear e d hr;generalize zh (λj=>(r j).m) i=a at *
   generalize (r i).m=x at *
   refine Step.dO (A:=ar) (m:=0) (f x) rfl rfl qW (h1:=[]) ?_ .nil;rw[i39,dH ab,Qv (x:=a+x) ab ab]
   exact ST
  .clear d hr;generalize zh (λj=>(r j).m) n=a at *
   refine bM.dO (A:=ar) (m:=0) (f 0) rfl rfl qW (h1:=[]) aq ?_ .nil;rw[i39]
   grind
 clear d hr;generalize zh (λj=>(r j).m) n=a at *
 refine Qs qV qY qm (A:=ar) (m:=0) qh (Qo o) ?_;rw[(show Z6 au G16 ar qt 0 93 [(3,Qx (u0 r n c 0 0) [] (.exit 0) [iI a] [])] [cU r n c] =
( gD (KU (u0 r n c (0:Int) (nat_lit 0)) [] (u0 r n c (0:Int) (nat_lit 0)) [])<|some (iI a)) from qh)]
 exact ST
end
noncomputable def VF(x:t7->qa->Ex->t7->qa->Prop)(r:Nat->am)(n:Nat)(c:Option Nat)(b:Bool):List (Nat×(t7->qa->LT)):=[(6,Zy x (.ite b (.ret (.exit 0) [cU r n c,.undef] []) (.ret .ret [cU r n c,iI 1] [])))]
def Fi(s:am)(B:Nat->Int)(n:Nat)(c:Option Nat)(i:Nat):t7:=[cf B n c,.ag s.c,iI i]
def Pr:Nat->T
 |0=>.ae
 |j+1=>.own 0 j 0 (j+1) none
def Ps(j:Nat):ap:=⟨j,1,j+1,λ_=>[iI 1],true,false,none⟩
def C9:Nat->qa
 |0=>[]
 |j+1=>[Ps j]
def Fj(s:am)(j:Nat):t7:=[.ag s.c,Pr j,iI j]
def qvb(r:Nat->am)(n:Nat)(c)(b)(a d)(x)(p q):Z6 au G16 ar (VB p q a d) 0 54 (VF x r n c b) [cU r n c] =
( bif decide (16<ofNat n) then some (iI 3) else
 bif decide (ofNat n=0) then some (iI 1) else
 bif b then gD (qx (x (C7 r n c (nat_lit 0)) [] (.exit 0) [aN r n c,.undef] []))<|gD (qx (p [aN r n c] (iI a)))<|bif decide (a<1) then some (iI 5) else
 gD (qx (p [aN r n c] (iI a)))<|bif decide (16<a) then some (iI 5) else
 gD (qx (q [aN r n c] (iI d)))<|bif decide (d<1) then some (iI 5) else
 gD (qx (q [aN r n c] (iI d)))<|bif decide (16<d) then some (iI 5) else
 some (iI 0) else
 gD (qx (x (C7 r n c (nat_lit 0)) [] .ret (C7 r n c (nat_lit 1)) []))<|some (iI 1)):=qh
def i37(r)(n)(c)(i)(b)(p):QO au G16 ar (C5 p b) 0 54 [] 6 (C7 r n c i) [] =
( bif decide (ofNat i<ofNat n) then gD (decide (0<=ofNat i)&&decide (ofNat i<ofNat n))<|gD (qx (p [(r i).t] (iI (bif b then(1:Int)
 else(0:Int)))))<|bif decide ((bif b then(1:Int)
 else(0:Int))=(0:Int)) then zR (C7 r n c (nat_lit 1)) [] else
 zN [aN r n c,iI (i64.wrap (ofNat i+1))] [] else
 zX 0 [aN r n c,.undef] []):=qh
def qvc(s:am)(x)(p):QO au G16 ar (C6 p 94 x) 0 55 [] 22 (Fj s 0) (C9 0) =
( gD (qx (p [s.t] (iI x)))<|bif decide (0<x) then zN [.ag s.c,.own 1 0 0 1
 none,iI 1] [.mk 0 1 1 (λj=>[[iI (1:Int)]].getD j []) true true
 none,.mk 0 1 1 (λj=>[[iI (1:Int)]].getD (0+j) []) true false
 none] else
 zX 2 [.ae] []):=qh
def VG(s)(j)(x)(p):QO au G16 ar (C6 p 94 x) 0 55 [] 22 (Fj s (j+1)) (C9 (j+1)) =
( gD (qx (p [s.t] (iI x)))<|bif decide (ofNat (j+1)<x) then gD (j==j&&true)<|gD (((0:Nat)+(j+(1:Nat))).ble (j+1))<|gD (((j+(1:Nat)+(1:Nat))*(9:Nat)).ble 70368744177664)<|bif ((0:Nat)+(j+(1:Nat))+(1:Nat)).ble (j+1) then zN [.ag s.c,.own 0 j 0 (j+1+(1:Nat))
 none,iI (i64.wrap (ofNat (j+1)+(1:Int)))] [.mk j 1 (j+1) (λa=>bif ((0:Nat)+(j+(1:Nat))).ble a&&a.blt ((0:Nat)+(j+1)+(1:Nat)) then [[iI (1:Int)]].getD ((0:Nat)+(a-((0:Nat)+(j+1)))) []
 else [iI 1]) true false
 none,.mk 0 1 1 (λj=>[[iI (1:Int)]].getD j []) true true
 none] else
 zN [.ag s.c,.own 0 (j+1) (0:Nat) (j+1+(1:Nat))
 none,iI (i64.wrap (ofNat (j+1)+(1:Int)))] [.mk (j+1) (1:Nat) (j+1+(1:Nat)) (λa=>bif a.blt (j+1) then [iI 1]
 else [[iI (1:Int)]].getD ((0:Nat)+(a-(j+1))) []) true false
 none,.mk 0 1 1 (λj=>[[iI (1:Int)]].getD j []) true true
 none] else
 zX 2 [.own 0 j 0 (j+1)
 none] [Ps j]):=qh
def i41(s:am)(B)(n)(c)(i):QO au G16 ar qt 0 55 [] 6 (Fi s B n c i) [] =
( bif decide (ofNat i<ofNat n) then gD (decide (0<=ofNat i)&&decide (ofNat i<ofNat n))<|bif !decide (B i=1) then gD (decide (0<=ofNat i)&&decide (ofNat i<ofNat n))<|bif !decide (B i=2) then gD (decide (0<=ofNat i)&&decide (ofNat i<ofNat n))<|bif !decide (B i=3) then zR [cf B n c,.ag s.c,.ae,iI 1] [] else
 zN [cf B n c,.ag s.c,iI (i64.wrap (ofNat i+1))] [] else
 zN [cf B n c,.ag s.c,iI (i64.wrap (ofNat i+1))] [] else
 zN [cf B n c,.ag s.c,iI (i64.wrap (ofNat i+1))] [] else
 zX 0 [cf B n c,.ag s.c,.undef,.undef] []):=qh
def VH(r:Nat->am):∀n,C4 r n=qL (λi=>dX (r i)) n
 |0=>rfl
 |n+1=>by unfold C4 qL;rw[VH r n]
def qn6(r:Nat->am)(n)(c)(hn:n<=1000)(hr:∀j,(r j).Ok):TO 54 [cU r n c] (iI (rE r n)):=by
 obtain⟨x,hx⟩:=QU au G16 (ar 54) 54 6;obtain⟨p,D⟩:=qz au G16 20;obtain⟨q,C⟩:=qz au G16 93;obtain⟨u,f⟩:=qz au G16 82;have o:=KF r n c hn hr;have k:=qfO r n c hn hr;have g:(qL (λi=>dX (r i)) n=true->ax au G16 (ar 54) 54 6 (Qx (C7 r n c 0) [] (.exit 0) [cU r n c,.undef] []))/\(qL (λi=>dX (r i)) n=false->ax au G16 (ar 54) 54 6 (Qx (C7 r n c 0) [] .ret [cU r n c,iI 1] [])):=by
  refine ZO qV qh (λi=>C7 r n c i) (λ_=>[]) (λi=>dX (r i)) (n:=n) (λi E _ s=>?_) (λi E _ s=>?_) (λ_=>?_)
  .have t:=Kb (r i) (hr i);rw[s] at t;clear o k hr;refine Step.dO (A:=ar) (K:=C5 u true) (m:=0) (qr qm (qn f)) rfl rfl qW (h1:=[]) ?_ .nil;rw[i37,dH ab];refine BS ?_;refine BS ?_;refine qj (qu f t) ?_
   rfl
  .have t:=Kb (r i) (hr i);rw[s] at t;clear o k hr;refine bM.dO (A:=ar) (K:=C5 u false) (m:=0) (qr qm (qn f)) rfl rfl qW (h1:=[]) aq ?_ .nil;rw[i37];refine BS ?_;refine BS ?_;refine qj (qu f t) ?_
   rfl
  .refine bM.dO (A:=ar) (K:=C5 u false) (m:=0) (qr qm (qn f)) rfl rfl qW (h1:=[]) aq ?_ .nil;rw[i37];clear o k hr
   exact ST
 unfold rE G0;rw[VH];generalize uy r n=a at *
 generalize Ca r n=d at *
 generalize qL (λi=>dX (r i)) n=b at *
 refine Qs qV qY (K:=VB p q a d) (qr (qr qm (qn D)) (qn C)) (A:=ar) (m:=0) (l:=VF x r n c b) qh (Qo (qX hx _)) ?_;rw[qvb];clear hr;by_cases e:16<n
 .rw[wl e]
  grind
 rw[wh e];refine BF ?_;by_cases B:n=0
 .rw[wl B]
  grind
 rw[wh B];refine BF ?_;cases b
 .have g:=g.2 rfl;rw[wh aq]
  exact ST
 have g:=g.1 rfl;rw[wl rfl];simp only[wd,wm];by_cases L:a<1
 .rw[wh ab]
  exact ST
 by_cases J:16<a
 .rw[wh ab]
  exact ST
 by_cases I:d<1
 .rw[wh ab]
  exact ST
 by_cases H:16<d
 .rw[wh ab]
  exact ST
 rw[wl ab]
 exact ST
noncomputable def Pt(d a:t7->T->Prop)(b:Bool)(x:Int):bv:=(qt.add 82 (qH d λ_=>some (iI (bif b then 1 else 0)))).add 50 (qH a λ_=>some (iI x))
noncomputable def Pu(x y:t7->qa->Ex->t7->qa->Prop)(s:am)(B:Nat->Int)(n:Nat)(c:Option Nat)(b:Bool)(j:Nat):List (Nat×(t7->qa->LT)) :=
 [(6,Zy x (.ite b (.ret (.exit 0) [cf B n c,.ag s.c,.undef,.undef] []) (.ret .ret [cf B n c,.ag s.c,.ae,iI 1] []))),(22,Zy y (.ret (.exit 2) [Pr (j+1)] (C9 (j+1))))]
def G3(s:am)(B:Nat->Int)(n:Nat):T:=if mr s B n=0 then .aJ [.new (.view 1 s.mN (λj=>[iI (iZ s B j)]) none),iI 0] else .aJ [.ae,iI (mr s B n)]
def Cb(s:am)(B:Nat->Int)(n:Nat)(c:Option Nat)(b d:Bool)(j:Nat)(z)(x y:t7->qa->Ex->t7->qa->Prop)(p q:t7->T->Prop):Z6 au G16 ar (Pt p q d z) 0 55 (Pu x y s B n c b j) [s.t,cf B n c] =
( gD (qx (p [s.t] (iI (bif d then(1:Int)
 else(0:Int)))))<|bif decide ((bif d then(1:Int)
 else(0:Int))=(0:Int)) then some (.aJ [.ae,iI 1]) else
 gD (qx (q [s.t] (iI z)))<|bif !decide (ofNat n=z) then some (.aJ [.ae,iI 5]) else
 bif b then gD (qx (x (Fi s B n c (nat_lit 0)) [] (.exit 0) [cf B n c,.ag s.c,.undef,.undef] []))<|bif decide (s.k=4) then gD (decide (0<ofNat n))<|gD (decide (1<ofNat n))<|bif decide (4<i64.wrap (B (0:Nat)+B (1:Nat))) then some (.aJ [.ae,iI 9]) else
 some (.aJ [.fresh true (1:Nat) (1:Nat) (λj=>[[iI (1:Int)]].getD (0+j) []) (1:Nat) (some 1),iI 0]) else
 bif decide (s.k=5) then gD (decide (0<ofNat n))<|gD (decide (1<ofNat n))<|bif decide (4<i64.wrap (B (0:Nat)+B (1:Nat))) then some (.aJ [.ae,iI 9]) else
 some (.aJ [.fresh true (1:Nat) (1:Nat) (λj=>[[iI (1:Int)]].getD (0+j) []) (1:Nat) (some 1),iI 0]) else
 bif decide (s.k=6) then gD (decide (0<ofNat n))<|bif decide (B (0:Nat)=(3:Int)) then some (.aJ [.ae,iI 9]) else
 gD (decide (0<ofNat n))<|some (.aJ [.fresh true (1:Nat) (1:Nat) (λj=>[[iI (i64.wrap (B (0:Nat)+(1:Int)))]].getD (0+j) []) (1:Nat) (some 1),iI 0]) else
 bif decide (s.k=7) then gD (decide (0<ofNat n))<|some (.aJ [.fresh true (1:Nat) (1:Nat) (λj=>[[iI (B (0:Nat))]].getD (0+j) []) (1:Nat) (some 1),iI 0]) else
 gD (qx (y [.ag s.c,.ae,iI 0] [] (.exit 2) [.own 0 j 0 (j+1)
 none] [Ps j]))<|some (.aJ [bif j==j&&((0:Nat)+(j+(1:Nat))).ble (j+1) then .fresh true (1:Nat) (j+1) (λj=>[iI 1]) (j+1) none else .undef,iI 0]) else
 gD (qx (x (Fi s B n c (nat_lit 0)) [] .ret [cf B n c,.ag s.c,.ae,iI 1] []))<|some (.aJ [.ae,iI 1])):=qh
def qqp(s)(B)(n)(c)(hn:n<=1000):(qL (y7 B) n=true->ax au G16 (ar 55) 55 6 (Qx (Fi s B n c 0) [] (.exit 0) [cf B n c,.ag s.c,.undef,.undef] []))/\(qL (y7 B) n=false->ax au G16 (ar 55) 55 6 (Qx (Fi s B n c 0) [] .ret [cf B n c,.ag s.c,.ae,iI 1] [])):=by
 refine ZO qV qh (λi=>Fi s B n c i) (λ_=>[]) _ (λi j _ a=>?_) (λi j _ a=>?_) (λ_=>?_)
 .rw[Yp] at a;refine Step.dO (A:=ar) (m:=0) qm rfl rfl qW (h1:=[]) ?_ .nil;rw[i41,dH ab];by_cases g:B i=1
  ·exact ST
  by_cases f:B i=2
  ·exact ST
  have e:B i=3:=by omega
  exact ST
 .have a:¬(1<=B i/\B i<=3):=by rw[←Yp,a];simp
  have g:¬B i=1:=by omega
  have f:¬B i=2:=by omega
  have e:¬B i=3:=by omega
  refine bM.dO (A:=ar) (m:=0) qm rfl rfl qW (h1:=[]) aq ?_ .nil;rw[i41]
  grind
 .refine bM.dO (A:=ar) (m:=0) qm rfl rfl qW (h1:=[]) aq ?_ .nil;rw[i41]
  grind
def JP(B:Nat->Int):∀n,Zi B n=qL (y7 B) n
 |0=>rfl
 |n+1=>by unfold Zi qL;rw[JP B n]
def VJ(j)(a:j<1):([[iI 1]]:List t7).getD (0+j) []=[iI 1]:=by
 grind
def qqq(s)(e:s.Ok){j}(o:s.m=((j+1:Nat):Int)):ax au G16 (ar 55) 55 22 (Qx (Fj s 0) (C9 0) (.exit 2) [Pr (j+1)] (C9 (j+1))):=by
 obtain⟨p,g⟩:=qz au G16 94;have t:=VE s e;have r:=s.sR e;rw[o] at t r;have d:OO (C6 p 94 ((j+1:Nat):Int)):=qr qm (qn g);refine QC qV qh (λi=>Fj s i) (λi=>C9 i) (n:=j+1) (λi B=>?_) ?_
 .cases i with
  |zero =>
   refine Step.mkC (A:=ar) (m:=0) d rfl rfl qW [1] (v1:=[.ag s.c,.own 1 0 0 1 none,iI 1]) (h1:=[⟨0,1,1,λj=>[[iI 1]].getD j [],true,true,none⟩,⟨0,1,1,λj=>[[iI 1]].getD (0+j) [],true,false,none⟩]) ?_ qh (v2:=Fj s 1) rfl rfl λnt=>.same (.cons ⟨rfl,rfl,rfl,id,λk a=>(VJ k a).symm⟩ .nil);rw[qvc]
   exact ST
  |succ i =>
   refine Step.mk (A:=ar) (m:=0) d rfl rfl qW 1 (by simp[C9]) (h1:=[⟨i+1,1,i+1+1,λk=>bif Nat.blt k (i+1) then [iI 1] else [[iI 1]].getD (0+(k-(i+1))) [],true,false,none⟩,⟨0,1,1,λj=>[[iI 1]].getD j [],true,true,none⟩]) (aW:=Fj s (i+1+1)) ?_ rfl (.cons ⟨rfl,rfl,rfl,id,λk a=>?_⟩ .nil)
   .rw[VG,dH ab]
    exact ST
   .show [iI 1]=bif Nat.blt k (i+1) then [iI 1] else [[iI 1]].getD (0+(k-(i+1))) [];have a:k<i+2:=a;grind
 .refine bM.dO (A:=ar) (m:=0) d rfl rfl qW (h1:=C9 (j+1)) aq ?_ (.refl _);rw[VG]
  exact ST
def VK(s:am)(I:s.Ok)(B:Nat->Int)(n:Nat)(c:Option Nat)(hn:n<=1000):TO 55 [s.t,cf B n c] (G3 s B n):=by
 obtain⟨p,W⟩:=qz au G16 82;obtain⟨q,V⟩:=qz au G16 50;obtain⟨x,hx⟩:=QU au G16 (ar 55) 55 6;obtain⟨y,U⟩:=QU au G16 (ar 55) 55 22;have R:=Kb s I;have t2:=jU s I;have J:=qqp s B n c hn;have E:=λj=>qqq s I (j:=j);have H:=s.oJ I;have NW:=s.sQ I;have X:=s.sR I;have C:s.m=bif dX s then(bif decide (s.k=8) then i64.wrap (s.a+s.b) else 1) else 0:=rfl;have D:s.n=bif dX s then(bif decide (s.k=3) then 0 else bif decide (s.k=4) then 2 else bif decide (s.k=5) then 2 else bif decide (s.k=8) then i64.wrap (s.a+s.b) else 1) else 0:=rfl;unfold G3;have key:∀(d b:Bool) (j:Nat) (r:T),d=dX s->b=qL (y7 B) n->Z6 au G16 ar (Pt p q d s.n) 0 55 (Pu x y s B n c b j) [s.t,cf B n c]=some r->TO 55 [s.t,cf B n c] r:=λd b j r _ _ h =>
  Qs qV qY (qr (qr qm (qn W)) (qn V)) (A:=ar) (m:=0) qh (Ut (qX hx _) (Qo (qX U _))) h
 have f:∀e,(∃j,Z6 au G16 ar (Pt p q (dX s) s.n) 0 55 (Pu x y s B n c (qL (y7 B) n) j) [s.t,cf B n c]=some (.aJ [.ae,iI e]))->mr s B n=e->e≠0->TO 55 [s.t,cf B n c] (if mr s B n=0 then .aJ [.new (.view 1 s.mN (λj=>[iI (iZ s B j)]) none),iI 0] else .aJ [.ae,iI (mr s B n)]):=λe ⟨j,h⟩ he bh=>by
  rw[he,wh bh];grind
 cases g:dX s
 .refine f 1 ⟨0,?_⟩ (qsc g) (by decide);rw[g] at R ⊢;rw[Cb];clear f key H C D J E
  exact ST
 have hk:=H.1 g;rw[g] at R C D;have Z:((s.nN:Nat):Int)=s.n:=by grind[am.nN]
 have em2:((s.mN:Nat):Int)=s.m:=by grind[am.mN]
 by_cases Q:n=s.nN
 rotate_left
 .refine f 5 ⟨0,?_⟩ (qsd g Q) (by decide);rw[g,Cb];clear f key H C D J E;have Y:¬(n:Int)=s.n:=by omega
  exact ST
 have Y:(n:Int)=s.n:=by omega
 rw[wp] at C D;cases u:qL (y7 B) n
 .refine f 1 ⟨0,?_⟩ (qse g Q (by rw[JP];exact u)) (by decide);have J:=J.2 u;rw[g,u,Cb];clear f key H C D E
  exact ST
 have J:=J.1 u;have hB:=(qI _ _).1 u;have o:=VA g Q (by rw[JP];exact u);rw[g,u] at f;by_cases P:s.k=4∨s.k=5
 ·have S:n=2:=by
   grind
  have b0:=(Yp _ _).1 (hB 0 ab);have b1:=(Yp _ _).1 (hB 1 ab);rw[wl P] at o;by_cases L:4<B 0+B 1
  .rw[wl L] at o;refine f 9 ⟨0,?_⟩ o (by decide);rw[Cb,Qv (x:=B 0+B 1) ab ab];clear f key H C D E hB o g u;rcases P with q|q
   ·exact ST
   ·exact ST
  ·rw[wh L] at o;rw[o,wl rfl];have M:s.mN=1:=by
    rw[dF ab] at C;grind
   rw[M];refine(aD.iQ (key true true 0 (.aJ [.fresh true 1 1 (λj=>[[iI 1]].getD (0+j) []) 1 (some 1),iI 0]) g.symm u.symm ?_)).oF (.cons (.new (.view (.inr rfl) λj N=>?_)) (.rg .nil))
   .rw[Cb,Qv (x:=B 0+B 1) ab ab];clear f key H C D E hB o g u;rcases P with q|q
    ·exact ST
    ·exact ST
   .rw[VJ j N];unfold iZ;rw[wh ab,wh ab];exact .refl _
 rw[wh P] at o;by_cases L:s.k=6
 ·have S:n=1:=by
   rw[dF ab,dF ab,dF ab,dF ab] at D;grind
  have b0:=(Yp _ _).1 (hB 0 ab);rw[wl L] at o;by_cases O:B 0=3
  .rw[wl O] at o;refine f 9 ⟨0,?_⟩ o (by decide);rw[Cb];clear f key H C D E hB o g u
   exact ST
  ·rw[wh O] at o;rw[o,wl rfl];have M:s.mN=1:=by
    rw[dF ab] at C;grind
   rw[M];refine(aD.iQ (key true true 0 (.aJ [.fresh true 1 1 (λj=>[[iI (B 0+1)]].getD (0+j) []) 1 (some 1),iI 0]) g.symm u.symm ?_)).oF (.cons (.new (.view (.inr rfl) λj N=>?_)) (.rg .nil))
   .rw[Cb,Qv (x:=B 0+1) ab ab];clear f key H C D E hB o g u
    exact ST
   .obtain rfl:j=0:=by omega
    unfold iZ;rw[wl ⟨L,rfl⟩];exact .refl _
 rw[wh L] at o;rw[o,wl rfl];by_cases O:s.k=7
 ·have S:n=1:=by
   rw[dF ab,dF ab,dF ab,dF ab] at D;grind
  have M:s.mN=1:=by
   rw[dF ab] at C;grind
  rw[M];refine(aD.iQ (key true true 0 (.aJ [.fresh true 1 1 (λj=>[[iI (B 0)]].getD (0+j) []) 1 (some 1),iI 0]) g.symm u.symm ?_)).oF (.cons (.new (.view (.inr rfl) λj N=>?_)) (.rg .nil))
  .rw[Cb];clear f key H C D E hB o g u
   exact ST
  .obtain rfl:j=0:=by omega
   unfold iZ;rw[wh ab,wl ⟨O,rfl⟩];exact .refl _
 have M:1<=s.mN/\s.mN<=4:=by
  by_cases q:s.k=8
  .rw[dT q,wp,Qv ab ab] at C;omega
  grind
 obtain⟨j,N⟩:∃j,s.mN=j+1:=⟨s.mN-1,ab⟩;have E:=E j ab;rw[N];refine(aD.iQ (key true true j (.aJ [.fresh true 1 (j+1) (λ_=>[iI 1]) (j+1) none,iI 0]) g.symm u.symm ?_)).oF (.cons (.new (.view (.inl rfl) λi hi=>?_)) (.rg .nil))
 .rw[Cb];clear f key H C D hB o g u
  (repeat (first|refine BS ?_|refine BF ?_))
  rw[wo,qR (wc _),wF];rfl
 .unfold iZ;rw[wh ab,wh ab];exact .refl _
set_option maxHeartbeats 1000000
def pW:Nat->Int
 |11=>3
 |14=>2
 |_=>1
def pX:Nat->Int
 |10=>3
 |13=>2
 |_=>1
def qvd(a:Nat)(h1:10<=a)(h2:a<=14)(f:Bool):TO 110 [.agg [uI 7,uI 0,uI (a:Int),.bool f]] (am.mk 8 1 (pW a) (pX a) f).t:=by
 obtain rfl|rfl|rfl|rfl|rfl:a=10∨a=11∨a=12∨a=13∨a=14:=by omega
 all_goals cases f<;>exact qE qV qY qm (K:=qt) (A:=ar) (m:=0) qh
def eJ(d:List Int->Bool)(a:List Int->Int)(f:List Int->Nat)(e:Nat):qa:=[yX 0 (UP d a f e),.mk 0 1 1 (λ_=>[.mp 0 0]) false false none]
def iS(L:List (List Int)):qa:=eJ (hF L) (vF L) (bF L) (cF L)
def LV(g:Nat->aw)(n i:Nat):t7:=[.ptr 1 0 0 0,aX g n none,iI (ofNat n),iI (ofNat i)]
def tA(F:dC)(j:Nat):t7:=[.ag F.c,.agg [aX F.he F.nh none,aX F.fa F.nf none],iI (ofNat j)]
def Da(F:dC)(j:Nat)(g:Nat->aw)(n i:Nat):t7:=tA F j++[aX g n none,iI (ofNat n),iI (ofNat i)]
def Db(F:dC)(i:Nat):t7:=[.ag F.c,aX F.fa F.nf none,iI (ofNat F.nf),iI (ofNat i)]
def d79(F:dC)(y:Nat):t7:=[.ag F.c,.ptr 1 0 0 0,.fn 109 [.ptr 1 0 0 0],F.t.v,iI (ofNat F.t.h),iI (ofNat y)]
def LW(F:dC)(y i:Nat):t7:=d79 F y++[oh (F.t.L y) (F.t.ln y) none,iI (ofNat (F.t.ln y)),iI (ofNat i)]
def f79(F:dC)(y:Nat):t7:=[.ptr 1 0 0 0,F.t.v,iI (ofNat F.t.h),iI (ofNat y)]
def Cc(F:dC)(y i:Nat):t7:=[.ptr 1 0 0 0,iI (ofNat y),F.t.v,iI (ofNat F.t.h),iI (ofNat y),iI (ofNat (F.t.ln y)),iI (ofNat i)]
def qve(g)(n)(d)(a:List Int->Int)(f:List Int->Nat)(e:Nat):cD 109 [1] ir [aX g n none,.ptr 1 0 0 0] (eJ d a f e) rS =
( zN (LV g n (nat_lit 0)) (eJ d a f e)):=qh
def VL(g)(n i)(a)(f:List Int->Int)(e:List Int->Nat)(d:Nat):cD 109 [0,0,2] rS (LV g n i) (eJ a f e d) rS =
( bif decide (ofNat i<ofNat n) then gD (decide (0<=ofNat i)&&decide (ofNat i<ofNat n))<|gD (decide (IntKind.i64=IntKind.i64)&&true&&decide (ofNat (bif a [(g i).y,(g i).n] then e [(g i).y,(g i).n]
 else d)=ofNat (bif a [(g i).y,(g i).n] then e [(g i).y,(g i).n]
 else d)))<|zN [.ptr 1 0 0 0,aX g n
 none,iI (.ofNat n),iI (i64.wrap (ofNat i+1))] (eJ (λl=>gi l [(g (ofNat i).toNat).y,(g (ofNat i).toNat).n] || (gi l [(g (ofNat i).toNat).y,(g (ofNat i).toNat).n] || a l)) (λl=>bif gi l [(g (ofNat i).toNat).y,(g (ofNat i).toNat).n] then i64.wrap (f [(g i).y,(g i).n]+(1:Int))
 else
 bif gi l [(g (ofNat i).toNat).y,(g (ofNat i).toNat).n] then f [(g i).y,(g i).n]
 else f l) (λl=>bif gi l [(g (ofNat i).toNat).y,(g (ofNat i).toNat).n] then
 bif decide ((g i).y=(g i).y)&&(decide ((g i).n=(g i).n)&&true) || a [(g i).y,(g i).n] then
 bif decide ((g i).y=(g i).y)&&(decide ((g i).n=(g i).n)&&true) then
 bif a [(g i).y,(g i).n] then e [(g i).y,(g i).n]
 else d
 else e [(g i).y,(g i).n]
 else
 bif a [(g i).y,(g i).n] then d
 else d+1
 else
 bif gi l [(g (ofNat i).toNat).y,(g (ofNat i).toNat).n] then
 bif a [(g i).y,(g i).n] then e [(g i).y,(g i).n]
 else d
 else e l) (bif decide ((g i).y=(g i).y)&&(decide ((g i).n=(g i).n)&&true) || a [(g i).y,(g i).n] then
 bif a [(g i).y,(g i).n] then d
 else d+1
 else(bif a [(g i).y,(g i).n] then d
 else d+1)+(1:Nat))) else
 zX 0 (LV g n i) (eJ a f e d)):=qh
def qvf(F:dC):cD 79 [1] [0] [.agg F.c] [] [1] =
( zN [.ag F.c] []):=qh
def qvg(F:dC):cD 79 [1,1,2] [1] [.ag F.c] [] j1 =
( zN (tA F (nat_lit 0)) []):=qh
def qsk(F:dC):cD 79 [1,0,0,2,1,2] j1 (tA F 0) [] [1,22,23,24] =
( zN [.ag F.c,.agg [aX F.he F.nh
 none,aX F.fa F.nf
 none],iI 0,.bool true] []):=qh
def qsl(F:dC):cD 79 [1,0,0,2,1,2] j1 (tA F 1) [] [1,22,23,24] =
( zN [.ag F.c,.agg [aX F.he F.nh
 none,aX F.fa F.nf
 none],iI 1,.bool true] []):=qh
def qsm(F:dC):cD 79 pS j1 (tA F 2) [] [1] =
( zX 0 [.ag F.c] []):=qh
def qsn(F:dC):cD 79 [1,0,1,2,2,0,0,2,1,2] j1 (tA F 0) [] [1,4,22,23] =
( zN [.ag F.c,aX F.he F.nh
 none,.agg [aX F.he F.nh
 none,aX F.fa F.nf
 none],iI 0] []):=qh
def qso(F:dC):cD 79 [1,0,1,2,2,0,0,2,1,2] j1 (tA F 1) [] [1,4,22,23] =
( zN [.ag F.c,aX F.fa F.nf
 none,.agg [aX F.he F.nh
 none,aX F.fa F.nf
 none],iI 1] []):=qh
def VM(F:dC)(j)(g)(n):cD 79 [1,2,0,1,2,2,0,0,2,1,2] [1,4,22,23] [.ag F.c,aX g n none,.agg [aX F.he F.nh none,aX F.fa F.nf none],iI (ofNat j)] [] kh =
( zN (Da F j g n (nat_lit 0)) []):=qh
def VN(p:t7->T->Prop)(F)(j)(g)(n i):cK (qt.add 108 (qH p (E7 F.t))) 79 rN kh (Da F j g n i) [] kh =
( bif decide (ofNat i<ofNat n) then gD (decide (0<=ofNat i)&&decide (ofNat i<ofNat n))<|gD (qx (p [F.t.v,.agg (g i).c] (.bool (n5 F.t (g i).y (g i).n))))<|bif n5 F.t (g i).y (g i).n then zN [.ag F.c,.agg [aX F.he F.nh
 none,aX F.fa F.nf
 none],iI (.ofNat j),aX g n
 none,iI (.ofNat n),iI (i64.wrap (ofNat i+1))] [] else
 zR (Da F j g n i) [] else
 zX 2 (Da F j g n i) []):=qh
def qsr(p:t7->T->Prop)(F)(j)(g)(n i):cK (qt.add 108 (qH p (E7 F.t))) 79 rN kh (Da F j g n i) [] [2] =
( bif decide (ofNat i<ofNat n) then gD (decide (0<=ofNat i)&&decide (ofNat i<ofNat n))<|gD (qx (p [F.t.v,.agg (g i).c] (.bool (n5 F.t (g i).y (g i).n))))<|bif n5 F.t (g i).y (g i).n then zN [.undef] [] else
 zR [iI 7] [] else
 zX 2 [.undef] []):=qh
def VO(F:dC)(j):cD 79 [2,2,2,0,0,2,1,2] j1 (tA F j) [] j1 =
( zN [.ag F.c,.agg [aX F.he F.nh
 none,aX F.fa F.nf
 none],iI (i64.wrap (ofNat j+1))] []):=qh
def qvh(F:dC):cD 79 mQ [1] [.ag F.c] [] e9 =
( zN (Db F (nat_lit 0)) []):=qh
def VP(q:t7->T->Prop)(F)(i):cK (qt.add 95 (qH q D7)) 79 c7 e9 (Db F i) [] e9 =
( bif decide (ofNat i<ofNat F.nf) then gD (decide (0<=ofNat i)&&decide (ofNat i<ofNat F.nf))<|bif decide (0<ofNat i) then gD (decide (0<=i64.wrap (ofNat i-1))&&decide (i64.wrap (ofNat i-1)<ofNat F.nf))<|gD (qx (q [.agg (F.fa (i64.wrap (ofNat i-(1:Int))).toNat).c,.agg (F.fa i).c] (iI (zv (F.fa (i64.wrap (ofNat i-(1:Int))).toNat).y (F.fa (i64.wrap (ofNat i-(1:Int))).toNat).n (F.fa i).y (F.fa i).n))))<|bif decide (0<=zv (F.fa (i64.wrap (ofNat i-(1:Int))).toNat).y (F.fa (i64.wrap (ofNat i-(1:Int))).toNat).n (F.fa i).y (F.fa i).n) then zR (Db F i) [] else
 zN [.ag F.c,aX F.fa F.nf
 none,iI (.ofNat F.nf),iI (i64.wrap (ofNat i+1))] [] else
 zN [.ag F.c,aX F.fa F.nf
 none,iI (.ofNat F.nf),iI (i64.wrap (ofNat i+1))] [] else
 zX 4 (Db F i) []):=qh
def qsu(q:t7->T->Prop)(F)(i):cK (qt.add 95 (qH q D7)) 79 c7 e9 (Db F i) [] [2] =
( bif decide (ofNat i<ofNat F.nf) then gD (decide (0<=ofNat i)&&decide (ofNat i<ofNat F.nf))<|bif decide (0<ofNat i) then gD (decide (0<=i64.wrap (ofNat i-1))&&decide (i64.wrap (ofNat i-1)<ofNat F.nf))<|gD (qx (q [.agg (F.fa (i64.wrap (ofNat i-(1:Int))).toNat).c,.agg (F.fa i).c] (iI (zv (F.fa (i64.wrap (ofNat i-(1:Int))).toNat).y (F.fa (i64.wrap (ofNat i-(1:Int))).toNat).n (F.fa i).y (F.fa i).n))))<|bif decide (0<=zv (F.fa (i64.wrap (ofNat i-(1:Int))).toNat).y (F.fa (i64.wrap (ofNat i-(1:Int))).toNat).n (F.fa i).y (F.fa i).n) then zR [iI 6] [] else
 zN [.undef] [] else
 zN [.undef] [] else
 zX 4 [.undef] []):=qh
def qvi(F:dC):cD 79 dd [1] [.ag F.c] [] [1,9] =
( zN [.ag F.c,.ptr 1 0 0 0] [.mk 0 0 0 (λx=>[]) false false (some (bk.mk (KS.row [some IntKind.u8,some IntKind.i64]) IntKind.i64 (λx=>false) (λx=>(0:Int)) (λx=>(0:Nat)) (0:Nat)
 none)),.mk 0 1 1 (λe=>[bif e==(0:Nat) then T.mp (0:Nat) (0:Nat)
 else T.iV]) false false
 none]):=qh
def qvj(F:dC)(d)(a)(f)(e):cD 79 k7 [1,9] [.ag F.c,.ptr 1 0 0 0] (eJ d a f e) tc =
( zN [.ag F.c,.ptr 1 0 0 0,.fn (109:Nat) [.ptr 1 0 0 0]] (eJ d a f e)):=qh
def qvk(F:dC)(d)(a:List Int->Int)(f:List Int->Nat)(e:Nat):cD 79 qs tc [.ag F.c,.ptr 1 0 0 0,.fn 109 [.ptr 1 0 0 0]] (eJ d a f e) eT =
( zN (d79 F (nat_lit 0)) (eJ d a f e)):=qh
def qvl(F:dC)(y:Nat)(d:List Int->Bool)(a:List Int->Int)(f:List Int->Nat)(e:Nat):cD 79 [1,1,2,2,2,2,2,2,2,2] [1,9] [.ag F.c,.ptr 1 0 0 0] (eJ d a f e) eL =
( zN (f79 F (nat_lit 0)) (eJ d a f e)):=qh
def qvm(d)(a)(f)(e):cD 79 rc [] [] (eJ d a f e) [2] =
( zR [iI 0] (eJ d a f e)):=qh
def Pv(d:List Int->Bool)(a:List Int->Int)(f:List Int->Nat)(e:Nat)(_:t7)(_:qa):Option (T×qa):=some (.aJ [],eJ d a f e)
def qvn(p)(F:dC)(i a)(g f)(k e:List Int->Nat)(j d:Nat):cK (qt.bW 109 (kH p (Pv a f e d))) 79 eK tc [.ag F.c,.ptr 1 0 0 0,.fn 109 [.ptr 1 0 0 0]] (eJ i g k j) tc =
( gD (qx (p [aX F.he F.nh
 none,.ptr 1 0 0 0] (eJ i g k j) (.aJ []) (eJ a f e d)))<|zN [.ag F.c,.ptr 1 0 0 0,.fn (109:Nat) [.ptr 1 0 0 0]] (eJ a f e d)):=qh
def qvo(p)(F:dC)(i a)(g f)(k e:List Int->Nat)(j d:Nat):cK (qt.bW 109 (kH p (Pv a f e d))) 79 lY tc [.ag F.c,.ptr 1 0 0 0,.fn 109 [.ptr 1 0 0 0]] (eJ i g k j) tc =
( gD (qx (p [aX F.fa F.nf
 none,.ptr 1 0 0 0] (eJ i g k j) (.aJ []) (eJ a f e d)))<|zN [.ag F.c,.ptr 1 0 0 0,.fn (109:Nat) [.ptr 1 0 0 0]] (eJ a f e d)):=qh
def qvp(F)(y)(d)(a)(f)(e):cD 79 gN eT (d79 F y) (eJ d a f e) [1,9,10,72,73,74,75] =
( bif decide (ofNat y<ofNat F.t.h) then zN [.ag F.c,.ptr 1 0 0 0,.fn (109:Nat) [.ptr 1 0 0 0],F.t.v,iI (.ofNat F.t.h),iI (.ofNat y),.bool true] (eJ d a f e) else
 zN [.ag F.c,.ptr 1 0 0 0,.fn (109:Nat) [.ptr 1 0 0 0],F.t.v,iI (.ofNat F.t.h),iI (.ofNat y),.bool false] (eJ d a f e)):=qh
def qsv(F)(y)(d)(a)(f)(e):cD 79 [1,0,1,2,2,0,0,2,1,2,2,2,2,2,2,2] eT (d79 F y) (eJ d a f e) [1,9,10,12,72,73,74] =
( gD (decide (0<=ofNat y)&&decide (ofNat y<ofNat F.t.h))<|zN [.ag F.c,.ptr 1 0 0 0,.fn (109:Nat) [.ptr 1 0 0 0],oh (F.t.L y) (F.t.ln y)
 none,F.t.v,iI (.ofNat F.t.h),iI (.ofNat y)] (eJ d a f e)):=qh
def qsw(F)(y)(d)(a)(f)(e):cD 79 [1,2,0,1,2,2,0,0,2,1,2,2,2,2,2,2,2] [1,9,10,12,72,73,74] [.ag F.c,.ptr 1 0 0 0,.fn 109 [.ptr 1 0 0 0],oh (F.t.L y) (F.t.ln y) none,F.t.v,iI (ofNat F.t.h),iI (ofNat y)] (eJ d a f e) nH =
( zN (LW F y (nat_lit 0)) (eJ d a f e)):=qh
def VQ(p)(F)(y i)(d e)(a o)(g k)(f j):cK (qt.bW 109 (kH p (Pv e o k j))) 79 [0,0,2,2,0,1,2,2,0,0,2,1,2,2,2,2,2,2,2] nH (LW F y i) (eJ d a g f) nH =
( bif decide (ofNat i<ofNat (F.t.ln y)) then gD (decide (0<=ofNat i)&&decide (ofNat i<ofNat (F.t.ln y)))<|gD (qx (p [aX (F.t.L y i).th (F.t.L y i).nt
 none,.ptr 1 0 0 0] (eJ d a g f) (.aJ []) (eJ e o k j)))<|zN [.ag F.c,.ptr 1 0 0 0,.fn (109:Nat) [.ptr 1 0 0 0],F.t.v,iI (.ofNat F.t.h),iI (.ofNat y),oh (F.t.L y) (F.t.ln y)
 none,iI (.ofNat (F.t.ln y)),iI (i64.wrap (ofNat i+1))] (eJ e o k j) else
 zX 8 (LW F y i) (eJ d a g f)):=qh
def qvq(F)(y)(d)(a)(f)(e):cD 79 [2,2,2,0,0,2,1,2,2,2,2,2,2,2] eT (d79 F y) (eJ d a f e) eT =
( zN [.ag F.c,.ptr 1 0 0 0,.fn (109:Nat) [.ptr 1 0 0 0],F.t.v,iI (.ofNat F.t.h),iI (i64.wrap (ofNat y+1))] (eJ d a f e)):=qh
def qsy(F)(y)(d)(a)(f)(e):cD 79 h9 eT (d79 F y) (eJ d a f e) [1,9] =
( bif decide (ofNat y<ofNat F.t.h) then gD (decide (0<=ofNat y)&&decide (ofNat y<ofNat F.t.h)) none else
 zX 6 [.ag F.c,.ptr 1 0 0 0] (eJ d a f e)):=qh
def qvr(F)(y)(d)(a)(f)(e):cD 79 rJ eL (f79 F y) (eJ d a f e) qi =
( bif decide (ofNat y<ofNat F.t.h) then zN [.ptr 1 0 0 0,F.t.v,iI (.ofNat F.t.h),iI (.ofNat y),.bool true] (eJ d a f e) else
 zN [.ptr 1 0 0 0,F.t.v,iI (.ofNat F.t.h),iI (.ofNat y),.bool false] (eJ d a f e)):=qh
def qsz(F)(y)(d)(a)(f)(e):cD 79 pj eL (f79 F y) (eJ d a f e) pk =
( gD (decide (0<=ofNat y)&&decide (ofNat y<ofNat F.t.h))<|zN [.ptr 1 0 0 0,iI (.ofNat y),oh (F.t.L y) (F.t.ln y)
 none,F.t.v,iI (.ofNat F.t.h),iI (.ofNat y)] (eJ d a f e)):=qh
def qsA(F)(y)(d)(a)(f)(e):cD 79 og pk [.ptr 1 0 0 0,iI (ofNat y),oh (F.t.L y) (F.t.ln y) none,F.t.v,iI (ofNat F.t.h),iI (ofNat y)] (eJ d a f e) eM =
( zN (Cc F y (nat_lit 0)) (eJ d a f e)):=qh
def VS(F)(y i)(d)(a)(f)(e):cD 79 mn eM (Cc F y i) (eJ d a f e) eM =
( bif decide (ofNat i<ofNat (F.t.ln y)) then bif !decide (a [u8.wrap (i64.wrap (ofNat y+1)),ofNat i]=(1:Int)) then zR (Cc F y i) (eJ d a f e) else
 zN [.ptr 1 0 0 0,iI (.ofNat y),F.t.v,iI (.ofNat F.t.h),iI (.ofNat y),iI (.ofNat (F.t.ln y)),iI (i64.wrap (ofNat i+1))] (eJ d a f e) else
 zX 12 (Cc F y i) (eJ d a f e)):=qh
def qsC(F)(y i)(d)(a)(f)(e):cD 79 mn eM (Cc F y i) (eJ d a f e) [2] =
( bif decide (ofNat i<ofNat (F.t.ln y)) then bif !decide (a [u8.wrap (i64.wrap (ofNat y+1)),ofNat i]=(1:Int)) then zR [iI 6] (eJ d a f e) else
 zN [.undef] (eJ d a f e) else
 zX 12 [.undef] (eJ d a f e)):=qh
def qvs(F)(y)(d)(a)(f)(e):cD 79 [2,2,2,0,0,2,1,2,2,2,2,2,2,2,2] eL (f79 F y) (eJ d a f e) eL =
( zN [.ptr 1 0 0 0,F.t.v,iI (.ofNat F.t.h),iI (i64.wrap (ofNat y+1))] (eJ d a f e)):=qh
def qsD(F)(y)(d)(a)(f)(e):cD 79 [0,0,2,1,2,2,2,2,2,2,2,2] eL (f79 F y) (eJ d a f e) [] =
( bif decide (ofNat y<ofNat F.t.h) then gD (decide (0<=ofNat y)&&decide (ofNat y<ofNat F.t.h)) none else
 zX 10 [] (eJ d a f e)):=qh
def Pw(g)(n)(hn:n<=1000000)(L):aR au G16 109 [aX g n none,.ptr 1 0 0 0] (iS L) (.aJ []) (iS (kA g n L)):=by
 have d:=aP (iS L) (qve g n (hF L) (vF L) (bF L) (cF L));have a:=Pz.count (P:=au) (G:=G16) (A:=ar) (f:=109) (h0:=iS L) (p:=[0,2]) (l:=rS) (e:=.exit 0) qh (λi=>LV g n i) (λi=>iS (kA g i L)) (n:=n) aq (λi j=>by
  have q:=VL g n i (hF (kA g i L)) (vF (kA g i L)) (bF (kA g i L)) (cF (kA g i L));rw[dH ab] at q;exact aP _ (q.trans (qj rx (qj (gV j) (qj aq rfl))))) (Pz.only (aP _ ((VL g n n (hF (kA g n L)) (vF (kA g n L)) (bF (kA g n L)) (cF (kA g n L))).trans (qB aq rfl))) (l2:=[]) rfl)
 exact Pz.rM (A:=ar) qY Tryz.func109 qh qh (l:=ir) rfl (ao d (cO 0 a)) rfl
def kD(t:bt)(L:List (List Int)):Nat->List (List Int)
 |0=>L
 |y+1=>kB (t.L y) (t.ln y) (kD t L y)
def sS(t:bt)(g:Nat->aw)(i:Nat):Bool:=n5 t (g i).y (g i).n
def AR(F:dC)(i:Nat):Bool:=!(decide (0<i)&&decide (0<=zv (F.fa (i-1)).y (F.fa (i-1)).n (F.fa i).y (F.fa i).n))
def ft(F:dC):List (List Int):=kD F.t (kA F.fa F.nf (kA F.he F.nh [])) F.t.h
def Fl(F:dC)(y i:Nat):Bool:=decide (vF (ft F) [ofNat y+1,ofNat i]=1)
def Dc(F:dC)(y:Nat):Bool:=qL (Fl F y) (F.t.ln y)
def mJ(F:dC):Int:=bif qL (sS F.t F.he) F.nh&&qL (sS F.t F.fa) F.nf then(bif qL (AR F) F.nf then(bif qL (Dc F) F.t.h then 0 else 6) else 6) else 7
set_option maxHeartbeats 400000
section
variable (F:dC)
def VT(s:F.Ok)(j:Nat)(g:Nat->aw)(n)(hn:n<=1000000)(r:∀i,(g i).Ok) :
 (qL (sS F.t g) n=true/\Pq 79 [] oS kh (Da F j g n 0) [] (.exit 2) j1 (tA F j) []) ∨
 (qL (sS F.t g) n=false/\∃i,i<n/\Pq 79 [] oS kh (Da F j g n 0) [] .ret [2] [iI 7] []):=by
 obtain⟨p,o⟩:=qz au G16 108;have e:=qr qm (P:=au) (Gl:=G16) (qn o (F:=E7 F.t));have k:∀i,qx (p [F.t.v,.agg (g i).c] (.bool (n5 F.t (g i).y (g i).n)))=true:=λi=>qU.2 (QF o (Pe F.t s.t (g i) (r i)));refine Pz.scan (P:=au) (G:=G16) (A:=ar) (f:=79) (h0:=[]) (p:=oS) qh (λi=>Da F j g n i) (λ_=>[]) (sS F.t g) (λ_=>[]) aq (λi d _ a=>?_) (λi d _ a=>?_) (λ_=>?_)
 .have q:=VN p F j g n i;rw[dH ab] at q;exact bR e _ (q.trans (qj rx (qj (gV d) (qj (k i) (qj a rfl)))))
 .exact bR e _ ((qsr p F j g n i).trans (qj rx (qj (gV d) (qj (k i) (qB (by unfold sS at a;rw[a];simp) rfl)))))
 .exact Pz.only (bR e _ ((VN p F j g n n).trans (qB aq rfl))) (l2:=j1) rfl
def qvt(o:F.Ok) :
 (qL (AR F) F.nf=true/\Pq 79 [] hV e9 (Db F 0) [] (.exit 4) [1] [.ag F.c] []) ∨
 (qL (AR F) F.nf=false/\∃i,i<F.nf/\Pq 79 [] hV e9 (Db F 0) [] .ret [2] [iI 6] []):=by
 obtain⟨q,g⟩:=qz au G16 95;have e:=qr qm (P:=au) (Gl:=G16) (qn g (F:=D7));have hn:=o.nf;have k:∀i j,qx (q [.agg (F.fa i).c,.agg (F.fa j).c] (iI (zv (F.fa i).y (F.fa i).n (F.fa j).y (F.fa j).n)))=true:=λi j=>qU.2 (QF g (LD (F.fa i) (F.fa j)));refine Pz.scan (P:=au) (G:=G16) (A:=ar) (f:=79) (h0:=[]) (p:=hV) qh (λi=>Db F i) (λ_=>[]) (AR F) (λ_=>[]) aq (λi d _ a=>?_) (λi d _ a=>?_) (λ_=>?_)
 .have z:=VP q F i;rw[dH ab] at z;refine bR e _ (z.trans (qj rx (qj (gV d) ?_)));unfold AR at a;by_cases c:0<i
  .rw[E8 (j:=i) ab ab,show(ofNat (i-1)).toNat=i-1 from rfl];rw[wt c,wQ,wR,wV] at a;exact qj rx (qj (gV ab) (qj (k (i-1) i) (qB rx rfl)))
  .exact qB rx rfl
 .refine bR e _ ((qsu q F i).trans (qj (by simpa using d) (qj (gV d) ?_)));unfold AR at a;simp only[xP,wd,wm] at a;rw[E8 (j:=i) ab ab,show(ofNat (i-1)).toNat=i-1 from rfl];grind
 .exact Pz.only (bR e _ ((VP q F F.nf).trans (qB aq rfl))) (l2:=[1]) rfl
def qvu(g:F.Ok)(L):Pq 79 [] mT eT (d79 F 0) (iS L) (.exit 6) [1,9] [.ag F.c,.ptr 1 0 0 0] (iS (kD F.t L F.t.h)):=by
 obtain⟨p,d⟩:=ZY au G16 109;have H:=g.t.h;refine Pz.count (p:=mT) qh (λy=>d79 F y) (λy=>iS (kD F.t L y)) (n:=F.t.h) aq (λy u=>?_) ?_
 ·have E:=g.t.ln y;have a:=Pz.count (P:=au) (G:=G16) (A:=ar) (f:=79) (h0:=[]) (p:=[0,2,2,0,1,2,2,0,0,2,1,2,2,2,2,2,2,2]) (e:=.exit 8) qh (λi=>LW F y i) (λi=>iS (kB (F.t.L y) i (kD F.t L y))) (n:=F.t.ln y) aq (λi x=>by
   have I:=(g.t.L y i).nt;have q:=VQ p F y i (hF (kB (F.t.L y) i (kD F.t L y))) (hF (kB (F.t.L y) (i+1) (kD F.t L y))) (vF (kB (F.t.L y) i (kD F.t L y))) (vF (kB (F.t.L y) (i+1) (kD F.t L y))) (bF (kB (F.t.L y) i (kD F.t L y))) (bF (kB (F.t.L y) (i+1) (kD F.t L y))) (cF (kB (F.t.L y) i (kD F.t L y))) (cF (kB (F.t.L y) (i+1) (kD F.t L y)));rw[dH ab] at q;exact bR (qA qm (Qy d)) _ (q.trans (qj rx (qj (gV x) (qj (QR d (Pw _ _ ab _)) rfl)))))
   (bR (qA qm (Qy d)) _ ((VQ p F y (F.t.ln y) _ (λ_=>false) _ (λ_=>0) _ (λ_=>0) _ 0).trans (qB aq rfl)))
  have C:cD 79 [1,2,0,0,2,1,2,2,2,2,2,2,2] [1,9,10,72,73,74,75] (d79 F y++[.bool true]) (iS (kD F.t L y)) eT=some (.normal,d79 F y,iS (kD F.t L y)):=qh
  have s:=aP [] ((qvp F y (hF (kD F.t L y)) (vF (kD F.t L y)) (bF (kD F.t L y)) (cF (kD F.t L y))).trans (qj rx rfl));have r:=aP [] C;have o:=aP [] ((qsv F y (hF (kD F.t L y)) (vF (kD F.t L y)) (bF (kD F.t L y)) (cF (kD F.t L y))).trans (qj (gV u) rfl));have k:=aP [] (qsw F y (hF (kD F.t L y)) (vF (kD F.t L y)) (bF (kD F.t L y)) (cF (kD F.t L y)));have q:=qvq F y (hF (kD F.t L (y+1))) (vF (kD F.t L (y+1))) (bF (kD F.t L (y+1))) (cF (kD F.t L (y+1)));rw[dH ab] at q;have j:=aP [] q;exact ao s (ao r (ao (cO 7 (ao o (ao k (cO 8 (Pz.only a (l2:=eT) rfl))))) j))
 .exact aP _ ((qsy F F.t.h (hF (kD F.t L F.t.h)) (vF (kD F.t L F.t.h)) (bF (kD F.t L F.t.h)) (cF (kD F.t L F.t.h))).trans (qB aq rfl))
def qvv(C:F.Ok)(J:F.t.h=6) :
 (qL (Dc F) F.t.h=true/\Pq 79 [] po eL (f79 F 0) (iS (ft F)) (.exit 10) [] [] (iS (ft F))) ∨
 (qL (Dc F) F.t.h=false/\∃i,i<F.t.h/\Pq 79 [] po eL (f79 F 0) (iS (ft F)) .ret [2] [iI 6] (iS (ft F))):=by
 have d:∀y,y<F.t.h->(qL (Fl F y) (F.t.ln y)=true/\Pq 79 [] g8 eM (Cc F y 0) (iS (ft F)) (.exit 12) eL (f79 F y) (iS (ft F))) ∨
  (qL (Fl F y) (F.t.ln y)=false/\∃i,i<F.t.ln y/\Pq 79 [] g8 eM (Cc F y 0) (iS (ft F)) .ret [2] [iI 6] (iS (ft F))):=by
  intro y g;have I:=C.t.ln y;have u:u8.wrap (i64.wrap (ofNat y+(1:Int)))=ofNat y+1:=by
   rw[dH ab,nY bP bP];rfl
  refine Pz.scan (P:=au) (G:=G16) (A:=ar) (f:=79) (h0:=[]) (p:=g8) qh (λi=>Cc F y i) (λ_=>iS (ft F)) (Fl F y) (λ_=>iS (ft F)) aq (λi B _ e=>?_) (λi B _ e=>?_) (λ_=>?_)
  .have z:=VS F y i (hF (ft F)) (vF (ft F)) (bF (ft F)) (cF (ft F));rw[dH (i:=i) ab,u] at z;refine aP _ (z.trans (qj rx (qB ?_ rfl)));unfold Fl at e;rw[e];simp
  .have z:=qsC F y i (hF (ft F)) (vF (ft F)) (bF (ft F)) (cF (ft F));rw[u] at z;refine aP _ (z.trans (qj rx (qj ?_ rfl)));unfold Fl at e;rw[e];rfl
  .exact Pz.only (aP _ ((VS F y (F.t.ln y) (hF (ft F)) (vF (ft F)) (bF (ft F)) (cF (ft F))).trans (qB aq rfl))) (l2:=eL) rfl
 have j:∀y,y<F.t.h->Pq 79 [] rJ eL (f79 F y) (iS (ft F)) .normal qi (f79 F y++[.bool true]) (iS (ft F)) ∧
  Pq 79 [] qf qi (f79 F y++[.bool true]) (iS (ft F)) .normal eL (f79 F y) (iS (ft F)) ∧
  Pq 79 [] pj eL (f79 F y) (iS (ft F)) .normal pk [.ptr 1 0 0 0,iI (ofNat y),oh (F.t.L y) (F.t.ln y) none,F.t.v,iI (ofNat F.t.h),iI (ofNat y)] (iS (ft F)) ∧
  Pq 79 [] og pk [.ptr 1 0 0 0,iI (ofNat y),oh (F.t.L y) (F.t.ln y) none,F.t.v,iI (ofNat F.t.h),iI (ofNat y)] (iS (ft F)) .normal eM (Cc F y 0) (iS (ft F)):=by
  intro y g;have E:cD 79 qf qi (f79 F y++[.bool true]) (iS (ft F)) eL=some (.normal,f79 F y,iS (ft F)):=qh
  exact⟨aP _ ((qvr F y _ _ _ _).trans (qj rx rfl)),aP _ E,
   aP _ ((qsz F y _ _ _ _).trans (qj (gV g) rfl)),aP _ (qsA F y _ _ _ _)⟩
 refine Pz.scan (P:=au) (G:=G16) (A:=ar) (f:=79) (h0:=[]) (p:=po) qh (λy=>f79 F y) (λ_=>iS (ft F)) (Dc F) (λ_=>iS (ft F)) aq (λy g _ e=>?_) (λy g _ e=>?_) (λ_=>?_)
 .obtain⟨s,r,o,k⟩:=j y g;have q:=qvs F y (hF (ft F)) (vF (ft F)) (bF (ft F)) (cF (ft F));rw[dH ab] at q;have x:=aP [] q;rcases d y g with⟨_,a⟩|⟨c,_⟩
  .exact ao s (ao r (ao (cO 11 (ao o (ao k (cO 12 a)))) x))
  .unfold Dc at e;rw[e] at c;cases c
 .obtain⟨s,r,o,k⟩:=j y g;rcases d y g with⟨c,_⟩|⟨_,i,_,a⟩
  .unfold Dc at e;rw[e] at c;cases c
  .exact ao s (ao r (ed (cO 11 (ao o (ao k (cO 12 a))))))
 .exact aP _ ((qsD F F.t.h (hF (ft F)) (vF (ft F)) (bF (ft F)) (cF (ft F))).trans (qB aq rfl))
def qn8(a:F.Ok)(h6:F.t.h=6):TO 79 [.agg F.c] (iI (mJ F)):=by
 have pa:=aP [] (qvf F);have d:∀v h,Pq 79 [] [2] [1] [.ag F.c] [] .ret [2] [iI v] h->TO 79 [.agg F.c] (iI v):=λv h q=>Pz.told (A:=ar) qY Tryz.func79 qh qh (l:=[0]) rfl (ao pa q) rfl;have B:=aP [] (qvg F);have c0:=aP [] (qsk F);have c1:=aP [] (qsl F);have c2:=aP [] (qsm F);have cd:∀j,cD 79 [1,2,0,0,2,1,2] [1,22,23,24] (tA F j++[.bool true]) [] j1=some (.normal,tA F j,[]):=λj=>qh
 have k:∀j,_:=λj=>aP [] (cd j);have d0:=aP [] (qsn F);have Z:=aP [] (qso F);have Y:=aP [] (VM F 0 F.he F.nh);have X:=aP [] (VM F 1 F.fa F.nf);have M:=VO F 0;have L:=VO F 1;rw[dH ab] at M L;have g0:=aP [] M;have g1:=aP [] L;unfold mJ;rcases VT F a 0 F.he F.nh a.nh a.he with⟨J,I⟩|⟨J,i,_,I⟩
 rotate_left
 .rw[J,xT,wq];have g:=ao c0 (ao (k 0) (ed (cO 1 (ao d0 (ao Y (cO 2 I))))));have lp:=Pz.count (P:=au) (G:=G16) (A:=ar) (f:=79) (h0:=[]) (p:=tf) (l:=j1) (e:=.ret) qh (λj=>tA F j) (λ_=>[]) (n:=0) aq (λj D=>ab) g;exact d _ _ (ed (ao B (cO 0 lp)))
 have g:=ao c0 (ao (k 0) (ao (cO 1 (ao d0 (ao Y (cO 2 I)))) g0));rw[J,wQ];rcases VT F a 1 F.fa F.nf a.nf a.fa with⟨H,E⟩|⟨H,i,_,E⟩
 rotate_left
 ·rw[H,wq];have x:=ao c1 (ao (k 1) (ed (cO 1 (ao Z (ao X (cO 2 E))))));have lp:=Pz.count (P:=au) (G:=G16) (A:=ar) (f:=79) (h0:=[]) (p:=tf) (l:=j1) (e:=.ret) qh (λj=>tA F j) (λ_=>[]) (n:=1) aq (λj D=>by
   obtain rfl:j=0:=vQ.1 D;exact g) x
  exact d _ _ (ed (ao B (cO 0 lp)))
 have x:=ao c1 (ao (k 1) (ao (cO 1 (ao Z (ao X (cO 2 E)))) g1));rw[H,wp];have lp:=Pz.count (P:=au) (G:=G16) (A:=ar) (f:=79) (h0:=[]) (p:=tf) (l:=j1) (e:=.exit 0) qh (λj=>tA F j) (λ_=>[]) (n:=2) aq (λj D=>by
  obtain rfl|rfl:j=0∨j=1:=by omega
  .exact g
  .exact x) c2
 have C:=ao B (Pz.dZ (id:=0) (e:=.exit 0) (p:=[2,1,2]) qh rfl lp);have S:=aP [] (qvh F);rcases qvt F a with⟨s1,u⟩|⟨s1,i,_,u⟩
 rotate_left
 .rw[s1,wq];exact d _ _ (ao C (ed (ao S (cO 4 u))))
 rw[s1,wp];have U:=ao S (Pz.dZ (id:=4) (e:=.exit 4) (p:=tV) qh rfl u);obtain⟨p,o⟩:=ZY au G16 109;have R:=Pz.post (aP [] (qvi F)) (h2:=iS []) (v2:=[.ag F.c,.ptr 1 0 0 0]) λnt=>.same (.cons ⟨rfl,rfl,rfl,id,λ_ _=>rfl⟩ (.cons ⟨rfl,rfl,rfl,id,λe he=>by
  grind⟩ .nil))
 have Q:=aP [] (qvj F (hF []) (vF []) (bF []) (cF []));have O:=bR (qA qm (Qy o)) [] ((qvn p F (hF []) (hF (kA F.he F.nh [])) (vF []) (vF (kA F.he F.nh [])) (bF []) (bF (kA F.he F.nh [])) (cF []) (cF (kA F.he F.nh []))).trans (qj (QR o (Pw _ _ a.nh _)) rfl));have N:=bR (qA qm (Qy o)) [] ((qvo p F (hF (kA F.he F.nh [])) (hF (kA F.fa F.nf (kA F.he F.nh []))) (vF (kA F.he F.nh [])) (vF (kA F.fa F.nf (kA F.he F.nh []))) (bF (kA F.he F.nh [])) (bF (kA F.fa F.nf (kA F.he F.nh []))) (cF (kA F.he F.nh [])) (cF (kA F.fa F.nf (kA F.he F.nh [])))).trans (qj (QR o (Pw _ _ a.nf _)) rfl));have pn:=aP [] (qvk F (hF (kA F.fa F.nf (kA F.he F.nh []))) (vF (kA F.fa F.nf (kA F.he F.nh []))) (bF (kA F.fa F.nf (kA F.he F.nh []))) (cF (kA F.fa F.nf (kA F.he F.nh []))));have V:=ao pn (Pz.dZ (id:=6) (e:=.exit 6) (p:=[2,1,2,2,2,2,2,2,2]) qh rfl (qvu F a (kA F.fa F.nf (kA F.he F.nh []))));have ps:=aP [] (qvl F 0 (hF (ft F)) (vF (ft F)) (bF (ft F)) (cF (ft F)));rcases qvv F a h6 with⟨s,r⟩|⟨s,i,_,r⟩
 .rw[s,wp];have pz:=aP [] (qvm (hF (ft F)) (vF (ft F)) (bF (ft F)) (cF (ft F)));exact d _ _ (ao C (ao U (ao R (ao Q (ao O (ao N (ao V (ao (ao ps (cO 10 r)) pz))))))))
 .rw[s,wq];exact d _ _ (ao C (ao U (ao R (ao Q (ao O (ao N (ao V (ed (ao ps (cO 10 r))))))))))
end
structure dc where
 (s:oI) (Y:Nat->bC) (ny:Nat) (F:dC) (d:Int)
def nU(Y:Nat->bC)(n:Nat):T:=.view 5 n (λj=>(Y j).c) none
def dc.c(w:dc):t7:=[w.s.v,nU w.Y w.ny,w.F.t.v,mb w.F.cr w.F.nc none,aX w.F.he w.F.nh none,aX w.F.fa w.F.nf none,uI w.d]
def u5(w:dc)(i:Nat):Bool:=ux w.F.t (w.Y i) (ofNat (w.F.t.ln i))
def LX(b:Bool):t7->Option T:=λ_=>some (.bool b)
def fD(w:dc)(i:Nat):t7:=[.ag w.c,nU w.Y w.ny,iI (ofNat w.ny),iI (ofNat i)]
def Bv(w:dc)(i:Nat):t7:=[.ag w.c,w.s.v,iI (ofNat w.s.s.n),iI (ofNat i)]
def qvw(w:dc):cD 15 [1] [0] [.agg w.c] [] [1] =
( zN [.ag w.c] []):=qh
def qvx(w:dc):cD 15 eH [1] [.ag w.c] [] [1] =
( bif !decide (ofNat w.ny=6) then zR [.ag w.c] [] else
 bif !decide (ofNat w.F.t.h=6) then zR [.ag w.c] [] else
 zN [.ag w.c] []):=qh
def qsF(w:dc):cD 15 eH [1] [.ag w.c] [] [2] =
( bif !decide (ofNat w.ny=6) then zR [iI 5] [] else
 bif !decide (ofNat w.F.t.h=6) then zR [iI 5] [] else
 zN [.undef] []):=qh
def qvy(w:dc):cD 15 mQ [1] [.ag w.c] [] rr =
( zN (fD w (nat_lit 0)) []):=qh
def VU(p:t7->T->Prop)(w)(b:Bool)(i):cK (qt.add 43 (qH p (LX b))) 15 c7 rr (fD w i) [] rr =
( bif decide (ofNat i<ofNat w.ny) then gD (decide (0<=ofNat i)&&decide (ofNat i<ofNat w.ny))<|gD (decide (0<=ofNat i)&&decide (ofNat i<ofNat w.F.t.h))<|gD (qx (p [.agg (w.Y i).c,iI (.ofNat (w.F.t.ln i)),w.F.t.v] (.bool b)))<|bif b then zN [.ag w.c,nU w.Y w.ny,iI (.ofNat w.ny),iI (i64.wrap (ofNat i+1))] [] else
 zR (fD w i) [] else
 zX 0 (fD w i) []):=qh
def qsH(p:t7->T->Prop)(w)(b:Bool)(i):cK (qt.add 43 (qH p (LX b))) 15 c7 rr (fD w i) [] [2] =
( bif decide (ofNat i<ofNat w.ny) then gD (decide (0<=ofNat i)&&decide (ofNat i<ofNat w.ny))<|gD (decide (0<=ofNat i)&&decide (ofNat i<ofNat w.F.t.h))<|gD (qx (p [.agg (w.Y i).c,iI (.ofNat (w.F.t.ln i)),w.F.t.v] (.bool b)))<|bif b then zN [.undef] [] else
 zR [iI 1] [] else
 zX 0 [.undef] []):=qh
def qvz(w:dc):cD 15 dd [1] [.ag w.c] [] [1] =
( bif decide (ofNat w.s.s.n<1) then zR [.ag w.c] [] else
 bif decide (16<ofNat w.s.s.n) then zR [.ag w.c] [] else
 bif !decide (w.d=0) then bif !decide (w.d=1) then zR [.ag w.c] [] else
 zN [.ag w.c] [] else
 zN [.ag w.c] []):=qh
def qsI(w:dc):cD 15 dd [1] [.ag w.c] [] [2] =
( bif decide (ofNat w.s.s.n<1) then zR [iI 1] [] else
 bif decide (16<ofNat w.s.s.n) then zR [iI 1] [] else
 bif !decide (w.d=0) then bif !decide (w.d=1) then zR [iI 1] [] else
 zN [.undef] [] else
 zN [.undef] []):=qh
def qvA(w:dc):cD 15 mP [1] [.ag w.c] [] rC =
( zN (Bv w (nat_lit 0)) []):=qh
def VV(w:dc)(i):cD 15 ew rC (Bv w i) [] rC =
( bif decide (ofNat i<ofNat w.s.s.n) then gD (decide (0<=ofNat i)&&decide (ofNat i<ofNat w.s.s.n))<|bif !decide (w.s.b i=0) then bif !decide (w.s.b i=1) then zR (Bv w i) [] else
 bif decide (ofNat (w.s.s.l i)<(1:Int)) then zR (Bv w i) [] else
 bif decide (3<ofNat (w.s.s.l i)) then zR (Bv w i) [] else
 zN [.ag w.c,w.s.v,iI (.ofNat w.s.s.n),iI (i64.wrap (ofNat i+1))] [] else
 bif decide (ofNat (w.s.s.l i)<(1:Int)) then zR (Bv w i) [] else
 bif decide (3<ofNat (w.s.s.l i)) then zR (Bv w i) [] else
 zN [.ag w.c,w.s.v,iI (.ofNat w.s.s.n),iI (i64.wrap (ofNat i+1))] [] else
 zX 2 (Bv w i) []):=qh
def qsK(w:dc)(i):cD 15 ew rC (Bv w i) [] [2] =
( bif decide (ofNat i<ofNat w.s.s.n) then gD (decide (0<=ofNat i)&&decide (ofNat i<ofNat w.s.s.n))<|bif !decide (w.s.b i=0) then bif !decide (w.s.b i=1) then zR [iI 1] [] else
 bif decide (ofNat (w.s.s.l i)<(1:Int)) then zR [iI 1] [] else
 bif decide (3<ofNat (w.s.s.l i)) then zR [iI 1] [] else
 zN [.undef] [] else
 bif decide (ofNat (w.s.s.l i)<(1:Int)) then zR [iI 1] [] else
 bif decide (3<ofNat (w.s.s.l i)) then zR [iI 1] [] else
 zN [.undef] [] else
 zX 2 [.undef] []):=qh
def qvB(p)(e)(w:dc):cK (qt.add 44 (qH p (AL e))) 15 eK [1] [.ag w.c] [] [1] =
( gD (qx (p [.agg w.F.c] (iI e)))<|bif !decide (e=0) then zR [.ag w.c] [] else
 zN [.ag w.c] []):=qh
def qsL(p)(e)(w:dc):cK (qt.add 44 (qH p (AL e))) 15 eK [1] [.ag w.c] [] [2] =
( gD (qx (p [.agg w.F.c] (iI e)))<|bif !decide (e=0) then zR [iI e] [] else
 zN [.undef] []):=qh
def qvC(p q)(b)(n:Nat)(z)(w:dc):cK ((qt.add 46 (qH p (LI n z))).add 45 (qH q (LX b))) 15 sw [1] [.ag w.c] [] [2] =
( gD (qx (p [w.s.v] (.fresh true (2:Nat) n (λj=>(z j).c) n (some n))))<|gD (qx (q [bif ((0:Nat)+n).ble n then aX (λj=>z (0+j)) n (some n)
 else .undef,aX w.F.he w.F.nh
 none] (.bool b)))<|bif b then zR [iI 0] [iB n z] else
 zR [iI 6] [iB n z]):=qh
def u6(w:dc)(i:Nat):Bool:=(decide (w.s.b i=0) || decide (w.s.b i=1))&&(decide (1<=w.s.s.l i)&&decide (w.s.s.l i<=3))
def Fm(w:dc):Bool:=B8 w.s.hz w.F.he w.s.hn w.F.nh
def la(w:dc):Int :=
 if w.ny=6/\w.F.t.h=6 then
  (if qL (u5 w) 6=true then
   (if (1<=w.s.s.n/\w.s.s.n<=16)/\(w.d=0∨w.d=1) then
    (if qL (u6 w) w.s.s.n=true then(if kJ w.F (mJ w.F)=0 then(if Fm w=true then 0 else 6) else kJ w.F (mJ w.F)) else 1)
   else 1)
  else 1)
 else 5
structure dc.Ok(w:dc):Prop where
 F:w.F.Ok
 Y:∀i,(w.Y i).np<=1000000
def mq.nT(s:mq){m n}(h:∀i,i<n->s.l i<=m):s.sum n<=m*n:=by
 induction n with
 |zero=>exact wc _
 |succ n a =>
  have f:=a λi d=>h i ab;have e:=h n ab;show s.sum n+s.l n<=m*(n+1);rw[Nat.mul_succ];omega
set_option maxHeartbeats 1000000
def KH(w)(hw:w.Ok):TO 15 [.agg w.c] (iI (la w)):=by
 have pa:=aP [] (qvw w);have g:∀v h,Pq 15 [] [2] [1] [.ag w.c] [] .ret [2] [iI v] h->TO 15 [.agg w.c] _:=λv h q=>Pz.told qY Tryz.func15 qh qh rfl (ao pa q) rfl;unfold la;by_cases o:w.ny=6/\w.F.t.h=6
 rotate_left
 .rw[wh o];refine g 5 [] (ed (aP _ ((qsF w).trans ?_)));grind
 rw[wl o];have u:=aP [] ((qvx w).trans (qB rx (qB rx rfl)));have pc:=aP [] (qvy w);obtain⟨p,R⟩:=qz au G16 43
 have I:=Pz.scan (P:=au) (G:=G16) (A:=ar) (f:=15) (h0:=[]) (l:=rr) (l2:=[2]) (v2:=[iI 1]) (p:=hV) qh (λi=>fD w i) (λ_=>[]) (u5 w) (n:=6) (λ_=>[]) (e:=.exit 0) (l1:=[1]) (v1:=[.ag w.c]) (h1:=[]) aq (λi k _ j=>by
  have q:=VU p w true i;rw[dH ab] at q;refine bR (qr qm (qn R)) _ (q.trans (qj (by simp only[o.1,wn,wm];omega) (qj (gV ab) (qj (gV ab) (qj (qU.2 ?_) rfl)))));have t:=Vh (w.Y i) (ofNat (w.F.t.ln i)) w.F.t (hw.Y i) o.2;rw[show ux w.F.t (w.Y i) (ofNat (w.F.t.ln i))=true from j] at t;simp_all) (λi k _ j=>by
  refine bR (qr qm (qn R)) _ ((qsH p w false i).trans (qj (by simp only[o.1,wn,wm];omega) (qj (gV ab) (qj (gV ab) (qj (qU.2 ?_) rfl)))));have t:=Vh (w.Y i) (ofNat (w.F.t.ln i)) w.F.t (hw.Y i) o.2;rw[show ux w.F.t (w.Y i) (ofNat (w.F.t.ln i))=false from j] at t;simp_all) (λ_=>Pz.only (bR (qr qm (qn R)) _ ((VU p w true 6).trans (qB rx rfl))) (l2:=[1]) rfl)
 rcases I with⟨s1,J⟩|⟨s1,i,_,J⟩
 rotate_left
 .rw[wh (by simp[s1])];exact g 1 [] (ao u (ed (ao pc (cO 0 J))))
 rw[wl s1];have B:=ao pc (Pz.dZ (id:=0) (e:=.exit 0) (p:=tV) qh rfl J);by_cases V:(1<=w.s.s.n/\w.s.s.n<=16)/\(w.d=0∨w.d=1)
 rotate_left
 .rw[wh V];refine g 1 [] (ao u (ao B (ed (aP _ ((qsI w).trans ?_)))));grind
 rw[wl V];have pe:=aP [] ((qvz w).trans (by
  refine qB (by simp only[wn,wm];omega) (qB (by simp only[wn,wm];omega) ?_);rcases V.2 with d|d
  .rw[d];rfl
  grind))
 have Z:=aP [] (qvA w)
 have I:=Pz.scan (P:=au) (G:=G16) (A:=ar) (f:=15) (h0:=[]) (l:=rC) (l2:=[2]) (v2:=[iI 1]) (p:=lT) qh (λi=>Bv w i) (λ_=>[]) (u6 w) (n:=w.s.s.n) (λ_=>[]) (e:=.exit 2) (l1:=[1]) (v1:=[.ag w.c]) (h1:=[]) aq (λi k _ j=>by
  have q:=VV w i;rw[dH ab] at q;simp only[u6,wd,vI,wm] at j;refine aP _ (q.trans (qj rx (qj (gV k) ?_)));have e2:(w.s.s.l i:Int)<1↔False:=iff_of_false ab id;have e3:(3:Int)<(w.s.s.l i:Int)↔False:=iff_of_false ab id;rcases j.1 with d|d
  .rw[d];simp only[wn,e2,e3,decide_false,decide_true,Bool.not_true,wq];rfl
  .rw[d];simp only[wn,e2,e3,decide_false,decide_true,Bool.not_true,wq,show decide ((1:Int)=0)=false by decide,xF,wp];rfl) (λi k _ j=>by
  refine aP _ ((qsK w i).trans (qj rx (qj (gV k) ?_)));by_cases U:w.s.b i=0
  .refine qB (by simp[U]) ?_;by_cases x:(ofNat (w.s.s.l i):Int)<1
   .exact qj (by simpa using x) rfl
   refine qB (by simpa using x) (qj ?_ rfl);simp only[u6,U,decide_true,Bool.true_or,wQ] at j;grind
  .refine qj (by simp[U]) ?_;by_cases d3:w.s.b i=1
   .refine qB (by simp[d3]) ?_;by_cases x:(ofNat (w.s.s.l i):Int)<1
    .exact qj (by simpa using x) rfl
    refine qB (by simpa using x) (qj ?_ rfl);simp only[u6,d3,decide_true,Bool.or_true,wQ] at j;simp only[wn] at x ⊢;simp only[vN,wV] at j;simp only[wm];omega
   grind) (λ_=>Pz.only (aP _ ((VV w w.s.s.n).trans (qB aq rfl))) (l2:=[1]) rfl)
 rcases I with⟨D,L⟩|⟨D,i,_,L⟩
 rotate_left
 .rw[wh (by simp[D])];exact g 1 [] (ao u (ao B (ao pe (ed (ao Z (cO 2 L))))))
 rw[wl D];have N:=ao Z (Pz.dZ (id:=2) (e:=.exit 2) (p:=[2,1,2,2,2,2]) qh rfl L);obtain⟨q,Q⟩:=qz au G16 44;have W:=qU.2 (QF Q (qkJ w.F hw.F (mJ w.F) (qn8 w.F hw.F o.2)));by_cases H:kJ w.F (mJ w.F)=0
 rotate_left
 .rw[wh H];exact g _ [] (ao u (ao B (ao pe (ao N (ed (bR (qr qm (qn Q)) _ ((qsL q (kJ w.F (mJ w.F)) w).trans (qj W (qj (by simp[H]) rfl)))))))))
 rw[wl H];have X:=bR (qr qm (qn Q)) [] ((qvB q (kJ w.F (mJ w.F)) w).trans (qj W (qB (by simp[H]) rfl)));obtain⟨a,ha⟩:=qz au G16 46;obtain⟨b,S⟩:=qz au G16 45;have hl:w.s.hn<=1000000:=by
  have h1:=w.s.s.cap.nT (m:=3) (n:=w.s.s.n) λi k=>by
   have:=(qI _ _).1 D i k;simp only[u6,wd,wm] at this;exact this.2.2
  have:w.s.hn=w.s.s.cap.sum w.s.s.n:=rfl;omega
 have th:=qU.2 (QF ha (qr4 w.s ab hl));have C:=qqh w.s.hz w.F.he w.s.hn w.F.nh (some w.s.hn) none hl;have hK:=λr=>qr (qr (P:=au) (Gl:=G16) qm (qn ha (F:=LI w.s.hn w.s.hz))) (qn S (F:=LX r));have M:=λr=>qvC a b r w.s.hn w.s.hz w;simp only[wo,qR (wc w.s.hn),wp] at M;by_cases E:Fm w=true
 .rw[wl E];rw[show B8 w.s.hz w.F.he w.s.hn w.F.nh=true from E] at C;exact g _ _ (ao u (ao B (ao pe (ao N (ao X (bR (hK true) _ ((M true).trans (qj th (qj (qU.2 (QF S C)) rfl)))))))))
 .rw[wh E];rw[show B8 w.s.hz w.F.he w.s.hn w.F.nh=false from xV.2 E] at C;exact g _ _ (ao u (ao B (ao pe (ao N (ao X (bR (hK false) _ ((M false).trans (qj th (qj (qU.2 (QF S C)) rfl)))))))))
def kK(s:Nat×(Nat->bl))(l:Nat->bl):Nat->Nat×(Nat->bl)
 |0=>s
 |k+1=>if (decide (0<(kK s l k).1)&&sm ((kK s l k).2 ((kK s l k).1-1)) (l k))=true then((kK s l k).1-1,(kK s l k).2) else((kK s l k).1+1,λe=>if e=(kK s l k).1 then l k else(kK s l k).2 e)
def VW(d:Int):Int:=if d=1 then 179 else -13
structure Sx where
 (row sl:T) (d:Int) (Y:Nat->bC) (ln v:Nat->Nat) (L:Nat->Nat->cQ)
def yB(Y:Nat->bC):ap:=⟨0,5,6,λe=>(Y e).c,false,false,none⟩
def tB(ln v:Nat->Nat):ap:=⟨0,1,6,λe=>[.own (3+e) (v e) 0 (ln e) none],false,false,none⟩
def rB(ln v:Nat->Nat)(L:Nat->Nat->cQ)(e:Nat):ap:=⟨v e,4,ln e,λj=>(L e j).c,false,false,none⟩
def p0:T:=.ptr 0 0 0 0
def yI(K:Nat):T:=uI (ofNat K+1)
def yJ(K:Nat):Int:=u8.wrap (ofNat K+1-1)
def rz:T:=.ag [uI 0,iI 0]
def ry(y:bC):T:=.ag [.bool true,iI y.pl,iI (y.ct+1),.bool false,.ae]
def rm(y:bC):T:=.ag [iI y.ct,.bool y.w,bY y.pe y.np (some y.np)]
def bC.next(y:bC):bC:=⟨true,y.pl,y.ct+1,false,λ_=>⟨0,0,false,0⟩,0⟩
def bC.lp(y:bC)(b:Int)(th:Nat->aw)(nt:Nat):cQ:=⟨b,y.w,th,nt,y.pe,y.np⟩
def aA{α:Type}(f:Nat->α)(K:Nat)(x:α):Nat->α:=λe=>if e=K then x else f e
def mY(L:Nat->Nat->cQ)(K i:Nat)(x:cQ):Nat->Nat->cQ:=λe j=>if e=K/\j=i then x else L e j
def Sx.loop(s:Sx)(K:Nat)(b:Int)(th:Nat->aw)(nt:Nat):Sx :=
 { s with Y:=aA s.Y K (s.Y K).next,ln:=aA s.ln K (s.ln K+1),v:=aA s.v K (s.v K+1),L:=mY s.L K (s.ln K) ((s.Y K).lp b th nt) }
def lw(ln v:Nat->Nat)(K w:Nat):ap:=⟨0,1,6,λe=>[bif e==K then .own (3+K) w 0 (ln K+1) none else .own (3+e) (v e) 0 (ln e) none],false,false,none⟩
def rT(ln v:Nat->Nat)(L:Nat->Nat->cQ)(K:Nat)(x:t7):ap:=⟨v K+1,4,ln K+1,λj=>bif j.blt (ln K) then(L K (0+j)).c else [x].getD (j-ln K) [],false,false,none⟩
def Px(ln v:Nat->Nat)(L:Nat->Nat->cQ)(K:Nat)(x:t7):ap:=⟨v K,4,ln K,λj=>bif Nat.ble (0+ln K) j&&j.blt (0+ln K+1) then [x].getD (j-(0+ln K)) [] else(L K j).c,false,false,none⟩
def tC(ln v:Nat->Nat)(L:Nat->Nat->cQ)(K:Nat)(x:ap)(e:Nat):ap:=bif e==K then x else rB ln v L e
inductive Ea:Nat->Prop|a:Ea 0|b:Ea 1|c:Ea 2|d:Ea 3|e:Ea 4|f:Ea 5
def ZH:∀{K:Nat},K<6->Ea K|0,_=>.a|1,_=>.b|2,_=>.c|3,_=>.d|4,_=>.e|5,_=>.f|n+6,h=>absurd h ab
section
variable (p q:t7->T->Prop) (n:Int) (y:bC) (s:Sx) (rest:qa) (K:Nat) (b:Int) (th:Nat->aw) (nt:Nat)
end
def t6(ln:Nat->Nat)(L:Nat->Nat->cQ):bt:=⟨6,ln,L⟩
def qsN{K:Nat}(h:K<6):yJ K=ofNat K:=by
 unfold yJ;rw[show ofNat K+1-1=ofNat K by omega,nY bP bP]
def bU.eZ(sz:Nat)(g:Nat->t7){cap:Option Nat}(a:cap=none∨cap=some 0):bU .ae (.view sz 0 g cap):=.inr ⟨rfl,.eZ sz g a,rfl⟩
def bU.view{sz n:Nat}{g g':Nat->t7}{c a:Option Nat}(e:a=c∨a=none)(d:∀j,j<n->cH (g j) (g' j)):bU (.view sz n g c) (.view sz n g' a):=.inr ⟨rfl,.view e d,rfl⟩
def yG(Y:Nat->bC)(K:Nat)(c:t7):ap:=⟨0,5,6,λe=>Kj (e==K) c (Y e).c,false,false,none⟩
section
variable (p:t7->T->Prop) (y:bC) (s:Sx) (rest:qa) (K:Nat) (place:Int) (l:Nat->bl) (m:Nat) (z:Nat×(Nat->bl))
end
def bA:aw:=⟨0,0⟩
def dV:bl:=⟨0,0,false,0⟩
def Bw(v:Nat)(l:List aw):ap:=⟨v,2,l.length,λj=>(l.getD j bA).c,true,false,none⟩
def iT(v:Nat)(l:List bl):ap:=⟨v,4,l.length,λj=>(l.getD j dV).c,true,false,none⟩
def bB(l:List aw):T:=aX (λj=>l.getD j bA) l.length none
def lR(l:List bl):T:=bY (λj=>l.getD j dV) l.length none
structure aB where
 (b:Int) (l:List aw)
def aB.c(s:aB):t7:=[uI s.b,bB s.l]
def aO:aB:=⟨0,[]⟩
def bQ(l:List aB)(c:Option Nat):T:=.view 2 l.length (λj=>(l.getD j aO).c) c
def qoa{l:List bl}{x:bl}(j:Nat)(a:j<l.length+1):((l++[x]).getD j dV).c=(bif Nat.blt j l.length then(l.getD (0+j) dV).c else [x.c].getD (0+(j-l.length)) []) :=
 qnC (enc:=bl.c) (g2:=λk=>[x.c].getD (0+k) []) rfl a
def jB(N:Nat)(f:List aw):ap:=⟨0,2,N,λe=>(f.getD e bA).c,true,false,none⟩
def bH(l:List aB):List aw:=(l.map aB.l).flatten
def Fo(n:Nat)(f:Nat->bl):ap:=⟨0,4,n,λe=>(f e).c,true,false,none⟩
def oK(b r:Int)(l:List aw)(o:List bl)(v i:Nat):t7:=[iI r,.ag [uI b,bB l],.own 0 v 0 o.length none,iI i]
def Dd(b r:Int)(l:List aw)(o:List bl)(v i k:Nat):t7:=[iI r,.ag [uI b,bB l],.own 0 v 0 o.length none,iI i,iI k]
def Eb:t8:=c7
def Fp:t8:=0::1::2::Eb
def VX(b r)(l)(o)(v i:Nat):cD 24 (1::Eb) eV (oK b r l o v i) [iT v o] eV =
( bif decide (ofNat i<ofNat l.length) then zN (oK b r l o v i) [iT v o] else
 zX 0 (oK b r l o v i) [iT v o]):=qh
def qvD(b r)(l)(o)(v i:Nat):cD 24 (1::Fp) eV (oK b r l o v i) [iT v o] nB =
( zN (Dd b r l o v i i) [iT v o]):=qh
def qvE(b r)(l)(o)(v i k):cD 24 (1::2::Fp) nB (Dd b r l o v i k) [iT v o] nB =
( bif decide (r=0) then zN [iI r,.ag [uI b,bB l],.own 0 v 0 o.length
 none,iI (.ofNat i),iI (i64.wrap (i64.wrap (ofNat l.length-1)-ofNat i))] [iT v o] else
 zN (Dd b r l o v i k) [iT v o]):=qh
def VY(b r)(l)(o)(v i k):cD 24 (2::2::Fp) nB (Dd b r l o v i k) [iT v o] eV =
( gD (decide (0<=ofNat k)&&decide (ofNat k<ofNat l.length))<|bif decide (b=1) then gD (v==v&&true)<|gD (((0:Nat)+o.length).ble o.length)<|gD (((o.length+(1:Nat))*(25:Nat)).ble 70368744177664)<|bif ((0:Nat)+o.length+(1:Nat)).ble o.length then zN [iI r,.ag [uI b,bB l],.own 0 v 0 (o.length+1)
 none,iI (.ofNat i)] [.mk v 4 o.length (λj=>bif ((0:Nat)+o.length).ble j&&j.blt (0+o.length+1) then [[uI (l.getD k (aw.mk (0:Int) (0:Int))).y,iI (l.getD k (aw.mk (0:Int) (0:Int))).n,T.bool true,uI (u8.wrap r)]].getD ((0:Nat)+(j-(0+o.length))) []
 else(o.getD j (bl.mk (0:Int) (0:Int) false (0:Int))).c) true false
 none,.mk 0 4 1 (λj=>[[uI (l.getD k (aw.mk (0:Int) (0:Int))).y,iI (l.getD k (aw.mk (0:Int) (0:Int))).n,T.bool true,uI (u8.wrap r)]].getD j []) true true
 none] else
 zN [iI r,.ag [uI b,bB l],.own 0 (v+1) (0:Nat) (o.length+1)
 none,iI (.ofNat i)] [.mk (v+1) (4:Nat) (o.length+1) (λj=>bif j.blt o.length then(o.getD ((0:Nat)+j) (bl.mk (0:Int) (0:Int) false (0:Int))).c
 else [[uI (l.getD k (aw.mk (0:Int) (0:Int))).y,iI (l.getD k (aw.mk (0:Int) (0:Int))).n,T.bool true,uI (u8.wrap r)]].getD ((0:Nat)+(j-o.length)) []) true false
 none,.mk 0 4 1 (λj=>[[uI (l.getD k (aw.mk (0:Int) (0:Int))).y,iI (l.getD k (aw.mk (0:Int) (0:Int))).n,T.bool true,uI (u8.wrap r)]].getD j []) true true
 none] else
 gD (v==v&&true)<|gD (((0:Nat)+o.length).ble o.length)<|gD (((o.length+(1:Nat))*(25:Nat)).ble 70368744177664)<|bif ((0:Nat)+o.length+(1:Nat)).ble o.length then zN [iI r,.ag [uI b,bB l],.own 0 v 0 (o.length+1)
 none,iI (.ofNat i)] [.mk v 4 o.length (λj=>bif ((0:Nat)+o.length).ble j&&j.blt (0+o.length+1) then [[uI (l.getD k (aw.mk (0:Int) (0:Int))).y,iI (l.getD k (aw.mk (0:Int) (0:Int))).n,T.bool false,uI (u8.wrap r)]].getD ((0:Nat)+(j-(0+o.length))) []
 else(o.getD j (bl.mk (0:Int) (0:Int) false (0:Int))).c) true false
 none,.mk 0 4 1 (λj=>[[uI (l.getD k (aw.mk (0:Int) (0:Int))).y,iI (l.getD k (aw.mk (0:Int) (0:Int))).n,T.bool false,uI (u8.wrap r)]].getD j []) true true
 none] else
 zN [iI r,.ag [uI b,bB l],.own 0 (v+1) (0:Nat) (o.length+1)
 none,iI (.ofNat i)] [.mk (v+1) (4:Nat) (o.length+1) (λj=>bif j.blt o.length then(o.getD ((0:Nat)+j) (bl.mk (0:Int) (0:Int) false (0:Int))).c
 else [[uI (l.getD k (aw.mk (0:Int) (0:Int))).y,iI (l.getD k (aw.mk (0:Int) (0:Int))).n,T.bool false,uI (u8.wrap r)]].getD ((0:Nat)+(j-o.length)) []) true false
 none,.mk 0 4 1 (λj=>[[uI (l.getD k (aw.mk (0:Int) (0:Int))).y,iI (l.getD k (aw.mk (0:Int) (0:Int))).n,T.bool false,uI (u8.wrap r)]].getD j []) true true
 none]):=qh
def qvF(b r)(l)(o)(v i:Nat):cD 24 (2::2::Eb) eV (oK b r l o v i) [iT v o] eV =
( zN [iI r,.ag [uI b,bB l],.own 0 v 0 o.length
 none,iI (i64.wrap (ofNat i+1))] [iT v o]):=qh
def r24(o)(v):YX au G16 (ar 24).aa Tryz.f24 (qJ [4] [.own 0 v 0 o.length none] [iT v o]) (λx=>some (kQ [iT v o] x)) =
( some (bif v==v&&((0:Nat)+o.length).ble o.length then .fresh true (4:Nat) o.length (λj=>(o.getD ((0:Nat)+j) (bl.mk (0:Int) (0:Int) false (0:Int))).c) o.length none else .undef)):=qh
def tD(b r:Int)(a:aw):bl:=⟨a.y,a.n,decide (b=1),r⟩
abbrev Cd:=Pq 24 []
def Jt{p l l1}{vs v1}{h h1}{e}(a:cD 24 p l vs h l1=some (e,v1,h1)):Cd p l vs h e l1 v1 h1 :=
 aP _ a
def VZ{p l l1}{vs v1 v2}{h h1 h2}{e}{x}(a:cD 24 p l vs h l1=x)(hx:x=some (e,v1,h1))(w:Wk G16 ar 24 0 l1 v1 h1 v2 h2):Cd p l vs h e l1 v2 h2 :=
 Pz.post (Jt (a.trans hx)) w
section
variable {b r:Int} {l:List aw} {o:List bl} {v i k:Nat}
def qvG(h:i<l.length):Cd (1::Eb) eV (oK b r l o v i) [iT v o] .normal eV (oK b r l o v i) [iT v o]:=by
 refine Jt ?_;rw[VX];grind
def qsQ(h:¬i<l.length):Cd (1::Eb) eV (oK b r l o v i) [iT v o] (.exit 0) eV (oK b r l o v i) [iT v o]:=by
 refine Jt ?_;rw[VX];grind
def qvH:Cd (1::Fp) eV (oK b r l o v i) [iT v o] .normal nB (Dd b r l o v i i) [iT v o]:=Jt (by rw[qvD])
def qvI(h:i<l.length)(a:l.length<=1000000):Cd (1::2::Fp) nB (Dd b r l o v i i) [iT v o] .normal nB (Dd b r l o v i (if r=0 then l.length-1-i else i)) [iT v o]:=by
 refine Jt ?_;rw[qvE];by_cases q:r=0
 ·rw[dT q,wp,wl q,Qv (x:=ofNat l.length-1) (by show(_:Int)<=(l.length:Int)-1;omega) (by show(l.length:Int)-1<=_;omega),Qv (x:=ofNat l.length-1-ofNat i) (by show(_:Int)<=(l.length:Int)-1-(i:Int);omega) (by show(l.length:Int)-1-(i:Int)<=_;omega)];have e:ofNat l.length-1-ofNat i=ofNat (l.length-1-i):=by
   show(l.length:Int)-1-(i:Int)=((l.length-1-i:Nat):Int);omega
  rw[e];rfl
 grind
def qvJ(h:k<l.length)(s:o.length<=1000000)(hr:0<=r/\r<=255):Cd (2::2::Fp) nB (Dd b r l o v i k) [iT v o] .normal eV (oK b r l (o++[tD b r (l.getD k bA)]) (v+1) i) [iT (v+1) (o++[tD b r (l.getD k bA)])]:=by
 have hw:=nY hr.1 hr.2;have key:∀a,decide (b=1)=a->∀nt,ak G16 (ar 24).aa nt eV 0 [iI r,.ag [uI b,bB l],.own 0 (v+1) 0 (o.length+1) none,iI i] [⟨v+1,4,o.length+1,λj=>bif Nat.blt j o.length then(o.getD (0+j) dV).c else [[uI (l.getD k bA).y,iI (l.getD k bA).n,.bool a,uI r]].getD (0+(j-o.length)) [],true,false,none⟩,⟨0,4,1,λj=>[[uI (l.getD k bA).y,iI (l.getD k bA).n,.bool a,uI r]].getD j [],true,true,none⟩] (oK b r l (o++[tD b r (l.getD k bA)]) (v+1) i) [iT (v+1) (o++[tD b r (l.getD k bA)])]:=by
  intro a e nt;refine ak.cu [0] rfl ?_ rfl (.cons ⟨rfl,rfl,?_,id,λj g=>?_⟩ .nil)
  .unfold oK;rw[wC];rfl
  .show(o++[_]).length=_;rw[wC];rfl
  .have f:j<o.length+1:=g;subst e;exact qoa j f
 by_cases d:b=1
 .apply VZ
  .apply VY
  .rw[hw];exact BT (BT (BT (BT (BT (BF rfl))) aq))
  .exact key true (wt d)
 .apply VZ
  .apply VY
  .rw[hw];exact BT (BF (BT (BT (BT (BF rfl))) aq))
  .exact key false (vJ d)
def jE(b r:Int)(l:List aw):Nat->List bl
 |0=>[]
 |i+1=>jE b r l i++[tD b r (l.getD (if r=0 then l.length-1-i else i) bA)]
def V0(b r:Int)(l:List aw):∀i,(jE b r l i).length=i
 |0=>rfl
 |i+1=>by simp[jE,V0 b r l i]
def qvK(h:i<=1000000):Cd (2::2::Eb) eV (oK b r l o v i) [iT v o] .normal eV (oK b r l o v (i+1)) [iT v o]:=by
 refine Jt ?_;rw[qvF,dH h];rfl
def qvL(h:i<l.length)(a:l.length<=1000000)(hr:0<=r/\r<=255):Cd Eb eV (oK b r l (jE b r l i) i i) [iT i (jE b r l i)] .normal eV (oK b r l (jE b r l (i+1)) (i+1) (i+1)) [iT (i+1) (jE b r l (i+1))]:=by
 have e:=V0 b r l i;have d:(if r=0 then l.length-1-i else i)<l.length:=by split<;>omega
 exact ao (qvG h) (ao (cO 1 (ao qvH (ao (qvI h a) (qvJ d ab hr)))) (qvK ab))
def w24:Wk G16 ar 24 0 eV [iI r,.ag [uI b,bB l],.ae,iI 0] [] (oK b r l [] 0 0) [iT 0 []]:=λnt=>by
 refine ak.CY [iT 0 []] (by simp[iT]) rfl (λk x z hx hz=>?_) (cT.refl _);rcases k with _|_|_|_|k<;>simp only[oK,wO,xj,List.getElem?_nil,wj,reduceCtorEq] at hx hz
 case succ.succ.zero =>
  subst hx hz;exact .inl (nS.own (b:=iT 0 []) (by decide) rfl rfl)
 all_goals (subst hx;subst hz;exact .refl _)
def ql3(s:l.length<=1000000)(hr:0<=r/\r<=255):TO 24 [.agg [uI b,bB l],iI r] (.fresh true 4 ((jE b r l l.length).length-0) (λj=>((jE b r l l.length).getD (0+j) dV).c) (jE b r l l.length).length none):=by
 have x:=Pz.count qh (λi=>oK b r l _ i i) (λi=>[iT i _]) (n:=l.length) aq
  (λi u=>qvL u s hr) (ed (qsQ (Nat.lt_irrefl _)))
 refine Pz.told (A:=ar) (l:=ir) qY Tryz.func24 qh qh qh (l1:=[4]) (v1:=[.own 0 l.length 0 (jE b r l l.length).length none]) (h1:=[iT l.length (jE b r l l.length)]) ?_ (by rw[r24,wF,wo,qR (wc _)];rfl);refine ao (Jt (v1:=[iI r,.ag [uI b,bB l]]) (h1:=[]) (l1:=eH) qh) (ao (Jt (v1:=[iI r,.ag [uI b,bB l],.ae]) (h1:=[]) (l1:=[1,2,5]) qh) (ao (ao (Pz.post (Jt (v1:=[iI r,.ag [uI b,bB l],.ae,iI 0]) (h1:=[]) (l1:=eV) qh) w24) (cO 0 x)) (Jt qh)))
def V1(a:l.length<=1000000)(hr:0<=r/\r<=255):TO 24 [.agg [uI b,bB l],iI r] (lR (jE b r l l.length)):=by
 have t:=(ql3 (b:=b) a hr).iQ;simp at t;exact t.ma (.sO _)
end
def pJ(N:Nat)(f:List bl):ap:=⟨0,4,N,λe=>(f.getD e dV).c,true,false,none⟩
def eC(d ct:Int):t7:=[.bool true,iI (VW d),iI ct,.bool true,.ae]
def qvM(x:T)(_:t7):Option T:=some (.new x)
section
variable (p q r u:t7->T->Prop) (w:t7->qa->T->qa->Prop) (y:bC) (s:Sx) (rest H:qa) (K:Nat) (t place:Int) (l:T) (m:T) (z:Nat×(Nat->bl))
end
section
variable {s:Sx} {rest:qa} {K:Nat}
end
def bE:t7:=[.ae,.ae,.ae,.ae,.ae,.ae,uI 0]
section
variable (p q:t7->qa->T->qa->Prop) (u:t7->T->Prop) (s:Sx) (rest:qa) (x c1 c2 c3 c4:T) (e:Nat) (t:ap) (d:Int)
end
section
variable {s:Sx} {rest:qa}
end
noncomputable abbrev KG(K:bv):bv:=K.bW 1000002 (λ_ _=>.none)
def sB(n:Nat)(g:Nat->t7):ap:=.mk 0 2 n g false false none
section
variable (w:t7->qa->T->qa->Prop) (s:Sx) (H h:qa) (y n' a b:Int) (n i:Nat) (g:Nat->t7)
end
structure Lp where
 (b:Int) (w:Bool) (th:List aw) (ps:List bl)
def dP:Lp:=⟨0,false,[],[]⟩
def Lp.l(x:Lp):cQ:=⟨x.b,x.w,λj=>x.th.getD j bA,x.th.length,λj=>x.ps.getD j dV,x.ps.length⟩
structure Yn where
 (i:Bool) (pl ct:Int) (w:Bool) (pe:List bl)
def Yn.y(x:Yn):bC:=⟨x.i,x.pl,x.ct,x.w,λj=>x.pe.getD j dV,x.pe.length⟩
def yz:Yn:=⟨false,0,0,false,[]⟩
structure Ys where
 (Y:Nat->Yn) (tb:Nat->List Lp)
def Ys.sx(q:Ys)(row sl:T)(d:Int)(v:Nat->Nat):Sx:=⟨row,sl,d,λe=>(q.Y e).y,λe=>(q.tb e).length,v,λe j=>((q.tb e).getD j dP).l⟩
def Ys.dp(q:Ys)(K:Nat)(y:Yn):Ys:={ q with Y:=aA q.Y K y }
def Yn.next(y:Yn):Yn:=⟨true,y.pl,y.ct+1,false,[]⟩
def Yn.lp(y:Yn)(b:Int)(th:List aw):Lp:=⟨b,y.w,th,y.pe⟩
def Ys.loop(q:Ys)(K:Nat)(b:Int)(th:List aw):Ys:=⟨aA q.Y K (q.Y K).next,aA q.tb K (q.tb K++[(q.Y K).lp b th])⟩
def n6(st:List bl)(p:bl):List bl:=if (decide (0<st.length)&&sm (st.getD (st.length-1) dV) p)=true then st.dropLast else st++[p]
def yV(st l:List bl):List bl:=l.foldl n6 st
def Yn.go(y:Yn)(place:Int)(l:List bl):Yn:=⟨true,place,y.ct,y.w,yV y.pe l⟩
def Yn.enter(y:Yn)(d:Int):Yn:=⟨true,VW d,y.ct,true,[]⟩
def Sx.eqs{a b:Sx}(h1:a.row=b.row)(h2:a.sl=b.sl)(j:a.d=b.d)(i:a.Y=b.Y)(g:a.ln=b.ln)(f:a.v=b.v)(e:a.L=b.L):a=b:=by
 cases a;simp_all
def zS{α:Type}(l:List α)(x d:α)(j:Nat):(l++[x]).getD j d=if j=l.length then x else l.getD j d:=by
 rw[wg,wg];grind
def qob(q:Ys)(row sl:T)(d:Int)(v:Nat->Nat)(K:Nat)(b:Int)(th:List aw):(q.sx row sl d v).loop K b (λj=>th.getD j bA) th.length=(q.loop K b th).sx row sl d (aA v K (v K+1)):=by
 refine Sx.eqs rfl rfl rfl (funext λe=>?_) (funext λe=>?_) rfl (funext λe=>funext λj=>?_)
 .show aA (λe=>(q.Y e).y) K (q.Y K).y.next e=(aA q.Y K (q.Y K).next e).y
  unfold aA;by_cases c:e=K
  .rw[wl c,wl c];rfl
  grind
 .show aA (λe=>(q.tb e).length) K ((q.tb K).length+1) e=(aA q.tb K (q.tb K++[(q.Y K).lp b th]) e).length;grind[aA]
 .show mY (λe j=>((q.tb e).getD j dP).l) K (q.tb K).length ((q.Y K).y.lp b (λj=>th.getD j bA) th.length) e j=((aA q.tb K (q.tb K++[(q.Y K).lp b th]) e).getD j dP).l;unfold mY aA;by_cases c:e=K
  .rw[wl c,zS,c];by_cases z:j=(q.tb K).length
   .rw[wl ⟨rfl,z⟩,wl z];rfl
   .rw[wh (λh=>z h.2),wh z]
  grind
def kL{α:Type}(l:List α)(d:α){j:Nat}(h:j<l.length-1):l.dropLast.getD j d=l.getD j d:=by
 rw[wg,wg,List.getElem?_dropLast,wl h]
def V2(st:List bl)(l:Nat->bl)(f:Nat->bl)(d:∀j,j<st.length->f j=st.getD j dV):∀k,(kK (st.length,f) l k).1=(yV st ((List.range k).map l)).length/\∀j,j<(kK (st.length,f) l k).1->(kK (st.length,f) l k).2 j=(yV st ((List.range k).map l)).getD j dV
 |0=>⟨rfl,d⟩
 |k+1=>by
  obtain⟨i,g⟩:=V2 st l f d k;have e:yV st ((List.range (k+1)).map l)=n6 (yV st ((List.range k).map l)) (l k):=by
   unfold yV;rw[vV,vh,xC];rfl
  rw[e];generalize yV st ((List.range k).map l)=z at *
  simp only[kK,n6];have o:(decide (0<(kK (st.length,f) l k).1)&&sm ((kK (st.length,f) l k).2 ((kK (st.length,f) l k).1-1)) (l k))=(decide (0<z.length)&&sm (z.getD (z.length-1) dV) (l k)):=by
   by_cases c:0<z.length
   .rw[g _ ab,i]
   .rw[dF c,dF ab];rfl
  rw[o];split
  .refine⟨by simp[i],λj a=>?_⟩;have a:j<(kK (st.length,f) l k).1-1:=a;rw[kL _ _ ab];exact g j ab
  grind
def qiG{α:Type}(l:List α)(d:α):(List.range l.length).map (λj=>l.getD j d)=l:=by
 refine List.ext_getElem aq λi e a=>?_;grind
structure Lp.Ok(x:Lp):Prop where
 b:0<=x.b/\x.b<256
 th:∀a∈x.th,a.Ok
 ps:∀a∈x.ps,a.Ok
 nt:x.th.length<=1000
 np:x.ps.length<=10000
def jV{α:Type}{P:α->Prop}{l:List α}{d:α}(e:P d)(h:∀a∈l,P a)(j:Nat):P (l.getD j d):=by
 rw[wg];grind
def Py:bA.Ok:=⟨by decide,by decide⟩
def qqr:dV.Ok:=⟨⟨by decide,by decide⟩,by decide⟩
def Lp.Ok.l{x:Lp}(h:x.Ok):x.l.Ok:=⟨h.b,λj=>jV Py h.th j,λj=>jV qqr h.ps j,by have:=h.nt;show x.th.length<=_;omega,by have:=h.np;show x.ps.length<=_;omega⟩
def qqs:dP.Ok:=⟨by decide,(λa h=>(by cases h)),(λa h=>(by cases h)),by decide,by decide⟩
structure Ys.Ok(q:Ys):Prop where
 n:∀e,(q.tb e).length<=3000
 t:∀e,∀x∈q.tb e,x.Ok
def Ys.tt(q:Ys):bt:=t6 (λe=>(q.tb e).length) (λe j=>((q.tb e).getD j dP).l)
def Ys.Ok.tt{q:Ys}(h:q.Ok):q.tt.Ok:=⟨by show 6<=_;decide,λe=>by have:=h.n e;show(q.tb e).length<=_;omega,λe j=>(jV qqs (h.t e) j).l⟩
def Ys.tE(q:Ys):Nat:=(q.tb 0).length+(q.tb 1).length+(q.tb 2).length+(q.tb 3).length+(q.tb 4).length+(q.tb 5).length
def Ys.sum(q:Ys):q.tt.sum 6=q.tE:=by
 unfold Ys.tE;show 0+(q.tb 0).length+(q.tb 1).length+(q.tb 2).length+(q.tb 3).length+(q.tb 4).length+(q.tb 5).length=_;omega
section
variable (q:Ys) (row sl:T) (d:Int) (v:Nat->Nat) (rest:qa) (K:Nat)
end
structure bJ where
 (sl:List aB) (q:Ys) (cr:List aU) (he fa:List aw) (d:Int)
def lH:aU:=⟨0,0,0,0,0⟩
def aQ(l:List aU):T:=mb (λj=>l.getD j lH) l.length none
def Ys.yv(q:Ys):T:=nU (λe=>(q.Y e).y) 6
def bJ.cc(w:bJ)(c:Option Nat):t7:=[bQ w.sl c,w.q.yv,w.q.tt.v,aQ w.cr,bB w.he,bB w.fa,uI w.d]
def nm(K i:Nat):aw:=⟨ofNat K+1,ofNat i⟩
def yW(K n:Nat):List aB:=(List.range n).map λi=>⟨0,[nm K i]⟩
def zG(K n:Nat):List aw:=(List.range n).map (nm K)
def y8(K:Nat):Nat->Ys
 |0=>(⟨λ_=>yz,λ_=>[]⟩:Ys).dp K (yz.enter 0)
 |i+1=>(y8 K i).loop K 0 []
def Kc(K n:Nat):bJ:=⟨yW K n,(y8 K n).dp K (((y8 K n).Y K).go 179 []),[],zG K n,[],0⟩
def jW(K e:Nat):∀i,(y8 K i).Y e=if e=K then ⟨true,-13,(i:Int),decide (i=0),[]⟩ else yz
 |0=>by
  rfl
 |i+1=>by
  show aA (y8 K i).Y K ((y8 K i).Y K).next e=_
  unfold aA;rw[jW K e i,jW K K i];by_cases c:e=K
  .rw[wl c,wl c,wl rfl,Yn.next];simp
  grind
def LY(K e:Nat):∀i,(y8 K i).tb e=if e=K then(List.range i).map (λj=>⟨0,decide (j=0),[],[]⟩) else []
 |0=>by
  show([]:List Lp)=_;split<;>rfl
 |i+1=>by
  show aA (y8 K i).tb K ((y8 K i).tb K++[((y8 K i).Y K).lp 0 []]) e=_;unfold aA;rw[LY K e i,LY K K i,jW K K i];by_cases c:e=K
  .rw[wl c,wl c,wl rfl,wl rfl,vV,vh];rfl
  grind
def Q0:Ys:=⟨λ_=>yz,λ_=>[]⟩
def aD.Ec{P:Program}{Gl:t9}{f:FuncId}{args l m r:t7}(t:aD P Gl f args (.aJ (.agg l::r)))(h:fS l m):aD P Gl f args (.aJ (.agg m::r)) :=
 ⟨t.enters,λw U aE s H o=>(t.calls w U aE s H o).mono λe w' ⟨v,j,i⟩=>⟨v,j,by
  obtain⟨C,J,X,B,A,x,u,d,rfl,a⟩:=i;refine⟨C,J,X,B,A,x,u,d,rfl,?_⟩;generalize d.toList=g at a;cases a with
  |cons _ v L _ g Y hx k =>
   obtain⟨I,rfl,E,D⟩:=hx;exact .cons _ _ _ _ _ _ ⟨I,rfl,E,h.GR D⟩ k⟩⟩
def Kd(K n:Nat):(yW K n).length=n:=by simp[yW]
def V3(K:Nat){n j:Nat}(h:j<n):(yW K n).getD j aO=⟨0,[nm K j]⟩:=by
 simp[yW,wg,h]
def V4(K n:Nat):bH (yW K n)=zG K n:=by
 unfold bH yW zG;rw[List.map_map]
 induction n with
 |zero=>rfl
 |succ n a=>rw[vV,vh,xJ,a,vh];rfl
def gH(C:Nat->Int)(M:Nat)(d:Option Nat):T:=.view 1 M (λj=>[uI (C j)]) d
def uz(k:Nat)(g:Nat->am):ap:=.mk k 5 k (λj=>(g j).c) true false none
def ZZ(k m:Nat)(g:Nat->Int):ap:=.mk k 1 m (λj=>[iI (g j)]) true false none
def lc(k m:Nat)(g:Nat->am)(x:Nat->Int):qa:=[uz k g,ZZ k m x]
def wy1(B C)(N M)(c d)(i k m)(H):cD 81 er gb [cf B N c,gH C M d,.own 0 k 0 k none,.own 1 k 0 m none,iI (ofNat i),iI (ofNat k)] H gb =
( bif decide (ofNat i<ofNat N) then zN [cf B N c,gH C M d,.own 0 k 0 k
 none,.own 1 k 0 m
 none,iI (.ofNat i),iI (.ofNat k)] H else
 zX 0 [cf B N c,gH C M d,.own 0 k 0 k
 none,.own 1 k 0 m
 none,iI (.ofNat i),iI (.ofNat k)] H):=qh
def qvN(B C)(N M)(c d)(i k m)(H):cD 81 er gb [cf B N c,gH C M d,.own 0 k 0 k none,.own 1 k 0 m none,iI (ofNat i),iI (ofNat k)] H [6,7] =
( bif decide (ofNat i<ofNat N) then zN [.own 0 k 0 k
 none,.own 1 k 0 m
 none] H else
 zX 0 [.own 0 k 0 k
 none,.own 1 k 0 m
 none] H):=qh
def wy2(B C)(N M)(c d)(i k m)(H):cD 81 kv gb [cf B N c,gH C M d,.own 0 k 0 k none,.own 1 k 0 m none,iI (ofNat i),iI (ofNat k)] H lG =
( zN [cf B N c,gH C M d,.own 0 k 0 k
 none,.own 1 k 0 m
 none,iI (.ofNat i),iI (.ofNat k),uI 0] H):=qh
def wy3(B C)(N M)(c d)(i k m)(H):cD 81 ix lG [cf B N c,gH C M d,.own 0 k 0 k none,.own 1 k 0 m none,iI (ofNat i),iI (ofNat k),uI 0] H lG =
( bif decide (ofNat k<ofNat M) then gD (decide (0<=ofNat k)&&decide (ofNat k<ofNat M))<|zN [cf B N c,gH C M d,.own 0 k 0 k
 none,.own 1 k 0 m
 none,iI (.ofNat i),iI (.ofNat k),uI (C k)] H else
 zN [cf B N c,gH C M d,.own 0 k 0 k
 none,.own 1 k 0 m
 none,iI (.ofNat i),iI (.ofNat k),uI 0] H):=qh
def wy4(B C)(N M)(c d)(i k m)(ch)(H):cD 81 lP lG [cf B N c,gH C M d,.own 0 k 0 k none,.own 1 k 0 m none,iI (ofNat i),iI (ofNat k),uI ch] H [0,1,6,7,8,9,10,11] =
( zN [cf B N c,gH C M d,.own 0 k 0 k
 none,.own 1 k 0 m
 none,iI (.ofNat i),iI (.ofNat k),uI ch,.ag [uI 1,uI (u8.wrap ((1:Int)+(u8.wrap (ch.tdiv (16:Int))).tmod 3)),iI 0,iI 0,.bool false]] H):=qh
def wy5(B C)(N M)(c d)(i k m)(ch)(s:am)(H):cD 81 gL [0,1,6,7,8,9,10,11] [cf B N c,gH C M d,.own 0 k 0 k none,.own 1 k 0 m none,iI (ofNat i),iI (ofNat k),uI ch,.ag s.c] H [0,1,6,7,8,9,10,11,12] =
( zN [cf B N c,gH C M d,.own 0 k 0 k
 none,.own 1 k 0 m
 none,iI (.ofNat i),iI (.ofNat k),uI ch,.ag s.c,iI (i64.wrap (ofNat N-ofNat i))] H):=qh
def wy6(B C)(N M)(c d)(i k m)(ch l)(s:am)(H):cD 81 pi [0,1,6,7,8,9,10,11,12] [cf B N c,gH C M d,.own 0 k 0 k none,.own 1 k 0 m none,iI (ofNat i),iI (ofNat k),uI ch,.ag s.c,iI l] H cg =
( zN [cf B N c,gH C M d,.own 0 k 0 k
 none,.own 1 k 0 m
 none,iI (.ofNat i),iI (.ofNat k),uI ch,.ag s.c,iI l,uI (ch.tmod 16)] H):=qh
def wy8(p)(x)(B C)(N M)(c d)(i k m)(s:am)(H):cK (C6 p 50 x) 81 [1,2,2,2,2,2,0,1,2,0,0,2,1,2,2,2,2] ep [cf B N c,gH C M d,.own 0 k 0 k none,.own 1 k 0 m none,iI (ofNat i),iI (ofNat k),.ag s.c] H [0,1,6,7,8,9,11,14] =
( gD (qx (p [s.t] (iI x)))<|zN [cf B N c,gH C M d,.own 0 k 0 k
 none,.own 1 k 0 m
 none,iI (.ofNat i),iI (.ofNat k),.ag s.c,iI x] H):=qh
def wy9(p)(x)(B C g)(N M n)(c d)(i k m)(s:am)(H):cK (qt.add 55 (qH p λ_=>some (.aJ [.new (.view 1 x (λj=>[iI (g j)]) none),iI 0]))) 81 [1,2,2,2,2,2,2,0,1,2,0,0,2,1,2,2,2,2] [0,1,6,7,8,9,11,14] [cf B N c,gH C M d,.own 0 k 0 k none,.own 1 k 0 m none,iI (ofNat i),iI (ofNat k),.ag s.c,iI (ofNat n)] H [0,1,6,7,8,9,11,14,15] =
( gD (decide (0<=ofNat i)&&decide (ofNat i<=i64.wrap (ofNat i+ofNat n))&&decide (i64.wrap (ofNat i+ofNat n)<=ofNat (match c with|some x=>x|none=>N)))<|gD ((i64.wrap (ofNat i+ofNat n)).toNat.ble N)<|gD (qx (p [s.t,cf (λj=>B (i+j)) ((i64.wrap (ofNat i+ofNat n)).toNat-i) (match c with|some x=>some ((λc=>c-(ofNat i).toNat) x)|none=>none)] (.aJ [(cf g x
 none).new,iI 0])))<|zN [cf B N c,gH C M d,.own 0 k 0 k
 none,.own 1 k 0 m
 none,iI (.ofNat i),iI (.ofNat k),.ag s.c,iI (.ofNat n),cf g x
 none] H):=qh
def qvO(B C x g)(G)(N M n l)(c d)(i k m)(s:am):cK (KG qt) 81 [1,2,2,2,2,2,2,2,0,1,2,0,0,2,1,2,2,2,2] [0,1,6,7,8,9,11,14,15] [cf B N c,gH C M d,.own 0 k 0 k none,.own 1 k 0 m none,iI (ofNat i),iI (ofNat k),.ag s.c,iI (ofNat n),.view 1 l (λj=>[iI (g j)]) none] (lc k m G x) [0,1,6,7,8,9,14,15] =
( gD (k==k&&true)<|gD (((0:Nat)+k).ble k)<|gD (((k+(1:Nat))*(33:Nat)).ble 70368744177664)<|bif ((0:Nat)+k+(1:Nat)).ble k then zN [cf B N c,gH C M d,.own 0 k 0 (k+1)
 none,.own 1 k 0 m
 none,iI (.ofNat i),iI (.ofNat k),iI (.ofNat n),cf g l
 none] [.mk k 5 k (λj=>bif ((0:Nat)+k).ble j&&j.blt (0+k+1) then List.map Qk ([s.c].getD (j-(0+k)) [])
 else(G j).c) true false
 none,ZZ k m x] else
 zN [cf B N c,gH C M d,.own 0 (k+1) (0:Nat) (k+1)
 none,.own 1 k 0 m
 none,iI (.ofNat i),iI (.ofNat k),iI (.ofNat n),cf g l
 none] [.mk (k+1) (5:Nat) (k+1) (λj=>bif j.blt k then(G ((0:Nat)+j)).c
 else List.map Qk ([s.c].getD (j-k) [])) true false
 none,ZZ k m x]):=qh
def qvP(B C x g:Nat->Int)(G:Nat->am)(N M n l)(c d)(i k a m):cD 81 [1,2,2,2,2,2,2,2,2,0,1,2,0,0,2,1,2,2,2,2] [0,1,6,7,8,9,14,15] [cf B N c,gH C M d,.own 0 a 0 a none,.own 1 k 0 m none,iI (ofNat i),iI (ofNat k),iI (ofNat n),.view 1 l (λj=>[iI (g j)]) none] [uz a G,ZZ k m x] [0,1,6,7,8,9,14] =
( gD (k==k&&true)<|gD (((0:Nat)+m).ble m)<|bif l==(0:Nat) then zN [cf B N c,gH C M d,.own 0 a 0 a
 none,.own 1 k 0 m
 none,iI (.ofNat i),iI (.ofNat k),iI (.ofNat n)] [uz a G,ZZ k m x] else
 gD (((m+l)*(9:Nat)).ble 70368744177664)<|bif ((0:Nat)+m+l).ble m then zN [cf B N c,gH C M d,.own 0 a 0 a
 none,.own 1 k 0 (m+l)
 none,iI (.ofNat i),iI (.ofNat k),iI (.ofNat n)] [uz a G,.mk k 1 m (λj=>bif ((0:Nat)+m).ble j&&j.blt (0+m+l) then [iI (g (j-(0+m)))]
 else [iI (x j)]) true false
 none] else
 zN [cf B N c,gH C M d,.own 0 a 0 a
 none,.own 1 (k+1) (0:Nat) (m+l)
 none,iI (.ofNat i),iI (.ofNat k),iI (.ofNat n)] [uz a G,.mk (k+1) (1:Nat) (m+l) (λj=>bif j.blt m then [iI (x (0+j))]
 else [iI (g (j-m))]) true false
 none]):=qh
def qvQ(B C)(N M n)(c d)(i k a m)(H):cD 81 ml [0,1,6,7,8,9,14] [cf B N c,gH C M d,.own 0 a 0 a none,.own 1 a 0 m none,iI (ofNat i),iI (ofNat k),iI (ofNat n)] H gb =
( zN [cf B N c,gH C M d,.own 0 a 0 a
 none,.own 1 a 0 m
 none,iI (i64.wrap (ofNat i+ofNat n)),iI (.ofNat k)] H):=qh
def qvR(B C)(N M)(c d)(i k a m)(H):cD 81 kn gb [cf B N c,gH C M d,.own 0 a 0 a none,.own 1 a 0 m none,iI (ofNat i),iI (ofNat k)] H gb =
( zN [cf B N c,gH C M d,.own 0 a 0 a
 none,.own 1 a 0 m
 none,iI (.ofNat i),iI (i64.wrap (ofNat k+1))] H):=qh
def lS(B C:Nat->Int)(N M:Nat)(c d:Option Nat)(i k m:Nat)(l:t7):t7:=cf B N c::gH C M d::.own 0 k 0 k none::.own 1 k 0 m none::iI (ofNat i)::iI (ofNat k)::l
def u7:t8:=[2,1,2,2,2,2,0,1,2,0,0,2,1,2,2,2,2]
def gW{p}[Decidable p](h:¬p):¬decide p=true:=rx
section
variable (p:t7->T->Prop) (z:am) (B C x:Nat->Int) (N M:Nat) (c d:Option Nat) (i k m:Nat) (ch l:Int) (s:am) (b0:ap) (H:qa)
def qvS(cc)(h:cc=0∨cc=15):cD 81 u7 cg (lS B C N M c d i k m [uI ch,.ag s.c,iI l,uI (ofNat cc)]) H ep=some (.normal,lS B C N M c d i k m [.ag s.c],H):=by
 obtain rfl|rfl:=h
 all_goals kernel_rfl
def V5(cc)(e)(h:cc=1/\e=2∨cc=2/\e=2∨cc=8/\e=7∨cc=9/\e=7):cD 81 u7 cg (lS B C N M c d i k m [uI ch,.ag s.c,iI l,uI (ofNat cc)]) H ep=some (.normal,lS B C N M c d i k m [.ag (am.mk e s.y s.a s.b s.f).c],H):=by
 obtain⟨rfl,rfl⟩|⟨rfl,rfl⟩|⟨rfl,rfl⟩|⟨rfl,rfl⟩:=h
 all_goals kernel_rfl
def qvT:cD 81 u7 cg (lS B C N M c d i k m [uI ch,.ag s.c,iI l,uI 3]) (b0::ZZ k m x::H) ep =
 (bif k==k&&true then bif decide (i64.wrap (ofNat m+l)<8) then some (.normal,lS B C N M c d i k m [.ag (am.mk 3 s.y s.a s.b s.f).c],b0::ZZ k m x::H) else some (.normal,lS B C N M c d i k m [.ag s.c],b0::ZZ k m x::H) else none):=qh
def qsS(cc)(h:cc=4∨cc=5):cD 81 u7 cg (lS B C N M c d i k m [uI ch,.ag s.c,iI l,uI (ofNat cc)]) H ep =
 (bif decide (1<l) then bif decide (0<=ofNat i)&&decide (ofNat i<ofNat N) then bif decide (0<=i64.wrap (ofNat i+1))&&decide (i64.wrap (ofNat i+1)<ofNat N) then
  bif decide (i64.wrap (B i+B (i64.wrap (ofNat i+1)).toNat)<=4) then some (.normal,lS B C N M c d i k m [.ag (am.mk (u8.wrap (4+u8.wrap (ch.tmod 16-4))) s.y s.a s.b s.f).c],H) else some (.normal,lS B C N M c d i k m [.ag s.c],H)
  else none else none else some (.normal,lS B C N M c d i k m [.ag s.c],H)):=by
 obtain rfl|rfl:=h
 all_goals kernel_rfl
def qsT(cc)(h:cc=6∨cc=7):cD 81 u7 cg (lS B C N M c d i k m [uI ch,.ag s.c,iI l,uI (ofNat cc)]) H ep =
 (bif decide (0<=ofNat i)&&decide (ofNat i<ofNat N) then bif decide (B i<3) then some (.normal,lS B C N M c d i k m [.ag (am.mk 6 s.y s.a s.b s.f).c],H) else some (.normal,lS B C N M c d i k m [.ag s.c],H) else none):=by
 obtain rfl|rfl:=h
 all_goals kernel_rfl
def qvU(cc)(h:cc=10∨cc=11∨cc=12∨cc=13∨cc=14):cK (qt.add 110 (qH p λ_=>some z.t)) 81 u7 cg (lS B C N M c d i k m [uI ch,.ag s.c,iI l,uI (ofNat cc)]) H ep =
 (bif decide (128<=ch) then bif qx (p [T.agg [uI 7,uI 0,uI (u8.wrap (ch-u8.wrap (u8.wrap (ch.tdiv 16)*16))),.bool true]] z.t) then
  bif decide (i64.wrap (z.a+z.b)<=l) then some (.normal,lS B C N M c d i k m [.ag (am.mk z.k s.y z.a z.b z.f).c],H) else some (.normal,lS B C N M c d i k m [.ag s.c],H) else none
  else bif qx (p [T.agg [uI 7,uI 0,uI (u8.wrap (ch-u8.wrap (u8.wrap (ch.tdiv 16)*16))),.bool false]] z.t) then
   bif decide (i64.wrap (z.a+z.b)<=l) then some (.normal,lS B C N M c d i k m [.ag (am.mk z.k s.y z.a z.b z.f).c],H) else some (.normal,lS B C N M c d i k m [.ag s.c],H) else none):=by
 obtain rfl|rfl|rfl|rfl|rfl:=h
 all_goals kernel_rfl
end
def oj(c q left a:Nat)(b0 e:Int):am :=
 let y:Int:=1+((q%3:Nat):Int)
 if c=1∨c=2 then ⟨2,y,0,0,false⟩ else
 if c=3 then ⟨if a+left<8 then 3 else 1,y,0,0,false⟩ else
 if c=4∨c=5 then ⟨if 1<left/\b0+e<=4 then(c:Int) else 1,y,0,0,false⟩ else
 if c=6∨c=7 then ⟨if b0<3 then 6 else 1,y,0,0,false⟩ else
 if c=8∨c=9 then ⟨7,y,0,0,false⟩ else
 if 10<=c/\c<=14 then(if pW c+pX c<=(left:Int) then ⟨8,y,pW c,pX c,decide (8<=q)⟩ else ⟨1,y,0,0,false⟩) else
 ⟨1,y,0,0,false⟩
def qsU(c):1<=pW c/\pW c<=3/\1<=pX c/\pX c<=3:=by
 unfold pW pX;split<;>split<;>omega
def qsV{h0:qa}{B C x}{N M}{c d}{i k m cc q}{G}(hc:cc<16)(hq:q<16)(S:i<N)(hN:N<=1000)(hm:m<=1000)(hB:∀j,j<N->1<=B j/\B j<=3) :
 Pq 81 h0 u7 cg (lS B C N M c d i k m [uI (ofNat (16*q+cc)),.ag (am.mk 1 (1+((q%3:Nat):Int)) 0 0 false).c,iI (ofNat (N-i)),uI (ofNat cc)]) (lc k m G x) .normal
  ep (lS B C N M c d i k m [.ag (oj cc q (N-i) m (B i) (B (i+1))).c]) (lc k m G x):=by
 have f:=λ(r:am) (hr:cD 81 u7 cg (lS B C N M c d i k m [uI (ofNat (16*q+cc)),.ag (am.mk 1 (1+((q%3:Nat):Int)) 0 0 false).c,iI (ofNat (N-i)),uI (ofNat cc)]) (lc k m G x) ep=some (.normal,lS B C N M c d i k m [.ag r.c],lc k m G x)) (e:r=oj cc q (N-i) m (B i) (B (i+1)))=>e▸aP h0 hr;have Q:(decide (0<=ofNat i)&&decide (ofNat i<ofNat N))=true:=by grind
 have L:=hB i S;by_cases u:cc=1∨cc=2
 .exact f _ (V5 B C N M c d i k m _ _ _ _ cc 2 ab) (by unfold oj;simp only;rw[wl u])
 by_cases o:cc=3
 .subst o;have e:i64.wrap (ofNat m+ofNat (N-i))=ofNat (m+(N-i)):=by rw[Qv bP bP];simp
  have t:=qvT B C x N M c d i k m (ofNat (16*q+3)) (ofNat (N-i)) (am.mk 1 (1+((q%3:Nat):Int)) 0 0 false) (uz k G) [];rw[e] at t;by_cases h:m+(N-i)<8
  .exact f _ (t.trans (qj aq (qj (wt bP) rfl))) (by grind[oj])
  .exact f _ (t.trans (qj aq (qB (gW bP) rfl))) (by grind[oj])
 by_cases g:cc=4∨cc=5
 .have e:i64.wrap (ofNat i+1)=ofNat (i+1):=by rw[Qv bP bP];simp
  have Y:u8.wrap (4+u8.wrap ((ofNat (16*q+cc)).tmod 16-4))=(cc:Int):=by
   have:(ofNat (16*q+cc)).tmod 16=(cc:Int):=by
    rw[vH bP];simp only[wn];omega
   rw[this,nY (x:=(cc:Int)-4) ab ab,nY ab ab];omega
  have t:=qsS B C N M c d i k m (ofNat (16*q+cc)) (ofNat (N-i)) (am.mk 1 (1+((q%3:Nat):Int)) 0 0 false) (lc k m G x) cc g;rw[e,Y] at t;by_cases h:1<N-i
  .have U:=hB (i+1) ab;have X:i64.wrap (B i+B (ofNat (i+1)).toNat)=B i+B (i+1):=Qv (x:=B i+B (i+1)) ab ab;rw[X] at t;have P:(decide (0<=ofNat (i+1))&&decide (ofNat (i+1)<ofNat N))=true:=by simp;omega
   by_cases A:B i+B (i+1)<=4
   .exact f _ (t.trans (qj (wt bP) (qj Q (qj P (qj (wt A) rfl))))) (by unfold oj;simp only;rw[wh u,wh o,wl g,wl ⟨h,A⟩])
   .exact f _ (t.trans (qj (wt bP) (qj Q (qj P (qB (gW A) rfl))))) (by unfold oj;simp only;rw[wh u,wh o,wl g,wh (λq=>A q.2)])
  grind[oj]
 by_cases D:cc=6∨cc=7
 .have t:=qsT B C N M c d i k m (ofNat (16*q+cc)) (ofNat (N-i)) (am.mk 1 (1+((q%3:Nat):Int)) 0 0 false) (lc k m G x) cc D;grind[oj]
 by_cases I:cc=8∨cc=9
 .exact f _ (V5 B C N M c d i k m _ _ _ _ cc 7 ab) (by unfold oj;simp only;rw[wh u,wh o,wh g,wh D,wl I])
 by_cases E:10<=cc/\cc<=14
 ·obtain⟨p,J⟩:=qz au G16 110;have R:=qvd cc E.1 E.2;have e:u8.wrap (ofNat (16*q+cc)-u8.wrap (u8.wrap ((ofNat (16*q+cc)).tdiv 16)*16))=(cc:Int):=by
   have V:(ofNat (16*q+cc)).tdiv 16=(q:Int):=by
    rw[Int.tdiv_eq_ediv_of_nonneg bP];simp only[wn];omega
   rw[V,nY (x:=(q:Int)) ab ab,nY (x:=(q:Int)*16) ab ab,nY bP bP];simp only[wn];omega
  have bd:=qsU cc;have t:=qvU p (am.mk 8 1 (pW cc) (pX cc) (decide (8<=q))) B C N M c d i k m (ofNat (16*q+cc)) (ofNat (N-i)) (am.mk 1 (1+((q%3:Nat):Int)) 0 0 false) (lc k m G x) cc ab;rw[e,show i64.wrap ((am.mk 8 1 (pW cc) (pX cc) (decide (8<=q))).a+(am.mk 8 1 (pW cc) (pX cc) (decide (8<=q))).b)=pW cc+pX cc from Qv (x:=pW cc+pX cc) ab ab] at t
  have W:∀r:am,cK (qt.add 110 (qH p λ_=>some (am.mk 8 1 (pW cc) (pX cc) (decide (8<=q))).t)) 81 u7 cg (lS B C N M c d i k m [uI (ofNat (16*q+cc)),.ag (am.mk 1 (1+((q%3:Nat):Int)) 0 0 false).c,iI (ofNat (N-i)),uI (ofNat cc)]) (lc k m G x) ep=some (.normal,lS B C N M c d i k m [.ag r.c],lc k m G x)->r=oj cc q (N-i) m (B i) (B (i+1)) →
   Pq 81 h0 u7 cg (lS B C N M c d i k m [uI (ofNat (16*q+cc)),.ag (am.mk 1 (1+((q%3:Nat):Int)) 0 0 false).c,iI (ofNat (N-i)),uI (ofNat cc)]) (lc k m G x) .normal ep (lS B C N M c d i k m [.ag (oj cc q (N-i) m (B i) (B (i+1))).c]) (lc k m G x):=λr hr e=>e▸bR (qr qm (qn J)) h0 hr
  have Z:oj cc q (N-i) m (B i) (B (i+1))=if pW cc+pX cc<=((N-i:Nat):Int) then ⟨8,1+((q%3:Nat):Int),pW cc,pX cc,decide (8<=q)⟩ else ⟨1,1+((q%3:Nat):Int),0,0,false⟩:=by
   unfold oj;simp only;rw[wh u,wh o,wh g,wh D,wh I,wl E]
  have O:∀b,b=decide (8<=q)->qx (p [T.agg [uI 7,uI 0,uI (cc:Int),.bool b]] (am.mk 8 1 (pW cc) (pX cc) (decide (8<=q))).t)=true:=λb L=>qu J (L▸R b);grind
 .exact f _ (qvS B C N M c d i k m _ _ _ _ cc ab) (by unfold oj;simp only;rw[wh u,wh o,wh g,wh D,wh I,wh E])
structure rU(t:am)(left nx:Nat)(B:Nat->Int):Prop where
 ok:t.Ok
 v:dX t=true
 n:t.nN<=left
 m1:1<=t.mN
 fit:nx+left<=8->nx+t.mN+(left-t.nN)<=8
 goes:1<=t.nN∨(t.nN=0/\t.mN=1/\nx+left<8)
 e:mr t B t.nN=0
 g:∀j,j<t.mN->1<=iZ t B j/\iZ t B j<=3
def Fq{k y a b}{f}(e:1<=k/\k<=8)(d:1<=y/\y<=6)(h:(k≠8/\a=0/\b=0/\f=false)∨(k=8/\1<=a/\a<=4/\1<=b/\a+b<=4)):(am.mk k y a b f).Ok/\dX (am.mk k y a b f)=true:=by
 have o:(am.mk k y a b f).Ok:=⟨⟨rx,rx⟩,⟨rx,rx⟩,⟨by show _<=a;rcases h with h|h<;>omega,by show a<=_;rcases h with h|h<;>omega⟩,⟨by show _<=b;rcases h with h|h<;>omega,by show b<=_;rcases h with h|h<;>omega⟩⟩;exact⟨o,(am.oJ _ o).2 ⟨e.1,e.2,d.1,d.2,h⟩⟩
def JQ{k y}(e:k=1∨k=2∨k=7)(s:1<=y/\y<=6){left r:Nat}(x:1<=left){B:Nat->Int}(hB:∀j,j<left->1<=B j/\B j<=3):rU ⟨k,y,0,0,false⟩ left r B:=by
 obtain⟨o,v⟩:=Fq (k:=k) (y:=y) (a:=0) (b:=0) (f:=false) ab s (.inl ⟨ab,rfl,rfl,rfl⟩);have hn:(am.mk k y 0 0 false).n=1:=by unfold am.n;rw[v];obtain rfl|rfl|rfl:=e<;>rfl
 have u:(am.mk k y 0 0 false).m=1:=by unfold am.m;rw[v];obtain rfl|rfl|rfl:=e<;>rfl
 have d:(am.mk k y 0 0 false).nN=1:=by unfold am.nN;rw[hn];rfl
 have g:(am.mk k y 0 0 false).mN=1:=by unfold am.mN;rw[u];rfl
 have D:=hB 0 ab;have s1:Zi B 1=true:=(yq B 1).2 λi C=>by
  obtain rfl:i=0:=by omega
  unfold y7;simp;omega
 refine⟨o,v,by rw[d];exact x,by rw[g];omega,λh=>by rw[d,g];omega,.inl (by rw[d];omega),?_,λj A=>?_⟩
 .unfold mr;rw[d,v,s1,wh aq,wh aq,wh aq,wh (show ¬(k=4∨k=5) by omega),wh (show ¬k=6 by omega)]
 grind[iZ]
def qoc{y:Int}(i:1<=y/\y<=6){left g}(r:g+left<8){B:Nat->Int}:rU ⟨3,y,0,0,false⟩ left g B:=by
 obtain⟨o,v⟩:=Fq (k:=3) (y:=y) (a:=0) (b:=0) (f:=false) ab i (.inl ⟨ab,rfl,rfl,rfl⟩);have d:(am.mk 3 y 0 0 false).nN=0:=by unfold am.nN am.n;rw[v];rfl
 have e:(am.mk 3 y 0 0 false).mN=1:=by unfold am.mN am.m;rw[v];rfl
 refine⟨o,v,by rw[d];omega,by rw[e];omega,λh=>by rw[d,e];omega,.inr ⟨d,e,r⟩,?_,λj s=>?_⟩
 .unfold mr;rw[d,v,wh aq,wh aq,wh (by simp[Zi]),wh (show ¬((3:Int)=4∨(3:Int)=5) by omega),wh (show ¬(3:Int)=6 by omega)]
 grind[iZ]
def qqt{k y:Int}(e:k=4∨k=5)(s:1<=y/\y<=6){left r}(u:2<=left){B:Nat->Int}(hB:∀j,j<left->1<=B j/\B j<=3)(C:B 0+B 1<=4):rU ⟨k,y,0,0,false⟩ left r B:=by
 obtain⟨o,v⟩:=Fq (k:=k) (y:=y) (a:=0) (b:=0) (f:=false) ab s (.inl ⟨ab,rfl,rfl,rfl⟩);have d:(am.mk k y 0 0 false).nN=2:=by unfold am.nN am.n;rw[v];obtain rfl|rfl:=e<;>rfl
 have g:(am.mk k y 0 0 false).mN=1:=by unfold am.mN am.m;rw[v];obtain rfl|rfl:=e<;>rfl
 have s1:Zi B 2=true:=(yq B 2).2 λi A=>by
  have:=hB i ab;unfold y7;simp;omega
 refine⟨o,v,by rw[d];exact u,by rw[g];omega,λh=>by rw[d,g];omega,.inl (by rw[d];omega),?_,λj x=>?_⟩
 .unfold mr;rw[d,v,s1,wh aq,wh aq,wh aq,wl (show k=4∨k=5 by omega),wh ab]
 grind[iZ]
def qod{y:Int}(r:1<=y/\y<=6){left g}(s:1<=left){B:Nat->Int}(hB:∀j,j<left->1<=B j/\B j<=3)(A:B 0<3):rU ⟨6,y,0,0,false⟩ left g B:=by
 obtain⟨o,v⟩:=Fq (k:=6) (y:=y) (a:=0) (b:=0) (f:=false) ab r (.inl ⟨ab,rfl,rfl,rfl⟩);have d:(am.mk 6 y 0 0 false).nN=1:=by unfold am.nN am.n;rw[v];rfl
 have e:(am.mk 6 y 0 0 false).mN=1:=by unfold am.mN am.m;rw[v];rfl
 have C:=hB 0 ab;have s1:Zi B 1=true:=(yq B 1).2 λi x=>by
  obtain rfl:i=0:=by omega
  unfold y7;simp;omega
 refine⟨o,v,by rw[d];exact s,by rw[e];omega,λh=>by rw[d,e];omega,.inl (by rw[d];omega),?_,λj u=>?_⟩
 .unfold mr;rw[d,v,s1,wh aq,wh aq,wh aq,wh (show ¬((6:Int)=4∨(6:Int)=5) by omega),wl rfl,wh ab]
 grind[iZ]
def ql4{y:Int}(r:1<=y/\y<=6){a b}(A:1<=a)(u:1<=b)(C:a+b<=4){f:Bool}{left g:Nat}(D:a+b<=(left:Int)){B:Nat->Int}(hB:∀j,j<left->1<=B j/\B j<=3):rU ⟨8,y,a,b,f⟩ left g B:=by
 obtain⟨o,v⟩:=Fq (k:=8) (y:=y) (a:=a) (b:=b) (f:=f) ab r (.inr ⟨rfl,A,ab,u,C⟩);have hn:(am.mk 8 y a b f).n=a+b:=by unfold am.n;rw[v];exact Qv (x:=a+b) ab ab
 have s:(am.mk 8 y a b f).m=a+b:=by unfold am.m;rw[v];exact Qv (x:=a+b) ab ab
 have d:(am.mk 8 y a b f).nN=(a+b).toNat:=by unfold am.nN;rw[hn]
 have e:(am.mk 8 y a b f).mN=(a+b).toNat:=by unfold am.mN;rw[s]
 have s1:Zi B (a+b).toNat=true:=(yq B _).2 λi H=>by
  have:=hB i ab;unfold y7;simp;omega
 refine⟨o,v,by rw[d];omega,by rw[e];omega,λh=>by rw[d,e];omega,.inl (by rw[d];omega),?_,λj E=>?_⟩
 .unfold mr;rw[d,v,s1,wh aq,wh aq,wh aq,wh (show ¬((8:Int)=4∨(8:Int)=5) by omega),wh (show ¬(8:Int)=6 by omega)]
 grind[iZ]
def qqu(c)(h1:10<=c)(h2:c<=14):1<=pW c/\1<=pX c/\pW c+pX c<=4:=by
 obtain rfl|rfl|rfl|rfl|rfl:c=10∨c=11∨c=12∨c=13∨c=14:=by omega
 all_goals decide
def qsW(c q:Nat){left f:Nat}(d:1<=left){B:Nat->Int}(hB:∀j,j<left->1<=B j/\B j<=3):rU (oj c q left f (B 0) (B 1)) left f B:=by
 have a:1<=1+((q%3:Nat):Int)/\1+((q%3:Nat):Int)<=6:=by omega
 unfold oj;simp only;split
 .exact JQ (.inr (.inl rfl)) a d hB
 split
 .split
  .rename_i h;exact qoc a h
  .exact JQ (.inl rfl) a d hB
 split
 .rename_i i;split
  .rename_i h;exact qqt ab a ab hB h.2
  .exact JQ (.inl rfl) a d hB
 split
 .split
  .rename_i h;exact qod a d hB h
  .exact JQ (.inl rfl) a d hB
 split
 .exact JQ (.inr (.inr rfl)) a d hB
 split
 .rename_i h;have e:=qqu c h.1 h.2;split
  .rename_i g;exact ql4 a e.1 e.2.1 e.2.2 g hB
  .exact JQ (.inl rfl) a d hB
 .exact JQ (.inl rfl) a d hB
def qoe(c q left a)(e d):(oj c q left a e d).y=1+((q%3:Nat):Int):=by
 unfold oj;simp only
 (repeat' split)<;>rfl
structure Bx where
 (i m:Nat) (g:Nat->am) (x:Nat->Int)
def pY(C:Nat->Nat)(M k:Nat):Nat:=if k<M then C k else 0
def pZ(B:Nat->Int)(N ch:Nat)(s:Bx):am:=oj (ch%16) (ch/16) (N-s.i) s.m (B s.i) (B (s.i+1))
def L3(B:Nat->Int)(N ch k:Nat)(s:Bx):Bx :=
 ⟨s.i+(pZ B N ch s).nN,s.m+(pZ B N ch s).mN,aA s.g k (pZ B N ch s),λj=>if j<s.m then s.x j else iZ (pZ B N ch s) (λe=>B (s.i+e)) (j-s.m)⟩
def Qq(B:Nat->Int)(N:Nat)(C:Nat->Nat)(M:Nat):Nat->Bx
 |0=>⟨0,0,λ_=>⟨1,1,0,0,false⟩,λ_=>0⟩
 |k+1=>L3 B N (pY C M k) k (Qq B N C M k)
def G4{B:Nat->Int}{N}(hB:∀j,j<N->1<=B j/\B j<=3)(ch:Nat)(s:Bx)(d:s.i<N):rU (pZ B N ch s) (N-s.i) s.m (λe=>B (s.i+e)) :=
 qsW (B:=λe=>B (s.i+e)) (ch%16) (ch/16) ab λj a=>hB (s.i+j) ab
structure tF(N k:Nat)(s:Bx):Prop where
 i:s.i<=N
 fit:s.m+(N-s.i)<=8
 km:k<=s.m
 x:∀j,j<s.m->1<=s.x j/\s.x j<=3
 g:∀j,(s.g j).Ok
 v:∀j,j<k->dX (s.g j)=true
 y:∀j,1<=(s.g j).y/\(s.g j).y<=3
def JR{B}{N:Nat}{C:Nat->Nat}{M:Nat}(r:N<=8)(hB:∀j,j<N->1<=B j/\B j<=3):∀k,(∀j,j<k->(Qq B N C M j).i<N)->tF N k (Qq B N C M k)
 |0,_=>⟨wN _,by show 0+(N-0)<=8;omega,wc _,λj e=>absurd e (vy j),λ_=>(Fq (k:=1) (y:=1) (a:=0) (b:=0) (f:=false) ab ab (.inl ⟨ab,rfl,rfl,rfl⟩)).1,λj e=>absurd e (vy j),λj=>by show 1<=(1:Int)/\(1:Int)<=3;omega⟩
 |k+1,h=>by
  have d:=JR (C:=C) (M:=M) r hB k λj e=>h j ab;have o:=h k ab;revert d o;show tF N k _->_->tF N (k+1) (L3 B N (pY C M k) k (Qq B N C M k));generalize Qq B N C M k=s;generalize pY C M k=ch;intro d o;have p:=G4 hB ch s o;have D:=p.n;have A:=p.m1;have u:=p.fit d.fit;refine⟨by show s.i+_<=N;omega,by show s.m+(pZ B N ch s).mN+(N-(s.i+(pZ B N ch s).nN))<=8;omega,by show k+1<=s.m+_;have:=d.km;omega,λj e=>?_,λj=>?_,λj e=>?_,λj=>?_⟩
  .show 1<=(if j<s.m then s.x j else _)/\(if j<s.m then s.x j else _)<=3;have e:j<s.m+(pZ B N ch s).mN:=e;by_cases c:j<s.m
   .rw[wl c];exact d.x j c
   .rw[wh c];exact p.g (j-s.m) ab
  .show(aA s.g k (pZ B N ch s) j).Ok;unfold aA;by_cases c:j=k
   .rw[wl c];exact p.ok
   .rw[wh c];exact d.g j
  .show dX (aA s.g k (pZ B N ch s) j)=true;unfold aA;by_cases c:j=k
   .rw[wl c];exact p.v
   .rw[wh c];exact d.v j ab
  .show 1<=(aA s.g k (pZ B N ch s) j).y/\(aA s.g k (pZ B N ch s) j).y<=3;unfold aA;by_cases c:j=k
   .rw[wl c];unfold pZ;rw[qoe];omega
   .rw[wh c];exact d.y j
def qog{B}{N:Nat}(C:Nat->Nat)(M:Nat)(a:N<=8)(hB:∀j,j<N->1<=B j/\B j<=3):∃R,R<=8/\(Qq B N C M R).i=N/\∀j,j<R->(Qq B N C M j).i<N:=by
 have key:∀f k,(∀j,j<k->(Qq B N C M j).i<N)->(N-(Qq B N C M k).i)+(8-(Qq B N C M k).m)<=f->∃R,(Qq B N C M R).i=N/\∀j,j<R->(Qq B N C M j).i<N:=by
  intro f
  induction f with
  |zero =>
   intro k h u;have o:=JR (C:=C) (M:=M) a hB k h;exact⟨k,by have:=o.i;omega,h⟩
  |succ f r =>
   intro k h u;have o:=JR (C:=C) (M:=M) a hB k h;by_cases c:(Qq B N C M k).i=N
   .grind
   .have s:(Qq B N C M k).i<N:=by have:=o.i;omega
    have p:=G4 hB (pY C M k) (Qq B N C M k) s;refine r (k+1) (λj d=>?_) ?_
    .grind
    .show(N-((Qq B N C M k).i+(pZ B N (pY C M k) (Qq B N C M k)).nN))+(8-((Qq B N C M k).m+(pZ B N (pY C M k) (Qq B N C M k)).mN))<=f;have g:=p.goes;have D:=p.n;have A:=p.m1;have E:=o.fit;omega
 obtain⟨R,x,e⟩:=key 100 0 (λj d=>absurd d (vy j)) (by omega);have o:=JR (C:=C) (M:=M) a hB R e;exact⟨R,by have:=o.km;have:=o.fit;omega,x,e⟩
def qvV:t8:=ew
def qoh(k)(g)(s)(b):ai [ap.mk (k+1) 5 (k+1) (λj=>bif j.blt k then(g (0+j)).c else List.map Qk ([s.c].getD (j-k) [])) true false none,b] [uz (k+1) (aA g k s),b]:=by
 refine .cons ⟨rfl,rfl,rfl,λh=>h,λj a=>?_⟩ (.cons ⟨rfl,rfl,rfl,λh=>h,λ_ _=>rfl⟩ .nil rfl) rfl;have a:j<k+1:=a;show(aA g k s j).c=bif j.blt k then(g _).c else List.map Qk _;unfold aA;by_cases c:j=k
 .subst c;rw[wl rfl,QZ (wc _),va];rfl
 .rw[wh c,qN ab,wo];rfl
def qoi(k m l)(x g:Nat->Int)(b):ai [b,ap.mk (k+1) 1 (m+l) (λj=>bif j.blt m then [iI (x (0+j))] else [iI (g (j-m))]) true false none] [b,ZZ (k+1) (m+l) λj=>if j<m then x j else g (j-m)]:=by
 refine .cons ⟨rfl,rfl,rfl,λh=>h,λ_ _=>rfl⟩ (.cons ⟨rfl,rfl,rfl,λh=>h,λj a=>?_⟩ .nil rfl) rfl;show [iI (if j<m then x j else g _)]=bif j.blt m then [iI (x (0+j))] else [iI (g (j-m))];by_cases c:j<m
 .rw[wl c,qN c,wo];rfl
 .rw[wh c,QZ ab];rfl
def vR(B:Nat->Int)(N:Nat)(C:Nat->Nat)(M k:Nat)(s:Bx):t7:=lS B (λj=>(C j:Int)) N M none none s.i k s.m []
def hR(k:Nat)(s:Bx):qa:=lc k s.m s.g s.x
def qoj{h0}{B}{N}{C}{M k}{s}(hN:N<=8)(hB:∀j,j<N->1<=B j/\B j<=3)(hC:∀j,C j<256)(hM:M<=9223372036854775807)(f:s.i<N)(hk:k<=8)(J:s.m<=8) :
 Pq 81 h0 qvV gb (vR B N C M k s) (hR k s) .normal gb (vR B N C M (k+1) (L3 B N (pY C M k) k s)) (hR (k+1) (L3 B N (pY C M k) k s)):=by
 obtain⟨i,m,g,x⟩:=s;have f:i<N:=f;have J:m<=8:=J
 let ch:=pY C M k
 have hch:ch<256:=by grind[pY]
 let t:am:=pZ B N ch ⟨i,m,g,x⟩
 have a:rU t (N-i) m (λe=>B (i+e)):=G4 hB ch ⟨i,m,g,x⟩ f;have run:=λ{p l S h l1 V r} (q:cD 81 p l S h l1=some (Ex.normal,V,r))=>aP h0 q
 let D:Nat->Int:=λj=>(C j:Int)
 have pA:=run (p:=er) ((wy1 B D N M none none i k m (lc k m g x)).trans (qj (wt bP) rfl));have pB:=run (p:=kv) (wy2 B D N M none none i k m (lc k m g x));have pC:Pq 81 h0 ix lG (lS B D N M none none i k m [uI 0]) (lc k m g x) .normal lG (lS B D N M none none i k m [uI (ofNat ch)]) (lc k m g x):=by
  have q:=wy3 B D N M none none i k m (lc k m g x);by_cases c:k<M
  .have e:(ofNat ch)=D k:=by show((pY C M k:Nat):Int)=(C k:Int);unfold pY;rw[wl c]
   rw[e];exact run (q.trans (qj (wt bP) (qj rx rfl)))
  .have e:(ofNat ch)=0:=by grind[pY]
   rw[e];exact run (q.trans (qB (gW bP) rfl))
 have hq:ch/16<16:=by omega
 have I:=run (p:=lP) (wy4 B D N M none none i k m (ofNat ch) (lc k m g x));have e4:u8.wrap ((1:Int)+(u8.wrap ((ofNat ch).tdiv (16:Int))).tmod (3:Int))=1+((ch/16%3:Nat):Int):=by
  have r:(ofNat ch).tdiv 16=((ch/16:Nat):Int):=by
   rw[Int.tdiv_eq_ediv_of_nonneg bP];simp
  rw[r,nY (x:=((ch/16:Nat):Int)) ab ab,vH ab,show((ch/16:Nat):Int)%3=((ch/16%3:Nat):Int) by simp,nY ab ab]
 rw[e4] at I;have H:=run (p:=gL) (wy5 B D N M none none i k m (ofNat ch) (am.mk 1 (1+((ch/16%3:Nat):Int)) 0 0 false) (lc k m g x));rw[show i64.wrap (ofNat N-ofNat i)=ofNat (N-i) by rw[Qv bP bP];grind] at H;have E:=run (p:=pi) (wy6 B D N M none none i k m (ofNat ch) (ofNat (N-i)) (am.mk 1 (1+((ch/16%3:Nat):Int)) 0 0 false) (lc k m g x));rw[show(ofNat ch).tmod 16=ofNat (ch%16) by rw[vH bP];simp] at E;have A:=qsV (h0:=h0) (B:=B) (C:=D) (x:=x) (N:=N) (M:=M) (c:=none) (d:=none) (i:=i) (k:=k) (m:=m) (cc:=ch%16) (q:=ch/16) (G:=g) ab hq f ab ab hB;rw[show 16*(ch/16)+ch%16=ch by omega] at A;obtain⟨G5,Q⟩:=qz au G16 50;have nb:=t.sQ a.ok;have en:ofNat t.nN=t.n:=by unfold am.nN;grind
 have pH:=bR (qr qm (qn Q)) h0 ((wy8 G5 (ofNat t.nN) B D N M none none i k m t (lc k m g x)).trans (qj (qu Q (en▸jU t a.ok)) rfl));obtain⟨o,P⟩:=qz au G16 55;have u:=VK t a.ok (λj=>B (i+j)) t.nN none (by have:=a.n;omega);rw[show G3 t (λj=>B (i+j)) t.nN = .aJ [.new (.view 1 t.mN (λj=>[iI (iZ t (λe=>B (i+e)) j)]) none),iI 0] by unfold G3;rw[wl a.e]] at u;have L:i64.wrap (ofNat i+ofNat t.nN)=ofNat (i+t.nN):=by rw[Qv bP rx];simp
 have q9:=wy9 o t.mN B D (λj=>iZ t (λe=>B (i+e)) j) N M t.nN none none i k m t (lc k m g x);rw[L,show(ofNat (i+t.nN)).toNat=i+t.nN from rfl,show i+t.nN-i=t.nN by omega] at q9;have Z:=bR (qr qm (qn P)) h0 (q9.trans (qj (by have:=a.n;grind) (qj (qR (by have:=a.n;omega)) (qj (qu P u) rfl))));have pJ:=Pz.post (bR (qA qm (λ_ _ _ _ h=>(by cases h))) h0
  ((qvO B D x (λj=>iZ t (λe=>B (i+e)) j) g N M t.nN t.mN none none i k m t).trans (qj aq (qj (qR ab) (qj (qR ab) (qB (by rw[ZE ab];simp) rfl)))))) (v2:=_) (h2:=[uz (k+1) (aA g k t),ZZ k m x]) λnt=>.same (qoh k g t _)
 have hm4:=t.sR a.ok;have ER:t.mN<=4:=by grind[am.mN]
 have Y:=Pz.post (aP h0
  ((qvP B D x (λj=>iZ t (λe=>B (i+e)) j) (aA g k t) N M t.nN t.mN none none i k (k+1) m).trans (qj aq (qj (qR ab) (qB (by have:=a.m1;grind) (qj (qR ab) (qB (by rw[ZE (by have:=a.m1;omega)];simp) rfl))))))) (v2:=_) (h2:=[uz (k+1) (aA g k t),ZZ (k+1) (m+t.mN) λj=>if j<m then x j else iZ t (λe=>B (i+e)) (j-m)]) λnt=>.same (qoi k m _ x _ _)
 have R:=qvQ B D N M t.nN none none i k (k+1) (m+t.mN) [uz (k+1) (aA g k t),ZZ (k+1) (m+t.mN) λj=>if j<m then x j else iZ t (λe=>B (i+e)) (j-m)];rw[L] at R;have X:=run (p:=ml) R;have O:=qvR B D N M none none (i+t.nN) k (k+1) (m+t.mN) [uz (k+1) (aA g k t),ZZ (k+1) (m+t.mN) λj=>if j<m then x j else iZ t (λe=>B (i+e)) (j-m)];rw[dH ab] at O;have W:=run (p:=kn) O;exact ao pA (ao (cO 1 (ao pB (ao pC (ao I (ao H (ao (ao E A) (ao pH (ao Z (ao pJ (ao Y X)))))))))) W)
def wz1(a b:T):cD 81 [1] ir [a,b] [] ir =
( zN [a,b] []):=qh
def wz2(a b:T):cD 81 eH ir [a,b] [] [0,1,6] =
( zN [a,b,.ae] []):=qh
def wz3(a b:T):cD 81 lD [0,1,6] [a,b,.ae] [] [0,1,6,7] =
( zN [a,b,.ae,.ae] []):=qh
def wz4(a b c d:T)(H:qa):cD 81 dd [0,1,6,7] [a,b,c,d] H [0,1,6,7,8] =
( zN [a,b,c,d,iI 0] H):=qh
def wz5(a b c d e:T)(H:qa):cD 81 mP [0,1,6,7,8] [a,b,c,d,e] H gb =
( zN [a,b,c,d,e,iI 0] H):=qh
def wz6(k m:Nat)(g:Nat->am)(x:Nat->Int):cD 81 sf [6,7] [.own 0 k 0 k none,.own 1 k 0 m none] (lc k m g x) tk =
( zR [.own 0 k 0 k
 none,.own 1 k 0 m
 none] (lc k m g x)):=qh
def wz7(k m:Nat)(g:Nat->am)(x:Nat->Int):YX au G16 (ar 81).aa Tryz.f81 (qJ tk [.own 0 k 0 k none,.own 1 k 0 m none] (lc k m g x)) (λv=>some (kQ (lc k m g x) v)) =
( some (.aJ [bif k==k&&((0:Nat)+k).ble k then .fresh true (5:Nat) k (λj=>(g ((0:Nat)+j)).c) k none else .undef,
 bif k==k&&((0:Nat)+m).ble m then .fresh true (1:Nat) m (λj=>[iI (x (0+j))]) m none else .undef])):=qh
def qvW{B:Nat->Int}{N:Nat}{C:Nat->Nat}{M R:Nat}(d:N<=8)(hB:∀j,j<N->1<=B j/\B j<=3)(hC:∀j,C j<256)(I:M<=9223372036854775807)(H:R<=8)(E:(Qq B N C M R).i=N)(f:∀j,j<R->(Qq B N C M j).i<N) :
 TO 81 [cf B N none,gH (λj=>(C j:Int)) M none] (.aJ [.new (cU (Qq B N C M R).g R none),.new (cf (Qq B N C M R).x (Qq B N C M R).m none)]):=by
 have run:=λ{p l r h u s J e} (q:cD 81 p l r h u=some (e,s,J))=>aP [] q;have st:Pq 81 [] lD [0,1,6] [cf B N none,gH (λj=>(C j:Int)) M none,.ae] [] .normal [0,1,6,7] [cf B N none,gH (λj=>(C j:Int)) M none,.own 0 0 0 0 none,.own 1 0 0 0 none] (lc 0 0 (λ_=>⟨1,1,0,0,false⟩) λ_=>0) :=
  Pz.post (run (wz3 _ _)) λnt=>ak.gh (lc 0 0 (λ_=>⟨1,1,0,0,false⟩) λ_=>0) (by simp[lc,uz,ZZ]) (.rg (.rg (.cons (.inl (.own (k:=0) (b:=uz 0 _) (wN _) rfl rfl)) (.cons (.inl (.own (k:=1) (b:=ZZ 0 0 _) (wN _) rfl rfl)) .nil)))) (cT.refl _)
 have lp:Pq 81 [] lT gb (vR B N C M 0 (Qq B N C M 0)) (hR 0 (Qq B N C M 0)) (.exit 0) [6,7] [.own 0 R 0 R none,.own 1 R 0 (Qq B N C M R).m none] (hR R (Qq B N C M R)) :=
  Pz.count qh (λk=>vR B N C M k (Qq B N C M k)) (λk=>hR k (Qq B N C M k)) (n:=R) aq (λk D=>by
   have o:=JR (C:=C) (M:=M) d hB k λj a=>f j ab;exact qoj d hB hC I (f k D) ab (by have:=o.fit;omega)) (ed (run ((qvN B (λj=>(C j:Int)) N M none none (Qq B N C M R).i R (Qq B N C M R).m (hR R (Qq B N C M R))).trans (qB (gW (by rw[E];simp)) rfl))))
 have t:=Pz.told (A:=ar) qY Tryz.func81 qh qh (l:=ir) rfl
  (ao (run (wz1 (cf B N none) (gH (λj=>(C j:Int)) M none))) (ao (run (wz2 _ _)) (ao st (ao (run (wz4 _ _ _ _ _)) (ao (ao (run (wz5 _ _ _ _ _ _)) (cO 0 lp)) (run (wz6 R (Qq B N C M R).m (Qq B N C M R).g (Qq B N C M R).x)))))))
  ((wz7 R (Qq B N C M R).m (Qq B N C M R).g (Qq B N C M R).x).trans (vA some (show T.aJ [bif R==R&&Nat.ble (0+R) R then _ else _,bif R==R&&Nat.ble (0+(Qq B N C M R).m) (Qq B N C M R).m then _ else _]=T.aJ [.fresh true 5 R (λj=>((Qq B N C M R).g (0+j)).c) R none,.fresh true 1 (Qq B N C M R).m (λj=>[iI ((Qq B N C M R).x (0+j))]) (Qq B N C M R).m none] by rw[qR ab,qR ab,wF];rfl)))
 refine(aD.iQ t).oF (.cons (.new (.view (.inl rfl) λj a=>?_)) (.cons (.new (.view (.inl rfl) λj a=>?_)) .nil))
 .rw[wo];exact .refl _
 .rw[wo];exact .refl _
def G7(C:Nat->Nat->Int)(M:Nat->Nat)(h:Nat):T:=.view 1 h (λj=>[gH (C j) (M j) none]) none
def cw(w:Int)(C:Nat->Nat->Int)(M:Nat->Nat)(h:Nat):t7:=[uI w,G7 C M h]
def De(i:Nat)(g:Nat->Nat->am)(l:Nat->Nat):ap:=.mk i 1 i (λj=>[cU (g j) (l j) none]) false false none
def wc1(w)(C)(M)(h):cD 49 [1] [0] [.agg (cw w C M h)] [] eH =
( zN [.ag (cw w C M h),.ag [.ae]] []):=qh
def wc2(a b:T):cD 49 eH eH [a,b] [] db =
( zN [a,b,.ae] []):=qh
def wc3(a b c:T)(H):cD 49 mQ db [a,b,c] H eI =
( zN [a,b,c,iI 0] H):=qh
def wc4(w)(b c r:T)(i)(H):cD 49 k4 eI [.ag [uI w,r],b,c,iI (ofNat i)] H eI =
( bif decide (ofNat i<=i64.wrap (w.tmod 8)) then zN [.ag [uI w,r],b,c,iI (.ofNat i)] H else
 zX 0 [.ag [uI w,r],b,c,iI (.ofNat i)] H):=qh
def qvX(w)(b c r:T)(i)(H):cD 49 k4 eI [.ag [uI w,r],b,c,iI (ofNat i)] H db =
( bif decide (ofNat i<=i64.wrap (w.tmod 8)) then zN [.ag [uI w,r],b,c] H else
 zX 0 [.ag [uI w,r],b,c] H):=qh
def wc5(a b:T)(i):cK (KG qt) 49 [0,1,2,0,0,2,1,2,2] eI [a,b,.own 0 i 0 i none,iI (ofNat i)] [ZZ i i (λ_=>1)] eI =
( gD (i==i&&true)<|gD (((0:Nat)+i).ble i)<|gD (((i+(1:Nat))*(9:Nat)).ble 70368744177664)<|bif ((0:Nat)+i+(1:Nat)).ble i then zN [a,b,.own 0 i 0 (i+1)
 none,iI (.ofNat i)] [.mk i 1 i (λj=>bif ((0:Nat)+i).ble j&&j.blt (0+i+1) then List.map Qk ([[iI (1:Int)]].getD (j-(0+i)) [])
 else [iI 1]) true false
 none] else
 zN [a,b,.own 0 (i+1) (0:Nat) (i+1)
 none,iI (.ofNat i)] [.mk (i+1) (1:Nat) (i+1) (λj=>bif j.blt i then [iI 1]
 else List.map Qk ([[iI (1:Int)]].getD (j-i) [])) true false
 none]):=qh
def wc6(a b c:T)(i)(H):cD 49 pF eI [a,b,c,iI (ofNat i)] H eI =
( zN [a,b,c,iI (i64.wrap (ofNat i+1))] H):=qh
def wc7(w:Int)(C)(M:Nat->Nat)(h)(b c:T)(H):cD 49 dd db [.ag (cw w C M h),b,c] H fx =
( zN [.ag (cw w C M h),b,c,iI (bif decide (9<ofNat h) then(9:Int)
 else ofNat h)] H):=qh
def wc8(a b c:T)(i)(H):cD 49 k7 fx [a,b,c,iI (ofNat i)] H fx =
( bif decide ((ofNat i).tmod 2=0) then zN [a,b,c,iI (i64.wrap (ofNat i+1))] H else
 zN [a,b,c,iI (.ofNat i)] H):=qh
def wc9(a b c d:T)(H):cD 49 eK fx [a,b,c,d] H lr =
( zN [a,b,c,d,.ag [.ae]] H):=qh
def wd0(a b c d e:T)(H):cD 49 [1,1,2,2,2,2,2,2] lr [a,b,c,d,e] H fT =
( zN [a,b,c,d,e,iI 0] H):=qh
def wd1(a b c e:T)(m i)(H):cD 49 sF fT [a,b,c,iI (ofNat m),e,iI (ofNat i)] H fT =
( bif decide (ofNat i<ofNat m) then zN [a,b,c,iI (.ofNat m),e,iI (.ofNat i)] H else
 zX 2 [a,b,c,iI (.ofNat m),e,iI (.ofNat i)] H):=qh
def qvY(a b c e:T)(m i)(H):cD 49 sF fT [a,b,c,iI (ofNat m),e,iI (ofNat i)] H [2,6] =
( bif decide (ofNat i<ofNat m) then zN [b,e] H else
 zX 2 [b,e] H):=qh
def wd2(a b c d e f:T)(H):cD 49 [1,0,1,2,0,0,2,1,2,2,2,2,2,2] fT [a,b,c,d,e,f] H mc =
( zN [a,b,c,d,e,f,.ae] H):=qh
def wd3(w:Int)(C)(M:Nat->Nat)(h i)(b c d e:T)(H):cD 49 pM mc [.ag (cw w C M h),b,c,d,e,iI (ofNat i),.ae] H mc =
( bif decide (ofNat i<ofNat h) then gD (decide (0<=ofNat i)&&decide (ofNat i<ofNat h))<|zN [.ag (cw w C M h),b,c,d,e,iI (.ofNat i),gH (C i) (M i)
 none] H else
 zN [.ag (cw w C M h),b,c,d,e,iI (.ofNat i),.ae] H):=qh
def wd4(p)(B C x)(N M R m)(g)(a b d e f:T)(H):cK (qt.add 81 (qH p λ_=>some (.aJ [.new (cU g R none),.new (cf x m none)]))) 49 [1,2,2,0,1,2,0,0,2,1,2,2,2,2,2,2] mc [a,b,cf B N none,d,e,f,gH C M none] H [1,2,5,6,7,9,10] =
( gD (qx (p [cf B N
 none,gH C M
 none] (.aJ [(aN g R
 none).new,(cf x m
 none).new])))<|zN [a,b,d,e,f,aN g R
 none,cf x m
 none] H):=qh
def wd5(x)(R m i)(g)(G)(l)(a b d f:T):cK (KG qt) 49 [1,2,2,2,0,1,2,0,0,2,1,2,2,2,2,2,2] [1,2,5,6,7,9,10] [a,b,d,.ag [.own 0 i 0 i none],f,cU g R none,cf x m none] [De i G l] [1,2,5,6,7,10] =
( gD (i==i&&true)<|gD (((0:Nat)+i).ble i)<|gD (((i+(1:Nat))*(25:Nat)).ble 70368744177664)<|bif ((0:Nat)+i+(1:Nat)).ble i then zN [a,b,d,.ag [.own 0 i 0 (i+1)
 none],f,cf x m
 none] [.mk i 1 i (λj=>bif ((0:Nat)+i).ble j&&j.blt (0+i+1) then [[aN g R
 none]].getD (j-(0+i)) []
 else [aN (G j) (l j)
 none]) false false
 none] else
 zN [a,b,d,.ag [.own 0 (i+1) (0:Nat) (i+1)
 none],f,cf x m
 none] [.mk (i+1) (1:Nat) (i+1) (λj=>bif j.blt i then [aN (G (0+j)) (l (0+j))
 none]
 else [[aN g R
 none]].getD (j-i) []) false false
 none]):=qh
def wd6(x)(m)(a b d e f:T)(H):cD 49 [2,2,2,2,0,1,2,0,0,2,1,2,2,2,2,2,2] [1,2,5,6,7,10] [a,b,d,e,f,cf x m none] H fT =
( zN [a,b,cf x m
 none,d,e,f] H):=qh
def wd7(a b c d e:T)(i)(H):cD 49 [2,2,0,0,2,1,2,2,2,2,2,2] fT [a,b,c,d,e,iI (ofNat i)] H fT =
( zN [a,b,c,d,e,iI (i64.wrap (ofNat i+1))] H):=qh
def wd8(i)(G)(l):cD 49 s4 [2,6] [.ag [.ae],.ag [.own 0 i 0 i none]] [De i G l] [2] =
( zR [.ag [.own 0 i 0 i
 none]] [De i G l]):=qh
def wd9(i)(G)(l):YX au G16 (ar 49).aa Tryz.f49 (qJ [2] [.ag [.own 0 i 0 i none]] [De i G l]) (λv=>some (kQ [De i G l] v)) =
( some (.agg [bif i==i&&((0:Nat)+i).ble i then .fresh false (1:Nat) i (λj=>[aN (G (0+j)) (l (0+j))
 none]) i none else .undef])):=qh
def G8(B:Nat->Int)(N:Nat)(C:Nat->Nat)(M:Nat):Nat->Nat->Nat
 |0,k=>k
 |f+1,k=>if (Qq B N C M k).i=N then k else G8 B N C M f (k+1)
def By(B:Nat->Int)(N:Nat)(C:Nat->Nat)(M:Nat):Nat:=G8 B N C M 9 0
def V9{B}{N}{C}{M R}(h1:(Qq B N C M R).i=N)(h2:∀j,j<R->(Qq B N C M j).i<N):∀f k,k<=R->R<=k+f->G8 B N C M f k=R
 |0,k,a,b=>by grind[G8]
 |f+1,k,a,b=>by
  unfold G8;by_cases c:k=R
  .rw[wl (by rw[c];exact h1),c]
  .rw[wh (by have:=h2 k ab;omega)];exact V9 h1 h2 f (k+1) ab ab
def jX{B}{N}(C)(M)(a:N<=8)(hB:∀j,j<N->1<=B j/\B j<=3):By B N C M<=8/\(Qq B N C M (By B N C M)).i=N/\∀j,j<By B N C M->(Qq B N C M j).i<N:=by
 obtain⟨R,g,f,d⟩:=qog C M a hB;have e:By B N C M=R:=V9 f d 9 0 ab ab;rw[e];grind
structure Cp where
 (w h:Nat) (M:Nat->Nat) (C:Nat->Nat->Nat)
structure Cp.Ok(c:Cp):Prop where
 w:c.w<256
 h:c.h<=9223372036854775807
 M:∀i,c.M i<=9223372036854775807
 C:∀i j,c.C i j<256
def Cp.mi(c:Cp)(i:Nat):Nat:=if i<c.h then c.M i else 0
def Cp.ld(c:Cp):Nat->Nat×(Nat->Int)
 |0=>(c.w%8+1,λ_=>1)
 |i+1=>((Qq (c.ld i).2 (c.ld i).1 (c.C i) (c.mi i) (By (c.ld i).2 (c.ld i).1 (c.C i) (c.mi i))).m,(Qq (c.ld i).2 (c.ld i).1 (c.C i) (c.mi i) (By (c.ld i).2 (c.ld i).1 (c.C i) (c.mi i))).x)
def Cp.rn(c:Cp)(i:Nat):Nat:=By (c.ld i).2 (c.ld i).1 (c.C i) (c.mi i)
def Cp.st(c:Cp)(i:Nat):Bx:=Qq (c.ld i).2 (c.ld i).1 (c.C i) (c.mi i) (c.rn i)
def Cp.rw(c:Cp)(i:Nat):Nat->am:=(c.st i).g
def Cp.mZ(c:Cp):∀i,1<=(c.ld i).1/\(c.ld i).1<=8/\∀j,j<(c.ld i).1->1<=(c.ld i).2 j/\(c.ld i).2 j<=3
 |0=>⟨by show 1<=c.w%8+1;omega,by show c.w%8+1<=8;omega,λ_ _=>by show 1<=(1:Int)/\(1:Int)<=3;omega⟩
 |i+1=>by
  obtain⟨r,e,d⟩:=Cp.mZ c i;obtain⟨g,a,f⟩:=jX (c.C i) (c.mi i) e d;have o:=JR (M:=c.mi i) e d _ f;have k:1<=By (c.ld i).2 (c.ld i).1 (c.C i) (c.mi i):=by
   rcases vY (By (c.ld i).2 (c.ld i).1 (c.C i) (c.mi i)) with q|q
   .rw[q] at a;have:(0:Nat)=(c.ld i).1:=a;omega
   .exact q
  exact⟨by have:=o.km;show 1<=(Qq _ _ _ _ _).m;omega,by have:=o.fit;show(Qq _ _ _ _ _).m<=8;omega,o.x⟩
def Cp.gP(c:Cp)(i):tF (c.ld i).1 (c.rn i) (c.st i)/\(c.st i).i=(c.ld i).1/\1<=c.rn i/\c.rn i<=8:=by
 obtain⟨j,e,d⟩:=c.mZ i;obtain⟨g,a,f⟩:=jX (c.C i) (c.mi i) e d;refine⟨JR (C:=c.C i) (M:=c.mi i) e d _ f,a,?_,g⟩;rcases vY (By (c.ld i).2 (c.ld i).1 (c.C i) (c.mi i)) with q|q
 .rw[q] at a;have:(0:Nat)=(c.ld i).1:=a;omega
 .exact q
def Cp.aT(c:Cp):Nat:=if min c.h 9%2=0 then min c.h 9+1 else min c.h 9
def Cp.pv(c:Cp):1<=c.aT/\c.aT<=9/\c.aT%2=1:=by
 unfold Cp.aT;split<;>omega
def Cp.cI(c:Cp)(i j:Nat):Int:=(c.C i j:Int)
def Cp.t(c:Cp):T:=.agg (cw (c.w:Int) c.cI c.M c.h)
def Cp.ch(c:Cp):T:=.agg [.view 1 c.aT (λi=>[aN (c.rw i) (c.rn i) none]) none]
def qkU(i):ai [ap.mk (i+1) 1 (i+1) (λj=>bif j.blt i then [iI 1] else List.map Qk ([[iI 1]].getD (j-i) [])) true false none] [ZZ (i+1) (i+1) λ_=>1]:=by
 refine .cons ⟨rfl,rfl,rfl,λh=>h,λj a=>?_⟩ .nil rfl;have a:j<i+1:=a;show [iI 1]=bif j.blt i then [iI 1] else List.map Qk ([[iI 1]].getD (j-i) []);by_cases c:j<i
 .rw[qN c];rfl
 .rw[QZ ab,show j-i=0 by omega];rfl
def qkV(i)(G)(l):ai [ap.mk (i+1) 1 (i+1) (λj=>bif j.blt i then [aN (G (0+j)) (l (0+j)) none] else [[aN (G i) (l i) none]].getD (j-i) []) false false none] [De (i+1) G l]:=by
 refine .cons ⟨rfl,rfl,rfl,λh=>h,λj a=>?_⟩ .nil rfl;show [aN _ (l j) none]=bif j.blt i then [aN (G (0+j)) (l (0+j)) none] else [[aN (G i) (l i) none]].getD (j-i) [];by_cases c:j<i
 .rw[qN c,wo];rfl
 grind
def cpT(c:Cp)(ok:c.Ok):TO 49 [c.t] c.ch:=by
 have run:=λ{p l u h s B Z e} (q:cD 49 p l u h s=some (e,B,Z))=>aP [] q;have X:∀i,c.mi i<=9223372036854775807:=λi=>by
  unfold Cp.mi;split
  .exact ok.M i
  .omega
 have aT:=c.pv
 let a:T:=.ag (cw (c.w:Int) c.cI c.M c.h)
 let b:T:=.ag [.ae]
 have hw:i64.wrap ((c.w:Int).tmod 8)=((c.w%8:Nat):Int):=by
  rw[vH ab,Qv ab ab];omega
 have st:Pq 49 [] eH eH [a,b] [] .normal db [a,b,.own 0 0 0 0 none] [ZZ 0 0 λ_=>1] :=
  Pz.post (run (wc2 a b)) λnt=>ak.gh [ZZ 0 0 λ_=>1] (by simp[ZZ]) (.rg (.rg (.cons (.inl (.own (k:=0) (b:=ZZ 0 0 _) (wN _) rfl rfl)) .nil))) (cT.refl _)
 have S:Pq 49 [] hV eI [a,b,.own 0 0 0 0 none,iI 0] [ZZ 0 0 λ_=>1] (.exit 0) db [a,b,.own 0 (c.w%8+1) 0 (c.w%8+1) none] [ZZ (c.w%8+1) (c.w%8+1) λ_=>1] :=
  Pz.count qh (λi=>[a,b,.own 0 i 0 i none,iI (ofNat i)]) (λi=>[ZZ i i λ_=>1]) (n:=c.w%8+1) aq (λi U=>by
   have q6:=wc6 a b (.own 0 (i+1) 0 (i+1) none) i [ZZ (i+1) (i+1) λ_=>1];rw[dH ab] at q6;exact ao (run ((wc4 (c.w:Int) b (.own 0 i 0 i none) (G7 c.cI c.M c.h) i [ZZ i i λ_=>1]).trans (qj (by rw[hw];grind) rfl)))
    (ao (cO 1 (Pz.post (bR (qA qm (λ_ _ _ _ h=>(by cases h))) [] ((wc5 a b i).trans (qj aq (qj (qR ab) (qj (qR ab) (qB (by rw[ZE ab];simp) rfl)))))) (v2:=_) (h2:=[ZZ (i+1) (i+1) λ_=>1]) λnt=>.same (qkU i))) (run q6)))
   (ed (run ((qvX (c.w:Int) b (.own 0 (c.w%8+1) 0 (c.w%8+1) none) (G7 c.cI c.M c.h) (c.w%8+1) [ZZ (c.w%8+1) (c.w%8+1) λ_=>1]).trans (qB (by rw[hw];grind) rfl))))
 have fz:Pq 49 [] tV eI [a,b,.own 0 0 0 0 none,iI 0] [ZZ 0 0 λ_=>1] .normal db [a,b,cf (c.ld 0).2 (c.ld 0).1 none] [] :=
  Pz.post (cO 0 S) λnt=>.cu [] rfl (by
   show [a,b,bif c.w%8+1==c.w%8+1&&Nat.ble (0+(c.w%8+1)) (c.w%8+1) then T.view 1 (c.w%8+1) (λj=>[iI 1]) none else .undef]=_;rw[qR ab,wF];rfl) rfl .nil
 have e7:(bif decide ((9:Int)<ofNat c.h) then(9:Int) else ofNat c.h)=ofNat (min c.h 9):=by
  grind
 have f:=run (wc7 (c.w:Int) c.cI c.M c.h b (cf (c.ld 0).2 (c.ld 0).1 none) []);rw[e7] at f;have R:Pq 49 [] k7 fx [a,b,cf (c.ld 0).2 (c.ld 0).1 none,iI (ofNat (min c.h 9))] [] .normal fx [a,b,cf (c.ld 0).2 (c.ld 0).1 none,iI (ofNat c.aT)] []:=by
  have q:=wc8 a b (cf (c.ld 0).2 (c.ld 0).1 none) (min c.h 9) [];have et:(ofNat (min c.h 9)).tmod 2=((min c.h 9%2:Nat):Int):=by rw[vH bP];simp
  rw[et,dH ab] at q;grind[Cp.aT]
 let V:Nat->t7:=λi=>[a,b,cf (c.ld i).2 (c.ld i).1 none,iI (ofNat c.aT),.ag [.own 0 i 0 i none],iI (ofNat i)]
 let H:Nat->qa:=λi=>[De i c.rw c.rn]
 have d:Pq 49 [] eK fx [a,b,cf (c.ld 0).2 (c.ld 0).1 none,iI (ofNat c.aT)] [] .normal lr [a,b,cf (c.ld 0).2 (c.ld 0).1 none,iI (ofNat c.aT),.ag [.own 0 0 0 0 none]] (H 0) :=
  Pz.post (run (wc9 a b (cf (c.ld 0).2 (c.ld 0).1 none) (iI (ofNat c.aT)) [])) λnt=>ak.gh (H 0) (by intro b W;obtain rfl:=wL.1 W;exact⟨rfl,rfl⟩) (.rg (.rg (.rg (.rg (.cons (.ag (.cons (.own (k:=0) (b:=De 0 c.rw c.rn) (wN _) rfl rfl) (.refl _))) .nil))))) (cT.refl _)
 obtain⟨u7,lc⟩:=qz au G16 81;have round:∀i,i<c.aT->Pq 49 [] [0,0,2,1,2,2,2,2,2,2] fT (V i) (H i) .normal fT (V (i+1)) (H (i+1)):=by
  intro i U;have o:=c.gP i;obtain⟨s,r,g⟩:=c.mZ i;obtain⟨I,E,D⟩:=jX (c.C i) (c.mi i) r g;have tr:TO 81 [cf (c.ld i).2 (c.ld i).1 none,gH (c.cI i) (c.mi i) none] (.aJ [.new (aN (c.rw i) (c.rn i) none),.new (cf (c.ld (i+1)).2 (c.ld (i+1)).1 none)]):=qvW r g (ok.C i) (X i) I E D;have Q:=run ((wd1 a b (cf (c.ld i).2 (c.ld i).1 none) (.ag [.own 0 i 0 i none]) c.aT i (H i)).trans (qj (wt bP) rfl));have P:=run (wd2 a b (cf (c.ld i).2 (c.ld i).1 none) (iI (ofNat c.aT)) (.ag [.own 0 i 0 i none]) (iI (ofNat i)) (H i));have O:Pq 49 [] pM mc [a,b,cf (c.ld i).2 (c.ld i).1 none,iI (ofNat c.aT),.ag [.own 0 i 0 i none],iI (ofNat i),.ae] (H i) .normal mc [a,b,cf (c.ld i).2 (c.ld i).1 none,iI (ofNat c.aT),.ag [.own 0 i 0 i none],iI (ofNat i),gH (c.cI i) (c.mi i) none] (H i):=by
   have q:=wd3 (c.w:Int) c.cI c.M c.h i b (cf (c.ld i).2 (c.ld i).1 none) (iI (ofNat c.aT)) (.ag [.own 0 i 0 i none]) (H i);unfold Cp.mi;by_cases z:i<c.h
   .rw[wl z];grind
   .rw[wh z];exact Pz.post (run (q.trans (qB (gW bP) rfl))) λnt=>.sl (.rg (.rg (.rg (.rg (.rg (.rg (.cons (.eZ _ _ (.inl rfl)) .nil))))))) (.refl _)
  have N:=bR (qr qm (qn lc)) [] ((wd4 u7 (c.ld i).2 (c.cI i) (c.ld (i+1)).2 (c.ld i).1 (c.mi i) (c.rn i) (c.ld (i+1)).1 (c.rw i) a b (iI (ofNat c.aT)) (.ag [.own 0 i 0 i none]) (iI (ofNat i)) (H i)).trans (qj (qu lc tr) rfl));have L:=Pz.post (bR (qA qm (λ_ _ _ _ h=>(by cases h))) []
   ((wd5 (c.ld (i+1)).2 (c.rn i) (c.ld (i+1)).1 i (c.rw i) c.rw c.rn a b (iI (ofNat c.aT)) (iI (ofNat i))).trans (qj aq (qj (qR ab) (qj (qR ab) (qB (by rw[ZE ab];simp) rfl)))))) (v2:=_) (h2:=H (i+1)) λnt=>.same (qkV i c.rw c.rn)
  have J:=run (wd6 (c.ld (i+1)).2 (c.ld (i+1)).1 a b (iI (ofNat c.aT)) (.ag [.own 0 (i+1) 0 (i+1) none]) (iI (ofNat i)) (H (i+1)));have q7:=wd7 a b (cf (c.ld (i+1)).2 (c.ld (i+1)).1 none) (iI (ofNat c.aT)) (.ag [.own 0 (i+1) 0 (i+1) none]) i (H (i+1));rw[dH ab] at q7;exact ao Q (ao (cO 3 (ao P (ao O (ao N (ao L J))))) (run q7))
 have lp:Pq 49 [] ce fT (V 0) (H 0) (.exit 2) [2,6] [b,.ag [.own 0 c.aT 0 c.aT none]] (H c.aT) :=
  Pz.count qh V H (n:=c.aT) aq round (ed (run ((qvY a b (cf (c.ld c.aT).2 (c.ld c.aT).1 none) (.ag [.own 0 c.aT 0 c.aT none]) c.aT c.aT (H c.aT)).trans (qB aq rfl))))
 have t:=Pz.told (A:=ar) qY Tryz.func49 qh qh (l:=[0]) rfl
  (ao (run (wc1 (c.w:Int) c.cI c.M c.h)) (ao st (ao (ao (run (wc3 a b _ _)) fz) (ao f (ao R (ao d (ao (ao (run (wd0 a b _ _ _ _)) (cO 2 lp)) (run (wd8 c.aT c.rw c.rn)))))))))
  ((wd9 c.aT c.rw c.rn).trans (vA some (show T.agg [bif c.aT==c.aT&&Nat.ble (0+c.aT) c.aT then _ else _]=T.agg [.fresh false 1 c.aT (λj=>[aN (c.rw (0+j)) (c.rn (0+j)) none]) c.aT none] by rw[qR ab,wF];rfl)))
 refine(aD.iQ t).Az (.cons (.view (.view (.inl rfl) λj hj=>?_)) .nil);rw[wo];exact .refl _
def ra(r:Nat->am):Nat->Int
 |0=>(r 0).y
 |k+1=>if (r (k+1)).y<ra r k then(r (k+1)).y else ra r k
def we1(r:Nat->am)(n:Nat):cD 19 [1] [0] [aN r n none] [] [0] =
( zN [cU r n
 none] []):=qh
def we2(r:Nat->am)(n:Nat):cD 19 eH [0] [aN r n none] [] tR =
( gD (decide (0<ofNat n))<|zN [cU r n
 none,uI (r (0:Nat)).y] []):=qh
def we3(a b:T):cD 19 mQ tR [a,b] [] ss =
( zN [a,b,iI 1] []):=qh
def we4(r:Nat->am)(n i:Nat)(y:Int):cD 19 c7 ss [aN r n none,uI y,iI (ofNat i)] [] ss =
( bif decide (ofNat i<ofNat n) then gD (decide (0<=ofNat i)&&decide (ofNat i<ofNat n))<|bif decide ((r i).y<y) then gD (decide (0<=ofNat i)&&decide (ofNat i<ofNat n))<|zN [cU r n
 none,uI (r i).y,iI (i64.wrap (ofNat i+1))] [] else
 zN [cU r n
 none,uI y,iI (i64.wrap (ofNat i+1))] [] else
 zX 0 [cU r n
 none,uI y,iI (.ofNat i)] []):=qh
def qvZ(r:Nat->am)(n i:Nat)(y:Int):cD 19 k4 ss [aN r n none,uI y,iI (ofNat i)] [] [3] =
( bif decide (ofNat i<ofNat n) then zN [uI y] [] else
 zX 0 [uI y] []):=qh
def we5(y:Int):cD 19 [2,2,2] [3] [uI y] [] [2] =
( zR [uI y] []):=qh
def qqv(r:Nat->am)(n:Nat)(h1:1<=n)(hn:n<=1000):TO 19 [aN r n none] (uI (ra r (n-1))):=by
 have run:=λ{p l a h f d h1 e} (q:cD 19 p l a h f=some (e,d,h1))=>aP [] q;have lp:Pq 19 [] hV ss [aN r n none,uI (ra r 0),iI (ofNat (0+1))] [] (.exit 0) [3] [uI (ra r (n-1))] [] :=
  Pz.count qh (λi=>[aN r n none,uI (ra r i),iI (ofNat (i+1))]) (λ_=>[]) (n:=n-1) aq (λi g=>by
   have q:=we4 r n (i+1) (ra r i);rw[dH ab] at q;by_cases c:(r (i+1)).y<ra r i
   .rw[show ra r (i+1)=(r (i+1)).y from wl c];exact run (q.trans (qj (wt bP) (qj rx (qj (wt c) (qj rx rfl)))))
   .rw[show ra r (i+1)=ra r i from wh c];exact run (q.trans (qj (wt bP) (qj rx (qB (gW c) rfl))))) (ed (run ((qvZ r n (n-1+1) (ra r (n-1))).trans (qB (gW bP) rfl))))
 exact Pz.told (A:=ar) qY Tryz.func19 qh qh (l:=[0]) rfl
  (ao (run (we1 r n)) (ao (run ((we2 r n).trans (qj rx rfl))) (ao (ao (run (we3 _ _)) (cO 0 lp)) (run (we5 (ra r (n-1))))))) rfl
def lg(v n:Nat)(g:Nat->bl):ap:=.mk v 4 n (λj=>(g j).c) true false none
def va1(l m)(n k):cD 99 [1] ir [bY l n none,bY m k none] [] ir =
( zN [bY l n
 none,bY m k
 none] []):=qh
def va2(l m)(n k):cD 99 eH ir [bY l n none,bY m k none] [] [1,5] =
( bif n==(0:Nat) then zN [bY m k
 none,.own 0 0 0 0 (some 0)] [.mk 0 4 0 (λj=>[]) true true
 none] else
 gD ((((0:Nat)+n)*(25:Nat)).ble 70368744177664)<|bif ((0:Nat)+n).ble 0 then gD (((0:Nat)+n).ble 0)<|zN [bY m k
 none,.own 0 0 0 (0+n) (some 0)] [.mk 0 4 0 (λj=>bif Nat.ble 0 j&&j.blt (0+n) then(l j).c
 else []) true true
 none] else
 zN [bY m k
 none,.own 1 0 0 (0+n)
 none] [.mk 0 4 0 (λj=>[]) true true
 none,Fo (0+n) l]):=qh
def va3(a b:T)(H):cD 99 mQ [1,5] [a,b] H nj =
( zN [a,b,iI 0] H):=qh
def va4(m)(k i)(b:T)(H):cD 99 k4 nj [bY m k none,b,iI (ofNat i)] H nj =
( bif decide (ofNat i<ofNat k) then zN [bY m k
 none,b,iI (.ofNat i)] H else
 zX 0 [bY m k
 none,b,iI (.ofNat i)] H):=qh
def qv0(m)(k i)(b:T)(H):cD 99 k4 nj [bY m k none,b,iI (ofNat i)] H [5] =
( bif decide (ofNat i<ofNat k) then zN [b] H else
 zX 0 [b] H):=qh
def va5(m g)(k i v n ln):cD 99 [1,0,1,2,0,0,2,1,2,2] nj [bY m k none,.own 0 v 0 ln none,iI (ofNat i)] [lg v n g] rS =
( gD (v==v&&true)<|zN [bY m k
 none,.own 0 v 0 ln
 none,iI (.ofNat i),iI (.ofNat ln)] [lg v n g]):=qh
def va6(m g)(k i v n ln):cD 99 sH rS [bY m k none,.own 0 v 0 ln none,iI (ofNat i),iI (ofNat ln)] [lg v n g] rl =
( bif decide (0<ofNat ln) then gD (v==v&&true)<|gD (decide (0<=i64.wrap (ofNat ln-1))&&decide (i64.wrap (ofNat ln-1)<ofNat ln))<|gD (v==v&&true)<|gD (v==v&&true)<|gD (((0:Nat)+(i64.wrap (ofNat ln-(1:Int))).toNat).blt n)<|gD (decide (0<=ofNat i)&&decide (ofNat i<ofNat k))<|bif decide ((g ((0:Nat)+(i64.wrap (ofNat ln-(1:Int))).toNat)).y=(m i).y) then bif decide ((g ((0:Nat)+(i64.wrap (ofNat ln-(1:Int))).toNat)).n=(m i).n) then gD (v==v&&true)<|gD (decide (0<=i64.wrap (ofNat ln-1))&&decide (i64.wrap (ofNat ln-1)<ofNat ln))<|gD (v==v&&true)<|gD (v==v&&true)<|gD (((0:Nat)+(i64.wrap (ofNat ln-(1:Int))).toNat).blt n)<|bif (g ((0:Nat)+(i64.wrap (ofNat ln-(1:Int))).toNat)).f then gD (decide (0<=ofNat i)&&decide (ofNat i<ofNat k))<|bif (m i).f then gD (v==v&&true)<|gD (decide (0<=i64.wrap (ofNat ln-1))&&decide (i64.wrap (ofNat ln-1)<ofNat ln))<|gD (v==v&&true)<|gD (v==v&&true)<|gD (((0:Nat)+(i64.wrap (ofNat ln-(1:Int))).toNat).blt n)<|gD (decide (0<=ofNat i)&&decide (ofNat i<ofNat k))<|bif decide (u8.wrap ((g ((0:Nat)+(i64.wrap (ofNat ln-(1:Int))).toNat)).d+(m i).d)=(1:Int)) then zN [bY m k
 none,.own 0 v 0 ln
 none,iI (.ofNat i),iI (.ofNat ln),.bool true] [lg v n g] else
 zN [bY m k
 none,.own 0 v 0 ln
 none,iI (.ofNat i),iI (.ofNat ln),.bool false] [lg v n g] else
 zN [bY m k
 none,.own 0 v 0 ln
 none,iI (.ofNat i),iI (.ofNat ln),.bool false] [lg v n g] else
 gD (decide (0<=ofNat i)&&decide (ofNat i<ofNat k))<|bif (m i).f then zN [bY m k
 none,.own 0 v 0 ln
 none,iI (.ofNat i),iI (.ofNat ln),.bool false] [lg v n g] else
 gD (v==v&&true)<|gD (decide (0<=i64.wrap (ofNat ln-1))&&decide (i64.wrap (ofNat ln-1)<ofNat ln))<|gD (v==v&&true)<|gD (v==v&&true)<|gD (((0:Nat)+(i64.wrap (ofNat ln-(1:Int))).toNat).blt n)<|gD (decide (0<=ofNat i)&&decide (ofNat i<ofNat k))<|bif decide (u8.wrap ((g ((0:Nat)+(i64.wrap (ofNat ln-(1:Int))).toNat)).d+(m i).d)=(1:Int)) then zN [bY m k
 none,.own 0 v 0 ln
 none,iI (.ofNat i),iI (.ofNat ln),.bool true] [lg v n g] else
 zN [bY m k
 none,.own 0 v 0 ln
 none,iI (.ofNat i),iI (.ofNat ln),.bool false] [lg v n g] else
 zN [bY m k
 none,.own 0 v 0 ln
 none,iI (.ofNat i),iI (.ofNat ln),.bool false] [lg v n g] else
 zN [bY m k
 none,.own 0 v 0 ln
 none,iI (.ofNat i),iI (.ofNat ln),.bool false] [lg v n g] else
 zN [bY m k
 none,.own 0 v 0 ln
 none,iI (.ofNat i),iI (.ofNat ln),.bool false] [lg v n g]):=qh
def va7(m g)(k i v n ln):cD 99 [3,2,2,0,1,2,0,0,2,1,2,2] rl [bY m k none,.own 0 v 0 ln none,iI (ofNat i),iI (ofNat ln),.bool true] [lg v n g] nj =
( gD (v==v&&true)<|gD (decide (0<=i64.wrap (ofNat ln-1))&&decide (i64.wrap (ofNat ln-1)<=ofNat n))<|zN [bY m k
 none,.own 0 v 0 (i64.wrap (ofNat ln-(1:Int))).toNat
 none,iI (.ofNat i)] [lg v n g]):=qh
def va8(m g)(k i v n ln):cK (KG qt) 99 [4,2,2,0,1,2,0,0,2,1,2,2] rl [bY m k none,.own 0 v 0 ln none,iI (ofNat i),iI (ofNat ln),.bool false] [lg v n g] nj =
( gD (decide (0<=ofNat i)&&decide (ofNat i<ofNat k))<|gD (v==v&&true)<|gD (((0:Nat)+ln).ble n)<|gD (((ln+(1:Nat))*(25:Nat)).ble 70368744177664)<|bif ((0:Nat)+ln+(1:Nat)).ble n then zN [bY m k
 none,.own 0 v 0 (ln+1)
 none,iI (.ofNat i)] [.mk v 4 n (λj=>bif ((0:Nat)+ln).ble j&&j.blt (0+ln+1) then List.map Qk ([(m i).c].getD (j-(0+ln)) [])
 else(g j).c) true false
 none] else
 zN [bY m k
 none,.own 0 (v+1) (0:Nat) (ln+1)
 none,iI (.ofNat i)] [.mk (v+1) (4:Nat) (ln+1) (λj=>bif j.blt ln then(g ((0:Nat)+j)).c
 else List.map Qk ([(m i).c].getD (j-ln) [])) true false
 none]):=qh
def va9(a b:T)(i)(H):cD 99 pF nj [a,b,iI (ofNat i)] H nj =
( zN [a,b,iI (i64.wrap (ofNat i+1))] H):=qh
def qv1(v ln)(H):cD 99 [2,2,2] [5] [.own 0 v 0 ln none] H [4] =
( zR [.own 0 v 0 ln
 none] H):=qh
def qv2(g)(v n ln):YX au G16 (ar 99).aa Tryz.f99 (qJ [4] [.own 0 v 0 ln none] [lg v n g]) (λx=>some (kQ [lg v n g] x)) =
( some (bif v==v&&((0:Nat)+ln).ble n then .fresh true (4:Nat) n (λj=>(g ((0:Nat)+j)).c) ln none else .undef)):=qh
end Go.Ab
