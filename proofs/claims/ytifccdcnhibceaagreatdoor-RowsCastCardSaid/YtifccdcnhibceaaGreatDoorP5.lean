/- A part of the proof: nothing is assumed. -/
import Derived.Test.YtifccdcnhibceaaGreatDoorP4
import Derived.Test.YtifccdcnhibceaaGreatDoorProg
import Derived.KernelRfl
set_option linter.all false
namespace Go.Ab
open IntKind(i64 u8)
open Int(ofNat)
open Go.Proofs
def G16:Nat->Option (List T):=gOf [(0,[uI 107,uI 112,uI 111,uI 47,uI 118,uI 116,uI 115,uI 99])]
def A16:FuncId->Ann:=fun f=>match f with
 |2=>⟨[],fun _ _=>[],false⟩
 |3=>⟨[5],fun _ _=>[],false⟩
 |4=>⟨[1,4,5,8],fun r o=>match r with|6=>bif o then [2] else [3,4,5,7]|_=>[],false⟩
 |5=>⟨[3,8,9,13],fun _ _=>[],false⟩
 |6=>⟨[2,7,17,18],fun r o=>match r with|5=>bif o then [1,5] else [1,2,5,6]|9=>bif o then [1,2,5,6,7] else [1,2,5,6,7,8]|18=>bif o then [5,9,10] else [1,5,9,10,11,12]|29=>bif o then [4] else [9,14,15,16]|_=>[],false⟩
 |7=>⟨[2,6,9,16],fun r o=>match r with|9=>bif o then [4,5,7,9,12,14] else [5,7,8,9,11,12,14,15]|_=>[],false⟩
 |8=>⟨[2,6,8,9,14,23,24],fun r o=>match r with|10=>bif o then [8,9,11] else [6,7,8,9,11,12,13]|15=>bif o then [6,7,8,9,11,12,13,15] else [6,7,8,9,11,12,13,14,15,16]|18=>bif o then [6,7,8,9,11,12,13,14,15,16] else [6,7,8,9,11,12,13,14,15,16,17]|29=>bif o then [4] else [8,9,11,20,21]|32=>bif o then [4,8,9,11,20,21] else [8,9,11,20,21,22]|_=>[],false⟩
 |9=>⟨[2,6,7,8,13,16],fun r o=>match r with|6=>bif o then [7,9] else [7,8,9,10]|14=>bif o then [7,11] else [7,9,11,12]|22=>bif o then [13,16] else [13,16,17]|_=>[],false⟩
 |10=>⟨[3,8,11,15,16],fun r o=>match r with|13=>bif o then [7,10,11,12,13] else [7,10,11,12,13,14]|_=>[],false⟩
 |11=>⟨[3,8,9,14,16,18,21],fun _ _=>[],false⟩
 |12=>⟨[3],fun r o=>match r with|3=>bif o then [0] else [1,2]|7=>bif o then [1,2,3] else [1,2,3,4]|11=>bif o then [1,2,3,4,5] else [1,2,3,4,5,6]|_=>[],false⟩
 |13=>⟨[4,6,11],fun r o=>match r with|10=>bif o then [0,4,5,6,7,9] else [0,4,6,7,9,45,46]|_=>[],false⟩
 |14=>⟨[2,3],fun _ _=>[],false⟩
 |15=>⟨[1,4,6],fun r o=>match r with|4=>bif o then [1,2] else [1,20,21,22]|12=>bif o then [1,2] else [1,62,63,64]|_=>[],false⟩
 |16=>⟨[2,3,6,7],fun r o=>match r with|4=>bif o then [4] else [2,3,5]|_=>[],false⟩
 |17=>⟨[4],fun r o=>match r with|4=>bif o then [4,5] else [0,1,4,5,6]|_=>[],false⟩
 |18=>⟨[1,3,4,5],fun r o=>match r with|5=>bif o then [3,4,6] else [3,4,5,6,7]|_=>[],false⟩
 |19=>⟨[],fun r o=>match r with|3=>bif o then [3] else [0,3,4]|_=>[],false⟩
 |20=>⟨[],fun r o=>match r with|3=>bif o then [3] else [0,3,4]|_=>[],false⟩
 |21=>⟨[2,4],fun _ _=>[],false⟩
 |22=>⟨[1,2,3,6],fun r o=>match r with|3=>bif o then [1,2,3] else [1,2,3,4]|7=>bif o then [1,2,3] else [1,2,3,5]|13=>bif o then [1,2,3] else [1,2,3,7]|_=>[],false⟩
 |23=>⟨[4],fun _ _=>[],false⟩
 |24=>⟨[2],fun r o=>match r with|3=>bif o then [5] else [1,2,5,6]|_=>[],false⟩
 |25=>⟨[8,10],fun r o=>match r with|4=>bif o then [1,6] else [1,6,16,17,18]|7=>bif o then [1,6,16,17,18] else [1,6,8,16,17,18,23,24,25]|_=>[],false⟩
 |26=>⟨[2,5],fun _ _=>[],false⟩
 |27=>⟨[2,12,17],fun r o=>match r with|11=>bif o then [4,5,6,8,10] else [1,2,8,9,10,11]|18=>bif o then [1,2,8,9,10,11,12,13,14,15] else [1,2,8,9,10,11,12,13,14,15,16]|38=>bif o then [1,2,8,9,10,11,12,15] else [1,2,8,9,10,11,12,15,20,21]|41=>bif o then [1,2,8,9,10,11,12,15,20,21] else [1,2,8,9,10,11,12,15,20,21,22]|44=>bif o then [1,2,8,9,10,11,12,15,20,21,22] else [1,2,8,9,10,11,12,15,20,21,22,23]|47=>bif o then [1,2,8,9,10,11,12,15,20,21,22,23] else [1,2,8,9,10,11,12,15,20,21,22,23,24]|_=>[],false⟩
 |28=>⟨[],fun r o=>match r with|4=>bif o then [4] else [0,1,5]|_=>[],false⟩
 |29=>⟨[],fun r o=>match r with|3=>bif o then [3] else [0,3,4]|_=>[],false⟩
 |30=>⟨[2,3,8,9],fun r o=>match r with|4=>bif o then [2,3,4] else [2,3,5]|9=>bif o then [4] else [2,3,6]|14=>bif o then [2,3,4,6] else [2,3,6,7]|_=>[],false⟩
 |31=>⟨[1],fun _ _=>[],false⟩
 |32=>⟨[3,4,5,7,9],fun r o=>match r with|3=>bif o then [6] else [7,14,15,16]|_=>[],false⟩
 |33=>⟨[2,4,10],fun r o=>match r with|6=>bif o then [1,2,4,5,6] else [1,2,4,20,21,22]|_=>[],false⟩
 |34=>⟨[2,4,11],fun r o=>match r with|9=>bif o then [2,4,6,9] else [1,2,4,6,9,10,11,12]|13=>bif o then [1,2,4,6,9,10,11,12,13] else [1,2,4,6,9,10,11,12,13,14]|29=>bif o then [2,4,9] else [2,4,6,9,16]|_=>[],false⟩
 |35=>⟨[5],fun r o=>match r with|3=>bif o then [3] else [0,3,4]|_=>[],false⟩
 |36=>⟨[0],fun _ _=>[],false⟩
 |37=>⟨[6,7],fun _ _=>[],false⟩
 |38=>⟨[8,10,11,13],fun _ _=>[],false⟩
 |39=>⟨[9],fun _ _=>[],false⟩
 |40=>⟨[4,6],fun r o=>match r with|2=>bif o then [0,2,4,6] else [0,2,4,6,12,13,14]|_=>[],false⟩
 |41=>⟨[3,4,6,8,10,11],fun _ _=>[],false⟩
 |42=>⟨[],fun r o=>match r with|4=>bif o then [4] else [0,1,5]|9=>bif o then [0,1,4,5] else [0,1,5,6]|_=>[],false⟩
 |43=>⟨[3,8],fun r o=>match r with|6=>bif o then [6] else [2,31,32,33]|_=>[],false⟩
 |44=>⟨[1],fun _ _=>[],false⟩
 |45=>⟨[],fun r o=>match r with|4=>bif o then [4] else [0,1,12,13]|_=>[],false⟩
 |46=>⟨[5],fun r o=>match r with|3=>bif o then [3] else [3,9,10,11]|_=>[],false⟩
 |47=>⟨[],fun r o=>match r with|4=>bif o then [4] else [0,1,5]|_=>[],false⟩
 |48=>⟨[8,10],fun _ _=>[],false⟩
 |49=>⟨[1,2,6],fun r o=>match r with|3=>bif o then [1,2,3] else [1,2,3,4]|11=>bif o then [2,6] else [1,2,3,5,6,7]|_=>[],false⟩
 |50=>⟨[1],fun _ _=>[],false⟩
 |51=>⟨[2,4,5,7,9],fun r o=>match r with|6=>bif o then [4,5,7,9] else [4,5,7,9,35]|_=>[],false⟩
 |52=>⟨[],fun r o=>match r with|1=>bif o then [] else [0,2,3]|_=>[],false⟩
 |53=>⟨[2,5,11,19,20],fun r o=>match r with|9=>bif o then [1,2,4,5,6,8] else [1,2,5,8,9,41,42,43]|14=>bif o then [1,2,5,8,9,10,11,12,13,41,42,43] else [1,2,5,8,9,10,11,12,13,41,42,43,53,54]|26=>bif o then [2,5,8,17] else [2,5,8,17,86,87,88]|_=>[],false⟩
 |54=>⟨[],fun r o=>match r with|6=>bif o then [0,2] else [0,3]|_=>[],false⟩
 |55=>⟨[2],fun r o=>match r with|6=>bif o then [1,2,4,5] else [1,2,6]|22=>bif o then [7] else [2,7,8]|_=>[],false⟩
 |56=>⟨[5,6,12],fun r o=>match r with|6=>bif o then [3,5,6,9,10] else [0,3,5,6,9,10,11]|_=>[],false⟩
 |57=>⟨[],fun r o=>match r with|4=>bif o then [4] else [0,1,5]|_=>[],false⟩
 |58=>⟨[1],fun _ _=>[],false⟩
 |59=>⟨[2,3,4],fun _ _=>[],false⟩
 |60=>⟨[2,3],fun _ _=>[],false⟩
 |61=>⟨[1,2],fun _ _=>[],false⟩
 |62=>⟨[],fun r o=>match r with|1=>bif o then [] else [0,1,2,3,4,5,12]|9=>bif o then [0,1,2,3,4,5,12] else [0,1,2,3,4,5,12,13,14]|_=>[],false⟩
 |63=>⟨[2,4],fun r o=>match r with|5=>bif o then [0,2,4] else [0,2,4,12,13]|_=>[],false⟩
 |64=>⟨[],fun _ _=>[],false⟩
 |65=>⟨[],fun _ _=>[],false⟩
 |66=>⟨[2,4],fun _ _=>[],false⟩
 |67=>⟨[],fun _ _=>[],false⟩
 |68=>⟨[],fun r o=>match r with|3=>bif o then [0,3] else [0,3,10,11,12]|10=>bif o then [6] else [6,7,23,24,25]|_=>[],false⟩
 |69=>⟨[],fun r o=>match r with|3=>bif o then [3] else [3,6,7,8]|_=>[],false⟩
 |70=>⟨[1,2,3,6],fun _ _=>[],false⟩
 |71=>⟨[],fun _ _=>[],false⟩
 |72=>⟨[],fun _ _=>[],false⟩
 |73=>⟨[3,6,10],fun r o=>match r with|7=>bif o then [1,2,3,6,7] else [1,2,3,6,22,23,24]|_=>[],false⟩
 |74=>⟨[],fun _ _=>[],false⟩
 |75=>⟨[1,4],fun r o=>match r with|10=>bif o then [2] else [1,40,41,42]|_=>[],false⟩
 |76=>⟨[1],fun _ _=>[],false⟩
 |77=>⟨[],fun _ _=>[],false⟩
 |78=>⟨[1,4],fun r o=>match r with|2=>bif o then [2] else [1,6,7,8]|_=>[],false⟩
 |79=>⟨[1,6,8,14],fun r o=>match r with|2=>bif o then [1,2] else [1,22,23]|5=>bif o then [1,2,22,23] else [1,22,23,26,27,28]|12=>bif o then [1,2] else [1,40,41,42]|22=>bif o then [1,9] else [1,9,10,72,73,74]|25=>bif o then [1,9,10,72,73,74] else [1,9,10,72,73,74,78,79,80]|31=>bif o then [2] else [9,91,92,93]|34=>bif o then [2,9,91,92,93] else [9,15,91,92,93,99,100]|_=>[],false⟩
 |80=>⟨[],fun r o=>match r with|3=>bif o then [0,3] else [0,3,10,11,12]|10=>bif o then [6] else [6,7,23,24,25]|_=>[],false⟩
 |81=>⟨[11,13],fun r o=>match r with|5=>bif o then [6,7] else [0,1,6,7,8,9]|_=>[],false⟩
 |82=>⟨[1],fun r o=>match r with|5=>bif o then [2] else [1,3]|8=>bif o then [1,2,3] else [1,3,4]|_=>[],false⟩
 |83=>⟨[5],fun r o=>match r with|3=>bif o then [3] else [3,8,9,10]|_=>[],false⟩
 |84=>⟨[],fun _ _=>[],false⟩
 |85=>⟨[6],fun r o=>match r with|6=>bif o then [0,1,4] else [0,1,6,23,24]|_=>[],false⟩
 |86=>⟨[4],fun r o=>match r with|6=>bif o then [0,2] else [0,13,14,15]|_=>[],false⟩
 |87=>⟨[],fun _ _=>[],false⟩
 |88=>⟨[2],fun r o=>match r with|6=>bif o then [1,2,4,5] else [1,2,18,19,20]|13=>bif o then [1,2,8] else [1,2,8,35,36]|_=>[],false⟩
 |89=>⟨[3,8,10,11],fun r o=>match r with|6=>bif o then [6] else [0,3,5,6,18,19,20]|9=>bif o then [0,3,5,6,18,19,20] else [0,3,5,6,8,18,19,20,28,29,30]|_=>[],false⟩
 |90=>⟨[3],fun r o=>match r with|9=>bif o then [0] else [0,3,30,31]|_=>[],false⟩
 |91=>⟨[1,2],fun _ _=>[],false⟩
 |92=>⟨[9],fun r o=>match r with|5=>bif o then [4,5,7] else [7,20,21,22]|_=>[],false⟩
 |93=>⟨[],fun r o=>match r with|3=>bif o then [3] else [0,3,4]|_=>[],false⟩
 |94=>⟨[1],fun _ _=>[],false⟩
 |95=>⟨[2,3],fun _ _=>[],false⟩
 |96=>⟨[],fun r o=>match r with|3=>bif o then [2,3] else [3,6,7,8]|_=>[],false⟩
 |97=>⟨[5],fun r o=>match r with|3=>bif o then [3] else [3,8,9,10]|_=>[],false⟩
 |98=>⟨[5],fun r o=>match r with|11=>bif o then [2] else [0,2,3,9,10]|_=>[],false⟩
 |99=>⟨[],fun r o=>match r with|3=>bif o then [5] else [1,5,6]|_=>[],false⟩
 |100=>⟨[1],fun _ _=>[],false⟩
 |101=>⟨[],fun _ _=>[],false⟩
 |102=>⟨[],fun _ _=>[],false⟩
 |103=>⟨[],fun _ _=>[],false⟩
 |104=>⟨[1],fun _ _=>[],false⟩
 |105=>⟨[6],fun r o=>match r with|2=>bif o then [0] else [0,8,9,10]|_=>[],false⟩
 |106=>⟨[2,3],fun _ _=>[],false⟩
 |107=>⟨[],fun _ _=>[],false⟩
 |108=>⟨[3],fun _ _=>[],false⟩
 |109=>⟨[4],fun r o=>match r with|1=>bif o then [] else [1,5,6,7]|_=>[],false⟩
 |110=>⟨[1,2,3,4],fun _ _=>[],false⟩
 |111=>⟨[],fun _ _=>[],false⟩
 |112=>⟨[],fun r o=>match r with|1=>bif o then [] else [0,1,3]|_=>[],false⟩
 |113=>⟨[2],fun _ _=>[],false⟩
 |114=>⟨[],fun _ _=>[],false⟩
 |115=>⟨[4],fun _ _=>[],false⟩
 |116=>⟨[],fun _ _=>[],false⟩
 |117=>⟨[7],fun r o=>match r with|3=>bif o then [5] else [1,5,8,9,10]|_=>[],false⟩
 |118=>⟨[1],fun _ _=>[],false⟩
 |119=>⟨[1],fun _ _=>[],false⟩
 |120=>⟨[7],fun r o=>match r with|3=>bif o then [3] else [3,11,12,13]|7=>bif o then [3,11,12,13] else [3,4,11,12,13,23,24,25]|_=>[],false⟩
 |121=>⟨[],fun _ _=>[],false⟩
 |122=>⟨[],fun r o=>match r with|3=>bif o then [0,3] else [0,3,10,11,12]|10=>bif o then [6] else [6,7,23,24,25]|_=>[],false⟩
 |123=>⟨[],fun _ _=>[],false⟩
 |124=>⟨[2,3],fun _ _=>[],false⟩
 |125=>⟨[7],fun r o=>match r with|5=>bif o then [0,5] else [0,1,5,6]|_=>[],false⟩
 |126=>⟨[1],fun _ _=>[],false⟩
 |127=>⟨[],fun _ _=>[],false⟩
 |128=>⟨[],fun _ _=>[],false⟩
 |129=>⟨[],fun _ _=>[],false⟩
 |130=>⟨[],fun _ _=>[],false⟩
 |131=>⟨[],fun _ _=>[],false⟩
 |132=>⟨[],fun _ _=>[],false⟩
 |133=>⟨[6],fun r o=>match r with|2=>bif o then [2] else [0,7,8,9]|5=>bif o then [0,2,7,8,9] else [0,7,8,9,13,14,15]|_=>[],false⟩
 |134=>⟨[7,9],fun r o=>match r with|3=>bif o then [2] else [3,11,12,13]|6=>bif o then [2,3,11,12,13] else [3,11,12,13,17,18,19]|9=>bif o then [2,3,11,12,13,17,18,19] else [3,11,12,13,17,18,19,24,25,26]|_=>[],false⟩
 |135=>⟨[10,11],fun r o=>match r with|5=>bif o then [4] else [0,3,4,5,6]|8=>bif o then [0,3,4,5,6,7] else [0,3,4,5,6,7,28,29,30]|12=>bif o then [0,3,4,5,6,7,8,28,29,30] else [0,3,4,5,6,7,8,10,28,29,30]|_=>[],false⟩
 |136=>⟨[],fun _ _=>[],false⟩
 |137=>⟨[],fun r o=>match r with|2=>bif o then [4] else [0,1,7,8]|_=>[],false⟩
 |138=>⟨[],fun _ _=>[],false⟩
 |139=>⟨[7],fun r o=>match r with|3=>bif o then [4] else [1,2,5,17,18]|_=>[],false⟩
 |140=>⟨[5],fun _ _=>[],false⟩
 |141=>⟨[5],fun _ _=>[],false⟩
 |142=>⟨[],fun _ _=>[],false⟩
 |143=>⟨[],fun r o=>match r with|2=>bif o then [0,1,2,6,7] else [0,1,2,6,7,8]|7=>bif o then [] else [0,1,2,6]|9=>bif o then [0,1,2,6,7] else [0,1,2,6,7,8]|_=>[],false⟩
 |144=>⟨[],fun r o=>match r with|2=>bif o then [4] else [0,1,7,8]|_=>[],false⟩
 |145=>⟨[],fun _ _=>[],false⟩
 |146=>⟨[],fun _ _=>[],false⟩
 |147=>⟨[3,6,8],fun r o=>match r with|6=>bif o then [0,3,4] else [0,3,28,29,30]|12=>bif o then [3,4] else [0,3,40,41,42]|_=>[],false⟩
 |148=>⟨[2,4],fun _ _=>[],false⟩
 |149=>⟨[],fun r o=>match r with|1=>bif o then [] else [0,1,2,3,8]|4=>bif o then [0,1,2,3,8] else [0,1,2,3,8,9]|_=>[],false⟩
 |150=>⟨[],fun r o=>match r with|3=>bif o then [0,1,10] else [0,1,4,10,11]|9=>bif o then [] else [0,10,13]|15=>bif o then [0,2,14] else [0,2,4,14,15]|21=>bif o then [] else [0,14,17]|33=>bif o then [0,1,2,3,4,18,19,20] else [0,1,2,3,4,18,19,20,21,22]|_=>[],false⟩
 |151=>⟨[3],fun _ _=>[],false⟩
 |152=>⟨[],fun _ _=>[],false⟩
 |153=>⟨[],fun r o=>match r with|2=>bif o then [0,2,4,10] else [0,2,4,10,11]|_=>[],false⟩
 |154=>⟨[],fun r o=>match r with|1=>bif o then [] else [0,1,2,3,10]|_=>[],false⟩
 |174=>⟨[],fun _ _=>[],false⟩
 |_=>⟨[],fun _ _=>[],false⟩
noncomputable abbrev P16:Program:=Tryz.prog
theorem qu:P16.follows .mixedOrders=true:=by kernel_rfl
theorem qX:QG P16=true:=by kernel_rfl
theorem qkR:laidOutB P16=true:=by kernel_rfl
structure Idd where
 (y n:Int)
structure Pss where
 (y n:Int) (f:Bool) (d:Int)
structure Lpp where
 (b:Int) (w:Bool) (th:Nat->Idd) (nt:Nat) (ps:Nat->Pss) (np:Nat)
def Idd.c(a:Idd):List T:=[uI a.y,iI a.n]
def Pss.c(p:Pss):List T:=[uI p.y,iI p.n,.bool p.f,uI p.d]
def Pss.id(p:Pss):Idd:=⟨p.y,p.n⟩
def idV(g:Nat->Idd)(n:Nat)(c:Option Nat):T:=.view 2 n (fun j=>(g j).c) c
def psV(g:Nat->Pss)(n:Nat)(c:Option Nat):T:=.view 4 n (fun j=>(g j).c) c
def Lpp.c(l:Lpp):List T:=[uI l.b,.bool l.w,idV l.th l.nt none,psV l.ps l.np none]
structure Tbl where
 h:Nat
 ln:Nat->Nat
 L:Nat->Nat->Lpp
def lpV(g:Nat->Lpp)(n:Nat)(c:Option Nat):T:=.view 4 n (fun j=>(g j).c) c
def Tbl.v(t:Tbl):T:=.view 1 t.h (fun y=>[lpV (t.L y) (t.ln y) none]) none
structure Idd.Ok(a:Idd):Prop where
 y:0<=a.y/\a.y<256
 n:-9223372036854775808<=a.n/\a.n<=9223372036854775807
structure Pss.Ok(p:Pss):Prop where
 i:p.id.Ok
 d:0<=p.d/\p.d<256
structure Lpp.Ok(l:Lpp):Prop where
 b:0<=l.b/\l.b<256
 th:∀j,(l.th j).Ok
 ps:∀j,(l.ps j).Ok
 nt:l.nt<=100000
 np:l.np<=100000
structure Tbl.Ok(t:Tbl):Prop where
 h:t.h<=1000
 ln:∀y,t.ln y<=10000
 L:∀y i,(t.L y i).Ok
def Tbl.has(t:Tbl)(a:Idd):Bool:=decide (1<=a.y)&&decide (a.y<=t.h)&&decide (0<=a.n)&&decide (a.n<(t.ln (a.y-1).toNat:Int))
def Tbl.sum(t:Tbl):Nat->Nat
 |0=>0
 |y+1=>t.sum y+t.ln y
def v11(t:Tbl)(x:Int)(i:Nat):List T:=[iI x,t.v,iI t.h,iI i]
def cnc(p q:Pss):Bool:=(decide (p.d=0) || decide (p.d=1))&&(decide (q.d=0) || decide (q.d=1))&&!decide (p.d=q.d)&&(decide (p.y=q.y)&&decide (p.n=q.n)&&(p.f==q.f))
noncomputable def K66(p:List T->T->Prop)(a b:Int):Orc:=qp.add 101 (qI p fun l=>match l with|[.int _ x]=>some (.bool (decide (x=0) || decide (x=1)))|_=>none)
theorem qix(t:Tbl)(ht:t.Ok)(a:Idd)(ha:a.Ok):ToldOk P16 G16 151 [t.v,.agg a.c] (.bool (t.has a)):=by
 refine qD qu qX qa (K:=qp) (A:=A16) (m:=0) ?_;rw[(show Qz P16 G16 A16 qp 0 151 [t.v,.agg a.c] =
(
 bif decide (1<=a.y) then
 bif decide (i64.wrap a.y<=ofNat t.h) then
 bif decide (0<=a.n) then
 bif decide (0<=u8.wrap (a.y-1))&&decide (u8.wrap (a.y-1)<ofNat t.h) then
 bif decide (a.n<ofNat (t.ln (u8.wrap (a.y-(1:Int))).toNat)) then
 some (.bool true)
 else
 some (.bool false)
 else none else
 some (.bool false)
 else
 some (.bool false)
 else
 some (.bool false)) from by kernel_rfl)]
 unfold Tbl.has;have:=ha.y;have:=ht.h;clear ht ha;by_cases h1:1<=a.y
 ·have e1:i64.wrap a.y=a.y:=Y8 (by omega) (by omega);have e2:u8.wrap (a.y-1)=a.y-1:=wr8 (by omega) (by omega);rw[e1,e2,dT h1];by_cases h2:a.y<=t.h
  ·rw[dT h2];by_cases h3:0<=a.n
   ·rw[dT h3];generalize t.ln (a.y-1).toNat=k;by_cases h4:a.n<(k:Int)
    ·rw[dT h4]
     (repeat (first|refine BS ?_|refine BF ?_))
     rfl
    ·rw[dF h4]
     (repeat (first|refine BS ?_|refine BF ?_))
     rfl
   ·rw[dF h3]
    (repeat (first|refine BS ?_|refine BF ?_))
    rfl
  ·rw[dF h2]
   (repeat (first|refine BS ?_|refine BF ?_))
   rfl
 ·rw[dF h1]
  (repeat (first|refine BS ?_|refine BF ?_))
  rfl
theorem i11(t:Tbl)(x:Int)(i:Nat):QH P16 G16 A16 qp 0 69 [] 3 (v11 t x i) [] =
(
 bif decide (ofNat i<ofNat t.h) then
 bif decide (0<=ofNat i)&&decide (ofNat i<ofNat t.h) then
 some ((.normal,[iI (i64.wrap (x+ofNat (t.ln i))),t.v,iI (.ofNat t.h),iI (i64.wrap (ofNat i+1))],[]))
 else none else
 some ((.exit 0,[iI x],[]))):=by kernel_rfl
theorem qiy(g:Nat->Idd)(n:Nat)(c:Option Nat)(hn:n<=1000000):ToldOk P16 G16 136 [idV g n c] (.fresh true 2 n (fun j=>(g j).c) n (some n)):=by
 refine ToldOk.resTo (r:=.fresh true 2 (n-0) (fun j=>bif Nat.ble 0 (0+j)&&Nat.blt (0+j) (0+n.min n) then(g (0+j-0)).c else [uI 0,iI 0]) n (some n)) ?_ (.fresh (Nat.le_refl _) (by omega) (fun m hm=>by obtain rfl:=Option.some.inj hm;omega) fun j hj=>by rw[Nat.zero_add,QC (Nat.zero_le _),show Nat.min n n=n from Nat.min_self n,Nat.zero_add,QX hj];rfl);refine qD qu qX qa (K:=qp) (A:=A16) (m:=0) ?_;rw[(show Qz P16 G16 A16 qp 0 136 [idV g n c] =
(
 bif decide (0<=ofNat n)&&decide (ofNat n<=ofNat n)&&decide (ofNat n*16<=140737488355328)&&decide (ofNat n<=9223372036854775807) then
 bif ((0:Nat)+n).ble n then
 some (bif ((0:Nat)+n).ble n then .fresh true (2:Nat) n (fun j =>
 bif Nat.ble 0 (0+j)&&((0:Nat)+j).blt (0+n.min n) then(g ((0:Nat)+j)).c
 else [uI 0,iI 0]) n (some n)
 else .undef)
 else none else
 none) from by kernel_rfl)]
 refine BS ?_;refine BS ?_;rw[Nat.zero_add,QC (Nat.le_refl _)];rfl
theorem qfb(d:Int):ToldOk P16 G16 101 [uI d] (.bool (decide (d=0) || decide (d=1))):=by
 refine qD qu qX qa (K:=qp) (A:=A16) (m:=0) ?_;rw[(show Qz P16 G16 A16 qp 0 101 [uI d] =
(
 bif decide (d=0) then
 some (.bool true)
 else
 bif decide (d=1) then
 some (.bool true)
 else
 some (.bool false)) from by kernel_rfl)]
 cases decide (d=0)<;>cases decide (d=1)<;>rfl
theorem qdb(a b:Pss):ToldOk P16 G16 106 [.agg a.c,.agg b.c] (.bool (cnc a b)):=by
 obtain⟨p,hp⟩:=qE P16 G16 101;refine qD qu qX (qv qa (qr hp)) (K:=K66 p a.d b.d) (A:=A16) (m:=0) ?_;rw[(show Qz P16 G16 A16 (K66 p a.d b.d) 0 106 [.agg a.c,.agg b.c] =
(
 bif qC (p [uI a.d] (.bool (decide (a.d=0) || decide (a.d=1)))) then
 bif decide (a.d=0) || decide (a.d=1) then
 bif qC (p [uI b.d] (.bool (decide (b.d=0) || decide (b.d=1)))) then
 bif decide (b.d=0) || decide (b.d=1) then
 bif decide (a.d=b.d) then
 some (.bool false)
 else
 bif decide (a.y=b.y) then
 bif decide (a.n=b.n) then
 bif
 bif a.f then b.f
 else !b.f then
 bif decide (a.d=a.d) then
 some (.bool true)
 else
 some (.bool false)
 else
 some (.bool false)
 else
 some (.bool false)
 else
 some (.bool false)
 else
 some (.bool false)
 else none else
 some (.bool false)
 else
 none) from by kernel_rfl)]
 refine qt (Qy hp (qfb a.d)) ?_;unfold cnc;cases decide (a.d=0) || decide (a.d=1)
 ·rfl
 rw[cond_true];refine qt (Qy hp (qfb b.d)) ?_;cases decide (b.d=0) || decide (b.d=1)
 ·rfl
 rw[dT (show a.d=a.d from rfl)];cases decide (a.d=b.d)<;>cases decide (a.y=b.y)<;>cases decide (a.n=b.n)<;>cases a.f<;>cases b.f<;>rfl
theorem sum_le(t:Tbl)(ht:t.Ok):∀y,t.sum y<=10000*y
 |0=>Nat.le_refl _
 |y+1=>by
  have h1:=sum_le t ht y;have h2:=ht.ln y;show t.sum y+t.ln y<=_;omega
theorem qfc(t:Tbl)(ht:t.Ok):ToldOk P16 G16 69 [t.v] (iI (t.sum t.h)):=by
 have hl:LoopOk P16 G16 (A16 69) 69 3 (Qs (v11 t 0 0) [] (.exit 0) [iI (t.sum t.h)] []):=by
  refine Ql qu (by kernel_rfl) (fun i=>v11 t (t.sum i) i) (fun _=>[]) (n:=t.h) (fun i hi=>?_) ?_
  ·have e:t.sum (i+1)=t.sum i+t.ln i:=rfl;have h1:=sum_le t ht i;have h2:=ht.ln i;have h3:=ht.h;rw[e];clear ht e;generalize t.sum i=x at *
   refine Step.mk0 (A:=A16) (m:=0) qa rfl rfl ql (h1:=[]) ?_ .nil;rw[i11,up1 (by omega),Y8 (x:=(x:Int)+ofNat (t.ln i)) (by rw[ZU];omega) (by rw[ZU];omega)]
   (repeat (first|refine BS ?_|refine BF ?_))
   rfl
  ·clear ht;generalize t.sum t.h=x at *
   refine Last.mk0 (A:=A16) (m:=0) qa rfl rfl ql (h1:=[]) (by simp) ?_ .nil;rw[i11]
   (repeat (first|refine BS ?_|refine BF ?_))
   rfl
 generalize t.sum t.h=x at *
 refine Qr qu qX qa (A:=A16) (m:=0) (by kernel_rfl) (Qo hl) ?_;rw[(show y6 P16 G16 A16 qp 0 69 [(3,Qs (v11 t 0 0) [] (.exit 0) [iI x] [])] [t.v] =
(
 bif ZO (v11 t (0:Int) (nat_lit 0)) [] (v11 t (0:Int) (nat_lit 0)) [] then
 some (iI (.ofNat x))
 else
 none) from by kernel_rfl)]
 (repeat (first|refine BS ?_|refine BF ?_))
 rfl
def zF(l:Lpp)(i:Nat):Idd:=if i<l.nt then l.th i else(l.ps (i-l.nt)).id
def QP(l:Nat->Pss):Nat->Nat×(Nat->Pss)
 |0=>(0,fun _=>⟨0,0,false,0⟩)
 |k+1=>if (decide (0<(QP l k).1)&&cnc ((QP l k).2 ((QP l k).1-1)) (l k))=true then((QP l k).1-1,(QP l k).2) else((QP l k).1+1,fun e=>if e=(QP l k).1 then l k else(QP l k).2 e)
def b64(g:Nat->Pss)(n:Nat):Blk:=⟨0,4,n,fun e=>(g e).c,true,false,none⟩
def v64(l:Nat->Pss)(n:Nat)(c:Option Nat)(m k:Nat):List T:=[.own 0 0 0 m (some n),psV l n c,iI n,iI k]
noncomputable def K64(p:List T->T->Prop)(b:Bool):Orc:=qp.add 106 (qI p fun _=>some (.bool b))
noncomputable def K57(p:List T->qk->T->qk->Prop)(q:List T->T->Prop)(g:Nat->Pss)(m n:Nat):Orc:=(qp.addRef 105 (qag p fun _ _=>some (.own 0 0 0 m (some n),[b64 g n]))).add 102 (qI q fun _=>some (.fresh true 4 m (fun j=>(g j).c) m (some m)))
theorem qkS(l:Lpp)(hl:l.Ok)(i:Nat)(hi:i<l.nt+l.np):ToldOk P16 G16 148 [.agg l.c,iI i] (.agg (zF l i).c):=by
 refine qD qu qX qa (K:=qp) (A:=A16) (m:=0) ?_;rw[(show Qz P16 G16 A16 qp 0 148 [.agg l.c,iI i] =
(
 bif decide (ofNat i<ofNat l.nt) then
 bif decide (0<=ofNat i)&&decide (ofNat i<ofNat l.nt) then
 some (.agg (l.th i).c)
 else none else
 bif decide (0<=i64.wrap (ofNat i-ofNat l.nt))&&decide (i64.wrap (ofNat i-ofNat l.nt)<ofNat l.np) then
 some (.agg [uI (l.ps (i64.wrap (ofNat i-ofNat l.nt)).toNat).y,iI (l.ps (i64.wrap (ofNat i-ofNat l.nt)).toNat).n])
 else
 none) from by kernel_rfl)]
 have h1:=hl.nt;have h2:=hl.np;clear hl;unfold zF;by_cases q:i<l.nt
 ·rw[if_pos q]
  (repeat (first|refine BS ?_|refine BF ?_))
  rfl
 ·have e:i64.wrap (ofNat i-ofNat l.nt)=ofNat (i-l.nt):=by
   rw[Y8 (by show(-9223372036854775808:Int)<=(i:Int)-(l.nt:Int);omega) (by show(i:Int)-(l.nt:Int)<=_;omega)];show(i:Int)-(l.nt:Int)=((i-l.nt:Nat):Int);omega
  rw[if_neg q,e]
  (repeat (first|refine BS ?_|refine BF ?_))
  rfl
theorem qiz(l g:Nat->Pss)(n:Nat)(c:Option Nat)(m k:Nat)(b:Bool)(p:List T->T->Prop):QH P16 G16 A16 (K64 p b) 0 105 [] 2 (v64 l n c m k) [b64 g n] =
(
 bif decide (ofNat k<ofNat n) then
 bif decide (0<=ofNat k)&&decide (ofNat k<ofNat n) then
 bif decide (0<ofNat m) then
 bif decide (0<=i64.wrap (ofNat m-1))&&decide (i64.wrap (ofNat m-1)<ofNat m) then
 bif ((0:Nat)+(i64.wrap (ofNat m-(1:Int))).toNat).blt n then
 bif qC (p [.agg (g ((0:Nat)+(i64.wrap (ofNat m-(1:Int))).toNat)).c,.agg (l k).c] (.bool b)) then
 bif b then
 bif decide (0<=i64.wrap (ofNat m-1))&&decide (i64.wrap (ofNat m-1)<=ofNat n)&&decide (ofNat n<=ofNat n) then
 some ((.normal,[.own 0 0 0 (i64.wrap (ofNat m-(1:Int))).toNat (some n),psV l n c,iI (.ofNat n),iI (i64.wrap (ofNat k+1))],[b64 g n]))
 else none else
 bif ((0:Nat)+m).ble n then
 bif ((m+(1:Nat))*(25:Nat)).ble 70368744177664 then
 bif (m+(1:Nat)).ble n then
 bif ((0:Nat)+m+(1:Nat)).ble n then
 some ((.normal,[.own 0 0 0 (m+1) (some n),psV l n c,iI (.ofNat n),iI (i64.wrap (ofNat k+1))],[.mk 0 4 n (fun j =>
 bif ((0:Nat)+m).ble j&&j.blt (0+m+1) then [(l k).c].getD ((0:Nat)+(j-(0+m))) []
 else(g j).c) true false
 none,.mk 0 4 1 (fun j=>[(l k).c].getD j []) true true
 none]))
 else none else
 some ((.normal,[.own 2 0 0 (m+1)
 none,psV l n c,iI (.ofNat n),iI (i64.wrap (ofNat k+1))],[b64 g n,.mk 0 4 1 (fun j=>[(l k).c].getD j []) true true
 none,.mk 0 4 (m+1) (fun j =>
 bif j.blt m then(g ((0:Nat)+j)).c
 else [(l k).c].getD ((0:Nat)+(j-m)) []) true false
 none]))
 else none else none else none else none else none else
 bif ((0:Nat)+m).ble n then
 bif ((m+(1:Nat))*(25:Nat)).ble 70368744177664 then
 bif (m+(1:Nat)).ble n then
 bif ((0:Nat)+m+(1:Nat)).ble n then
 some ((.normal,[.own 0 0 0 (m+1) (some n),psV l n c,iI (.ofNat n),iI (i64.wrap (ofNat k+1))],[.mk 0 4 n (fun j =>
 bif ((0:Nat)+m).ble j&&j.blt (0+m+1) then [(l k).c].getD ((0:Nat)+(j-(0+m))) []
 else(g j).c) true false
 none,.mk 0 4 1 (fun j=>[(l k).c].getD j []) true true
 none]))
 else none else
 some ((.normal,[.own 2 0 0 (m+1)
 none,psV l n c,iI (.ofNat n),iI (i64.wrap (ofNat k+1))],[b64 g n,.mk 0 4 1 (fun j=>[(l k).c].getD j []) true true
 none,.mk 0 4 (m+1) (fun j =>
 bif j.blt m then(g ((0:Nat)+j)).c
 else [(l k).c].getD ((0:Nat)+(j-m)) []) true false
 none]))
 else none else none else none else
 some ((.exit 0,[.own 0 0 0 m (some n)],[b64 g n]))):=by kernel_rfl
theorem k64(l g:Nat->Pss)(n:Nat)(c:Option Nat)(m:Nat):qfM P16 G16 A16 qp 0 105 [(2,Qs (v64 l n c 0 0) [b64 (fun _=>⟨0,0,false,0⟩) n] (.exit 0) [.own 0 0 0 m (some n)] [b64 g n])] [.own 0 0 0 0 (some n),psV l n c] [b64 (fun _=>⟨0,0,false,0⟩) n] =
(
 bif ZO (v64 l n c (0:Nat) (nat_lit 0)) [.mk 0 4 n (fun e=>[uI 0,iI 0,.bool false,uI 0]) true false
 none] (v64 l n c (0:Nat) (nat_lit 0)) [.mk 0 4 n (fun e=>[uI 0,iI 0,.bool false,uI 0]) true false
 none] then
 some ((.own 0 0 0 m (some n),[b64 g n]))
 else
 none):=by kernel_rfl
theorem qbh(g:Nat->Pss)(n:Nat)(c:Option Nat)(hn:n<=1000000):ToldOk P16 G16 102 [psV g n c] (.fresh true 4 n (fun j=>(g j).c) n (some n)):=by
 refine ToldOk.resTo (r:=.fresh true 4 (n-0) (fun j=>bif Nat.ble 0 (0+j)&&Nat.blt (0+j) (0+n.min n) then(g (0+j-0)).c else [uI 0,iI 0,T.bool false,uI 0]) n (some n)) ?_ (.fresh (Nat.le_refl _) (by omega) (fun m hm=>by obtain rfl:=Option.some.inj hm;omega) fun j hj=>by rw[Nat.zero_add,QC (Nat.zero_le _),show Nat.min n n=n from Nat.min_self n,Nat.zero_add,QX hj];rfl);refine qD qu qX qa (K:=qp) (A:=A16) (m:=0) ?_;rw[(show Qz P16 G16 A16 qp 0 102 [psV g n c] =
(
 bif decide (0<=ofNat n)&&decide (ofNat n<=ofNat n)&&decide (ofNat n*24<=140737488355328)&&decide (ofNat n<=9223372036854775807) then
 bif ((0:Nat)+n).ble n then
 some (bif ((0:Nat)+n).ble n then .fresh true (4:Nat) n (fun j =>
 bif Nat.ble 0 (0+j)&&((0:Nat)+j).blt (0+n.min n) then(g ((0:Nat)+j)).c
 else [uI 0,iI 0,.bool false,uI 0]) n (some n)
 else .undef)
 else none else
 none) from by kernel_rfl)]
 refine BS ?_;refine BS ?_;rw[Nat.zero_add,QC (Nat.le_refl _)];rfl
theorem k57(l g:Nat->Pss)(n:Nat)(c:Option Nat)(m:Nat)(p:List T->qk->T->qk->Prop)(q:List T->T->Prop):Qz P16 G16 A16 (K57 p q g m n) 0 152 [psV l n c] =
(
 bif decide (0<=ofNat n)&&decide (ofNat n*24<=140737488355328)&&decide (ofNat n<=9223372036854775807) then
 bif qC (p [.own 0 0 0 0 (some n),psV l n c] [.mk 0 4 n (fun x=>[uI 0,iI 0,.bool false,uI 0]) true false
 none] (.own 0 0 0 m (some n)) [b64 g n]) then
 bif qC (q [bif ((0:Nat)+m).ble n then psV (fun j=>g (0+j)) m (some n)
 else .undef] (.fresh true (4:Nat) m (fun j=>(g j).c) m (some m))) then
 some (bif ((0:Nat)+m).ble m then .fresh true (4:Nat) m (fun j=>(g ((0:Nat)+j)).c) m (some m)
 else .undef)
 else none else none else
 none):=by kernel_rfl
theorem qdc(l:Nat->Pss):∀k,(QP l k).1<=k
 |0=>Nat.le_refl _
 |k+1=>by
  have ih:=qdc l k;unfold QP;split
  ·show(QP l k).1-1<=k+1;omega
  ·show(QP l k).1+1<=k+1;omega
theorem qkT(l:Nat->Pss)(n:Nat)(c:Option Nat)(hn:n<=1000000):ToldRef P16 G16 105 [.own 0 0 0 0 (some n),psV l n c] [b64 (fun _=>⟨0,0,false,0⟩) n] (.own 0 0 0 (QP l n).1 (some n)) [b64 (QP l n).2 n]:=by
 obtain⟨p,hp⟩:=qE P16 G16 106;have hK:∀b,OrcOk P16 G16 (K64 p b):=fun b=>qv qa (qr hp);have hl:LoopOk P16 G16 (A16 105) 105 2 (Qs (v64 l n c 0 0) [b64 (fun _=>⟨0,0,false,0⟩) n] (.exit 0) [.own 0 0 0 (QP l n).1 (some n)] [b64 (QP l n).2 n]):=by
  refine Ql qu (by kernel_rfl) (fun k=>v64 l n c (QP l k).1 k) (fun k=>[b64 (QP l k).2 n]) (n:=n) (fun k hk=>?_) ?_
  ·have hm:=qdc l k;have e:QP l (k+1)=if (decide (0<(QP l k).1)&&cnc ((QP l k).2 ((QP l k).1-1)) (l k))=true then((QP l k).1-1,(QP l k).2) else((QP l k).1+1,fun e=>if e=(QP l k).1 then l k else(QP l k).2 e):=rfl;rw[e];generalize (QP l k).2=g at *
   generalize (QP l k).1=m at *
   clear e;have same:∀j,j<n->(fun e=>(if e=m then l k else g e).c) j=(bif Nat.ble (0+m) j&&Nat.blt j (0+m+1) then([(l k).c]:List (List T)).getD (0+(j-(0+m))) [] else(g j).c):=fun j hj=>by
    simp only[Nat.zero_add];by_cases q:j=m
    ·subst q;rw[if_pos rfl,QC (Nat.le_refl _),QX (by omega),Nat.sub_self];rfl
    ·rw[if_neg q];by_cases q2:m<=j
     ·rw[QC q2,qad (by omega)];rfl
     ·rw[qd3 (by omega)];rfl
   by_cases h0:0<m
   ·have t:=qdb (g (m-1)) (l k);have e1:i64.wrap (ofNat m-1)=ofNat (m-1):=by
     rw[Y8 (by show(-9223372036854775808:Int)<=(m:Int)-1;omega) (by show(m:Int)-1<=_;omega)];show(m:Int)-1=((m-1:Nat):Int);omega
    rw[dT h0,Bool.true_and];cases hb:cnc (g (m-1)) (l k)
    ·rw[hb] at t;rw[if_neg (by simp)];refine Step.mk (A:=A16) (m:=0) (hK false) rfl rfl ql 1 (Nat.le_refl _) (h1:=[⟨0,4,n,fun j=>bif Nat.ble (0+m) j&&Nat.blt j (0+m+1) then([(l k).c]:List (List T)).getD (0+(j-(0+m))) [] else(g j).c,true,false,none⟩,⟨0,4,1,fun j=>[(l k).c].getD j [],true,true,none⟩]) (vs':=v64 l n c (m+1) (k+1)) ?_ (by rfl) (.cons ⟨rfl,rfl,rfl,id,same⟩ .nil);rw[qiz,up1 (by omega),e1,show(ofNat (m-1)).toNat=m-1 from rfl,Nat.zero_add];clear same
     (repeat (first|refine BS ?_|refine BF ?_))
     rfl
    ·rw[hb] at t;rw[if_pos rfl];refine Step.mk0 (A:=A16) (m:=0) (hK true) rfl rfl ql (h1:=[b64 g n]) (vs':=v64 l n c (m-1) (k+1)) ?_ (.refl _);rw[qiz,up1 (by omega),e1,show(ofNat (m-1)).toNat=m-1 from rfl,Nat.zero_add];clear same
     (repeat (first|refine BS ?_|refine BF ?_))
     rfl
   ·rw[dF h0,Bool.false_and,if_neg (by simp)];refine Step.mk (A:=A16) (m:=0) (hK false) rfl rfl ql 1 (Nat.le_refl _) (h1:=[⟨0,4,n,fun j=>bif Nat.ble (0+m) j&&Nat.blt j (0+m+1) then([(l k).c]:List (List T)).getD (0+(j-(0+m))) [] else(g j).c,true,false,none⟩,⟨0,4,1,fun j=>[(l k).c].getD j [],true,true,none⟩]) (vs':=v64 l n c (m+1) (k+1)) ?_ (by rfl) (.cons ⟨rfl,rfl,rfl,id,same⟩ .nil);rw[qiz,up1 (by omega)];clear same
    (repeat (first|refine BS ?_|refine BF ?_))
    rfl
  ·generalize (QP l n).2=g at *
   generalize (QP l n).1=m at *
   refine Last.mk0 (A:=A16) (m:=0) (hK false) rfl rfl ql (h1:=[b64 g n]) (by simp) ?_ (.refl _);rw[qiz]
   (repeat (first|refine BS ?_|refine BF ?_))
   rfl
 generalize (QP l n).2=g at *
 generalize (QP l n).1=m at *
 refine ja qu qX qa (A:=A16) (m:=0) (by kernel_rfl) (Qo hl) ?_;rw[k64];exact qt (Q6 ⟨rfl,.refl _⟩) rfl
theorem qiA(l:Nat->Pss)(n:Nat)(c:Option Nat)(hn:n<=1000000):ToldOk P16 G16 152 [psV l n c] (.fresh true 4 (QP l n).1 (fun j=>((QP l n).2 j).c) (QP l n).1 (some (QP l n).1)):=by
 obtain⟨p,hp⟩:=Yi P16 G16 105;obtain⟨q,hq⟩:=qE P16 G16 102;have hm:=qdc l n;have t1:=qkT l n c hn;have t2:=qbh (QP l n).2 (QP l n).1 (some n) (by omega);generalize (QP l n).2=g at *
 generalize (QP l n).1=m at *
 refine qD qu qX (qv (Qg qa (QZ hp)) (qr hq)) (K:=K57 p q g m n) (A:=A16) (m:=0) ?_;rw[k57];refine qt (by rw[dT (by rw[ZU];omega),dT (by rw[ZU];omega),dT (by rw[ZU];omega)];rfl) ?_;refine qt (zi hp t1) ?_;simp only[Nat.zero_add];rw[QC hm,QC (Nat.le_refl _)];refine qt (Qy hq t2) ?_;rfl
def rgI(t:Tbl)(l:Lpp)(i:Nat):Bool:=t.has (l.th i)
def rgP(t:Tbl)(l:Lpp)(i:Nat):Bool:=t.has (l.ps i).id&&(decide ((l.ps i).d=0) || decide ((l.ps i).d=1))
def rgt(t:Tbl)(l:Lpp):Bool:=bif decide (l.b=0) || decide (l.b=1) then(bif decide (4<l.nt) || decide (4096<l.np) then false else bif qY (rgI t l) l.nt then(bif qY (rgP t l) l.np then decide ((QP l.ps l.np).1=l.np) else false) else false) else false
def qbK(t:Tbl)(l:Lpp)(i:Nat):List T:=[t.v,.reg l.c,idV l.th l.nt none,iI l.nt,iI i]
def qbL(t:Tbl)(l:Lpp)(i:Nat):List T:=[t.v,.reg l.c,psV l.ps l.np none,iI l.np,iI i]
noncomputable def K45(p:List T->T->Prop)(b:Bool):Orc:=qp.add 151 (qI p fun _=>some (.bool b))
noncomputable def qkU(p:List T->T->Prop)(r:T):Orc:=qp.add 152 (qI p fun _=>some r)
noncomputable def l45(x y:List T->qk->Ex->List T->qk->Prop)(t:Tbl)(l:Lpp)(b1 b2:Bool):List (Nat×(List T->qk->LT)) :=
 [(6,ZX x (.ite b1 (.ret (.exit 0) [t.v,.reg l.c,.undef] []) (.ret .ret [t.v,.reg l.c,.bool false] []))),
  (12,ZX y (.ite b2 (.ret (.exit 2) [.reg l.c,.undef] []) (.ret .ret [.reg l.c,.bool false] [])))]
def ckL(t:Tbl)(y i:Nat):Bool:=rgt t (t.L y i)&&(!(i==0) || (t.L y i).w)
def ckY(t:Tbl)(y:Nat):Bool:=qY (ckL t y) (t.ln y)
def qgA(t:Tbl)(y i:Nat):List T:=[t.v,t.v,iI t.h,iI y,lpV (t.L y) (t.ln y) none,iI (t.ln y),iI i]
def qgB(t:Tbl)(y:Nat):List T:=[t.v,t.v,iI t.h,iI y]
noncomputable def K36(p:List T->T->Prop)(b:Bool):Orc:=qp.add 147 (qI p fun _=>some (.bool b))
noncomputable def qiB(x:List T->qk->Ex->List T->qk->Prop)(t:Tbl)(y:Nat)(b:Bool):List (Nat×(List T->qk->LT)) :=
 [(5,ZX x (.ite b (.ret (.exit 2) [t.v,.undef,t.v,iI t.h,iI y] []) (.ret .ret [t.v,iI 1,t.v,iI t.h,iI y] [])))]
noncomputable def l36(x:List T->qk->Ex->List T->qk->Prop)(b:Bool):List (Nat×(List T->qk->LT)) :=
 [(2,ZX x (.ite b (.ret (.exit 0) [.undef] []) (.ret .ret [iI 1] [])))]
section
variable (t:Tbl) (l:Lpp) (i y:Nat) (b b1 b2:Bool) (p:List T->T->Prop) (x z:List T->qk->Ex->List T->qk->Prop) (g:Nat->Pss) (m:Nat)
theorem qjR:QH P16 G16 A16 (K45 p b) 0 147 [] 6 (qbK t l i) [] =
(
 bif decide (ofNat i<ofNat l.nt) then
 bif decide (0<=ofNat i)&&decide (ofNat i<ofNat l.nt) then
 bif qC (p [t.v,.agg (l.th i).c] (.bool b)) then
 bif b then
 some ((.normal,[t.v,.reg l.c,idV l.th l.nt
 none,iI (.ofNat l.nt),iI (i64.wrap (ofNat i+1))],[]))
 else
 some ((.ret,[t.v,.reg l.c,.bool false],[]))
 else none else none else
 some ((.exit 0,[t.v,.reg l.c,.undef],[]))):=by kernel_rfl
theorem qiC:QH P16 G16 A16 (K45 p b) 0 147 [] 12 (qbL t l i) [] =
(
 bif decide (ofNat i<ofNat l.np) then
 bif decide (0<=ofNat i)&&decide (ofNat i<ofNat l.np) then
 bif qC (p [t.v,.agg [uI (l.ps i).y,iI (l.ps i).n]] (.bool b)) then
 bif b then
 bif !decide ((l.ps i).d=0) then
 bif !decide ((l.ps i).d=1) then
 some ((.ret,[.reg l.c,.bool false],[]))
 else
 some ((.normal,[t.v,.reg l.c,psV l.ps l.np
 none,iI (.ofNat l.np),iI (i64.wrap (ofNat i+1))],[]))
 else
 some ((.normal,[t.v,.reg l.c,psV l.ps l.np
 none,iI (.ofNat l.np),iI (i64.wrap (ofNat i+1))],[]))
 else
 some ((.ret,[.reg l.c,.bool false],[]))
 else none else none else
 some ((.exit 2,[.reg l.c,.undef],[]))):=by kernel_rfl
theorem k45:y6 P16 G16 A16 (qkU p (.fresh true 4 m (fun j=>(g j).c) m (some m))) 0 147 (l45 x z t l b1 b2) [t.v,.agg l.c] =
(
 bif !decide (l.b=0) then
 bif !decide (l.b=1) then
 some (.bool false)
 else
 bif decide (4<ofNat l.nt) then
 some (.bool false)
 else
 bif decide (4096<ofNat l.np) then
 some (.bool false)
 else
 bif b1 then
 bif qC (x (qbK t l (nat_lit 0)) [] (.exit 0) [t.v,.reg l.c,.undef] []) then
 bif b2 then
 bif qC (z (qbL t l (nat_lit 0)) [] (.exit 2) [.reg l.c,.undef] []) then
 bif qC (p [psV l.ps l.np
 none] (.fresh true (4:Nat) m (fun j=>(g j).c) m (some m))) then
 bif decide (ofNat m=ofNat l.np) then
 some (.bool true)
 else
 some (.bool false)
 else none else none else
 bif qC (z (qbL t l (nat_lit 0)) [] .ret [.reg l.c,.bool false] []) then
 some (.bool false)
 else none else none else
 bif qC (x (qbK t l (nat_lit 0)) [] .ret [t.v,.reg l.c,.bool false] []) then
 some (.bool false)
 else none else
 bif decide (4<ofNat l.nt) then
 some (.bool false)
 else
 bif decide (4096<ofNat l.np) then
 some (.bool false)
 else
 bif b1 then
 bif qC (x (qbK t l (nat_lit 0)) [] (.exit 0) [t.v,.reg l.c,.undef] []) then
 bif b2 then
 bif qC (z (qbL t l (nat_lit 0)) [] (.exit 2) [.reg l.c,.undef] []) then
 bif qC (p [psV l.ps l.np
 none] (.fresh true (4:Nat) m (fun j=>(g j).c) m (some m))) then
 bif decide (ofNat m=ofNat l.np) then
 some (.bool true)
 else
 some (.bool false)
 else none else none else
 bif qC (z (qbL t l (nat_lit 0)) [] .ret [.reg l.c,.bool false] []) then
 some (.bool false)
 else none else none else
 bif qC (x (qbK t l (nat_lit 0)) [] .ret [t.v,.reg l.c,.bool false] []) then
 some (.bool false)
 else
 none):=by kernel_rfl
theorem qiD:QH P16 G16 A16 (K36 p b) 0 133 [] 5 (qgA t y i) [] =
(
 bif decide (ofNat i<ofNat (t.ln y)) then
 bif decide (0<=ofNat i)&&decide (ofNat i<ofNat (t.ln y)) then
 bif qC (p [t.v,.agg (t.L y i).c] (.bool b)) then
 bif b then
 bif decide (ofNat i=0) then
 bif (t.L y i).w then
 some ((.normal,[t.v,t.v,iI (.ofNat t.h),iI (.ofNat y),lpV (t.L y) (t.ln y)
 none,iI (.ofNat (t.ln y)),iI (i64.wrap (ofNat i+1))],[]))
 else
 some ((.ret,t.v::v11 t (1:Int) y,[]))
 else
 some ((.normal,[t.v,t.v,iI (.ofNat t.h),iI (.ofNat y),lpV (t.L y) (t.ln y)
 none,iI (.ofNat (t.ln y)),iI (i64.wrap (ofNat i+1))],[]))
 else
 some ((.ret,t.v::v11 t (1:Int) y,[]))
 else none else none else
 some ((.exit 2,[t.v,.undef,t.v,iI (.ofNat t.h),iI (.ofNat y)],[]))):=by kernel_rfl
theorem qjS:QH P16 G16 A16 qp 0 133 (qiB x t y b) 2 (qgB t y) [] =
(
 bif decide (ofNat y<ofNat t.h) then
 bif decide (0<=ofNat y)&&decide (ofNat y<ofNat t.h) then
 bif b then
 bif qC (x (qgA t y (nat_lit 0)) [] (.exit 2) [t.v,.undef,t.v,iI (.ofNat t.h),iI (.ofNat y)] []) then
 some ((.normal,[t.v,t.v,iI (.ofNat t.h),iI (i64.wrap (ofNat y+1))],[]))
 else none else
 bif qC (x (qgA t y (nat_lit 0)) [] .ret (t.v::v11 t (1:Int) y) []) then
 some ((.ret,[iI 1],[]))
 else none else none else
 some ((.exit 0,[.undef],[]))):=by kernel_rfl
theorem k36:y6 P16 G16 A16 qp 0 133 (l36 x b) [t.v] =
(
 bif b then
 bif qC (x (qgB t (nat_lit 0)) [] (.exit 0) [.undef] []) then
 some (iI 0)
 else none else
 bif qC (x (qgB t (nat_lit 0)) [] .ret [iI 1] []) then
 some (iI 1)
 else
 none):=by kernel_rfl
end
theorem qiE(t:Tbl)(ht:t.Ok)(l:Lpp)(hl:l.Ok):(qY (rgI t l) l.nt=true->LoopOk P16 G16 (A16 147) 147 6 (Qs (qbK t l 0) [] (.exit 0) [t.v,.reg l.c,.undef] []))/\(qY (rgI t l) l.nt=false->LoopOk P16 G16 (A16 147) 147 6 (Qs (qbK t l 0) [] .ret [t.v,.reg l.c,.bool false] [])):=by
 obtain⟨p,hp⟩:=qE P16 G16 151;have hK:∀b,OrcOk P16 G16 (K45 p b):=fun b=>qv qa (qr hp);have hn:=hl.nt;refine Ki qu (by kernel_rfl) (fun i=>qbK t l i) (fun _=>[]) (rgI t l) (n:=l.nt) (fun i hi _ hg=>?_) (fun i hi _ hg=>?_) (fun _=>?_)
 ·have t1:=qix t ht (l.th i) (hl.th i);rw[show t.has (l.th i)=true from hg] at t1;clear ht hl;refine Step.mk0 (A:=A16) (m:=0) (hK true) rfl rfl ql (h1:=[]) ?_ .nil;rw[qjR,up1 (by omega)]
  (repeat (first|refine BS ?_|refine BF ?_))
  rfl
 ·have t1:=qix t ht (l.th i) (hl.th i);rw[show t.has (l.th i)=false from hg] at t1;clear ht hl;refine Last.mk0 (A:=A16) (m:=0) (hK false) rfl rfl ql (h1:=[]) (by simp) ?_ .nil;rw[qjR]
  (repeat (first|refine BS ?_|refine BF ?_))
  rfl
 ·clear ht hl;refine Last.mk0 (A:=A16) (m:=0) (hK false) rfl rfl ql (h1:=[]) (by simp) ?_ .nil;rw[qjR];refine BF ?_;rfl
theorem qiF(t:Tbl)(ht:t.Ok)(l:Lpp)(hl:l.Ok):(qY (rgP t l) l.np=true->LoopOk P16 G16 (A16 147) 147 12 (Qs (qbL t l 0) [] (.exit 2) [.reg l.c,.undef] []))/\(qY (rgP t l) l.np=false->LoopOk P16 G16 (A16 147) 147 12 (Qs (qbL t l 0) [] .ret [.reg l.c,.bool false] [])):=by
 obtain⟨p,hp⟩:=qE P16 G16 151;have hK:∀b,OrcOk P16 G16 (K45 p b):=fun b=>qv qa (qr hp);have hn:=hl.np;refine Ki qu (by kernel_rfl) (fun i=>qbL t l i) (fun _=>[]) (rgP t l) (n:=l.np) (fun i hi _ hg=>?_) (fun i hi _ hg=>?_) (fun _=>?_)
 ·have t1:=qix t ht (l.ps i).id (hl.ps i).i;simp only[rgP,Bool.and_eq_true,Bool.or_eq_true,decide_eq_true_eq] at hg;rw[hg.1] at t1;have hd:=hg.2;clear ht hl hg;refine Step.mk0 (A:=A16) (m:=0) (hK true) rfl rfl ql (h1:=[]) ?_ .nil;rw[qiC,up1 (by omega)];by_cases q:(l.ps i).d=0
  ·(repeat (first|refine BS ?_|refine BF ?_))
   rfl
  ·have q2:(l.ps i).d=1:=by omega
   (repeat (first|refine BS ?_|refine BF ?_))
   rfl
 ·have t1:=qix t ht (l.ps i).id (hl.ps i).i;unfold rgP at hg;clear ht hl;cases hb:t.has (l.ps i).id
  ·rw[hb] at t1;refine Last.mk0 (A:=A16) (m:=0) (hK false) rfl rfl ql (h1:=[]) (by simp) ?_ .nil;rw[qiC];clear hb
   (repeat (first|refine BS ?_|refine BF ?_))
   rfl
  ·rw[hb] at t1 hg;simp only[Bool.true_and,Bool.or_eq_false_iff,decide_eq_false_iff_not] at hg;obtain⟨q1,q2⟩:=hg;refine Last.mk0 (A:=A16) (m:=0) (hK true) rfl rfl ql (h1:=[]) (by simp) ?_ .nil;rw[qiC];clear hb
   (repeat (first|refine BS ?_|refine BF ?_))
   rfl
 ·clear ht hl;refine Last.mk0 (A:=A16) (m:=0) (hK false) rfl rfl ql (h1:=[]) (by simp) ?_ .nil;rw[qiC];refine BF ?_;rfl
theorem qhz(t:Tbl)(ht:t.Ok)(l:Lpp)(hl:l.Ok):ToldOk P16 G16 147 [t.v,.agg l.c] (.bool (rgt t l)):=by
 obtain⟨x,hx⟩:=zv P16 G16 (A16 147) 147 6;obtain⟨z,hz⟩:=zv P16 G16 (A16 147) 147 12;obtain⟨p,hp⟩:=qE P16 G16 152;have t1:=qiA l.ps l.np none (by have:=hl.np;omega);have ha:=qiE t ht l hl;have hb:=qiF t ht l hl;unfold rgt;generalize (QP l.ps l.np).2=g at *
 generalize (QP l.ps l.np).1=m at *
 generalize qY (rgI t l) l.nt=b1 at *
 generalize qY (rgP t l) l.np=b2 at *
 refine Qr qu qX (K:=qkU p (.fresh true 4 m (fun j=>(g j).c) m (some m))) (qv qa (qr hp)) (A:=A16) (m:=0) (l:=l45 x z t l b1 b2) (by kernel_rfl) (qe4 (Qh hx _) (Qo (Qh hz _))) ?_;rw[k45];have key:∀r:Option T,r=some (.bool (bif decide (4<l.nt) || decide (4096<l.np) then false else bif b1 then(bif b2 then decide (m=l.np) else false) else false))->r=some (.bool (bif decide (l.b=0) || decide (l.b=1) then(bif decide (4<l.nt) || decide (4096<l.np) then false else bif b1 then(bif b2 then decide (m=l.np) else false) else false) else false))∨¬(l.b=0∨l.b=1):=fun r h=>by
  by_cases q:l.b=0∨l.b=1
  ·left;rw[h];rcases q with q|q
   ·rw[dT q];rfl
   ·rw[dT q,Bool.or_true];rfl
  ·exact .inr q
 have tail:∀r:Option T,(bif decide ((4:Int)<ofNat l.nt) then some (T.bool false) else bif decide ((4096:Int)<ofNat l.np) then some (T.bool false) else
  bif b1 then bif qC (x (qbK t l 0) [] (Ex.exit 0) [t.v,T.reg l.c,T.undef] []) then
   bif b2 then bif qC (z (qbL t l 0) [] (Ex.exit 2) [T.reg l.c,T.undef] []) then
    bif qC (p [psV l.ps l.np none] (T.fresh true 4 m (fun j=>(g j).c) m (some m))) then
     bif decide (ofNat m=ofNat l.np) then some (T.bool true) else some (T.bool false) else none else none
   else bif qC (z (qbL t l 0) [] Ex.ret [T.reg l.c,T.bool false] []) then some (T.bool false) else none else none
  else bif qC (x (qbK t l 0) [] Ex.ret [t.v,T.reg l.c,T.bool false] []) then some (T.bool false) else none)=r->r=some (.bool (bif decide (4<l.nt) || decide (4096<l.np) then false else bif b1 then(bif b2 then decide (m=l.np) else false) else false)):=fun r h=>by
  rw[←h];clear h key ht hl;by_cases q1:4<l.nt
  ·rw[dT q1];exact qt (by rw[ZU];exact dT (by omega)) rfl
  rw[dF q1];refine qK (by rw[ZU,dF (by omega)];simp) ?_;by_cases q2:4096<l.np
  ·rw[dT q2];exact qt (by rw[ZU];exact dT (by omega)) rfl
  rw[dF q2];refine qK (by rw[ZU,dF (by omega)];simp) ?_;cases b1
  ·exact qK (by simp) (qt (yc hx (ha.2 rfl)) rfl)
  refine qt rfl (qt (yc hx (ha.1 rfl)) ?_);cases b2
  ·exact qK (by simp) (qt (yc hz (hb.2 rfl)) rfl)
  refine qt rfl (qt (yc hz (hb.1 rfl)) ?_);refine qt (Qy hp t1) ?_;by_cases q3:m=l.np
  ·rw[dT q3];exact qt (by rw[q3];simp) rfl
  ·rw[dF q3];exact qK (by rw[ZU,ZU,dF (by omega)];simp) rfl
 by_cases q0:l.b=0
 ·refine qK (by rw[dT q0];simp) ?_;rcases key _ (tail _ rfl) with h|h
  ·exact h
  ·exact absurd (.inl q0) h
 refine qt (by rw[dF q0];rfl) ?_;by_cases q1:l.b=1
 ·refine qK (by rw[dT q1];simp) ?_;rcases key _ (tail _ rfl) with h|h
  ·exact h
  ·exact absurd (.inr q1) h
 rw[dF q0,dF q1];exact qt (by rfl) rfl
theorem qfO(t:Tbl)(ht:t.Ok)(y:Nat):(qY (ckL t y) (t.ln y)=true->LoopOk P16 G16 (A16 133) 133 5 (Qs (qgA t y 0) [] (.exit 2) [t.v,.undef,t.v,iI t.h,iI y] []))/\(qY (ckL t y) (t.ln y)=false->LoopOk P16 G16 (A16 133) 133 5 (Qs (qgA t y 0) [] .ret [t.v,iI 1,t.v,iI t.h,iI y] [])):=by
 obtain⟨p,hp⟩:=qE P16 G16 147;have hK:∀b,OrcOk P16 G16 (K36 p b):=fun b=>qv qa (qr hp);have hn:=ht.ln y;refine Ki qu (by kernel_rfl) (fun i=>qgA t y i) (fun _=>[]) (ckL t y) (n:=t.ln y) (fun i hi _ hg=>?_) (fun i hi _ hg=>?_) (fun _=>?_)
 ·have t1:=qhz t ht (t.L y i) (ht.L y i);simp only[ckL,Bool.and_eq_true,Bool.or_eq_true,Bool.not_eq_true',beq_eq_false_iff_ne] at hg;rw[hg.1] at t1;have h2:=hg.2;clear ht hg;refine Step.mk0 (A:=A16) (m:=0) (hK true) rfl rfl ql (h1:=[]) ?_ .nil;rw[qiD,up1 (by omega)];by_cases q:i=0
  ·have hw:(t.L y i).w=true:=by rcases h2 with h|h;exact absurd q h;exact h
   rw[hw]
   (repeat (first|refine BS ?_|refine BF ?_))
   rfl
  ·(repeat (first|refine BS ?_|refine BF ?_))
   rfl
 ·have t1:=qhz t ht (t.L y i) (ht.L y i);unfold ckL at hg;clear ht;cases hb:rgt t (t.L y i)
  ·rw[hb] at t1;refine Last.mk0 (A:=A16) (m:=0) (hK false) rfl rfl ql (h1:=[]) (by simp) ?_ .nil;rw[qiD];clear hb
   (repeat (first|refine BS ?_|refine BF ?_))
   rfl
  ·rw[hb] at t1 hg;have h2:i=0/\(t.L y i).w=false:=by simpa using hg
   refine Last.mk0 (A:=A16) (m:=0) (hK true) rfl rfl ql (h1:=[]) (by simp) ?_ .nil;rw[qiD,h2.2];have h2:=h2.1;clear hb
   (repeat (first|refine BS ?_|refine BF ?_))
   rfl
 ·clear ht;refine Last.mk0 (A:=A16) (m:=0) (hK false) rfl rfl ql (h1:=[]) (by simp) ?_ .nil;rw[qiD];refine BF ?_;rfl
theorem qd9(t:Tbl)(ht:t.Ok):ToldOk P16 G16 133 [t.v] (iI (bif qY (ckY t) t.h then 0 else 1)):=by
 obtain⟨x,hx⟩:=zv P16 G16 (A16 133) 133 2;obtain⟨z,hz⟩:=zv P16 G16 (A16 133) 133 5;have hh:=ht.h;have hl:(qY (ckY t) t.h=true->LoopOk P16 G16 (A16 133) 133 2 (Qs (qgB t 0) [] (.exit 0) [.undef] []))/\(qY (ckY t) t.h=false->LoopOk P16 G16 (A16 133) 133 2 (Qs (qgB t 0) [] .ret [iI 1] [])):=by
  refine Ki qu (by kernel_rfl) (fun y=>qgB t y) (fun _=>[]) (ckY t) (n:=t.h) (fun y hy _ hg=>?_) (fun y hy _ hg=>?_) (fun _=>?_)
  ·have hi:=(qfO t ht y).1 hg;clear ht;refine Step.mk0 (A:=A16) (m:=0) qa rfl rfl (l:=qiB z t y true) (Qo (Qh hz _)) (h1:=[]) ?_ .nil;rw[qjS,up1 (by omega)]
   (repeat (first|refine BS ?_|refine BF ?_))
   rfl
  ·have hi:=(qfO t ht y).2 hg;clear ht;refine Last.mk0 (A:=A16) (m:=0) qa rfl rfl (l:=qiB z t y false) (Qo (Qh hz _)) (h1:=[]) (by simp) ?_ .nil;rw[qjS]
   (repeat (first|refine BS ?_|refine BF ?_))
   rfl
  ·clear ht;refine Last.mk0 (A:=A16) (m:=0) qa rfl rfl (l:=qiB z t t.h false) (Qo (Qh hz _)) (h1:=[]) (by simp) ?_ .nil;rw[qjS];refine BF ?_;rfl
 generalize qY (ckY t) t.h=b at *
 refine Qr qu qX qa (A:=A16) (m:=0) (l:=l36 x b) (by kernel_rfl) (Qo (Qh hx _)) ?_;rw[k36];cases b
 ·exact qK (by simp) (qt (yc hx (hl.2 rfl)) rfl)
 ·exact qt rfl (qt (yc hx (hl.1 rfl)) rfl)
def qkV(hs:List Int->Bool)(vl:List Int->Int)(bn:List Int->Nat)(ck:Nat):MapD:=⟨.row [some .u8,some .i64],.i64,hs,vl,bn,ck,none⟩
def QW(hs:List Int->Bool)(vl:List Int->Int)(bn:List Int->Nat)(ck:Nat):qk:=[ZQ 0 (qkV hs vl bn ck)]
def qgC(t:Tbl)(y i k:Nat):List T:=[.mp 0 0,t.v,iI t.h,iI y,lpV (t.L y) (t.ln y) none,iI (t.ln y),iI i,idV (t.L y i).th (t.L y i).nt none,iI (t.L y i).nt,iI k]
def qea(v:T)(t:Tbl)(y i:Nat):List T:=[v,.mp 0 0,t.v,iI t.h,iI y,lpV (t.L y) (t.ln y) none,iI (t.ln y),iI i]
def qgD(t:Tbl)(y i:Nat):List T:=[.mp 0 0,t.v,iI t.h,iI y,lpV (t.L y) (t.ln y) none,iI (t.ln y),iI i]
def qeb(v:T)(t:Tbl)(y:Nat):List T:=[v,.mp 0 0,t.v,iI t.h,iI y]
def qgE(t:Tbl)(y:Nat):List T:=[.mp 0 0,t.v,iI t.h,iI y]
noncomputable def qiG(x:List T->qk->Ex->List T->qk->Prop)(t:Tbl)(y i:Nat)(b:Bool)(h1 h2:qk):List (Nat×(List T->qk->LT)) :=
 [(9,ZX x (.ite b (.ret (.exit 4) (qea .undef t y i) h1) (.ret .ret (qea (iI 8) t y i) h2)))]
noncomputable def qiH(x:List T->qk->Ex->List T->qk->Prop)(t:Tbl)(y:Nat)(b:Bool)(h1 h2:qk):List (Nat×(List T->qk->LT)) :=
 [(6,ZX x (.ite b (.ret (.exit 2) (qeb .undef t y) h1) (.ret .ret (qeb (iI 8) t y) h2)))]
noncomputable def l37(x:List T->qk->Ex->List T->qk->Prop)(b:Bool)(h1 h2:qk):List (Nat×(List T->qk->LT)) :=
 [(3,ZX x (.ite b (.ret (.exit 0) [.undef] h1) (.ret .ret [iI 8] h2)))]
def kyI(a:Idd):List Int:=[a.y,a.n]
def tkH(K:List Int)(hs:List Int->Bool):List Int->Bool:=fun l=>keq l K || (keq l K || hs l)
def tkV(K:List Int)(vl:List Int->Int):List Int->Int:=fun l=>bif keq l K then i64.wrap (vl K+1) else bif keq l K then vl K else vl l
def tkB(K:List Int)(hs:List Int->Bool)(bn:List Int->Nat)(ck:Nat):List Int->Nat:=fun l=>bif keq l K then(bif keq K K || hs K then(bif keq K K then(bif hs K then bn K else ck) else bn K) else(bif hs K then ck else ck+1)) else bif keq l K then(bif hs K then bn K else ck) else bn l
def tkC(K:List Int)(hs:List Int->Bool)(ck:Nat):Nat:=bif keq K K || hs K then(bif hs K then ck else ck+1) else(bif hs K then ck else ck+1)+1
def hF:List (List Int)->List Int->Bool
 |[]=>fun _=>false
 |K::L=>tkH K (hF L)
def vF:List (List Int)->List Int->Int
 |[]=>fun _=>0
 |K::L=>tkV K (vF L)
def cF:List (List Int)->Nat
 |[]=>0
 |K::L=>tkC K (hF L) (cF L)
def bF:List (List Int)->List Int->Nat
 |[]=>fun _=>0
 |K::L=>tkB K (hF L) (bF L) (cF L)
def mhL(L:List (List Int)):qk:=QW (hF L) (vF L) (bF L) (cF L)
def kA(f:Nat->Idd):Nat->List (List Int)->List (List Int)
 |0,L=>L
 |k+1,L=>kyI (f k)::kA f k L
def kB(l:Nat->Lpp):Nat->List (List Int)→ List (List Int)
 |0,L=>L
 |i+1,L=>kA (l i).th (l i).nt (kB l i L)
def kC(t:Tbl):Nat->List (List Int)
 |0=>[]
 |y+1=>kB (t.L y) (t.ln y) (kC t y)
def tgK(t:Tbl)(y i k:Nat):Bool:=!decide (kyI ((t.L y i).th k)∈kA (t.L y i).th k (kB (t.L y) i (kC t y)))
def tgI(t:Tbl)(y i:Nat):Bool:=qY (tgK t y i) (t.L y i).nt
def tgY(t:Tbl)(y:Nat):Bool:=qY (tgI t y) (t.ln y)
section
variable (t:Tbl) (y i k:Nat) (hs hs1 hs2:List Int->Bool) (vl vl1 vl2:List Int->Int) (bn bn1 bn2:List Int->Nat) (ck ck1 ck2:Nat) (x:List T->qk->Ex->List T->qk->Prop) (b:Bool)
theorem qjT(t:Tbl)(y i k:Nat)(hs:List Int->Bool)(vl:List Int->Int)(bn:List Int->Nat)(ck:Nat):QH P16 G16 A16 qp 0 134 [] 9 (qgC t y i k) (QW hs vl bn ck) =
(
 bif decide (ofNat k<ofNat (t.L y i).nt) then
 bif decide (0<=ofNat k)&&decide (ofNat k<ofNat (t.L y i).nt) then
 bif decide (IntKind.i64=IntKind.i64)&&true&&decide (ofNat (bif hs [((t.L y i).th k).y,((t.L y i).th k).n] then bn [((t.L y i).th k).y,((t.L y i).th k).n]
 else ck)=ofNat (bif hs [((t.L y i).th k).y,((t.L y i).th k).n] then bn [((t.L y i).th k).y,((t.L y i).th k).n]
 else ck)) then
 bif decide ((1:Int) <
 bif decide (((t.L y i).th k).y=((t.L y i).th k).y)&&(decide (((t.L y i).th k).n=((t.L y i).th k).n)&&true) then i64.wrap (vl [((t.L y i).th k).y,((t.L y i).th k).n]+(1:Int))
 else
 bif decide (((t.L y i).th k).y=((t.L y i).th k).y)&&(decide (((t.L y i).th k).n=((t.L y i).th k).n)&&true) then vl [((t.L y i).th k).y,((t.L y i).th k).n]
 else vl [((t.L y i).th k).y,((t.L y i).th k).n]) then
 some ((.ret,qea (iI 8) t y i,QW (fun l=>keq l [((t.L y i).th k).y,((t.L y i).th k).n] || (keq l [((t.L y i).th k).y,((t.L y i).th k).n] || hs l)) (fun l =>
 bif keq l [((t.L y i).th k).y,((t.L y i).th k).n] then i64.wrap (vl [((t.L y i).th k).y,((t.L y i).th k).n]+(1:Int))
 else
 bif keq l [((t.L y i).th k).y,((t.L y i).th k).n] then vl [((t.L y i).th k).y,((t.L y i).th k).n]
 else vl l) (fun l =>
 bif keq l [((t.L y i).th k).y,((t.L y i).th k).n] then
 bif decide (((t.L y i).th k).y=((t.L y i).th k).y)&&(decide (((t.L y i).th k).n=((t.L y i).th k).n)&&true) || hs [((t.L y i).th k).y,((t.L y i).th k).n] then
 bif decide (((t.L y i).th k).y=((t.L y i).th k).y)&&(decide (((t.L y i).th k).n=((t.L y i).th k).n)&&true) then
 bif hs [((t.L y i).th k).y,((t.L y i).th k).n] then bn [((t.L y i).th k).y,((t.L y i).th k).n]
 else ck
 else bn [((t.L y i).th k).y,((t.L y i).th k).n]
 else
 bif hs [((t.L y i).th k).y,((t.L y i).th k).n] then ck
 else ck+1
 else
 bif keq l [((t.L y i).th k).y,((t.L y i).th k).n] then
 bif hs [((t.L y i).th k).y,((t.L y i).th k).n] then bn [((t.L y i).th k).y,((t.L y i).th k).n]
 else ck
 else bn l) (bif decide (((t.L y i).th k).y=((t.L y i).th k).y)&&(decide (((t.L y i).th k).n=((t.L y i).th k).n)&&true) || hs [((t.L y i).th k).y,((t.L y i).th k).n] then
 bif hs [((t.L y i).th k).y,((t.L y i).th k).n] then ck
 else ck+1
 else(bif hs [((t.L y i).th k).y,((t.L y i).th k).n] then ck
 else ck+1)+(1:Nat))))
 else
 some ((.normal,[T.mp (0:Nat) (0:Nat),t.v,iI (.ofNat t.h),iI (.ofNat y),lpV (t.L y) (t.ln y)
 none,iI (.ofNat (t.ln y)),iI (.ofNat i),idV (t.L y i).th (t.L y i).nt
 none,iI (.ofNat (t.L y i).nt),iI (i64.wrap (ofNat k+1))],QW (fun l=>keq l [((t.L y i).th k).y,((t.L y i).th k).n] || (keq l [((t.L y i).th k).y,((t.L y i).th k).n] || hs l)) (fun l =>
 bif keq l [((t.L y i).th k).y,((t.L y i).th k).n] then i64.wrap (vl [((t.L y i).th k).y,((t.L y i).th k).n]+(1:Int))
 else
 bif keq l [((t.L y i).th k).y,((t.L y i).th k).n] then vl [((t.L y i).th k).y,((t.L y i).th k).n]
 else vl l) (fun l =>
 bif keq l [((t.L y i).th k).y,((t.L y i).th k).n] then
 bif decide (((t.L y i).th k).y=((t.L y i).th k).y)&&(decide (((t.L y i).th k).n=((t.L y i).th k).n)&&true) || hs [((t.L y i).th k).y,((t.L y i).th k).n] then
 bif decide (((t.L y i).th k).y=((t.L y i).th k).y)&&(decide (((t.L y i).th k).n=((t.L y i).th k).n)&&true) then
 bif hs [((t.L y i).th k).y,((t.L y i).th k).n] then bn [((t.L y i).th k).y,((t.L y i).th k).n]
 else ck
 else bn [((t.L y i).th k).y,((t.L y i).th k).n]
 else
 bif hs [((t.L y i).th k).y,((t.L y i).th k).n] then ck
 else ck+1
 else
 bif keq l [((t.L y i).th k).y,((t.L y i).th k).n] then
 bif hs [((t.L y i).th k).y,((t.L y i).th k).n] then bn [((t.L y i).th k).y,((t.L y i).th k).n]
 else ck
 else bn l) (bif decide (((t.L y i).th k).y=((t.L y i).th k).y)&&(decide (((t.L y i).th k).n=((t.L y i).th k).n)&&true) || hs [((t.L y i).th k).y,((t.L y i).th k).n] then
 bif hs [((t.L y i).th k).y,((t.L y i).th k).n] then ck
 else ck+1
 else(bif hs [((t.L y i).th k).y,((t.L y i).th k).n] then ck
 else ck+1)+(1:Nat))))
 else none else none else
 some ((.exit 4,qea .undef t y i,QW hs vl bn ck))):=by kernel_rfl
theorem qjU(t:Tbl)(y i:Nat)(hs hs1 hs2:List Int->Bool)(vl vl1 vl2:List Int->Int)(bn bn1 bn2:List Int->Nat)(ck ck1 ck2:Nat)(x:List T->qk->Ex->List T->qk->Prop)(b:Bool):QH P16 G16 A16 qp 0 134 (qiG x t y i b (QW hs1 vl1 bn1 ck1) (QW hs2 vl2 bn2 ck2)) 6 (qgD t y i) (QW hs vl bn ck) =
(
 bif decide (ofNat i<ofNat (t.ln y)) then
 bif decide (0<=ofNat i)&&decide (ofNat i<ofNat (t.ln y)) then
 bif b then
 bif qC (x (qgC t y i (nat_lit 0)) (QW hs vl bn ck) (.exit 4) (qea .undef t y i) (QW hs1 vl1 bn1 ck1)) then
 some ((.normal,[T.mp (0:Nat) (0:Nat),t.v,iI (.ofNat t.h),iI (.ofNat y),lpV (t.L y) (t.ln y)
 none,iI (.ofNat (t.ln y)),iI (i64.wrap (ofNat i+1))],QW hs1 vl1 bn1 ck1))
 else none else
 bif qC (x (qgC t y i (nat_lit 0)) (QW hs vl bn ck) .ret (qea (iI 8) t y i) (QW hs2 vl2 bn2 ck2)) then
 some ((.ret,qeb (iI 8) t y,QW hs2 vl2 bn2 ck2))
 else none else none else
 some ((.exit 2,qeb .undef t y,QW hs vl bn ck))):=by kernel_rfl
theorem qjV(t:Tbl)(y:Nat)(hs hs1 hs2:List Int->Bool)(vl vl1 vl2:List Int->Int)(bn bn1 bn2:List Int->Nat)(ck ck1 ck2:Nat)(x:List T->qk->Ex->List T->qk->Prop)(b:Bool):QH P16 G16 A16 qp 0 134 (qiH x t y b (QW hs1 vl1 bn1 ck1) (QW hs2 vl2 bn2 ck2)) 3 (qgE t y) (QW hs vl bn ck) =
(
 bif decide (ofNat y<ofNat t.h) then
 bif decide (0<=ofNat y)&&decide (ofNat y<ofNat t.h) then
 bif b then
 bif qC (x (qgD t y (nat_lit 0)) (QW hs vl bn ck) (.exit 2) (qeb .undef t y) (QW hs1 vl1 bn1 ck1)) then
 some ((.normal,[T.mp (0:Nat) (0:Nat),t.v,iI (.ofNat t.h),iI (i64.wrap (ofNat y+1))],QW hs1 vl1 bn1 ck1))
 else none else
 bif qC (x (qgD t y (nat_lit 0)) (QW hs vl bn ck) .ret (qeb (iI 8) t y) (QW hs2 vl2 bn2 ck2)) then
 some ((.ret,[iI 8],QW hs2 vl2 bn2 ck2))
 else none else none else
 some ((.exit 0,[.undef],QW hs vl bn ck))):=by kernel_rfl
theorem k37(t:Tbl)(hs1 hs2:List Int->Bool)(vl1 vl2:List Int->Int)(bn1 bn2:List Int->Nat)(ck1 ck2:Nat)(x:List T->qk->Ex->List T->qk->Prop)(b:Bool):y6 P16 G16 A16 qp 0 134 (l37 x b (QW hs1 vl1 bn1 ck1) (QW hs2 vl2 bn2 ck2)) [t.v] =
(
 bif b then
 bif qC (x (qgE t (nat_lit 0)) (QW (fun x=>false) (fun x=>(0:Int)) (fun x=>(0:Nat)) (0:Nat)) (.exit 0) [.undef] (QW hs1 vl1 bn1 ck1)) then
 some (iI 0)
 else none else
 bif qC (x (qgE t (nat_lit 0)) (QW (fun x=>false) (fun x=>(0:Int)) (fun x=>(0:Nat)) (0:Nat)) .ret [iI 8] (QW hs2 vl2 bn2 ck2)) then
 some (iI 8)
 else
 none):=by kernel_rfl
end
theorem qfP:∀{L:List (List Int)},L.Nodup->∀K,vF L K=if K∈L then 1 else 0
 |[],_,K=>by simp[vF]
 |a::L,h,K=>by
  rw[List.nodup_cons] at h;have ih:=qfP h.2;show tkV a (vF L) K=_;unfold tkV;by_cases q:K=a
  ·subst q;rw[ZJ,ih K,if_neg h.1,if_pos List.mem_cons_self];rfl
  ·rw[qct q,cond_false,cond_false,ih K];simp only[List.mem_cons,q,false_or]
theorem qhA(f:Nat->Idd)(L:List (List Int))(hL:L.Nodup):∀k,(∀j,j<k->kyI (f j)∉kA f j L)->(kA f k L).Nodup
 |0,_=>hL
 |k+1,h=>List.nodup_cons.2 ⟨h k (by omega),qhA f L hL k fun j hj=>h j (by omega)⟩
theorem qjW(t:Tbl)(y i:Nat)(hL:(kB (t.L y) i (kC t y)).Nodup)(h:tgI t y i=true):(kB (t.L y) (i+1) (kC t y)).Nodup:=by
 refine qhA _ _ hL _ fun j hj=>?_;have:=(qP _ _).1 h j hj;unfold tgK at this;simpa using this
theorem qdd(t:Tbl)(y:Nat)(hL:(kC t y).Nodup):∀n,(∀i,i<n->tgI t y i=true)->(kB (t.L y) n (kC t y)).Nodup
 |0,_=>hL
 |n+1,h=>qjW t y n (qdd t y hL n fun i hi=>h i (by omega)) (h n (by omega))
theorem qhB(t:Tbl):∀n,(∀y,y<n->tgY t y=true)->(kC t n).Nodup
 |0,_=>List.nodup_nil
 |n+1,h=>qdd t n (qhB t n fun y hy=>h y (by omega)) _ ((qP _ _).1 (h n (by omega)))
def qhC(vs:List T):Ex->List T->qk->Prop:=fun e v h=>e = .ret/\v=vs/\∃hs vl bn ck,h=QW hs vl bn ck
theorem qfQ(t:Tbl)(ht:t.Ok)(y i:Nat)(hL:(kB (t.L y) i (kC t y)).Nodup) :
 (tgI t y i=true->LoopOk P16 G16 (A16 134) 134 9 (Qs (qgC t y i 0) (mhL (kB (t.L y) i (kC t y))) (.exit 4) (qea .undef t y i) (mhL (kB (t.L y) (i+1) (kC t y))))) ∧
 (tgI t y i=false->∃e v h,qhC (qea (iI 8) t y i) e v h/\LoopOk P16 G16 (A16 134) 134 9 (Qs (qgC t y i 0) (mhL (kB (t.L y) i (kC t y))) e v h)):=by
 have hn:=(ht.L y i).nt;clear ht;generalize hB:kB (t.L y) i (kC t y)=L at *
 have hnd:∀k,(∀j,j<k->tgK t y i j=true)->(kA (t.L y i).th k L).Nodup:=fun k h=>qhA _ _ hL k fun j hj=>by
  have:=h j hj;unfold tgK at this;rw[hB] at this;simpa using this
 refine yN qu (by kernel_rfl) (fun k=>qgC t y i k) (fun k=>mhL (kA (t.L y i).th k L)) (tgK t y i) (n:=(t.L y i).nt) _ (fun k hk hj hg=>?_) (fun k hk hj hg=>?_) (fun _=>?_)
 ·have hv:=qfP (hnd k hj) (kyI ((t.L y i).th k));unfold tgK at hg;rw[hB] at hg;rw[if_neg (by simpa using hg)] at hv;clear hg hj hnd hL;refine Step.mk0 (A:=A16) (m:=0) qa rfl rfl ql (h1:=mhL (kA (t.L y i).th (k+1) L)) ?_ (.refl _);unfold mhL
  try dsimp only
  rw[qjT,up1 (by omega)];refine BT (BT (qt (by simp) (qK ?_ rfl)));show ¬decide (1<tkV (kyI ((t.L y i).th k)) (vF (kA (t.L y i).th k L)) (kyI ((t.L y i).th k)))=true;unfold tkV;rw[ZJ,cond_true,hv];decide
 ·have hv:=qfP (hnd k hj) (kyI ((t.L y i).th k));unfold tgK at hg;rw[hB] at hg;rw[if_pos (by simpa using hg)] at hv;clear hg hj hnd hL;refine⟨_,_,mhL (kA (t.L y i).th (k+1) L),⟨rfl,rfl,_,_,_,_,rfl⟩,?_⟩;refine Last.mk0 (A:=A16) (m:=0) qa rfl rfl ql (h1:=mhL (kA (t.L y i).th (k+1) L)) (by simp) ?_ (.refl _);unfold mhL
  try dsimp only
  rw[qjT];refine BT (BT (qt (by simp) (qt ?_ rfl)));show decide (1<tkV (kyI ((t.L y i).th k)) (vF (kA (t.L y i).th k L)) (kyI ((t.L y i).th k)))=true;unfold tkV;rw[ZJ,cond_true,hv];decide
 ·refine Last.mk0 (A:=A16) (m:=0) qa rfl rfl ql (h1:=mhL (kA (t.L y i).th (t.L y i).nt L)) (by simp) ?_ (by rw[←hB];exact .refl _);unfold mhL
  try dsimp only
  rw[qjT];exact BF rfl
theorem qfR(t:Tbl)(ht:t.Ok)(y:Nat)(hL:(kC t y).Nodup) :
 (tgY t y=true->LoopOk P16 G16 (A16 134) 134 6 (Qs (qgD t y 0) (mhL (kC t y)) (.exit 2) (qeb .undef t y) (mhL (kC t (y+1))))) ∧
 (tgY t y=false->∃e v h,qhC (qeb (iI 8) t y) e v h/\LoopOk P16 G16 (A16 134) 134 6 (Qs (qgD t y 0) (mhL (kC t y)) e v h)):=by
 obtain⟨x,hx⟩:=zv P16 G16 (A16 134) 134 9;have hn:=ht.ln y;refine yN qu (by kernel_rfl) (fun i=>qgD t y i) (fun i=>mhL (kB (t.L y) i (kC t y))) (tgI t y) (n:=t.ln y) _ (fun i hi hj hg=>?_) (fun i hi hj hg=>?_) (fun _=>?_)
 ·have t1:=(qfQ t ht y i (qdd t y hL i hj)).1 hg;clear hg hj hL ht;refine Step.mk0 (A:=A16) (m:=0) (l:=qiG x t y i true (mhL (kB (t.L y) (i+1) (kC t y))) (QW (fun _=>false) (fun _=>0) (fun _=>0) 0)) qa rfl rfl (Qo (Qh hx _)) (h1:=mhL (kB (t.L y) (i+1) (kC t y))) ?_ (.refl _);unfold mhL at *
  try dsimp only
  rw[qjU,up1 (by omega)];exact BT (BT (qt rfl (BS rfl)))
 ·obtain⟨e,v,h,⟨rfl,rfl,hs,vl,bn,ck,rfl⟩,t1⟩:=(qfQ t ht y i (qdd t y hL i hj)).2 hg;clear hg hj hL ht;refine⟨_,_,_,⟨rfl,rfl,hs,vl,bn,ck,rfl⟩,?_⟩;refine Last.mk0 (A:=A16) (m:=0) (l:=qiG x t y i false (QW (fun _=>false) (fun _=>0) (fun _=>0) 0) (QW hs vl bn ck)) qa rfl rfl (Qo (Qh hx _)) (h1:=QW hs vl bn ck) (by simp) ?_ (.refl _);unfold mhL at *
  try dsimp only
  rw[qjU];exact BT (BT (qK (by simp) (BS rfl)))
 ·refine Last.mk0 (A:=A16) (m:=0) (l:=qiG x t y (t.ln y) true (QW (fun _=>false) (fun _=>0) (fun _=>0) 0) (QW (fun _=>false) (fun _=>0) (fun _=>0) 0)) qa rfl rfl (Qo (Qh hx _)) (h1:=mhL (kC t (y+1))) (by simp) ?_ (.refl _);unfold mhL
  try dsimp only
  rw[qjU];exact BF rfl
theorem qiI(t:Tbl)(ht:t.Ok) :
 (qY (tgY t) t.h=true->LoopOk P16 G16 (A16 134) 134 3 (Qs (qgE t 0) (mhL []) (.exit 0) [.undef] (mhL (kC t t.h)))) ∧
 (qY (tgY t) t.h=false->∃e v h,qhC [iI 8] e v h/\LoopOk P16 G16 (A16 134) 134 3 (Qs (qgE t 0) (mhL []) e v h)):=by
 obtain⟨x,hx⟩:=zv P16 G16 (A16 134) 134 6;have hn:=ht.h;refine yN qu (by kernel_rfl) (fun y=>qgE t y) (fun y=>mhL (kC t y)) (tgY t) (n:=t.h) _ (fun y hy hj hg=>?_) (fun y hy hj hg=>?_) (fun _=>?_)
 ·have t1:=(qfR t ht y (qhB t y hj)).1 hg;clear hg hj ht;refine Step.mk0 (A:=A16) (m:=0) (l:=qiH x t y true (mhL (kC t (y+1))) (QW (fun _=>false) (fun _=>0) (fun _=>0) 0)) qa rfl rfl (Qo (Qh hx _)) (h1:=mhL (kC t (y+1))) ?_ (.refl _);unfold mhL at *
  try dsimp only
  rw[qjV,up1 (by omega)];exact BT (BT (qt rfl (BS rfl)))
 ·obtain⟨e,v,h,⟨rfl,rfl,hs,vl,bn,ck,rfl⟩,t1⟩:=(qfR t ht y (qhB t y hj)).2 hg;clear hg hj ht;refine⟨_,_,_,⟨rfl,rfl,hs,vl,bn,ck,rfl⟩,?_⟩;refine Last.mk0 (A:=A16) (m:=0) (l:=qiH x t y false (QW (fun _=>false) (fun _=>0) (fun _=>0) 0) (QW hs vl bn ck)) qa rfl rfl (Qo (Qh hx _)) (h1:=QW hs vl bn ck) (by simp) ?_ (.refl _);unfold mhL at *
  try dsimp only
  rw[qjV];exact BT (BT (qK (by simp) (BS rfl)))
 ·refine Last.mk0 (A:=A16) (m:=0) (l:=qiH x t t.h true (QW (fun _=>false) (fun _=>0) (fun _=>0) 0) (QW (fun _=>false) (fun _=>0) (fun _=>0) 0)) qa rfl rfl (Qo (Qh hx _)) (h1:=mhL (kC t t.h)) (by simp) ?_ (.refl _);unfold mhL
  try dsimp only
  rw[qjV];exact BF rfl
theorem qbM(t:Tbl)(ht:t.Ok):ToldOk P16 G16 134 [t.v] (iI (bif qY (tgY t) t.h then 0 else 8)):=by
 obtain⟨x,hx⟩:=zv P16 G16 (A16 134) 134 3;have h:=qiI t ht;generalize qY (tgY t) t.h=b at h ⊢;cases b
 ·obtain⟨e,v,hh,⟨rfl,rfl,hs,vl,bn,ck,rfl⟩,t1⟩:=h.2 rfl;clear h ht;refine Qr qu qX (K:=qp) qa (A:=A16) (m:=0) (l:=l37 x false (QW (fun _=>false) (fun _=>0) (fun _=>0) 0) (QW hs vl bn ck)) (by kernel_rfl) (Qo (Qh hx _)) ?_;rw[k37];unfold mhL at t1;exact qK (by simp) (BS rfl)
 ·have t1:=h.1 rfl;clear h ht;refine Qr qu qX (K:=qp) qa (A:=A16) (m:=0) (l:=l37 x true (mhL (kC t t.h)) (QW (fun _=>false) (fun _=>0) (fun _=>0) 0)) (by kernel_rfl) (Qo (Qh hx _)) ?_;unfold mhL at *
  rw[k37];exact qt rfl (BS rfl)
def bkR(g:Nat->Idd)(n:Nat):Blk:=⟨0,2,n,fun e=>(g e).c,true,false,none⟩
def bkN(m:Nat->Int)(h:Nat):Blk:=⟨0,1,h,fun e=>[iI (m e)],true,false,none⟩
def h38(g:Nat->Idd)(n:Nat)(m s:Nat->Int)(h:Nat):qk:=[bkR g n,bkN m h,bkN s h]
def qah(t:Tbl)(n R bf y:Nat)(l:Lpp):List T:=[t.v,iI n,.own 0 0 0 R (some n),.own 1 0 0 t.h (some t.h),.own 2 0 0 t.h (some t.h),iI bf,iI y,.reg l.c,t.v,iI t.h,iI y]
def qbi(t:Tbl)(n R bf y:Nat):List T:=[t.v,iI n,.own 0 0 0 R (some n),.own 1 0 0 t.h (some t.h),.own 2 0 0 t.h (some t.h),iI bf,iI y,t.v,iI t.h,iI y]
def qbN(t:Tbl)(n R bf y:Nat):List T:=[t.v,iI n,.own 0 0 0 R (some n),.own 1 0 0 t.h (some t.h),.own 2 0 0 t.h (some t.h),iI bf,t.v,iI t.h,iI y]
def qgF(t:Tbl)(n R:Nat):List T:=[t.v,iI n,.own 0 0 0 R (some n),.own 1 0 0 t.h (some t.h),.own 2 0 0 t.h (some t.h)]
noncomputable def K38(p:List T->T->Prop)(n:Nat):Orc:=qp.add 69 (qI p fun _=>some (iI n))
noncomputable def qiJ(p:List T->T->Prop)(a:Idd):Orc:=qp.add 148 (qI p fun _=>some (.agg a.c))
noncomputable def qhD(x:List T->qk->Ex->List T->qk->Prop)(t:Tbl)(n R bf y:Nat)(b:Bool)(h1 h2:qk):List (Nat×(List T->qk->LT)) :=
 [(12,ZX x (.ite b (.ret (.exit 4) (qbi t n R bf y) h1) (.ret (.exit 3) (qbi t n R bf y) h2)))]
def qde(t:Tbl)(n R bf:Nat):List T:=[t.v,iI n,.own 0 0 0 R (some n),.own 1 0 0 t.h (some t.h),.own 2 0 0 t.h (some t.h),iI bf]
def thr(m:Nat->Int)(a:Idd):Bool:=decide (a.n<m (a.y-1).toNat)
def upd(s:Nat->Int)(y:Nat)(v:Int):Nat->Int:=fun e=>bif e==y then v else s e
theorem qhE(s:Nat->Int)(y:Nat):upd s y (s y)=s:=by
 funext e;show(bif e==y then s y else s e)=s e;by_cases h:e=y
 ·rw[h];cases (y==y)<;>rfl
 ·rw[beq_eq_false_iff_ne.2 h];rfl
theorem Js(s:Nat->Int)(y:Nat)(v:Int):upd s y v y=v:=by simp[upd]
theorem qiK(s:Nat->Int)(y:Nat)(v w:Int):upd (upd s y v) y w=upd s y w:=by
 funext e;unfold upd;cases (e==y)<;>rfl
theorem qjX(t:Tbl)(n R bf y:Nat)(l:Lpp)(g:Nat->Idd)(m s:Nat->Int)(p:List T->T->Prop)(a:Idd):QH P16 G16 A16 (qiJ p a) 0 135 [] 12 (qah t n R bf y l) (h38 g n m s t.h) =
(
 bif decide (0<=ofNat y)&&decide (ofNat y<ofNat t.h) then
 bif ((0:Nat)+y).blt t.h then
 bif decide (s (0+y)<i64.wrap (ofNat l.nt+ofNat l.np)) then
 bif decide (0<=ofNat y)&&decide (ofNat y<ofNat t.h) then
 bif ((0:Nat)+y).blt t.h then
 bif qC (p [.agg l.c,iI (s (0+y))] (.agg a.c)) then
 bif decide (0<=u8.wrap (a.y-1))&&decide (u8.wrap (a.y-1)<ofNat t.h) then
 bif ((0:Nat)+(u8.wrap (a.y-(1:Int))).toNat).blt t.h then
 bif decide (m ((0:Nat)+(u8.wrap (a.y-(1:Int))).toNat)<=a.n) then
 some ((.exit 3,qbi t n R bf y,h38 g n m s t.h))
 else
 bif decide (0<=ofNat y)&&decide (ofNat y<ofNat t.h) then
 bif ((0:Nat)+y).blt t.h then
 bif decide (0<=ofNat y)&&decide (ofNat y<ofNat t.h) then
 bif ((0:Nat)+y).blt t.h&&true&&true&&true then
 some ((.normal,qah t n R bf y l,h38 g n m (fun e =>
 bif e==0+y then i64.wrap (s (0+y)+(1:Int))
 else s e) t.h))
 else none else none else none else none else none else none else none else none else none else
 some ((.exit 4,qbi t n R bf y,h38 g n m s t.h))
 else none else
 none):=by kernel_rfl
theorem qiL(t:Tbl)(n R bf y:Nat)(g:Nat->Idd)(m s s1 s2:Nat->Int)(x:List T->qk->Ex->List T->qk->Prop)(b:Bool):QH P16 G16 A16 qp 0 135 (qhD x t n R bf y b (h38 g n m s1 t.h) (h38 g n m s2 t.h)) 8 (qbN t n R bf y) (h38 g n m s t.h) =
(
 bif decide (ofNat y<ofNat t.h) then
 bif decide (0<=ofNat y)&&decide (ofNat y<ofNat t.h) then
 bif decide (0<=ofNat y)&&decide (ofNat y<ofNat t.h) then
 bif ((0:Nat)+y).blt t.h then
 bif decide (m (0+y)=ofNat (t.ln y)) then
 some ((.normal,[t.v,iI (.ofNat n),.own 0 0 0 R (some n),.own 1 0 0 t.h (some t.h),.own 2 0 0 t.h (some t.h),iI (.ofNat bf),t.v,iI (.ofNat t.h),iI (i64.wrap (ofNat y+1))],h38 g n m s t.h))
 else
 bif decide (0<=ofNat y)&&decide (ofNat y<ofNat t.h) then
 bif ((0:Nat)+y).blt t.h then
 bif decide (0<=m (0+y))&&decide (m (0+y)<ofNat (t.ln y)) then
 bif b then
 bif qC (x (qah t n R bf y (t.L y (m ((0:Nat)+y)).toNat)) (h38 g n m s t.h) (.exit 4) (qbi t n R bf y) (h38 g n m s1 t.h)) then
 bif decide (0<=ofNat y)&&decide (ofNat y<ofNat t.h) then
 bif ((0:Nat)+y).blt t.h then
 bif ((0:Nat)+R).ble n then
 bif ((R+(1:Nat))*(17:Nat)).ble 70368744177664 then
 bif (R+(1:Nat)).ble n then
 bif ((0:Nat)+R+(1:Nat)).ble n then
 bif decide (0<=ofNat y)&&decide (ofNat y<ofNat t.h) then
 bif ((0:Nat)+y).blt t.h then
 bif decide (0<=ofNat y)&&decide (ofNat y<ofNat t.h) then
 bif ((0:Nat)+y).blt t.h&&true&&true&&true then
 bif decide (0<=ofNat y)&&decide (ofNat y<ofNat t.h) then
 bif ((0:Nat)+y).blt t.h&&true&&true&&true then
 some ((.exit 2,qde t n (R+1) bf,[.mk 0 2 n (fun j =>
 bif ((0:Nat)+R).ble j&&j.blt ((0:Nat)+R+1) then [[uI (u8.wrap (i64.wrap (ofNat y+(1:Int)))),iI (m ((0:Nat)+y))]].getD ((0:Nat)+(j-((0:Nat)+R))) []
 else(g j).c) true false
 none,bkN (fun e =>
 bif e==0+y then i64.wrap (m (0+y)+(1:Int))
 else m e) t.h,bkN (fun e =>
 bif e==0+y then(0:Int)
 else s1 e) t.h,.mk 0 2 1 (fun j=>[[uI (u8.wrap (i64.wrap (ofNat y+(1:Int)))),iI (m ((0:Nat)+y))]].getD j []) true true
 none]))
 else none else none else none else none else none else none else none else
 bif decide (0<=ofNat y)&&decide (ofNat y<ofNat t.h) then
 bif ((0:Nat)+y).blt t.h then
 bif decide (0<=ofNat y)&&decide (ofNat y<ofNat t.h) then
 bif ((0:Nat)+y).blt t.h&&true&&true&&true then
 bif decide (0<=ofNat y)&&decide (ofNat y<ofNat t.h) then
 bif ((0:Nat)+y).blt t.h&&true&&true&&true then
 some ((.exit 2,[t.v,iI (.ofNat n),.own 4 0 0 (R+1)
 none,.own 1 0 0 t.h (some t.h),.own 2 0 0 t.h (some t.h),iI (.ofNat bf)],[bkR g n,bkN (fun e =>
 bif e==0+y then i64.wrap (m (0+y)+(1:Int))
 else m e) t.h,bkN (fun e =>
 bif e==0+y then(0:Int)
 else s1 e) t.h,.mk 0 2 1 (fun j=>[[uI (u8.wrap (i64.wrap (ofNat y+(1:Int)))),iI (m ((0:Nat)+y))]].getD j []) true true
 none,.mk 0 2 (R+1) (fun j =>
 bif j.blt R then(g ((0:Nat)+j)).c
 else [[uI (u8.wrap (i64.wrap (ofNat y+(1:Int)))),iI (m ((0:Nat)+y))]].getD ((0:Nat)+(j-R)) []) true false
 none]))
 else none else none else none else none else none else none else none else none else none else none else none else
 bif qC (x (qah t n R bf y (t.L y (m ((0:Nat)+y)).toNat)) (h38 g n m s t.h) (.exit 3) (qbi t n R bf y) (h38 g n m s2 t.h)) then
 some ((.normal,[t.v,iI (.ofNat n),.own 0 0 0 R (some n),.own 1 0 0 t.h (some t.h),.own 2 0 0 t.h (some t.h),iI (.ofNat bf),t.v,iI (.ofNat t.h),iI (i64.wrap (ofNat y+1))],h38 g n m s2 t.h))
 else none else none else none else none else none else none else none else
 some ((.exit 2,qde t n R bf,h38 g n m s t.h))):=by kernel_rfl
theorem qjs(t:Tbl)(ht:t.Ok)(n R bf y:Nat)(l:Lpp)(hl:l.Ok)(g:Nat->Idd)(m s:Nat->Int)(hy:y<t.h)(k:Nat)(hs:s y=(k:Int))(hk:k<l.nt+l.np)(hh:t.has (zF l k)=true)(hok:(zF l k).Ok){ex:Bool}(hg:thr m (zF l k)=ex) :
 (bif ex then Step P16 G16 (A16 135) 135 12 3 (qah t n R bf y l) (h38 g n m s t.h) (qah t n R bf y l) (h38 g n m (upd s y ((k:Int)+1)) t.h)
  else Last P16 G16 (A16 135) 135 12 3 (qah t n R bf y l) (h38 g n m s t.h) (.exit 3) (qbi t n R bf y) (h38 g n m s t.h))=True:=by
 obtain⟨p,hp⟩:=qE P16 G16 148;have t1:=qkS l hl k hk;have hth:=ht.h;have hn1:=hl.nt;have hn2:=hl.np;have hyy:=hok.y;clear ht hl hok;unfold Tbl.has at hh;unfold thr at hg;simp only[Bool.and_eq_true,decide_eq_true_eq] at hh;obtain⟨⟨⟨q1,q2⟩,q3⟩,q4⟩:=hh;generalize zF l k=a at *
 have hw:u8.wrap (a.y-1)=a.y-1:=wr8 (by omega) (by omega);cases ex
 ·refine eq_true ?_;refine Last.mk0 (A:=A16) (m:=0) (K:=qiJ p a) (qv qa (qr hp)) rfl rfl ql (h1:=h38 g n m s t.h) (by simp) ?_ (.refl _);rw[qjX];have hg:=of_decide_eq_false hg;simp only[Nat.zero_add,hs,hw]
  (repeat (first|refine BS ?_|refine BF ?_))
  rfl
 ·refine eq_true ?_;refine Step.mk0 (A:=A16) (m:=0) (K:=qiJ p a) (qv qa (qr hp)) rfl rfl ql (h1:=h38 g n m (upd s y ((k:Int)+1)) t.h) ?_ (.refl _);rw[qjX];have hg:=of_decide_eq_true hg;have hu:i64.wrap ((k:Int)+1)=(k:Int)+1:=Y8 (by omega) (by omega);simp only[Nat.zero_add,hs,hw,hu]
  (repeat (first|refine BS ?_|refine BF ?_))
  rfl
def qjY(t:Tbl)(n R bf y:Nat)(l:Lpp)(g:Nat->Idd)(m s:Nat->Int)(c:Nat):Ex->List T->qk->Prop:=fun e v h=>e = .exit 3/\v=qbi t n R bf y ∧
 ∃j:Nat,c<=j/\j<l.nt+l.np/\thr m (zF l j)=false/\(∀i,c<=i->i<j->thr m (zF l i)=true)/\h=h38 g n m (upd s y j) t.h
theorem qjZ(t:Tbl)(ht:t.Ok)(n R bf y:Nat)(l:Lpp)(hl:l.Ok)(g:Nat->Idd)(m s:Nat->Int)(hy:y<t.h)(c:Nat)(hc:c<=l.nt+l.np)(hh:∀i,i<l.nt+l.np->t.has (zF l i)=true)(hok:∀i,(zF l i).Ok) :
 (qY (fun k=>thr m (zF l (c+k))) (l.nt+l.np-c)=true->LoopOk P16 G16 (A16 135) 135 12 (Qs (qah t n R bf y l) (h38 g n m (upd s y ((c+0:Nat):Int)) t.h) (.exit 4) (qbi t n R bf y) (h38 g n m (upd s y ((l.nt+l.np:Nat):Int)) t.h))) ∧
 (qY (fun k=>thr m (zF l (c+k))) (l.nt+l.np-c)=false->∃e v h,qjY t n R bf y l g m s c e v h/\LoopOk P16 G16 (A16 135) 135 12 (Qs (qah t n R bf y l) (h38 g n m (upd s y ((c+0:Nat):Int)) t.h) e v h)):=by
 refine yN qu (by kernel_rfl) (fun k=>qah t n R bf y l) (fun k=>h38 g n m (upd s y ((c+k:Nat):Int)) t.h) _ (n:=l.nt+l.np-c) _ (fun k hk hj hg=>?_) (fun k hk hj hg=>?_) (fun _=>?_)
 ·have r:=of_eq_true (qjs t ht n R bf y l hl g m (upd s y ((c+k:Nat):Int)) hy (c+k) (Js _ _ _) (by omega) (hh _ (by omega)) (hok _) hg);rw[qiK] at r;exact r
 ·have r:=of_eq_true (qjs t ht n R bf y l hl g m (upd s y ((c+k:Nat):Int)) hy (c+k) (Js _ _ _) (by omega) (hh _ (by omega)) (hok _) hg);refine⟨_,_,_,⟨rfl,rfl,c+k,by omega,by omega,hg,fun i h1 h2=>?_,rfl⟩,r⟩;have:=hj (i-c) (by omega);rw[show c+(i-c)=i by omega] at this;exact this
 ·rw[show c+(l.nt+l.np-c)=l.nt+l.np by omega];have hs:upd s y ((l.nt+l.np:Nat):Int) y=((l.nt+l.np:Nat):Int):=Js _ _ _;generalize upd s y ((l.nt+l.np:Nat):Int)=s at *
  have hth:=ht.h;have hn1:=hl.nt;have hn2:=hl.np;clear ht hl hh hok;obtain⟨p,hp⟩:=qE P16 G16 148;refine Last.mk0 (A:=A16) (m:=0) (K:=qiJ p ⟨0,0⟩) (qv qa (qr hp)) rfl rfl ql (h1:=h38 g n m s t.h) (by simp) ?_ (.refl _);rw[qjX];simp only[Nat.zero_add,hs]
  (repeat (first|refine BS ?_|refine BF ?_))
  rfl
def qfd(g:Nat->Idd)(R:Nat)(a:Idd):Nat->Idd:=fun e=>bif e==R then a else g e
theorem qhF(g:Nat->Idd)(R:Nat)(a:Idd)(j:Nat):(qfd g R a j).c=(bif Nat.ble R j&&Nat.blt j (R+1) then([a.c]:List (List T)).getD (j-R) [] else(g j).c):=by
 unfold qfd;by_cases h:j=R
 ·subst h;rw[QC (Nat.le_refl _),QX (by omega),Nat.sub_self,show(j==j)=true by simp];rfl
 ·rw[show(j==R)=false by simpa using h];by_cases q:R<=j
  ·rw[QC q,qad (by omega)];rfl
  ·rw[qd3 (by omega)];rfl
theorem qkW(t:Tbl)(n R bf:Nat)(g:Nat->Idd)(m s:Nat->Int):Last P16 G16 (A16 135) 135 8 3 (qbN t n R bf t.h) (h38 g n m s t.h) (.exit 2) (qde t n R bf) (h38 g n m s t.h):=by
 obtain⟨x,hx⟩:=zv P16 G16 (A16 135) 135 12;refine Last.mk0 (A:=A16) (m:=0) (l:=qhD x t n R bf t.h true (h38 g n m s t.h) (h38 g n m s t.h)) qa rfl rfl (Qo (Qh hx _)) (h1:=h38 g n m s t.h) (by simp) ?_ (.refl _);rw[qiL];exact BF rfl
theorem qj0(t:Tbl)(ht:t.Ok)(n R bf y:Nat)(g:Nat->Idd)(m s:Nat->Int)(hy:y<t.h)(hm:m y=(t.ln y:Int)):Step P16 G16 (A16 135) 135 8 3 (qbN t n R bf y) (h38 g n m s t.h) (qbN t n R bf (y+1)) (h38 g n m s t.h):=by
 obtain⟨x,hx⟩:=zv P16 G16 (A16 135) 135 12;have hth:=ht.h;clear ht;refine Step.mk0 (A:=A16) (m:=0) (l:=qhD x t n R bf y true (h38 g n m s t.h) (h38 g n m s t.h)) qa rfl rfl (Qo (Qh hx _)) (h1:=h38 g n m s t.h) ?_ (.refl _);rw[qiL,up1 (by omega)];simp only[Nat.zero_add,hm]
 (repeat (first|refine BS ?_|refine BF ?_))
 rfl
theorem qj1(t:Tbl)(ht:t.Ok)(n R bf y:Nat)(g:Nat->Idd)(m s s2:Nat->Int)(hy:y<t.h)(k:Nat)(hm:m y=(k:Int))(hk:k<t.ln y)
 (hl:LoopOk P16 G16 (A16 135) 135 12 (Qs (qah t n R bf y (t.L y k)) (h38 g n m s t.h) (.exit 3) (qbi t n R bf y) (h38 g n m s2 t.h))):Step P16 G16 (A16 135) 135 8 3 (qbN t n R bf y) (h38 g n m s t.h) (qbN t n R bf (y+1)) (h38 g n m s2 t.h):=by
 obtain⟨x,hx⟩:=zv P16 G16 (A16 135) 135 12;have hth:=ht.h;have hln:=ht.ln y;clear ht;refine Step.mk0 (A:=A16) (m:=0) (l:=qhD x t n R bf y false (h38 g n m s t.h) (h38 g n m s2 t.h)) qa rfl rfl (Qo (Qh hx _)) (h1:=h38 g n m s2 t.h) ?_ (.refl _);rw[qiL,up1 (by omega)];simp only[Nat.zero_add,hm,Int.toNat_natCast]
 (repeat (first|refine BS ?_|refine BF ?_))
 rfl
theorem qj2(t:Tbl)(ht:t.Ok)(n R bf y:Nat)(g:Nat->Idd)(m s s1:Nat->Int)(hy:y<t.h)(h255:t.h<=255)(k:Nat)(hm:m y=(k:Int))(hk:k<t.ln y)(hR:R<n)(hn:n<=10000000)
 (hl:LoopOk P16 G16 (A16 135) 135 12 (Qs (qah t n R bf y (t.L y k)) (h38 g n m s t.h) (.exit 4) (qbi t n R bf y) (h38 g n m s1 t.h))):Last P16 G16 (A16 135) 135 8 3 (qbN t n R bf y) (h38 g n m s t.h) (.exit 2) (qde t n (R+1) bf) (h38 (qfd g R ⟨(y:Int)+1,k⟩) n (upd m y ((k:Int)+1)) (upd s1 y 0) t.h):=by
 obtain⟨x,hx⟩:=zv P16 G16 (A16 135) 135 12;have hth:=ht.h;have hln:=ht.ln y;clear ht;have h8:u8.wrap (ofNat (y+1))=((y:Int)+1):=by rw[wr8 (by show(0:Int)<=((y+1:Nat):Int);omega) (by show((y+1:Nat):Int)<=255;omega)];show((y+1:Nat):Int)=_;omega
 have h64:i64.wrap ((k:Int)+1)=(k:Int)+1:=Y8 (by omega) (by omega);refine Last.mk (A:=A16) (m:=0) (l:=qhD x t n R bf y true (h38 g n m s1 t.h) (h38 g n m s t.h)) qa rfl rfl (Qo (Qh hx _)) (vs':=qde t n (R+1) bf) (by simp) 3 (Nat.le_refl _) (h1:=[⟨0,2,n,fun j=>bif Nat.ble R j&&Nat.blt j (R+1) then([[uI ((y:Int)+1),iI k]]:List (List T)).getD (j-R) [] else(g j).c,true,false,none⟩,bkN (upd m y ((k:Int)+1)) t.h,bkN (upd s1 y 0) t.h,⟨0,2,1,fun j=>[[uI ((y:Int)+1),iI k]].getD j [],true,true,none⟩]) ?_ (by rfl) (.cons ⟨rfl,rfl,rfl,id,fun j _=>qhF g R ⟨(y:Int)+1,k⟩ j⟩ (.refl _));rw[qiL,up1 (by omega)];simp only[Nat.zero_add,hm,Int.toNat_natCast,h8,h64]
 (repeat (first|refine BS ?_|refine BF ?_))
 rfl
def cM(M:Nat->Nat):Nat->Int:=fun e=>(M e:Int)
def nN(t:Tbl)(M:Nat->Nat)(y:Nat):Nat:=(t.L y (M y)).nt+(t.L y (M y)).np
def rdy(t:Tbl)(M:Nat->Nat)(y:Nat):Bool:=decide (M y<t.ln y)&&qY (fun i=>thr (cM M) (zF (t.L y (M y)) i)) (nN t M y)
def inc(M:Nat->Nat)(y:Nat):Nat->Nat:=fun e=>bif e==y then M e+1 else M e
theorem qfe(M:Nat->Nat)(y:Nat):inc M y y=M y+1:=by unfold inc;simp
theorem qbj(M:Nat->Nat){y e:Nat}(h:e≠y):inc M y e=M e:=by unfold inc;rw[show(e==y)=false by simpa using h];rfl
theorem qj3(M:Nat->Nat)(y:Nat):upd (cM M) y ((M y:Int)+1)=cM (inc M y):=by
 funext e;by_cases h:e=y
 ·rw[h,Js];unfold cM;rw[qfe];omega
 ·unfold cM;rw[qbj M h];unfold upd;rw[show(e==y)=false by simpa using h];rfl
theorem qiM{M:Nat->Nat}{y:Nat}{a:Idd}(h:thr (cM M) a=true):thr (cM (inc M y)) a=true:=by
 unfold thr cM at *
 rw[decide_eq_true_eq] at *
 by_cases q:(a.y-1).toNat=y
 ·rw[q] at h ⊢;rw[qfe];omega
 ·rw[qbj M q];exact h
def SOk(t:Tbl)(M:Nat->Nat)(s:Nat->Int):Prop:=∀y,y<t.h->∃c:Nat,s y=(c:Int)/\c<=nN t M y/\∀i,i<c->thr (cM M) (zF (t.L y (M y)) i)=true
def TR(t:Tbl):Prop:=∀y i,y<t.h->i<t.ln y->∀k,k<(t.L y i).nt+(t.L y i).np->t.has (zF (t.L y i) k)=true
def MOk(t:Tbl)(M:Nat->Nat):Prop:=∀y,y<t.h->M y<=t.ln y
theorem qj4{l:Lpp}(hl:l.Ok)(i:Nat):(zF l i).Ok:=by
 unfold zF;by_cases h:i<l.nt
 ·rw[if_pos h];exact hl.th i
 ·rw[if_neg h];exact(hl.ps _).i
theorem SOk.upd{t:Tbl}{M:Nat->Nat}{s:Nat->Int}(h:SOk t M s){y c:Nat}(hc:c<=nN t M y)(hg:∀i,i<c->thr (cM M) (zF (t.L y (M y)) i)=true):SOk t M (Go.Ab.upd s y c):=by
 intro z hz;by_cases q:z=y
 ·subst q;exact⟨c,Js _ _ _,hc,hg⟩
 ·obtain⟨d,q1,q2,q3⟩:=h z hz;refine⟨d,?_,q2,q3⟩;rw[←q1];unfold Go.Ab.upd;rw[show(z==y)=false by simpa using q];rfl
theorem SOk.take{t:Tbl}{M:Nat->Nat}{s:Nat->Int}(h:SOk t M s)(y:Nat):SOk t (inc M y) (Go.Ab.upd s y 0):=by
 intro z hz;by_cases q:z=y
 ·subst q;exact⟨0,Js _ _ _,Nat.zero_le _,fun i hi=>by omega⟩
 ·obtain⟨d,q1,q2,q3⟩:=h z hz;refine⟨d,?_,?_,?_⟩
  ·rw[←q1];unfold Go.Ab.upd;rw[show(z==y)=false by simpa using q];rfl
  ·unfold nN at *;rw[qbj M q];exact q2
  ·rw[qbj M q];exact fun i hi=>qiM (q3 i hi)
def qkX(t:Tbl)(n R bf:Nat)(g:Nat->Idd)(M:Nat->Nat):Ex->List T->qk->Prop:=fun e v h=>e = .exit 2 ∧
 ((∃s,(∀y,y<t.h->rdy t M y=false)/\v=qde t n R bf/\h=h38 g n (cM M) s t.h/\SOk t M s) ∨
  (∃y s,y<t.h/\rdy t M y=true/\(∀z,z<y->rdy t M z=false)/\v=qde t n (R+1) bf/\h=h38 (qfd g R ⟨(y:Int)+1,M y⟩) n (cM (inc M y)) s t.h/\SOk t (inc M y) s))
theorem qkY(t:Tbl)(ht:t.Ok)(tr:TR t)(h255:t.h<=255)(n R bf:Nat)(hR:R<n)(hn:n<=10000000)(g:Nat->Idd)(M:Nat->Nat)(hM:MOk t M)(s:Nat->Int)(hs:SOk t M s) :
 ∃e v h,qkX t n R bf g M e v h/\LoopOk P16 G16 (A16 135) 135 8 (Qs (qbN t n R bf 0) (h38 g n (cM M) s t.h) e v h):=by
 refine JU (P:=P16) (Gl:=G16) (f:=135) (r:=8) (an:=A16 135) (k:=3) qu (by kernel_rfl)
  (fun r vs h=>∃y s,r=t.h-y/\y<=t.h/\vs=qbN t n R bf y/\h=h38 g n (cM M) s t.h/\SOk t M s/\∀z,z<y->rdy t M z=false) _ ?_ (n:=t.h) rfl ⟨0,s,rfl,Nat.zero_le _,rfl,rfl,hs,fun z hz=>by omega⟩
 rintro r vs h ⟨y,s,rfl,hy,rfl,rfl,hs,hz⟩;by_cases he:y=t.h
 ·right;subst he;exact⟨_,_,_,qkW t n R bf g (cM M) s,rfl,.inl ⟨s,hz,rfl,rfl,hs⟩⟩
 ·have hy:y<t.h:=by omega
  by_cases hl:M y=t.ln y
  ·left;refine⟨t.h-(y+1),_,_,by omega,qj0 t ht n R bf y g (cM M) s hy (by unfold cM;rw[hl]),y+1,s,rfl,by omega,rfl,rfl,hs,fun z hz1=>?_⟩;by_cases q:z=y
   ·subst q;unfold rdy;rw[show decide (M z<t.ln z)=false by rw[decide_eq_false_iff_not];omega];rfl
   ·exact hz z (by omega)
  ·have hlt:M y<t.ln y:=by have:=hM y hy;omega
   obtain⟨c,q1,q2,q3⟩:=hs y hy;have sc:=qjZ t ht n R bf y (t.L y (M y)) (ht.L _ _) g (cM M) s hy c q2 (tr y (M y) hy hlt) fun i=>qj4 (ht.L _ _) i;have es:upd s y ((c+0:Nat):Int)=s:=by rw[Nat.add_zero,←q1,qhE]
   rw[es] at sc;cases hb:qY (fun k=>thr (cM M) (zF (t.L y (M y)) (c+k))) ((t.L y (M y)).nt+(t.L y (M y)).np-c)
   ·left;obtain⟨e,v,h,⟨rfl,rfl,j,p1,p2,p3,p4,rfl⟩,t1⟩:=sc.2 hb;refine⟨t.h-(y+1),_,_,by omega,qj1 t ht n R bf y g (cM M) s (upd s y j) hy (M y) rfl hlt t1,y+1,_,rfl,by omega,rfl,rfl,hs.upd (by unfold nN;omega) fun i hi=>?_,fun z hz1=>?_⟩
    ·by_cases q:i<c
     ·exact q3 i q
     ·exact p4 i (by omega) hi
    ·by_cases q:z=y
     ·subst q;unfold rdy;rw[(qbg _ _).2 ⟨j,by unfold nN;omega,p3⟩,Bool.and_false]
     ·exact hz z (by omega)
   ·right;have t1:=sc.1 hb;have hall:=(qP _ _).1 hb;refine⟨_,_,_,qj2 t ht n R bf y g (cM M) s _ hy h255 (M y) rfl hlt hR hn t1,rfl,.inr ⟨y,_,hy,?_,hz,rfl,by rw[←qj3],(hs.upd (y:=y) (c:=(t.L y (M y)).nt+(t.L y (M y)).np) (Nat.le_refl _) fun i hi=>?_).take y⟩⟩
    ·unfold rdy;rw[show decide (M y<t.ln y)=true by rw[decide_eq_true_eq];exact hlt,Bool.true_and];refine(qP _ _).2 fun i hi=>?_;by_cases q:i<c
     ·exact q3 i q
     ·have:=hall (i-c) (by unfold nN at hi;omega);rw[show c+(i-c)=i by omega] at this;exact this
    ·by_cases q:i<c
     ·exact q3 i q
     ·have:=hall (i-c) (by omega);rw[show c+(i-c)=i by omega] at this;exact this
noncomputable def qiN(x:List T->qk->Ex->List T->qk->Prop)(t:Tbl)(n R R1:Nat)(h1:qk):List (Nat×(List T->qk->LT)) :=
 [(8,ZX x (.ret (.exit 2) (qde t n R1 R) h1))]
noncomputable def l38(x:List T->qk->Ex->List T->qk->Prop)(n R:Nat)(h1:qk):List (Nat×(List T->qk->LT)) :=
 [(5,ZX x (.ret (.exit 0) [.own 0 0 0 R (some n)] h1))]
def pick(t:Tbl)(M:Nat->Nat):Option Nat:=(List.range t.h).find? (rdy t M)
def oM(t:Tbl):Nat->Nat->Nat
 |0=>fun _=>0
 |k+1=>match pick t (oM t k) with|some y=>inc (oM t k) y|none=>oM t k
def oG(t:Tbl):Nat->Nat->Idd
 |0=>fun _=>⟨0,0⟩
 |k+1=>match pick t (oM t k) with|some y=>qfd (oG t k) k ⟨(y:Int)+1,oM t k y⟩|none=>oG t k
def oOk(t:Tbl)(k:Nat):Bool:=(pick t (oM t k)).isSome
theorem qgG{t:Tbl}{M:Nat->Nat}{y:Nat}(hy:y<t.h)(hr:rdy t M y=true)(hz:∀z,z<y->rdy t M z=false):pick t M=some y:=by
 unfold pick;rw[List.find?_eq_some_iff_getElem];refine⟨hr,y,by simpa using hy,by simp,fun j hj=>?_⟩;rw[List.getElem_range,hz j hj];rfl
theorem qgH{t:Tbl}{M:Nat->Nat}(hz:∀z,z<t.h->rdy t M z=false):pick t M=none:=by
 unfold pick;rw[List.find?_eq_none];intro x hx;rw[hz x (by simpa using hx)];simp
theorem qfS{t:Tbl}{M:Nat->Nat}{y:Nat}(h:pick t M=some y):y<t.h/\rdy t M y=true:=by
 unfold pick at h;exact⟨by simpa using List.mem_of_find?_eq_some h,List.find?_some h⟩
theorem qhG(t:Tbl):∀k,MOk t (oM t k)
 |0=>fun y _=>Nat.zero_le _
 |k+1=>by
  have ih:=qhG t k;unfold oM;cases h:pick t (oM t k) with
  |none=>exact ih
  |some y =>
   intro z hz;show inc (oM t k) y z<=_;by_cases q:z=y
   ·subst q;rw[qfe];have:=(qfS h).2;unfold rdy at this;simp only[Bool.and_eq_true,decide_eq_true_eq] at this;omega
   ·rw[qbj _ q];exact ih z hz
def qkZ(t:Tbl)(n:Nat):Ex->List T->qk->Prop:=fun e v h=>e = .exit 0/\∃R s,R<=n/\(∀j,j<R->oOk t j=true)/\(R=n∨oOk t R=false)/\v=[.own 0 0 0 R (some n)]/\h=h38 (oG t R) n (cM (oM t R)) s t.h
theorem qj5(t:Tbl)(n R R1:Nat)(g g1:Nat->Idd)(m m1 s s1:Nat->Int)(x:List T->qk->Ex->List T->qk->Prop):QH P16 G16 A16 qp 0 135 (qiN x t n R R1 (h38 g1 n m1 s1 t.h)) 5 (qgF t n R) (h38 g n m s t.h) =
(
 bif decide (ofNat R<ofNat n) then
 bif qC (x (qbN t n R R (nat_lit 0)) (h38 g n m s t.h) (.exit 2) (qde t n R1 R) (h38 g1 n m1 s1 t.h)) then
 bif decide (ofNat R1=ofNat R) then
 some ((.exit 0,[.own 0 0 0 R1 (some n)],h38 g1 n m1 s1 t.h))
 else
 some ((.normal,qgF t n R1,h38 g1 n m1 s1 t.h))
 else none else
 some ((.exit 0,[.own 0 0 0 R (some n)],h38 g n m s t.h))):=by kernel_rfl
theorem k38(t:Tbl)(n R:Nat)(g:Nat->Idd)(m s:Nat->Int)(p:List T->T->Prop)(x:List T->qk->Ex->List T->qk->Prop):y6 P16 G16 A16 (K38 p n) 0 135 (l38 x n R (h38 g n m s t.h)) [t.v] =
(
 bif qC (p [t.v] (iI (.ofNat n))) then
 bif decide (0<=ofNat n)&&decide (ofNat n*16<=140737488355328)&&decide (ofNat n<=9223372036854775807) then
 bif decide (0<=ofNat t.h)&&decide (ofNat t.h<=ofNat t.h)&&decide (ofNat t.h*8<=140737488355328)&&decide (ofNat t.h<=9223372036854775807) then
 bif decide (0<=ofNat t.h)&&decide (ofNat t.h<=ofNat t.h)&&decide (ofNat t.h*8<=140737488355328)&&decide (ofNat t.h<=9223372036854775807) then
 bif qC (x (qgF t n (0:Nat)) [.mk 0 2 n (fun x=>[uI 0,iI 0]) true false
 none,bkN (fun e=>(0:Int)) t.h,bkN (fun e=>(0:Int)) t.h] (.exit 0) [.own 0 0 0 R (some n)] (h38 g n m s t.h)) then
 some (bif ((0:Nat)+R).ble n then .fresh true (2:Nat) n (fun j=>(g ((0:Nat)+j)).c) R (some n)
 else .undef)
 else none else none else none else none else
 none):=by kernel_rfl
theorem qk0(t:Tbl)(ht:t.Ok)(tr:TR t)(h255:t.h<=255)(n:Nat)(hn:n<=10000000) :
 ∃e v h,qkZ t n e v h/\LoopOk P16 G16 (A16 135) 135 5 (Qs (qgF t n 0) (h38 (oG t 0) n (cM (oM t 0)) (fun _=>0) t.h) e v h):=by
 obtain⟨x,hx⟩:=zv P16 G16 (A16 135) 135 8;refine JU (P:=P16) (Gl:=G16) (f:=135) (r:=5) (an:=A16 135) (k:=3) qu (by kernel_rfl)
  (fun r vs h=>∃k s,r=n-k/\k<=n/\vs=qgF t n k/\h=h38 (oG t k) n (cM (oM t k)) s t.h/\SOk t (oM t k) s/\∀j,j<k->oOk t j=true) _ ?_ (n:=n) rfl ⟨0,_,rfl,Nat.zero_le _,rfl,rfl,fun y _=>⟨0,rfl,Nat.zero_le _,fun i hi=>by omega⟩,fun z hz=>by omega⟩
 rintro r vs h ⟨k,s,rfl,hk,rfl,rfl,hs,hj⟩;by_cases he:k=n
 ·right;subst he;refine⟨.exit 0,[.own 0 0 0 k (some k)],h38 (oG t k) k (cM (oM t k)) s t.h,?_,rfl,k,s,hk,hj,.inl rfl,rfl,rfl⟩;refine Last.mk0 (A:=A16) (m:=0) (l:=qiN x t k k k (h38 (oG t k) k (cM (oM t k)) s t.h)) qa rfl rfl (Qo (Qh hx _)) (h1:=h38 (oG t k) k (cM (oM t k)) s t.h) (by simp) ?_ (.refl _);rw[qj5];exact BF rfl
 ·have hk:k<n:=by omega
  obtain⟨e,v,h,⟨rfl,hp⟩,t1⟩:=qkY t ht tr h255 n k k hk hn (oG t k) (oM t k) (qhG t k) s hs;clear ht tr;rcases hp with⟨s1,p1,rfl,rfl,p2⟩|⟨y,s1,p1,p2,p3,rfl,rfl,p4⟩
  ·right;refine⟨.exit 0,[.own 0 0 0 k (some n)],h38 (oG t k) n (cM (oM t k)) s1 t.h,?_,rfl,k,s1,by omega,hj,.inr (by unfold oOk;rw[qgH p1];rfl),rfl,rfl⟩;clear p1 p2 hs hj;refine Last.mk0 (A:=A16) (m:=0) (l:=qiN x t n k k (h38 (oG t k) n (cM (oM t k)) s1 t.h)) qa rfl rfl (Qo (Qh hx _)) (h1:=h38 (oG t k) n (cM (oM t k)) s1 t.h) (by simp) ?_ (.refl _);rw[qj5];exact BT (BS (BT rfl))
  ·left;have hp:=qgG p1 p2 p3;have eM:oM t (k+1)=inc (oM t k) y:=by show(match pick t (oM t k) with|some y=>inc (oM t k) y|none=>oM t k)=_;rw[hp]
   have eG:oG t (k+1)=qfd (oG t k) k ⟨(y:Int)+1,oM t k y⟩:=by show(match pick t (oM t k) with|some y=>qfd (oG t k) k ⟨(y:Int)+1,oM t k y⟩|none=>oG t k)=_;rw[hp]
   refine⟨n-(k+1),qgF t n (k+1),h38 (oG t (k+1)) n (cM (oM t (k+1))) s1 t.h,by omega,?_,k+1,s1,rfl,by omega,rfl,rfl,by rw[eM];exact p4,fun j hj1=>?_⟩
   ·rw[←eM,←eG] at t1;clear p1 p2 p3 p4 hs hj hp eM eG;refine Step.mk0 (A:=A16) (m:=0) (l:=qiN x t n k (k+1) (h38 (oG t (k+1)) n (cM (oM t (k+1))) s1 t.h)) qa rfl rfl (Qo (Qh hx _)) (h1:=h38 (oG t (k+1)) n (cM (oM t (k+1))) s1 t.h) ?_ (.refl _);rw[qj5];exact BT (BS (BF rfl))
   ·by_cases q:j=k
    ·subst q;unfold oOk;rw[hp];rfl
    ·exact hj j (by omega)
theorem qj6(t:Tbl)(ht:t.Ok)(tr:TR t)(h255:t.h<=255) :
 ∃R,R<=t.sum t.h/\(∀j,j<R->oOk t j=true)/\(R=t.sum t.h∨oOk t R=false)/\ToldOk P16 G16 135 [t.v] (.fresh true 2 (t.sum t.h) (fun j=>(oG t R j).c) R (some (t.sum t.h))):=by
 obtain⟨x,hx⟩:=zv P16 G16 (A16 135) 135 5;obtain⟨p,hp⟩:=qE P16 G16 69;have hn:=sum_le t ht t.h;have hth:=ht.h;have t2:=qfc t ht;obtain⟨e,v,h,⟨rfl,R,s,q1,q2,q3,rfl,rfl⟩,t1⟩:=qk0 t ht tr h255 (t.sum t.h) (by omega);refine⟨R,q1,q2,q3,?_⟩;clear tr ht q2 q3;generalize t.sum t.h=n at *
 refine ToldOk.resTo (r:=.fresh true 2 (n-0) (fun j=>(oG t R (0+j)).c) R (some n)) ?_ (.fresh (by omega) (by omega) (fun m hm=>by obtain rfl:=Option.some.inj hm;omega) fun j hj=>by rw[Nat.zero_add]);refine Qr qu qX (K:=K38 p n) (qv qa (qr hp)) (A:=A16) (m:=0) (l:=l38 x n R (h38 (oG t R) n (cM (oM t R)) s t.h)) (by kernel_rfl) (Qo (Qh hx _)) ?_;rw[k38,show Nat.ble (0+R) n=true from QC (by omega)];refine BS (BT (BT (BT (BS ?_))));rfl
noncomputable def K22(p q r u w:List T->T->Prop)(n:Nat)(e1 e2:Int)(R:Nat)(g:Nat->Idd):Orc :=
 ((((qp.add 69 (qI p fun _=>some (iI n))).add 133 (qI q fun _=>some (iI e1))).add 134 (qI r fun _=>some (iI e2))).add 135 (qI u fun _=>some (.fresh true 2 n (fun j=>(g j).c) R (some n)))).add 136 (qI w fun _=>some (.fresh true 2 R (fun j=>(g j).c) R (some R)))
noncomputable def K10(p:List T->T->Prop)(v:T):Orc:=qp.add 107 (qI p fun _=>some v)
theorem k22(p q r u w:List T->T->Prop)(n:Nat)(e1 e2:Int)(R:Nat)(g:Nat->Idd)(t:Tbl):Qz P16 G16 A16 (K22 p q r u w n e1 e2 R g) 0 107 [t.v] =
(
 bif !decide (ofNat t.h=6) then
 some (.tup [.nils,iI 5])
 else
 bif qC (p [t.v] (iI (.ofNat n))) then
 bif decide (2048<ofNat n) then
 some (.tup [.nils,iI 3])
 else
 bif qC (q [t.v] (iI e1)) then
 bif !decide (e1=0) then
 some (.tup [.nils,iI e1])
 else
 bif qC (r [t.v] (iI e2)) then
 bif !decide (e2=0) then
 some (.tup [.nils,iI e2])
 else
 bif qC (u [t.v] (.fresh true (2:Nat) n (fun j=>(g j).c) R (some n))) then
 bif qC (p [t.v] (iI (.ofNat n))) then
 bif decide (ofNat R<ofNat n) then
 some (.tup [.nils,iI 6])
 else
 bif qC (w [bif ((0:Nat)+R).ble n then idV (fun j=>g (0+j)) R (some n)
 else .undef] (.fresh true (2:Nat) R (fun j=>(g j).c) R (some R))) then
 some (.tup [bif ((0:Nat)+R).ble R then .fresh true (2:Nat) R (fun j=>(g ((0:Nat)+j)).c) R (some R)
 else .undef,iI 0])
 else none else none else none else none else none else
 none):=by kernel_rfl
theorem qmF(p:List T->T->Prop)(e:Int)(t:Tbl):Qz P16 G16 A16 (K10 p (.tup [.nils,iI e])) 0 77 [t.v] =
(
 bif qC (p [t.v] (.tup [.nils,iI e])) then
 some (iI e)
 else
 none):=by kernel_rfl
theorem qmG(p:List T->T->Prop)(R:Nat)(g:Nat->Idd)(t:Tbl):Qz P16 G16 A16 (K10 p (.tup [.fresh true 2 R (fun j=>(g j).c) R (some R),iI 0])) 0 77 [t.v] =
(
 bif qC (p [t.v] (.tup [.fresh true (2:Nat) R (fun j=>(g j).c) R (some R),iI 0])) then
 some (iI 0)
 else
 none):=by kernel_rfl
def qbO(t:Tbl):Nat->Nat
 |0=>0
 |k+1=>bif qbO t k==k&&oOk t k then k+1 else qbO t k
def ZP(t:Tbl):Nat:=qbO t (t.sum t.h)
theorem qfT(t:Tbl):∀k,qbO t k<=k
 |0=>Nat.le_refl _
 |k+1=>by
  have ih:=qfT t k;unfold qbO;cases (qbO t k==k&&oOk t k)
  ·show qbO t k<=_;omega
  ·exact Nat.le_refl _
theorem qdf(t:Tbl)(n R:Nat)(h1:R<=n)(h2:∀j,j<R->oOk t j=true)(h3:R=n∨oOk t R=false):∀k,k<=n->qbO t k=min k R
 |0,_=>by simp[qbO]
 |k+1,hk=>by
  have ih:=qdf t n R h1 h2 h3 k (by omega);unfold qbO;rw[ih];by_cases q:k<R
  ·rw[show min k R=k by omega,h2 k q,show(k==k)=true by simp];show k+1=_;omega
  ·by_cases q2:k=R
   ·subst q2;rcases h3 with h3|h3
    ·omega
    ·rw[h3,Bool.and_false];show min k k=_;omega
   ·rw[show min k R=R by omega,show(R==k)=false by rw[beq_eq_false_iff_ne];omega];show R=_;omega
def ZV(t:Tbl):Int:=if t.h≠6 then 5 else if 2048<t.sum t.h then 3 else bif qY (ckY t) t.h then(bif qY (tgY t) t.h then(if ZP t<t.sum t.h then 6 else 0) else 8) else 1
def qec(t:Tbl):T:=if ZV t=0 then .fresh true 2 (ZP t) (fun j=>(oG t (ZP t) j).c) (ZP t) (some (ZP t)) else .nils
theorem qk1{t:Tbl}(h:qY (ckY t) t.h=true):TR t:=by
 intro y i hy hi k hk;have h1:=(qP _ _).1 ((qP _ _).1 h y hy) i hi;unfold ckL rgt at h1;cases hb:(decide ((t.L y i).b=0) || decide ((t.L y i).b=1))
 ·rw[hb] at h1;cases h1
 rw[hb,cond_true] at h1;cases hb:(decide (4<(t.L y i).nt) || decide (4096<(t.L y i).np))
 ·rw[hb,cond_false] at h1;cases h2:qY (rgI t (t.L y i)) (t.L y i).nt
  ·rw[h2] at h1;cases h1
  ·rw[h2,cond_true] at h1;cases h3:qY (rgP t (t.L y i)) (t.L y i).np
   ·rw[h3] at h1;cases h1
   ·unfold zF;by_cases q:k<(t.L y i).nt
    ·rw[if_pos q];exact(qP _ _).1 h2 k q
    ·rw[if_neg q];have:=(qP _ _).1 h3 (k-(t.L y i).nt) (by omega);unfold rgP at this;simp only[Bool.and_eq_true] at this;exact this.1
 ·rw[hb] at h1;cases h1
theorem qj7(t:Tbl)(ht:t.Ok)(tr:TR t)(h255:t.h<=255):ToldOk P16 G16 135 [t.v] (.fresh true 2 (t.sum t.h) (fun j=>(oG t (ZP t) j).c) (ZP t) (some (t.sum t.h))):=by
 obtain⟨R,h1,h2,h3,h4⟩:=qj6 t ht tr h255;have e:ZP t=R:=by
  unfold ZP;rw[qdf t _ R h1 h2 h3 _ (Nat.le_refl _)];omega
 rw[e];exact h4
theorem qj8(t:Tbl)(ht:t.Ok):ToldOk P16 G16 107 [t.v] (.tup [qec t,iI (ZV t)]):=by
 obtain⟨p,hp⟩:=qE P16 G16 69;obtain⟨q,hq⟩:=qE P16 G16 133;obtain⟨r,hr⟩:=qE P16 G16 134;obtain⟨u,hu⟩:=qE P16 G16 135;obtain⟨w,hw⟩:=qE P16 G16 136;have hK:∀n e1 e2 R g,OrcOk P16 G16 (K22 p q r u w n e1 e2 R g):=fun n e1 e2 R g=>qv (qv (qv (qv (qv qa (qr hp)) (qr hq)) (qr hr)) (qr hu)) (qr hw);have t1:=qfc t ht;have t2:=qd9 t ht;have t3:=qbM t ht;have hle:ZP t<=t.sum t.h:=qfT t _;by_cases h6:t.h=6
 ·by_cases h2048:2048<t.sum t.h
  ·have e:ZV t=3:=by unfold ZV;rw[if_neg (by simpa using h6),if_pos h2048]
   unfold qec;rw[e,if_neg (by decide)];refine qD qu qX (hK (t.sum t.h) 0 0 0 fun _=>⟨0,0⟩) (A:=A16) (m:=0) ?_;rw[k22];exact BF (BS (BS rfl))
  ·cases ha:qY (ckY t) t.h
   ·have e:ZV t=1:=by unfold ZV;rw[if_neg (by simpa using h6),if_neg h2048,ha];rfl
    unfold qec;rw[e,if_neg (by decide)];rw[ha] at t2;clear t3;refine qD qu qX (hK (t.sum t.h) 1 0 0 fun _=>⟨0,0⟩) (A:=A16) (m:=0) ?_;rw[k22];exact BF (BS (BF (BS (qt (by decide) rfl))))
   ·rw[ha] at t2;cases hb:qY (tgY t) t.h
    ·have e:ZV t=8:=by unfold ZV;rw[if_neg (by simpa using h6),if_neg h2048,ha,hb];rfl
     unfold qec;rw[e,if_neg (by decide)];rw[hb] at t3;refine qD qu qX (hK (t.sum t.h) 0 8 0 fun _=>⟨0,0⟩) (A:=A16) (m:=0) ?_;rw[k22];exact BF (BS (BF (BS (qK (by decide) (BS (qt (by decide) rfl))))))
    ·rw[hb] at t3;have t4:=qj7 t ht (qk1 ha) (by omega);have t5:=qiy (fun j=>oG t (ZP t) j) (ZP t) (some (t.sum t.h)) (by omega);by_cases hl:ZP t<t.sum t.h
     ·have e:ZV t=6:=by unfold ZV;rw[if_neg (by simpa using h6),if_neg h2048,ha,hb,cond_true,cond_true,if_pos hl]
      unfold qec;rw[e,if_neg (by decide)];refine qD qu qX (hK (t.sum t.h) 0 0 (ZP t) (oG t (ZP t))) (A:=A16) (m:=0) ?_;rw[k22];clear ha hb;exact BF (BS (BF (BS (qK (by decide) (BS (qK (by decide) (BS (BS (BS rfl)))))))))
     ·have e:ZV t=0:=by unfold ZV;rw[if_neg (by simpa using h6),if_neg h2048,ha,hb,cond_true,cond_true,if_neg hl]
      unfold qec;rw[e,if_pos rfl];refine qD qu qX (hK (t.sum t.h) 0 0 (ZP t) (oG t (ZP t))) (A:=A16) (m:=0) ?_;rw[k22,show Nat.ble (0+ZP t) (t.sum t.h)=true from QC (by omega),show Nat.ble (0+ZP t) (ZP t)=true from QC (by omega)];clear ha hb;simp only[Nat.zero_add,cond_true];exact BF (BS (BF (BS (qK (by decide) (BS (qK (by decide) (BS (BS (BF (BS rfl))))))))))
 ·have e:ZV t=5:=by unfold ZV;rw[if_pos (by simpa using h6)]
  unfold qec;rw[e,if_neg (by decide)];refine qD qu qX (hK (t.sum t.h) 0 0 0 fun _=>⟨0,0⟩) (A:=A16) (m:=0) ?_;rw[k22];exact qt (by simp;omega) rfl
theorem qj9(t:Tbl)(ht:t.Ok):ToldOk P16 G16 77 [t.v] (iI (ZV t)):=by
 obtain⟨p,hp⟩:=qE P16 G16 107;have t1:=qj8 t ht;unfold qec at t1;by_cases e:ZV t=0
 ·rw[if_pos e,e] at t1;rw[e];refine qD qu qX (K:=K10 p (.tup [.fresh true 2 (ZP t) (fun j=>(oG t (ZP t) j).c) (ZP t) (some (ZP t)),iI 0])) (qv qa (qr hp)) (A:=A16) (m:=0) ?_;rw[qmG];exact BS rfl
 ·rw[if_neg e] at t1;refine qD qu qX (K:=K10 p (.tup [.nils,iI (ZV t)])) (qv qa (qr hp)) (A:=A16) (m:=0) ?_;rw[qmF];exact BS rfl
section
variable {E:Type}
structure MvR(n a b:Nat)(y z:Nat->E):Prop where
 perm:((List.range n).map z).Perm ((List.range n).map y)
 out:∀k,k<a∨b<=k->z k=y k
 inn:∀k,a<=k->k<b->∃k',a<=k'/\k'<b/\z k=y k'
theorem MvR.refl{n a b:Nat}(y:Nat->E):MvR n a b y y:=⟨.refl _,fun _ _=>rfl,fun k h1 h2=>⟨k,h1,h2,rfl⟩⟩
theorem MvR.trans{n a b:Nat}{x y z:Nat->E}(h:MvR n a b x y)(g:MvR n a b y z):MvR n a b x z :=
 ⟨g.perm.trans h.perm,fun k hk=>(g.out k hk).trans (h.out k hk),fun k h1 h2=>by
  obtain⟨k1,q1,q2,q3⟩:=g.inn k h1 h2;obtain⟨k2,r1,r2,r3⟩:=h.inn k1 q1 q2;exact⟨k2,r1,r2,q3.trans r3⟩⟩
theorem MvR.mono{n a b a' b':Nat}{y z:Nat->E}(h:MvR n a b y z)(ha:a'<=a)(hb:b<=b'):MvR n a' b' y z :=
 ⟨h.perm,fun k hk=>h.out k (by omega),fun k h1 h2=>by
  by_cases q:a<=k/\k<b
  ·obtain⟨k1,q1,q2,q3⟩:=h.inn k q.1 q.2;exact⟨k1,by omega,by omega,q3⟩
  ·exact⟨k,h1,h2,h.out k (by omega)⟩⟩
theorem MvR.congr{n a b:Nat}{y z y' z':Nat->E}(h:MvR n a b y z)(hy:∀k,y' k=y k)(hz:∀k,z' k=z k):MvR n a b y' z':=by
 obtain rfl:y'=y:=funext hy;obtain rfl:z'=z:=funext hz;exact h
def SrtR(lt:E->E->Bool)(y:Nat->E)(a b:Nat):Prop:=∀i j,a<=i->i<j->j<b->lt (y j) (y i)=false
structure WkO(lt:E->E->Bool):Prop where
 tr:∀x y z,lt y x=false->lt z y=false->lt z x=false
 asy:∀x y,lt x y=true->lt y x=false
theorem SrtR.congr{lt:E->E->Bool}{y z:Nat->E}{a b:Nat}(h:SrtR lt y a b)(e:∀k,a<=k->k<b->z k=y k):SrtR lt z a b:=fun i j h1 h2 h3=>by
 rw[e i h1 (by omega),e j (by omega) h3];exact h i j h1 h2 h3
theorem SrtR.sub{lt:E->E->Bool}{y:Nat->E}{a b a' b':Nat}(h:SrtR lt y a b)(ha:a<=a')(hb:b'<=b):SrtR lt y a' b':=fun i j h1 h2 h3=>h i j (by omega) h2 (by omega)
end
section
variable {E:Type} {lt:E->E->Bool}
end
section
variable {E:Type} {lt:E->E->Bool}
end
end Go.Ab

