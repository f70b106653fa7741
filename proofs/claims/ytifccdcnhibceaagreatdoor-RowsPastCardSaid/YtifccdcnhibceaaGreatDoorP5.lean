/- A part of the proof: nothing is assumed. -/
import Derived.Test.YtifccdcnhibceaaGreatDoorP4
import Derived.Test.YtifccdcnhibceaaGreatDoorProg
import Derived.KernelRfl
set_option linter.all false
namespace Go.Ab
open Go.Proofs
def G16:Nat->Option (List T):=gOf [(0,[.int .u8 107,.int .u8 112,.int .u8 111,.int .u8 47,.int .u8 118,.int .u8 116,.int .u8 115,.int .u8 99])]
def A16:FuncId->Ann:=fun f=>match f with
 | 2=>⟨[],fun _ _=>[],false⟩
 | 3=>⟨[5],fun _ _=>[],false⟩
 | 4=>⟨[1,4,5,8],fun r o=>match r with | 6=>bif o then [2] else [3,4,5,7] | _=>[],false⟩
 | 5=>⟨[3,8,9,13],fun _ _=>[],false⟩
 | 6=>⟨[2,7,17,18],fun r o=>match r with | 5=>bif o then [1,5] else [1,2,5,6] | 9=>bif o then [1,2,5,6,7] else [1,2,5,6,7,8] | 18=>bif o then [5,9,10] else [1,5,9,10,11,12] | 29=>bif o then [4] else [9,14,15,16] | _=>[],false⟩
 | 7=>⟨[2,6,9,16],fun r o=>match r with | 9=>bif o then [4,5,7,9,12,14] else [5,7,8,9,11,12,14,15] | _=>[],false⟩
 | 8=>⟨[2,6,8,9,14,23,24],fun r o=>match r with | 10=>bif o then [8,9,11] else [6,7,8,9,11,12,13] | 15=>bif o then [6,7,8,9,11,12,13,15] else [6,7,8,9,11,12,13,14,15,16] | 18=>bif o then [6,7,8,9,11,12,13,14,15,16] else [6,7,8,9,11,12,13,14,15,16,17] | 29=>bif o then [4] else [8,9,11,20,21] | 32=>bif o then [4,8,9,11,20,21] else [8,9,11,20,21,22] | _=>[],false⟩
 | 9=>⟨[2,6,7,8,13,16],fun r o=>match r with | 6=>bif o then [7,9] else [7,8,9,10] | 14=>bif o then [7,11] else [7,9,11,12] | 22=>bif o then [13,16] else [13,16,17] | _=>[],false⟩
 | 10=>⟨[3,8,11,15,16],fun r o=>match r with | 13=>bif o then [7,10,11,12,13] else [7,10,11,12,13,14] | _=>[],false⟩
 | 11=>⟨[3,8,9,14,16,18,21],fun _ _=>[],false⟩
 | 12=>⟨[3],fun r o=>match r with | 3=>bif o then [0] else [1,2] | 7=>bif o then [1,2,3] else [1,2,3,4] | 11=>bif o then [1,2,3,4,5] else [1,2,3,4,5,6] | _=>[],false⟩
 | 13=>⟨[4,6,11],fun r o=>match r with | 10=>bif o then [0,4,5,6,7,9] else [0,4,6,7,9,45,46] | _=>[],false⟩
 | 14=>⟨[2,3],fun _ _=>[],false⟩
 | 15=>⟨[1,4,6],fun r o=>match r with | 4=>bif o then [1,2] else [1,20,21,22] | 12=>bif o then [1,2] else [1,62,63,64] | _=>[],false⟩
 | 16=>⟨[2,3,6,7],fun r o=>match r with | 4=>bif o then [4] else [2,3,5] | _=>[],false⟩
 | 17=>⟨[4],fun r o=>match r with | 4=>bif o then [4,5] else [0,1,4,5,6] | _=>[],false⟩
 | 18=>⟨[1,3,4,5],fun r o=>match r with | 5=>bif o then [3,4,6] else [3,4,5,6,7] | _=>[],false⟩
 | 19=>⟨[],fun r o=>match r with | 3=>bif o then [3] else [0,3,4] | _=>[],false⟩
 | 20=>⟨[],fun r o=>match r with | 3=>bif o then [3] else [0,3,4] | _=>[],false⟩
 | 21=>⟨[2,4],fun _ _=>[],false⟩
 | 22=>⟨[1,2,3,6],fun r o=>match r with | 3=>bif o then [1,2,3] else [1,2,3,4] | 7=>bif o then [1,2,3] else [1,2,3,5] | 13=>bif o then [1,2,3] else [1,2,3,7] | _=>[],false⟩
 | 23=>⟨[4],fun _ _=>[],false⟩
 | 24=>⟨[2],fun r o=>match r with | 3=>bif o then [5] else [1,2,5,6] | _=>[],false⟩
 | 25=>⟨[8,10],fun r o=>match r with | 4=>bif o then [1,6] else [1,6,16,17,18] | 7=>bif o then [1,6,16,17,18] else [1,6,8,16,17,18,23,24,25] | _=>[],false⟩
 | 26=>⟨[2,5],fun _ _=>[],false⟩
 | 27=>⟨[2,12,17],fun r o=>match r with | 11=>bif o then [4,5,6,8,10] else [1,2,8,9,10,11] | 18=>bif o then [1,2,8,9,10,11,12,13,14,15] else [1,2,8,9,10,11,12,13,14,15,16] | 38=>bif o then [1,2,8,9,10,11,12,15] else [1,2,8,9,10,11,12,15,20,21] | 41=>bif o then [1,2,8,9,10,11,12,15,20,21] else [1,2,8,9,10,11,12,15,20,21,22] | 44=>bif o then [1,2,8,9,10,11,12,15,20,21,22] else [1,2,8,9,10,11,12,15,20,21,22,23] | 47=>bif o then [1,2,8,9,10,11,12,15,20,21,22,23] else [1,2,8,9,10,11,12,15,20,21,22,23,24] | _=>[],false⟩
 | 28=>⟨[],fun r o=>match r with | 4=>bif o then [4] else [0,1,5] | _=>[],false⟩
 | 29=>⟨[],fun r o=>match r with | 3=>bif o then [3] else [0,3,4] | _=>[],false⟩
 | 30=>⟨[2,3,8,9],fun r o=>match r with | 4=>bif o then [2,3,4] else [2,3,5] | 9=>bif o then [4] else [2,3,6] | 14=>bif o then [2,3,4,6] else [2,3,6,7] | _=>[],false⟩
 | 31=>⟨[1],fun _ _=>[],false⟩
 | 32=>⟨[3,4,5,7,9],fun r o=>match r with | 3=>bif o then [6] else [7,14,15,16] | _=>[],false⟩
 | 33=>⟨[2,4,10],fun r o=>match r with | 6=>bif o then [1,2,4,5,6] else [1,2,4,20,21,22] | _=>[],false⟩
 | 34=>⟨[2,4,11],fun r o=>match r with | 9=>bif o then [2,4,6,9] else [1,2,4,6,9,10,11,12] | 13=>bif o then [1,2,4,6,9,10,11,12,13] else [1,2,4,6,9,10,11,12,13,14] | 29=>bif o then [2,4,9] else [2,4,6,9,16] | _=>[],false⟩
 | 35=>⟨[5],fun r o=>match r with | 3=>bif o then [3] else [0,3,4] | _=>[],false⟩
 | 36=>⟨[0],fun _ _=>[],false⟩
 | 37=>⟨[6,7],fun _ _=>[],false⟩
 | 38=>⟨[8,10,11,13],fun _ _=>[],false⟩
 | 39=>⟨[9],fun _ _=>[],false⟩
 | 40=>⟨[4,6],fun r o=>match r with | 2=>bif o then [0,2,4,6] else [0,2,4,6,12,13,14] | _=>[],false⟩
 | 41=>⟨[3,4,6,8,10,11],fun _ _=>[],false⟩
 | 42=>⟨[],fun r o=>match r with | 4=>bif o then [4] else [0,1,5] | 9=>bif o then [0,1,4,5] else [0,1,5,6] | _=>[],false⟩
 | 43=>⟨[3,8],fun r o=>match r with | 6=>bif o then [6] else [2,31,32,33] | _=>[],false⟩
 | 44=>⟨[1],fun _ _=>[],false⟩
 | 45=>⟨[],fun r o=>match r with | 4=>bif o then [4] else [0,1,12,13] | _=>[],false⟩
 | 46=>⟨[5],fun r o=>match r with | 3=>bif o then [3] else [3,9,10,11] | _=>[],false⟩
 | 47=>⟨[],fun r o=>match r with | 4=>bif o then [4] else [0,1,5] | _=>[],false⟩
 | 48=>⟨[8,10],fun _ _=>[],false⟩
 | 49=>⟨[1,2,6],fun r o=>match r with | 3=>bif o then [1,2,3] else [1,2,3,4] | 11=>bif o then [2,6] else [1,2,3,5,6,7] | _=>[],false⟩
 | 50=>⟨[1],fun _ _=>[],false⟩
 | 51=>⟨[2,4,5,7,9],fun r o=>match r with | 6=>bif o then [4,5,7,9] else [4,5,7,9,35] | _=>[],false⟩
 | 52=>⟨[],fun r o=>match r with | 1=>bif o then [] else [0,2,3] | _=>[],false⟩
 | 53=>⟨[2,5,11,19,20],fun r o=>match r with | 9=>bif o then [1,2,4,5,6,8] else [1,2,5,8,9,41,42,43] | 14=>bif o then [1,2,5,8,9,10,11,12,13,41,42,43] else [1,2,5,8,9,10,11,12,13,41,42,43,53,54] | 26=>bif o then [2,5,8,17] else [2,5,8,17,86,87,88] | _=>[],false⟩
 | 54=>⟨[],fun r o=>match r with | 6=>bif o then [0,2] else [0,3] | _=>[],false⟩
 | 55=>⟨[2],fun r o=>match r with | 6=>bif o then [1,2,4,5] else [1,2,6] | 22=>bif o then [7] else [2,7,8] | _=>[],false⟩
 | 56=>⟨[5,6,12],fun r o=>match r with | 6=>bif o then [3,5,6,9,10] else [0,3,5,6,9,10,11] | _=>[],false⟩
 | 57=>⟨[],fun r o=>match r with | 4=>bif o then [4] else [0,1,5] | _=>[],false⟩
 | 58=>⟨[1],fun _ _=>[],false⟩
 | 59=>⟨[2,3,4],fun _ _=>[],false⟩
 | 60=>⟨[2,3],fun _ _=>[],false⟩
 | 61=>⟨[1,2],fun _ _=>[],false⟩
 | 62=>⟨[],fun r o=>match r with | 1=>bif o then [] else [0,1,2,3,4,5,12] | 9=>bif o then [0,1,2,3,4,5,12] else [0,1,2,3,4,5,12,13,14] | _=>[],false⟩
 | 63=>⟨[2,4],fun r o=>match r with | 5=>bif o then [0,2,4] else [0,2,4,12,13] | _=>[],false⟩
 | 64=>⟨[],fun _ _=>[],false⟩
 | 65=>⟨[],fun _ _=>[],false⟩
 | 66=>⟨[2,4],fun _ _=>[],false⟩
 | 67=>⟨[],fun _ _=>[],false⟩
 | 68=>⟨[],fun r o=>match r with | 3=>bif o then [0,3] else [0,3,10,11,12] | 10=>bif o then [6] else [6,7,23,24,25] | _=>[],false⟩
 | 69=>⟨[],fun r o=>match r with | 3=>bif o then [3] else [3,6,7,8] | _=>[],false⟩
 | 70=>⟨[1,2,3,6],fun _ _=>[],false⟩
 | 71=>⟨[],fun _ _=>[],false⟩
 | 72=>⟨[],fun _ _=>[],false⟩
 | 73=>⟨[3,6,10],fun r o=>match r with | 7=>bif o then [1,2,3,6,7] else [1,2,3,6,22,23,24] | _=>[],false⟩
 | 74=>⟨[],fun _ _=>[],false⟩
 | 75=>⟨[1,4],fun r o=>match r with | 10=>bif o then [2] else [1,40,41,42] | _=>[],false⟩
 | 76=>⟨[1],fun _ _=>[],false⟩
 | 77=>⟨[],fun _ _=>[],false⟩
 | 78=>⟨[1,4],fun r o=>match r with | 2=>bif o then [2] else [1,6,7,8] | _=>[],false⟩
 | 79=>⟨[1,6,8,14],fun r o=>match r with | 2=>bif o then [1,2] else [1,22,23] | 5=>bif o then [1,2,22,23] else [1,22,23,26,27,28] | 12=>bif o then [1,2] else [1,40,41,42] | 22=>bif o then [1,9] else [1,9,10,72,73,74] | 25=>bif o then [1,9,10,72,73,74] else [1,9,10,72,73,74,78,79,80] | 31=>bif o then [2] else [9,91,92,93] | 34=>bif o then [2,9,91,92,93] else [9,15,91,92,93,99,100] | _=>[],false⟩
 | 80=>⟨[],fun r o=>match r with | 3=>bif o then [0,3] else [0,3,10,11,12] | 10=>bif o then [6] else [6,7,23,24,25] | _=>[],false⟩
 | 81=>⟨[11,13],fun r o=>match r with | 5=>bif o then [6,7] else [0,1,6,7,8,9] | _=>[],false⟩
 | 82=>⟨[1],fun r o=>match r with | 5=>bif o then [2] else [1,3] | 8=>bif o then [1,2,3] else [1,3,4] | _=>[],false⟩
 | 83=>⟨[5],fun r o=>match r with | 3=>bif o then [3] else [3,8,9,10] | _=>[],false⟩
 | 84=>⟨[],fun _ _=>[],false⟩
 | 85=>⟨[6],fun r o=>match r with | 6=>bif o then [0,1,4] else [0,1,6,23,24] | _=>[],false⟩
 | 86=>⟨[4],fun r o=>match r with | 6=>bif o then [0,2] else [0,13,14,15] | _=>[],false⟩
 | 87=>⟨[],fun _ _=>[],false⟩
 | 88=>⟨[2],fun r o=>match r with | 6=>bif o then [1,2,4,5] else [1,2,18,19,20] | 13=>bif o then [1,2,8] else [1,2,8,35,36] | _=>[],false⟩
 | 89=>⟨[3,8,10,11],fun r o=>match r with | 6=>bif o then [6] else [0,3,5,6,18,19,20] | 9=>bif o then [0,3,5,6,18,19,20] else [0,3,5,6,8,18,19,20,28,29,30] | _=>[],false⟩
 | 90=>⟨[3],fun r o=>match r with | 9=>bif o then [0] else [0,3,30,31] | _=>[],false⟩
 | 91=>⟨[1,2],fun _ _=>[],false⟩
 | 92=>⟨[9],fun r o=>match r with | 5=>bif o then [4,5,7] else [7,20,21,22] | _=>[],false⟩
 | 93=>⟨[],fun r o=>match r with | 3=>bif o then [3] else [0,3,4] | _=>[],false⟩
 | 94=>⟨[1],fun _ _=>[],false⟩
 | 95=>⟨[2,3],fun _ _=>[],false⟩
 | 96=>⟨[],fun r o=>match r with | 3=>bif o then [2,3] else [3,6,7,8] | _=>[],false⟩
 | 97=>⟨[5],fun r o=>match r with | 3=>bif o then [3] else [3,8,9,10] | _=>[],false⟩
 | 98=>⟨[5],fun r o=>match r with | 11=>bif o then [2] else [0,2,3,9,10] | _=>[],false⟩
 | 99=>⟨[],fun r o=>match r with | 3=>bif o then [5] else [1,5,6] | _=>[],false⟩
 | 100=>⟨[1],fun _ _=>[],false⟩
 | 101=>⟨[],fun _ _=>[],false⟩
 | 102=>⟨[],fun _ _=>[],false⟩
 | 103=>⟨[],fun _ _=>[],false⟩
 | 104=>⟨[1],fun _ _=>[],false⟩
 | 105=>⟨[6],fun r o=>match r with | 2=>bif o then [0] else [0,8,9,10] | _=>[],false⟩
 | 106=>⟨[2,3],fun _ _=>[],false⟩
 | 107=>⟨[],fun _ _=>[],false⟩
 | 108=>⟨[3],fun _ _=>[],false⟩
 | 109=>⟨[4],fun r o=>match r with | 1=>bif o then [] else [1,5,6,7] | _=>[],false⟩
 | 110=>⟨[1,2,3,4],fun _ _=>[],false⟩
 | 111=>⟨[],fun _ _=>[],false⟩
 | 112=>⟨[],fun r o=>match r with | 1=>bif o then [] else [0,1,3] | _=>[],false⟩
 | 113=>⟨[2],fun _ _=>[],false⟩
 | 114=>⟨[],fun _ _=>[],false⟩
 | 115=>⟨[4],fun _ _=>[],false⟩
 | 116=>⟨[],fun _ _=>[],false⟩
 | 117=>⟨[7],fun r o=>match r with | 3=>bif o then [5] else [1,5,8,9,10] | _=>[],false⟩
 | 118=>⟨[1],fun _ _=>[],false⟩
 | 119=>⟨[1],fun _ _=>[],false⟩
 | 120=>⟨[7],fun r o=>match r with | 3=>bif o then [3] else [3,11,12,13] | 7=>bif o then [3,11,12,13] else [3,4,11,12,13,23,24,25] | _=>[],false⟩
 | 121=>⟨[],fun _ _=>[],false⟩
 | 122=>⟨[],fun r o=>match r with | 3=>bif o then [0,3] else [0,3,10,11,12] | 10=>bif o then [6] else [6,7,23,24,25] | _=>[],false⟩
 | 123=>⟨[],fun _ _=>[],false⟩
 | 124=>⟨[2,3],fun _ _=>[],false⟩
 | 125=>⟨[7],fun r o=>match r with | 5=>bif o then [0,5] else [0,1,5,6] | _=>[],false⟩
 | 126=>⟨[1],fun _ _=>[],false⟩
 | 127=>⟨[],fun _ _=>[],false⟩
 | 128=>⟨[],fun _ _=>[],false⟩
 | 129=>⟨[],fun _ _=>[],false⟩
 | 130=>⟨[],fun _ _=>[],false⟩
 | 131=>⟨[],fun _ _=>[],false⟩
 | 132=>⟨[],fun _ _=>[],false⟩
 | 133=>⟨[6],fun r o=>match r with | 2=>bif o then [2] else [0,7,8,9] | 5=>bif o then [0,2,7,8,9] else [0,7,8,9,13,14,15] | _=>[],false⟩
 | 134=>⟨[7,9],fun r o=>match r with | 3=>bif o then [2] else [3,11,12,13] | 6=>bif o then [2,3,11,12,13] else [3,11,12,13,17,18,19] | 9=>bif o then [2,3,11,12,13,17,18,19] else [3,11,12,13,17,18,19,24,25,26] | _=>[],false⟩
 | 135=>⟨[10,11],fun r o=>match r with | 5=>bif o then [4] else [0,3,4,5,6] | 8=>bif o then [0,3,4,5,6,7] else [0,3,4,5,6,7,28,29,30] | 12=>bif o then [0,3,4,5,6,7,8,28,29,30] else [0,3,4,5,6,7,8,10,28,29,30] | _=>[],false⟩
 | 136=>⟨[],fun _ _=>[],false⟩
 | 137=>⟨[],fun r o=>match r with | 2=>bif o then [4] else [0,1,7,8] | _=>[],false⟩
 | 138=>⟨[],fun _ _=>[],false⟩
 | 139=>⟨[7],fun r o=>match r with | 3=>bif o then [4] else [1,2,5,17,18] | _=>[],false⟩
 | 140=>⟨[5],fun _ _=>[],false⟩
 | 141=>⟨[5],fun _ _=>[],false⟩
 | 142=>⟨[],fun _ _=>[],false⟩
 | 143=>⟨[],fun r o=>match r with | 2=>bif o then [0,1,2,6,7] else [0,1,2,6,7,8] | 7=>bif o then [] else [0,1,2,6] | 9=>bif o then [0,1,2,6,7] else [0,1,2,6,7,8] | _=>[],false⟩
 | 144=>⟨[],fun r o=>match r with | 2=>bif o then [4] else [0,1,7,8] | _=>[],false⟩
 | 145=>⟨[],fun _ _=>[],false⟩
 | 146=>⟨[],fun _ _=>[],false⟩
 | 147=>⟨[3,6,8],fun r o=>match r with | 6=>bif o then [0,3,4] else [0,3,28,29,30] | 12=>bif o then [3,4] else [0,3,40,41,42] | _=>[],false⟩
 | 148=>⟨[2,4],fun _ _=>[],false⟩
 | 149=>⟨[],fun r o=>match r with | 1=>bif o then [] else [0,1,2,3,8] | 4=>bif o then [0,1,2,3,8] else [0,1,2,3,8,9] | _=>[],false⟩
 | 150=>⟨[],fun r o=>match r with | 3=>bif o then [0,1,10] else [0,1,4,10,11] | 9=>bif o then [] else [0,10,13] | 15=>bif o then [0,2,14] else [0,2,4,14,15] | 21=>bif o then [] else [0,14,17] | 33=>bif o then [0,1,2,3,4,18,19,20] else [0,1,2,3,4,18,19,20,21,22] | _=>[],false⟩
 | 151=>⟨[3],fun _ _=>[],false⟩
 | 152=>⟨[],fun _ _=>[],false⟩
 | 153=>⟨[],fun r o=>match r with | 2=>bif o then [0,2,4,10] else [0,2,4,10,11] | _=>[],false⟩
 | 154=>⟨[],fun r o=>match r with | 1=>bif o then [] else [0,1,2,3,10] | _=>[],false⟩
 | 174=>⟨[],fun _ _=>[],false⟩
 | _=>⟨[],fun _ _=>[],false⟩
noncomputable abbrev P16:Program:=Tryz.prog
theorem hm16:P16.follows .mixedOrders = true:=by kernel_rfl
theorem hn16:namesOk P16 = true:=by kernel_rfl
theorem hl16:laidOutB P16 = true:=by kernel_rfl
end Go.Ab

