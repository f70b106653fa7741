/- A part of the proof: nothing is assumed. -/
import Derived.Test.YteoamlekamflbaaP4
import Derived.Test.YteoamlekamflbaaProg
import Derived.KernelRfl
import Derived.Shelf.Strings.Builder1
import Derived.Shelf.Strings.Search2
set_option linter.all false
namespace Go.Ab
open Go.Proofs
def G18:Nat->Option (List T):=gOf []
def A18:FuncId->Ann:=fun f=>match f with
 | 2=>⟨[],fun _ _=>[],false⟩
 | 3=>⟨[],fun r o=>match r with | 8=>bif o then [2] else [3,4,5] | _=>[],false⟩
 | 4=>⟨[2],fun r o=>match r with | 8=>bif o then [2,4,5,8,10] else [2,5,6,7,8,10,11] | _=>[],false⟩
 | 5=>⟨[],fun r o=>match r with | 7=>bif o then [5,6,7] else [0,5,6,7,8] | 11=>bif o then [0,5,6,7,8,9] else [0,5,6,7,8,9,10] | _=>[],false⟩
 | 6=>⟨[2],fun r o=>match r with | 6=>bif o then [1,5,6] else [1,5,6,7] | 9=>bif o then [1,5,6,7] else [1,5,6,7,8] | 20=>bif o then [1,11,12,13] else [1,11,12,13,14,15] | _=>[],false⟩
 | 7=>⟨[1],fun r o=>match r with | 6=>bif o then [1,2,3,4] else [1,3,4,5] | 12=>bif o then [1,3,4,5,6] else [1,3,4,5,6,7] | _=>[],false⟩
 | 8=>⟨[1,4],fun r o=>match r with | 6=>bif o then [2,3,4] else [3,4,6] | 11=>bif o then [2,3,4,6] else [3,4,6,7] | _=>[],false⟩
 | 9=>⟨[3,8],fun r o=>match r with | 3=>bif o then [0] else [1,2] | 7=>bif o then [1,2,3] else [1,2,3,4] | 11=>bif o then [1,2,3,4,5] else [1,2,3,4,5,6] | _=>[],false⟩
 | 10=>⟨[3,4],fun _ _=>[],false⟩
 | 11=>⟨[],fun r o=>match r with | 3=>bif o then [3] else [0,3,4] | 8=>bif o then [0,3,4,5,6] else [0,3,4,5,6] | _=>[],false⟩
 | 12=>⟨[],fun r o=>match r with | 10=>bif o then [0] else [3,4,5,6,7] | _=>[],false⟩
 | 13=>⟨[1,7],fun r o=>match r with | 7=>bif o then [5] else [1,3,4,5,6] | 14=>bif o then [1,3,4,5,6,8] else [1,3,4,5,6,7,8,9] | _=>[],false⟩
 | 14=>⟨[],fun r o=>match r with | 9=>bif o then [8,9] else [1,8,9,28,29,30] | _=>[],false⟩
 | 15=>⟨[],fun r o=>match r with | 3=>bif o then [0,1,6,7] else [0,1,6,7,8] | 12=>bif o then [9,10] else [0,1,6,7,9,10,11] | 17=>bif o then [0,1,6,7,9,10,11,12,13] else [0,1,6,7,9,10,11,12,13,14] | _=>[],false⟩
 | 16=>⟨[],fun r o=>match r with | 4=>bif o then [4] else [0,1,5] | _=>[],false⟩
 | 17=>⟨[],fun r o=>match r with | 4=>bif o then [4] else [3,4,5] | _=>[],false⟩
 | 18=>⟨[5,8],fun r o=>match r with | 6=>bif o then [5] else [5,14,15,16] | _=>[],false⟩
 | 19=>⟨[],fun r o=>match r with | 2=>bif o then [2,3,4] else [0,4] | 8=>bif o then [4,6,8] else [4,5,6,8,24,25] | _=>[],false⟩
 | 20=>⟨[],fun r o=>match r with | 5=>bif o then [3] else [0,3,11,12] | 8=>bif o then [0,3,11,12] else [0,3,11,12,22,23,24] | _=>[],false⟩
 | 21=>⟨[],fun r o=>match r with | 4=>bif o then [0,2] else [0,3] | 11=>bif o then [0,2] else [0,4] | 16=>bif o then [0,2,4] else [0,4,5] | 21=>bif o then [0,2] else [0,6] | 26=>bif o then [2] else [0,7] | _=>[],false⟩
 | 22=>⟨[1,9],fun r o=>match r with | 6=>bif o then [2,3,5] else [5,21,22,23] | 10=>bif o then [2,3,5,21,22,23] else [5,6,21,22,23,34,35,36] | _=>[],false⟩
 | 23=>⟨[1,14],fun r o=>match r with | 6=>bif o then [1,2,3] else [1,4] | 12=>bif o then [1,2,3] else [1,6] | 18=>bif o then [1,7] else [1,7,8] | 23=>bif o then [2,3,9] else [1,7,9,10] | 28=>bif o then [1,2,3,9,10,12] else [1,7,9,10,11,12,13] | _=>[],false⟩
 | 24=>⟨[2,5],fun r o=>match r with | 6=>bif o then [2,5] else [2,5,20,21,22] | 10=>bif o then [2,5,20,21,22] else [2,5,6,20,21,22,34,35,36] | _=>[],false⟩
 | 25=>⟨[1],fun _ _=>[],false⟩
 | 26=>⟨[6],fun r o=>match r with | 13=>bif o then [1,7,8,9,12,13] else [0,1,7,8,9,12,13,14] | _=>[],false⟩
 | 27=>⟨[],fun _ _=>[],false⟩
 | 28=>⟨[],fun _ _=>[],false⟩
 | 29=>⟨[],fun r o=>match r with | 4=>bif o then [0,2] else [0,14,15,16] | 12=>bif o then [0,2] else [0,28,29,30] | 18=>bif o then [0,2] else [0,48,49,50] | 24=>bif o then [2] else [62,63,64] | _=>[],false⟩
 | 30=>⟨[9,14],fun r o=>match r with | 6=>bif o then [7,8] else [1,6,7,8,9,26,27,28] | 9=>bif o then [1,6,7,8,9,26,27,28] else [1,6,7,8,9,10,11,26,27,28,33,34,35] | _=>[],false⟩
 | 31=>⟨[],fun _ _=>[],false⟩
 | 32=>⟨[],fun r o=>match r with | 1=>bif o then [] else [0,2,3] | _=>[],false⟩
 | 33=>⟨[],fun _ _=>[],false⟩
 | 34=>⟨[],fun _ _=>[],false⟩
 | 35=>⟨[],fun _ _=>[],false⟩
 | 36=>⟨[],fun r o=>match r with | 4=>bif o then [4] else [0,3,4,5] | _=>[],false⟩
 | 37=>⟨[],fun r o=>match r with | 6=>bif o then [0,2] else [0,3] | _=>[],false⟩
 | 38=>⟨[],fun r o=>match r with | 3=>bif o then [3] else [0,3,4] | _=>[],false⟩
 | 39=>⟨[],fun r o=>match r with | 3=>bif o then [3] else [0,3,4] | _=>[],false⟩
 | 40=>⟨[1],fun _ _=>[],false⟩
 | 41=>⟨[2],fun r o=>match r with | 6=>bif o then [1,2,4,5] else [1,2,6] | 22=>bif o then [7] else [2,7,8] | _=>[],false⟩
 | 42=>⟨[1,14],fun r o=>match r with | 6=>bif o then [1,5] else [1,5,31,32] | 14=>bif o then [7,8] else [7,8,48,49,50] | 19=>bif o then [7,8,12,48,49,50] else [7,8,11,12,48,49,50,62,63,64] | _=>[],false⟩
 | 43=>⟨[],fun r o=>match r with | 4=>bif o then [2] else [0,3] | _=>[],false⟩
 | 44=>⟨[],fun r o=>match r with | 3=>bif o then [0,1,4] else [0,1,3,4,5] | 8=>bif o then [] else [0,1,35,36,37] | _=>[],false⟩
 | 45=>⟨[],fun r o=>match r with | 5=>bif o then [3] else [0,3,4] | _=>[],false⟩
 | 46=>⟨[],fun r o=>match r with | 5=>bif o then [3] else [0,3,4] | _=>[],false⟩
 | 47=>⟨[],fun _ _=>[],false⟩
 | 48=>⟨[],fun r o=>match r with | 4=>bif o then [7,8] else [4,7,8,9] | 7=>bif o then [4,7,8,9] else [4,7,8,9,10] | 10=>bif o then [4,7,8,9,10] else [4,7,8,9,10,26,27,28] | _=>[],false⟩
 | 49=>⟨[3,6],fun _ _=>[],false⟩
 | 50=>⟨[],fun _ _=>[],false⟩
 | 51=>⟨[],fun _ _=>[],false⟩
 | 52=>⟨[],fun _ _=>[],false⟩
 | 53=>⟨[1],fun r o=>match r with | 5=>bif o then [2] else [1,3] | 8=>bif o then [1,2,3] else [1,3,4] | _=>[],false⟩
 | 54=>⟨[1],fun _ _=>[],false⟩
 | 55=>⟨[],fun r o=>match r with | 6=>bif o then [0,2] else [0,14,15,16] | 13=>bif o then [2] else [0,6] | _=>[],false⟩
 | 56=>⟨[],fun _ _=>[],false⟩
 | 57=>⟨[],fun _ _=>[],false⟩
 | 58=>⟨[1],fun _ _=>[],false⟩
 | 59=>⟨[2],fun r o=>match r with | 6=>bif o then [1,2,4,5] else [1,2,18,19,20] | 13=>bif o then [1,2,8] else [1,2,8,35,36] | _=>[],false⟩
 | 60=>⟨[],fun _ _=>[],false⟩
 | 61=>⟨[],fun _ _=>[],false⟩
 | 62=>⟨[],fun r o=>match r with | 4=>bif o then [0,2] else [0,3] | 9=>bif o then [0,3] else [0,3,4,5] | _=>[],false⟩
 | 63=>⟨[5,9],fun r o=>match r with | 5=>bif o then [2,5,6] else [1,2,4,5,6,21,22,23] | _=>[],false⟩
 | 64=>⟨[],fun r o=>match r with | 15=>bif o then [4] else [0,1,5,6,7,8,9,10] | _=>[],false⟩
 | 66=>⟨[4],fun r o=>match r with | 6=>bif o then [0,2] else [0,13,14,15] | _=>[],false⟩
 | 67=>⟨[7],fun r o=>match r with | 3=>bif o then [5] else [1,5,8,9,10] | _=>[],false⟩
 | 68=>⟨[1],fun _ _=>[],false⟩
 | 69=>⟨[1],fun _ _=>[],false⟩
 | 70=>⟨[],fun r o=>match r with | 2=>bif o then [] else [0,1,2,3,8,9] | _=>[],false⟩
 | 71=>⟨[],fun _ _=>[],false⟩
 | 72=>⟨[],fun _ _=>[],false⟩
 | 74=>⟨[],fun _ _=>[],false⟩
 | 75=>⟨[],fun r o=>match r with | 5=>bif o then [0,1,5,6,7,8] else [0,1,5,6,7,8,9] | 11=>bif o then [4] else [0,1,5,6,7,8,10] | _=>[],false⟩
 | 76=>⟨[],fun r o=>match r with | 1=>bif o then [] else [0,1,2,6] | 4=>bif o then [0,1,2,6] else [0,1,2,6,7] | _=>[],false⟩
 | 77=>⟨[],fun r o=>match r with | 4=>bif o then [0,6,7,8] else [0,6,7,8,9] | 8=>bif o then [] else [0,6,7,10] | _=>[],false⟩
 | 78=>⟨[],fun r o=>match r with | 5=>bif o then [] else [0,1,6,7,8,9] | _=>[],false⟩
 | 79=>⟨[],fun _ _=>[],false⟩
 | 80=>⟨[],fun r o=>match r with | 2=>bif o then [] else [0,6,7] | _=>[],false⟩
 | 81=>⟨[],fun r o=>match r with | 3=>bif o then [6] else [0,1,2,7,8] | 5=>bif o then [0,1,2,7,8] else [0,1,2,7,8] | 14=>bif o then [0,1,2,7,8] else [0,1,2,7,8,9] | 20=>bif o then [0,1,2,7,8] else [0,1,2,7,8,10] | _=>[],false⟩
 | 82=>⟨[],fun _ _=>[],false⟩
 | 83=>⟨[],fun r o=>match r with | 7=>bif o then [9] else [0,1,9,10] | 3=>bif o then [0,1,9,10] else [0,1,9,10] | 5=>bif o then [0,1,9,10] else [0,1,9,10] | _=>[],false⟩
 | 84=>⟨[],fun r o=>match r with | 3=>bif o then [0,1,10,11] else [0,1,10,11] | 5=>bif o then [0,1,10,11] else [0,1,10,11] | 17=>bif o then [0,1,11] else [0,1,10,11] | 13=>bif o then [0,1,10,11] else [0,1,10,11] | 15=>bif o then [0,1,10,11] else [0,1,10,11] | _=>[],false⟩
 | 85=>⟨[],fun _ _=>[],false⟩
 | 86=>⟨[],fun _ _=>[],false⟩
 | 88=>⟨[],fun r o=>match r with | 3=>bif o then [0,4] else [0,4,5] | 8=>bif o then [4,6] else [4,6,7,8] | _=>[],false⟩
 | 89=>⟨[],fun r o=>match r with | 1=>bif o then [] else [0,2,3,8] | _=>[],false⟩
 | 90=>⟨[],fun _ _=>[],false⟩
 | 91=>⟨[],fun _ _=>[],false⟩
 | 92=>⟨[],fun _ _=>[],false⟩
 | 93=>⟨[],fun _ _=>[],false⟩
 | 94=>⟨[],fun _ _=>[],false⟩
 | 95=>⟨[],fun _ _=>[],false⟩
 | _=>⟨[],fun _ _=>[],false⟩
noncomputable abbrev P18:Program:=Try.prog
theorem hm18:P18.follows .mixedOrders = true:=by kernel_rfl
theorem hn18:namesOk P18 = true:=by kernel_rfl
theorem hl18:laidOutB P18 = true:=by kernel_rfl
end Go.Ab

namespace Go.Proofs
open Go.Shelf
def Try.lays167_ren:Go.Shelf.Ren:=⟨fun | 240=>52 | 167=>34 | 276=>65 | n=>n,fun | 70=>81 | 72=>83 | 37=>22 | 164=>114 | 75=>85 | 80=>87 | n=>n,fun | n=>n⟩
theorem Try.lays167:Go.Proofs.Lays.n167 Try.prog Try.lays167_ren:={
 mixed:=by kernel_rfl
 f167:=Try.func34.trans (congrArg some (by kernel_rfl))
 f240:=Try.func52.trans (congrArg some (by kernel_rfl))
 f276:=Try.func65.trans (congrArg some (by kernel_rfl))
 t0:=Try.underlying0
 a0:=Try.isAgg0
 z0:=Try.sizeOf0
 v0:=Try.zeroValue0
 t4:=Try.underlying4
 a4:=Try.isAgg4
 z4:=Try.sizeOf4
 v4:=Try.zeroValue4
 t5:=Try.underlying5
 a5:=Try.isAgg5
 z5:=Try.sizeOf5
 v5:=Try.zeroValue5
 t9:=Try.underlying9
 a9:=Try.isAgg9
 z9:=Try.sizeOf9
 v9:=Try.zeroValue9
 t20:=Try.underlying20
 a20:=Try.isAgg20
 z20:=Try.sizeOf20
 v20:=Try.zeroValue20
 t37:=Try.underlying22
 a37:=Try.isAgg22
 z37:=Try.sizeOf22
 v37:=Try.zeroValue22
 t70:=Try.underlying81
 a70:=Try.isAgg81
 z70:=Try.sizeOf81
 v70:=Try.zeroValue81
 t72:=Try.underlying83
 a72:=Try.isAgg83
 z72:=Try.sizeOf83
 v72:=Try.zeroValue83
 t75:=Try.underlying85
 a75:=Try.isAgg85
 z75:=Try.sizeOf85
 v75:=Try.zeroValue85
 t164:=Try.underlying114
 a164:=Try.isAgg114
 z164:=Try.sizeOf114
 v164:=Try.zeroValue114 }
theorem Try.Builder_Extra_167:Builder.Extra Try.prog Try.lays167_ren:={
 sizeBuilder:=by kernel_rfl
 liesBuilder:=by kernel_rfl
 t5:=Try.underlying5
 a5:=Try.isAgg5
 z5:=Try.sizeOf5
 v5:=Try.zeroValue5
 infoByte:=by kernel_rfl
 cellsByte:=by kernel_rfl
 sizeByte:=by kernel_rfl
 neB5:=by decide }
open Go.RowKit in
theorem Try.Builder_WriteByte (B b:Nat) (bs:List Value) (c:Int) (w:World) (h:Lib.IsBuilder 83 5 B b bs w) (hlen:bs.length+1<=140737488355328) (hBw:B<=w.heap.size) :
 Calls Try.prog 34 #[.pointer (some ⟨b,0,none⟩),.int .u8 c] w fun e w'=>e = .returned .nilIface/\(Lib.BuilderAt 83 5 B b (.pointer (some ⟨b,0,none⟩)) (bs ++ [.int .u8 c]) w'/\Below B w w'):=Any.Builder_WriteByte Try.lays167 Try.Builder_Extra_167 B b bs c w h hlen hBw
def Try.lays169_ren:Go.Shelf.Ren:=⟨fun | 169=>35 | n=>n,fun | 70=>81 | 9=>9 | 0=>0 | 72=>83 | 37=>22 | 127=>106 | 3=>3 | 5=>5 | n=>n,fun | n=>n⟩
theorem Try.lays169:Go.Proofs.Lays.n169 Try.prog Try.lays169_ren:={
 mixed:=by kernel_rfl
 f169:=Try.func35.trans (congrArg some (by kernel_rfl))
 t0:=Try.underlying0
 a0:=Try.isAgg0
 z0:=Try.sizeOf0
 v0:=Try.zeroValue0
 t3:=Try.underlying3
 a3:=Try.isAgg3
 z3:=Try.sizeOf3
 v3:=Try.zeroValue3
 t9:=Try.underlying9
 a9:=Try.isAgg9
 z9:=Try.sizeOf9
 v9:=Try.zeroValue9
 t37:=Try.underlying22
 a37:=Try.isAgg22
 z37:=Try.sizeOf22
 v37:=Try.zeroValue22
 t70:=Try.underlying81
 a70:=Try.isAgg81
 z70:=Try.sizeOf81
 v70:=Try.zeroValue81
 t72:=Try.underlying83
 a72:=Try.isAgg83
 z72:=Try.sizeOf83
 v72:=Try.zeroValue83
 t127:=Try.underlying106
 a127:=Try.isAgg106
 z127:=Try.sizeOf106
 v127:=Try.zeroValue106 }
theorem Try.Builder_Extra_169:Builder.Extra Try.prog Try.lays169_ren:={
 sizeBuilder:=by kernel_rfl
 liesBuilder:=by kernel_rfl
 t5:=Try.underlying5
 a5:=Try.isAgg5
 z5:=Try.sizeOf5
 v5:=Try.zeroValue5
 infoByte:=by kernel_rfl
 cellsByte:=by kernel_rfl
 sizeByte:=by kernel_rfl
 neB5:=by decide }
open Go.RowKit in
theorem Try.Builder_String_any (B b:Nat) (l:List UInt8) (w:World) (h:Lib.IsBuilder 83 5 B b (Lib.byteCells l) w) (hBw:B<=w.heap.size) :
 Calls Try.prog 35 #[.pointer (some ⟨b,0,none⟩)] w fun e w'=>e = .returned (.string ⟨l.toArray⟩)/\Below B w w':=Any.Builder_String_any Try.lays169 Try.Builder_Extra_169 B b l w h hBw
def Try.lays219_ren:Go.Shelf.Ren:=⟨fun | 219=>64 | 217=>72 | 225=>73 | 224=>74 | 267=>75 | 266=>87 | 314=>88 | n=>n,fun | 9=>9 | 3=>3 | 4=>4 | 5=>5 | 46=>121 | 146=>137 | 51=>134 | n=>n,fun | 1=>0 | n=>n⟩
theorem Try.lays219:Go.Proofs.Lays.n219 Try.prog Try.lays219_ren:={
 mixed:=by kernel_rfl
 f217:=Try.func72.trans (congrArg some (by kernel_rfl))
 f219:=Try.func64.trans (congrArg some (by kernel_rfl))
 f224:=Try.func74.trans (congrArg some (by kernel_rfl))
 f225:=Try.func73.trans (congrArg some (by kernel_rfl))
 f266:=Try.func87.trans (congrArg some (by kernel_rfl))
 f267:=Try.func75.trans (congrArg some (by kernel_rfl))
 f314:=Try.func88.trans (congrArg some (by kernel_rfl))
 t3:=Try.underlying3
 a3:=Try.isAgg3
 z3:=Try.sizeOf3
 v3:=Try.zeroValue3
 t4:=Try.underlying4
 a4:=Try.isAgg4
 z4:=Try.sizeOf4
 v4:=Try.zeroValue4
 t5:=Try.underlying5
 a5:=Try.isAgg5
 z5:=Try.sizeOf5
 v5:=Try.zeroValue5
 t9:=Try.underlying9
 a9:=Try.isAgg9
 z9:=Try.sizeOf9
 v9:=Try.zeroValue9
 t46:=Try.underlying121
 a46:=Try.isAgg121
 z46:=Try.sizeOf121
 v46:=Try.zeroValue121
 t51:=Try.underlying134
 a51:=Try.isAgg134
 z51:=Try.sizeOf134
 v51:=Try.zeroValue134
 t146:=Try.underlying137
 a146:=Try.isAgg137
 z146:=Try.sizeOf137
 v146:=Try.zeroValue137
 g1:=by kernel_rfl }
open Go.RowKit Go.Lib in
theorem Try.stringslite_Index_one (s:ByteArray) (c:UInt8) (w:World) :
 Calls Try.prog 64 #[.string s,.string ⟨#[c]⟩] w fun e w'=>e = .returned (.int .i64 (Lib.indexByte s.data.toList c))/\w' = w:=Any.stringslite_Index_one Try.lays219 s c w
end Go.Proofs

