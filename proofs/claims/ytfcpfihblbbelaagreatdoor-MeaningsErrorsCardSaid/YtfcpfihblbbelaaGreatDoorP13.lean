/- A part of the proof: nothing is assumed. -/
import Derived.Test.YtfcpfihblbbelaaGreatDoorP8
import Derived.Test.YtfcpfihblbbelaaGreatDoorP9
set_option linter.all false
namespace Go.Ab
open IntKind(i64 u8)
open Int(ofNat)
open Go.Proofs
def cx1:T:=.agg [vw 1 none [[vw 5 none [[uu 1,uu 2,ii 0,ii 0,.bool false],[uu 1,uu 1,ii 0,ii 0,.bool false]]]]]
def wx1:T:=.agg [vw 2 (some 2) [[uu 0,vw 2 (some 1) [[uu 2,ii 0]]],[uu 0,vw 2 (some 1) [[uu 1,ii 2]]]],vw 5 (some 6) [[.bool true,ii (-13),ii 3,.bool false,vw 4 (some 1) [[uu 1,ii 0,.bool false,uu 0]]],[.bool true,ii (-13),ii 1,.bool false,vw 4 (some 0) []],[.bool false,ii 0,ii 0,.bool false,vw 4 (some 0) []],[.bool false,ii 0,ii 0,.bool false,vw 4 (some 0) []],[.bool false,ii 0,ii 0,.bool false,vw 4 (some 0) []],[.bool false,ii 0,ii 0,.bool false,vw 4 (some 0) []]],vw 1 (some 6) [[vw 4 (some 3) [[uu 0,.bool true,vw 2 (some 0) [],vw 4 (some 0) []],[uu 0,.bool false,vw 2 (some 0) [],vw 4 (some 0) []],[uu 0,.bool false,vw 2 (some 1) [[uu 1,ii 1]],vw 4 (some 0) []]]],[vw 4 (some 1) [[uu 0,.bool true,vw 2 (some 1) [[uu 1,ii 0]],vw 4 (some 1) [[uu 1,ii 2,.bool false,uu 0]]]]],[vw 4 (some 0) []],[vw 4 (some 0) []],[vw 4 (some 0) []],[vw 4 (some 0) []]],vw 5 (some 0) [],vw 2 (some 2) [[uu 2,ii 0],[uu 1,ii 2]],vw 2 (some 0) [],uu 1]
theorem qin:ToldOk P17 G17 17 [cx1,iI 1] (.tup [wx1,ii 0]):=QT (o:=ZH P17 G17 A17 jK Z17 KQ 40 17 [cx1,iI 1]) (d:=9) (fun r h=>Qi (m:=40) qG Qm zh zg h) (by kernel_rfl)
end Go.Ab

