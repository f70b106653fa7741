/- A part of the proof: nothing is assumed. -/
import Derived.Test.YtfcpfihblbbelaaGreatDoorP16
import Derived.Test.YtfcpfihblbbelaaGreatDoorP9
set_option linter.all false
namespace Go.Ab
open IntKind(i64 u8)
open Int(ofNat)
open Go.Proofs
def wx2:T:=.agg [vw 2 (some 2) [[uu 0,vw 2 (some 1) [[uu 2,ii 3]]],[uu 0,vw 2 (some 1) [[uu 2,ii 2]]]],vw 5 (some 6) [[.bool true,ii (-13),ii 4,.bool false,vw 4 (some 0) []],[.bool true,ii (-13),ii 4,.bool false,vw 4 (some 0) []],[.bool false,ii 0,ii 0,.bool false,vw 4 (some 0) []],[.bool false,ii 0,ii 0,.bool false,vw 4 (some 0) []],[.bool false,ii 0,ii 0,.bool false,vw 4 (some 0) []],[.bool false,ii 0,ii 0,.bool false,vw 4 (some 0) []]],vw 1 (some 6) [[vw 4 (some 4) [[uu 0,.bool true,vw 2 (some 0) [],vw 4 (some 0) []],[uu 0,.bool false,vw 2 (some 0) [],vw 4 (some 0) []],[uu 0,.bool false,vw 2 (some 1) [[uu 1,ii 1]],vw 4 (some 0) []],[uu 0,.bool false,vw 2 (some 1) [[uu 1,ii 0]],vw 4 (some 0) []]]],[vw 4 (some 4) [[uu 0,.bool true,vw 2 (some 1) [[uu 1,ii 3]],vw 4 (some 0) []],[uu 0,.bool false,vw 2 (some 1) [[uu 1,ii 2]],vw 4 (some 0) []],[uu 0,.bool false,vw 2 (some 1) [[uu 2,ii 1]],vw 4 (some 0) []],[uu 0,.bool false,vw 2 (some 1) [[uu 2,ii 0]],vw 4 (some 0) []]]],[vw 4 (some 0) []],[vw 4 (some 0) []],[vw 4 (some 0) []],[vw 4 (some 0) []]],vw 5 (some 0) [],vw 2 (some 2) [[uu 2,ii 3],[uu 2,ii 2]],vw 2 (some 0) [],uu 1]
theorem qir:ToldOk P17 G17 79 [wy2,rp2] (.tup [wx2,ii 0]):=QT (o:=(ZH P17 G17 A17 jK Z17 KQ 40 79 [wy2,rp2]).map frz) (d:=9) (fun r h=>by obtain⟨q,h1,rfl⟩:=Option.map_eq_some_iff.1 h;exact(Qi (m:=40) qG Qm zh zg h1).frz) (by kernel_rfl)
end Go.Ab

