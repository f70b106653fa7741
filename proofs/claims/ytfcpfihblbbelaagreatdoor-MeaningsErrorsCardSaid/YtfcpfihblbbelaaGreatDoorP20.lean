/- A part of the proof: nothing is assumed. -/
import Derived.Test.YtfcpfihblbbelaaGreatDoorP19
import Derived.Test.YtfcpfihblbbelaaGreatDoorP11
set_option linter.all false
namespace Go.Ab
open IntKind(i64 u8)
open Int(ofNat)
open Go.Proofs
def bx2:T:=.tup [.agg [vw 1 (some 6) [[vw 4 (some 4) [[uu 0,.bool true,vw 2 (some 0) [],vw 4 (some 0) []],[uu 0,.bool false,vw 2 (some 0) [],vw 4 (some 0) []],[uu 0,.bool false,vw 2 (some 1) [[uu 1,ii 1]],vw 4 (some 0) []],[uu 0,.bool false,vw 2 (some 1) [[uu 1,ii 0]],vw 4 (some 0) []]]],[vw 4 (some 6) [[uu 0,.bool true,vw 2 (some 1) [[uu 1,ii 3]],vw 4 (some 0) []],[uu 0,.bool false,vw 2 (some 1) [[uu 1,ii 2]],vw 4 (some 0) []],[uu 0,.bool false,vw 2 (some 1) [[uu 2,ii 1]],vw 4 (some 0) []],[uu 0,.bool false,vw 2 (some 1) [[uu 2,ii 0]],vw 4 (some 0) []],[uu 0,.bool false,vw 2 (some 1) [[uu 2,ii 3]],vw 4 (some 0) []],[uu 0,.bool false,vw 2 (some 2) [[uu 2,ii 4],[uu 2,ii 2]],vw 4 (some 1) [[uu 2,ii 4,.bool true,uu 0]]]]],[vw 4 (some 0) []],[vw 4 (some 0) []],[vw 4 (some 0) []],[vw 4 (some 0) []]],vw 5 (some 0) [],.nils,vw 2 (some 1) [[uu 2,ii 5]]],ii 0]
theorem qiv:ToldOk P17 G17 21 [wx2,uI 2] bx2:=QT (o:=(qdX P17 G17 A17 KQ 40 7 21 [wx2,uI 2]).map frz) (d:=9) (fun r h=>by obtain⟨q,h1,rfl⟩:=Option.map_eq_some_iff.1 h;exact(KT (m:=40) (n:=7) qG Qm zh h1).frz) (by kernel_rfl)
end Go.Ab

