/- A part of the proof: nothing is assumed. -/
import Derived.Test.YtfcpfihblbbelaaGreatDoorP17
import Derived.Test.YtfcpfihblbbelaaGreatDoorP9
set_option linter.all false
namespace Go.Ab
open IntKind(i64 u8)
open Int(ofNat)
open Go.Proofs
def qis:qbq:=[(79,[wy0,ro2],.tup [wy1,ii 0]),(79,[wy1,rp2],.tup [wy2,ii 0]),(79,[wy2,rp2],.tup [wx2,ii 0])]
theorem qgY:KR P17 G17 qis:=⟨qip,qiq,qir,trivial⟩
def wz0:T:=.agg [vw 2 (some 2) [[uu 0,vw 2 (some 1) [[uu 1,ii 0]]],[uu 0,vw 2 (some 1) [[uu 1,ii 1]]]],vw 5 (some 6) [[.bool true,ii 179,ii 2,.bool false,vw 4 (some 0) []],[.bool false,ii 0,ii 0,.bool false,.nils],[.bool false,ii 0,ii 0,.bool false,.nils],[.bool false,ii 0,ii 0,.bool false,.nils],[.bool false,ii 0,ii 0,.bool false,.nils],[.bool false,ii 0,ii 0,.bool false,.nils]],vw 1 (some 6) [[vw 4 (some 2) [[uu 0,.bool true,vw 2 (some 0) [],vw 4 (some 0) []],[uu 0,.bool false,vw 2 (some 0) [],vw 4 (some 0) []]]],[.nils],[.nils],[.nils],[.nils],[.nils]],.nils,vw 2 (some 2) [[uu 1,ii 0],[uu 1,ii 1]],.nils,uu 0]
theorem qi3:ToldOk P17 G17 42 [wz0,vw 1 none [[ro2],[rp2],[rp2]]] (.tup [wx2,ii 3,ii 0]):=QT (o:=(ZH P17 G17 A17 jK Z17 (yl 9 qis KQ) 40 42 [wz0,vw 1 none [[ro2],[rp2],[rp2]]]).map frz) (d:=9) (fun r h=>by obtain⟨q,h1,rfl⟩:=Option.map_eq_some_iff.1 h;exact(Qi (m:=40) qG Qm (y9 qgY zh) zg h1).frz) (by kernel_rfl)
end Go.Ab

