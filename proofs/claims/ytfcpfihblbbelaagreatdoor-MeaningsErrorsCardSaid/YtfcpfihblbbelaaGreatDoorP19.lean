/- A part of the proof: nothing is assumed. -/
import Derived.Test.YtfcpfihblbbelaaGreatDoorP18
import Derived.Test.YtfcpfihblbbelaaGreatDoorP9
set_option linter.all false
namespace Go.Ab
open IntKind(i64 u8)
open Int(ofNat)
open Go.Proofs
def cx2:T:=.agg [vw 1 none [[ro2],[rp2],[rp2]]]
def qit:qbq:=[(42,[wz0,vw 1 none [[ro2],[rp2],[rp2]]],.tup [wx2,ii 3,ii 0])]
theorem qgZ:KR P17 G17 qit:=⟨qi3,trivial⟩
theorem qiu:ToldOk P17 G17 17 [cx2,iI 3] (.tup [wx2,ii 0]):=QT (o:=(ZH P17 G17 A17 jK Z17 (yl 9 qit KQ) 40 17 [cx2,iI 3]).map frz) (d:=9) (fun r h=>by obtain⟨q,h1,rfl⟩:=Option.map_eq_some_iff.1 h;exact(Qi (m:=40) qG Qm (y9 qgZ zh) zg h1).frz) (by kernel_rfl)
end Go.Ab

