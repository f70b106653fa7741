/- A part of the proof: nothing is assumed. -/
import Derived.Test.YtfcpfihblbbelaaGreatDoorP12
import Derived.Test.YtfcpfihblbbelaaGreatDoorP14
import Derived.Test.YtfcpfihblbbelaaGreatDoorP20
set_option linter.all false
namespace Go.Ab
open IntKind(i64 u8)
open Int(ofNat)
open Go.Proofs
def qg0:qbq:=[(17,[cx0,iI 1],.tup [wx0,ii 0]),(17,[cx1,iI 1],.tup [wx1,ii 0]),(17,[cx2,iI 3],.tup [wx2,ii 0]),
 (21,[wx0,uI 1],bx0),(21,[wx1,uI 1],bx1),(21,[wx2,uI 2],bx2)]
theorem qcY:KR P17 G17 qg0:=⟨qil,qin,qiu,qim,qio,qiv,trivial⟩
theorem qiw:ToldOk P17 G17 12 [cx0] bx0:=QT (o:=ZH P17 G17 A17 jK Z17 (yl 9 qg0 KQ) 40 12 [cx0]) (d:=9) (fun r h=>Qi (m:=40) qG Qm (y9 qcY zh) zg h) (by kernel_rfl)
theorem qix:ToldOk P17 G17 12 [cx1] bx1:=QT (o:=ZH P17 G17 A17 jK Z17 (yl 9 qg0 KQ) 40 12 [cx1]) (d:=9) (fun r h=>Qi (m:=40) qG Qm (y9 qcY zh) zg h) (by kernel_rfl)
theorem qiy:ToldOk P17 G17 12 [cx2] bx2:=QT (o:=ZH P17 G17 A17 jK Z17 (yl 9 qg0 KQ) 40 12 [cx2]) (d:=9) (fun r h=>Qi (m:=40) qG Qm (y9 qcY zh) zg h) (by kernel_rfl)
def qiz:qbq:=[(12,[cx0],bx0),(12,[cx1],bx1),(12,[cx2],bx2)]
theorem qg1:KR P17 G17 qiz:=⟨qiw,qix,qiy,trivial⟩
noncomputable def qiA:Orc:=YE P17 G17 A17 jK Z17 (fun f=>!(qig.contains f)) (fun f=>f==37 || qih.contains f) (fun _=>false) 40 qy 10
theorem qg2:OrcOk P17 G17 qiA:=qcV qG Qm zg 40 qh 10
theorem qe9:ToldOk P17 G17 16 [] (.bool true):=Qi (A:=A17) (Z:=Z17) (K:=(yl 9 qiz qiA).addRef 1000002 (fun _ _=>.none)) (m:=40) qG Qm (qdC (y9 qg1 qg2) (fun _ _ _ _ h=>(by cases h))) zg (by kernel_rfl)
end Go.Ab

