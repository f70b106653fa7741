/- A part of the proof: nothing is assumed. -/
import Derived.Test.YtfcpfihblbbelaaGreatDoorP12
import Derived.Test.YtfcpfihblbbelaaGreatDoorP14
import Derived.Test.YtfcpfihblbbelaaGreatDoorP16
set_option linter.all false
namespace Go.Ab
open IntKind(i64 u8)
open Int(ofNat)
open Go.Proofs
def qgY:qdV:=[(17,[cx0,iI 1],.tup [wx0,ii 0]),(17,[cx1,iI 1],.tup [wx1,ii 0]),(17,[cx2,iI 3],.tup [wx2,ii 0]),
 (21,[wx0,uI 1],bx0),(21,[wx1,uI 1],bx1),(21,[wx2,uI 2],bx2)]
theorem qcX:qa4 P17 G17 qgY:=⟨qij,qil,qin,qik,qim,qio,trivial⟩
theorem qip:ToldOk P17 G17 12 [cx0] bx0:=Za (o:=YJ P17 G17 A17 qbo Z17 (y7 9 qgY qa2) 40 12 [cx0]) (d:=9) (fun r h=>QM (m:=40) qH Qr (jI qcX Zv) Zu h) (by kernel_rfl)
theorem qiq:ToldOk P17 G17 12 [cx1] bx1:=Za (o:=YJ P17 G17 A17 qbo Z17 (y7 9 qgY qa2) 40 12 [cx1]) (d:=9) (fun r h=>QM (m:=40) qH Qr (jI qcX Zv) Zu h) (by kernel_rfl)
theorem qir:ToldOk P17 G17 12 [cx2] bx2:=Za (o:=YJ P17 G17 A17 qbo Z17 (y7 9 qgY qa2) 40 12 [cx2]) (d:=9) (fun r h=>QM (m:=40) qH Qr (jI qcX Zv) Zu h) (by kernel_rfl)
def qis:qdV:=[(12,[cx0],bx0),(12,[cx1],bx1),(12,[cx2],bx2)]
theorem qgZ:qa4 P17 G17 qis:=⟨qip,qiq,qir,trivial⟩
noncomputable def qit:Orc:=YC P17 G17 A17 qbo Z17 (fun f=>!(qie.contains f)) (fun f=>f==37 || qif.contains f) (fun _=>false) 40 qy 10
theorem qg0:OrcOk P17 G17 qit:=qcU qH Qr Zu 40 qh 10
theorem qe9:ToldOk P17 G17 16 [] (.bool true):=QM (A:=A17) (Z:=Z17) (K:=(y7 9 qis qit).addRef 1000002 (fun _ _=>.none)) (m:=40) qH Qr (qdB (jI qgZ qg0) (fun _ _ _ _ h=>(by cases h))) Zu (by kernel_rfl)
end Go.Ab

