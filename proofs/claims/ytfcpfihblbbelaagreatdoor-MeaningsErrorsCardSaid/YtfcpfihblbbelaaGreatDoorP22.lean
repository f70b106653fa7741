/- A part of the proof: nothing is assumed. -/
import Derived.Test.YtfcpfihblbbelaaGreatDoorP6
import Derived.Test.YtfcpfihblbbelaaGreatDoorP21
set_option linter.all false
namespace Go.Ab
open IntKind(i64 u8)
open Int(ofNat)
open Go.Proofs
noncomputable def K39(p:List T->T->Prop)(e:Int):Orc:=qy.add 39 (Qe p fun _=>some (iI e))
def zW:T:=.agg [.nils,.nils,.nils,.nils,.nils,.nils,uI 0]
def zF:T:=.agg [.nils,.nils,.nils,.nils]
noncomputable def K12(p:List T->T->Prop)(e:Int):Orc:=qy.add 17 (Qe p fun _=>some (.tup [zW,iI e]))
theorem qb2(C:Nat->Nat->Sti)(ln:Nat->Nat)(h:Nat)(n e:Int)(he:e≠0)(t1:ToldOk P17 G17 39 [.agg [chV C ln h]] (iI e)):ToldOk P17 G17 17 [.agg [chV C ln h],iI n] (.tup [zW,iI e]):=by
 obtain⟨p,hp⟩:=qA P17 G17 39;refine q9 qG Qm (qj qh (qg hp)) (K:=K39 p e) (A:=A17) (m:=0) ?_;rw[(show Zf P17 G17 A17 (K39 p e) 0 17 [.agg [chV C ln h],iI n] =
( gD (qF (p [.agg [chV C ln h]] (iI e)))<|bif !decide (e=0) then some (.tup [.agg [.nils,.nils,.nils,.nils,.nils,.nils,uI 0],iI e]) else
 bif decide (n<0) then some (.tup [.agg [.nils,.nils,.nils,.nils,.nils,.nils,uI 0],iI 1]) else
 bif decide (ofNat h<n) then some (.tup [.agg [.nils,.nils,.nils,.nils,.nils,.nils,uI 0],iI 1]) else
 gD (decide (0<ofNat h)) none) from by kernel_rfl)]
 exact qt (qo hp t1) (qt (by simpa using he) rfl)
theorem qfI(C:Nat->Nat->Sti)(ln:Nat->Nat)(h:Nat)(e:Int)(he:e≠0)(t1:ToldOk P17 G17 39 [.agg [chV C ln h]] (iI e)):ToldOk P17 G17 24 [.agg [chV C ln h]] (.tup [.nils,iI e]):=by
 obtain⟨p,hp⟩:=qA P17 G17 39;refine q9 qG Qm (qj qh (qg hp)) (K:=K39 p e) (A:=A17) (m:=0) ?_;rw[(show Zf P17 G17 A17 (K39 p e) 0 24 [.agg [chV C ln h]] =
( gD (qF (p [.agg [chV C ln h]] (iI e)))<|bif !decide (e=0) then some (.tup [.nils,iI e]) else
 gD (decide (0<=i64.wrap (ofNat h-1))&&decide (i64.wrap (ofNat h-1)<ofNat h))<|gD (decide (0<ofNat h)) none) from by kernel_rfl)]
 exact qt (qo hp t1) (qt (by simpa using he) rfl)
theorem qhU(C:Nat->Nat->Sti)(ln:Nat->Nat)(h:Nat)(e:Int)(he:e≠0)(t1:ToldOk P17 G17 39 [.agg [chV C ln h]] (iI e)):ToldOk P17 G17 12 [.agg [chV C ln h]] (.tup [zF,iI e]):=by
 obtain⟨p,hp⟩:=qA P17 G17 17;refine q9 qG Qm (qj qh (qg hp)) (K:=K12 p e) (A:=A17) (m:=0) ?_;rw[(show Zf P17 G17 A17 (K12 p e) 0 12 [.agg [chV C ln h]] =
( gD (qF (p [.agg [chV C ln h],iI (.ofNat h)] (.tup [.agg [.nils,.nils,.nils,.nils,.nils,.nils,uI 0],iI e])))<|bif !decide (e=0) then some (.tup [.agg [.nils,.nils,.nils,.nils],iI e]) else
 gD (decide (0<=i64.wrap (ofNat h-1))&&decide (i64.wrap (ofNat h-1)<ofNat h)) none) from by kernel_rfl)]
 exact qt (qo hp (qb2 C ln h _ e he t1)) (qt (by simpa using he) rfl)
theorem qgo(y:Int):ToldOk P17 G17 21 [zW,uI y] (.tup [zF,iI 5]):=by
 refine Qi (A:=A17) (Z:=Z17) (K:=KQ) (m:=4) qG Qm zh zg ?_
 kernel_rfl
end Go.Ab

