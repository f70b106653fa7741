/- A part of the proof: nothing is assumed. -/
import Derived.Test.YtfcpfihblbbelaaGreatDoorP5
import Derived.Test.YtfcpfihblbbelaaGreatDoorP3
set_option linter.all false
namespace Go.Ab
section
variable {P:Program} {G:Nat->Option (List T)} {A:FuncId->Ann} {f:Nat} {h0:qa} {p l l1 l2:List Nat} {v1 v2:List T} {h1:qa} {e:Ex}
theorem Pz.scan(hq:yK P f p qcN=true)(V:Nat->List T)(H:Nat->qa)(g:Nat->Bool){n:Nat}(h2:Nat->qa)(he:e≠.normal)
 (good:∀i,i<n->(∀j,j<i->g j=true)->g i=true->Pz P G A f h0 (0::p) l (V i) (H i) .normal l (V (i+1)) (H (i+1)))
 (bad:∀i,i<n->(∀j,j<i->g j=true)->g i=false->Pz P G A f h0 (0::p) l (V i) (H i) .ret l2 v2 (h2 i))
 (last:(∀j,j<n->g j=true)->Pz P G A f h0 (0::p) l (V n) (H n) e l1 v1 h1) :
 (Qp g n=true/\Pz P G A f h0 p l (V 0) (H 0) e l1 v1 h1)∨(Qp g n=false/\∃i,i<n/\Pz P G A f h0 p l (V 0) (H 0) .ret l2 v2 (h2 i)):=by
 rcases zr g n with ha|⟨i,hi,hb,hj⟩
 ·have hg:=(Q3 _ _).1 ha;exact .inl ⟨ha,Pz.count hq V H he (fun i hi=>good i hi (fun j hj=>hg j (by omega)) (hg i hi)) (last hg)⟩
 ·exact .inr ⟨(zU _ _).2 ⟨i,hi,hb⟩,i,hi,Pz.count hq V H (by simp) (fun k hk=>good k (by omega) (fun j hj'=>hj j (by omega)) (hj k hk)) (bad i hi hj hb)⟩
end
end Go.Ab

