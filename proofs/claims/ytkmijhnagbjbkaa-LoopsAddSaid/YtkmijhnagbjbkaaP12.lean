/- A part of the proof: nothing is assumed. -/
import Derived.Test.YtkmijhnagbjbkaaP4
set_option linter.all false
namespace Go.Ab
section
variable {P:Program} {Gl:Nat->Option (List T)} {A:FuncId->Ann}
theorem stepL_of_R {K:Orc} {m:Nat} {f:FuncId} {l:List (Nat × (List T->Heap->LT))} {args:List T} {v:T} {h':Heap} (h:stepR P Gl A K m f l args [] = some (v,h')):stepL P Gl A K m f l args = some (give h' v):=by
 unfold stepR at h
 obtain ⟨⟨v1,h1⟩,q1,q2⟩:=det_some (runR_det (P:=P) (Gl:=Gl) (A:=A) (K:=K) (recWith_det (recN_det P Gl A K m f) (l:=l)) f args []) (k:=fun p=>some (p.1,p.2)) h
 simp only [Option.some.injEq,Prod.mk.injEq] at q1
 obtain ⟨rfl,rfl⟩:=q1
 exact q2 T fun p=>some (give p.2 p.1)
theorem resolve_imm0 {d:Nat} {ex:List Nat} {h:Heap} {x:T} (hx:imm0 x = true):resolve (d+1) ex h x = x:=by
 cases x with
 | fn f caps =>
  simp only [imm0,List.isEmpty_iff] at hx
  subst hx
  rfl
 | _=>first | rfl | (simp [imm0] at hx)
theorem told_row (hm:P.follows .mixedOrders = true) (hn:namesOk P = true) {K:Orc} (hK:OrcOk P Gl K) {m:Nat} {f:FuncId} (ha:loopsApart P f = true) {l:List (Nat × (List T->Heap->LT))}
 (hl:∀ p ∈ l,LoopOk P Gl (A f) f p.1 p.2) {args:List T} {n sz:Nat} {c:Option Nat} {g g2:Nat->List T} {tab:Bool} (hc:∀ k,c = some k->k<=n) (hg:∀ j,j<n->g j = g2 j/\(g2 j).all imm0 = true)
 (h:stepR P Gl A K m f l args [] = some (.own 0 0 0 n c,[⟨0,sz,n,g,false,tab,none⟩])):ToldOk P Gl f args (.fresh false sz n g2 n c):=by
 have t:=stepL_told hm hn hK ha hl (stepL_of_R h)
 have e:give [⟨0,sz,n,g,false,tab,none⟩] (.own 0 0 0 n c) = .fresh false sz (n - 0) (fun j=>(g (0+j)).map (resolve 3 [0] [⟨0,sz,n,g,false,tab,none⟩])) n c:=by
  show (bif (true&&Nat.ble (0+n) n) then T.fresh false sz (n - 0) (fun j=>(g (0+j)).map (resolve 3 [0] [⟨0,sz,n,g,false,tab,none⟩])) n c else .undef) = _
  rw [bleT (show 0+n<=n by omega)]
  rfl
 rw [e] at t
 refine t.resTo (.fresh (Nat.le_refl _) (Nat.le_refl _) hc fun j hj=>?_)
 obtain ⟨q1,q2⟩:=hg j hj
 rw [Nat.zero_add,q1]
 have:∀ l:List T,l.all imm0 = true->l = l.map (resolve 3 [0] [⟨0,sz,n,g,false,tab,none⟩]):=by
  intro l hl
  induction l with
  | nil=>rfl
  | cons x l ih =>
   simp only [List.all_cons,Bool.and_eq_true] at hl
   rw [List.map_cons,resolve_imm0 hl.1,← ih hl.2]
 exact this _ q2
end
end Go.Ab

