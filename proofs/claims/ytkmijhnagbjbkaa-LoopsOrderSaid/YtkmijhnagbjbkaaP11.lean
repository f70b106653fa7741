/- A part of the proof: nothing is assumed. -/
import Derived.Test.YtkmijhnagbjbkaaP5
import Derived.Test.YtkmijhnagbjbkaaP10
import Derived.Test.YtkmijhnagbjbkaaP9
import Derived.Test.YtkmijhnagbjbkaaP4
set_option linter.all false
namespace Go.Ab
open Go.Proofs
theorem livesT:ToldOk P05 G05 13 [] (.bool true) :=
 stepV_told (A:=A05) (K:=inlW P05 G05 A05 (fun f=>!([23,27,40,47,32,64].contains f)) (fun f=>f==33) 40 10) (m:=40) hm05 hn05 (inlW_ok hm05 hn05 40 10) (by kernel_rfl)
open Go.Proofs
def s11 (t:Tbl) (g:Nat->Idd) (R:Nat) (D:Nat->Int) (i:Nat) (f:Bool) (y:Int):List T:=[t.v,idV g R (some R),dnR D,.int .i64 i,.bool f,.int .i64 y]
def s7 (t:Tbl) (g:Nat->Idd) (R:Nat) (D:Nat->Int) (i:Nat):List T:=[t.v,idV g R (some R),dnR D,.int .i64 i]
def x11 (t:Tbl) (g:Nat->Idd) (R:Nat) (D:Nat->Int) (i:Nat):List T:=[.undef,t.v,idV g R (some R),dnR D,.int .i64 i,.bool true]
noncomputable def K3n (p:List T->T->Prop) (c:Int):Orc:=noneO.add 12 (callF p fun _=>some (.int .i64 c))
noncomputable def l3i (x:List T->Heap->Ex->List T->Heap->Prop) (t:Tbl) (g:Nat->Idd) (R:Nat) (D:Nat->Int) (i:Nat):List (Nat × (List T->Heap->LT)):=[(11,loopF x (.ret (.exit 2) (x11 t g R D i) []))]
noncomputable def l3o (x:List T->Heap->Ex->List T->Heap->Prop):List (Nat × (List T->Heap->LT)):=[(7,loopF x (.ret (.exit 0) [.undef] []))]
noncomputable def K3 (p8 p9 p10 p11 p13:List T->T->Prop) (t:Tbl) (m g:Nat->Idd) (n R:Nat):Orc:=((((noneO.add 8 (callF p8 fun _=>some (.tup [t.v,idV m n none]))).add 9 (callF p9 fun _=>some (.tup [idV g R (some R),.int .i64 0]))).add 10 (callF p10 fun _=>some (.int .i64 0))).add 11 (callF p11 fun _=>some (.int .i64 n))).add 13 (callF p13 fun _=>some (.bool true))
theorem i3n1 (ln:Nat->Nat) (L:Nat->Nat->Lpp) (g:Nat->Idd) (R:Nat) (D:Nat->Int) (i:Nat) (p:List T->T->Prop) (c:Int):iterR P05 G05 A05 (K3n p c) 0 3 [] 11 (s11 ⟨6,ln,L⟩ g R D i false 1) [] =
(
 bif decide (D 1 = Int.ofNat (ln (0:Nat))) then
 some ((.normal,[.view 1 6 (fun y=>[lpV (L y) (ln y)
 none])
 none,idV g R (some R),dnR D,.int .i64 (.ofNat i),.bool false,.int .i64 2],[]))
 else
 bif decF (p [.view 1 6 (fun y=>[lpV (L y) (ln y)
 none])
 none,.agg [.int .u8 1,.int .i64 (D (1:Nat))],dnV D] (.int .i64 c)) then
 bif decide (0<c) then
 some ((.normal,[.view 1 6 (fun y=>[lpV (L y) (ln y)
 none])
 none,idV g R (some R),dnR D,.int .i64 (.ofNat i),.bool false,.int .i64 2],[]))
 else
 bif decide (0<=Int.ofNat i)&&decide (Int.ofNat i<Int.ofNat R) then
 bif decide ((g i).y = 1) then
 bif decide ((g i).n = D (1:Nat)) then
 some ((.normal,[.view 1 6 (fun y=>[lpV (L y) (ln y)
 none])
 none,idV g R (some R),.reg [.int .i64 (D (0:Nat)),.int .i64 (IntKind.i64.wrap (D (1:Nat)+(1:Int))),.int .i64 (D (2:Nat)),.int .i64 (D (3:Nat)),.int .i64 (D (4:Nat)),.int .i64 (D (5:Nat)),.int .i64 (D (6:Nat))],.int .i64 (.ofNat i),.bool true,.int .i64 2],[]))
 else
 some ((.ret,[.bool false,.view 1 6 (fun y=>[lpV (L y) (ln y)
 none])
 none,idV g R (some R),dnR D,.int .i64 (.ofNat i),.bool true],[]))
 else
 some ((.ret,[.bool false,.view 1 6 (fun y=>[lpV (L y) (ln y)
 none])
 none,idV g R (some R),dnR D,.int .i64 (.ofNat i),.bool true],[]))
 else none else
 none):=by kernel_rfl
theorem i3n2 (ln:Nat->Nat) (L:Nat->Nat->Lpp) (g:Nat->Idd) (R:Nat) (D:Nat->Int) (i:Nat) (p:List T->T->Prop) (c:Int):iterR P05 G05 A05 (K3n p c) 0 3 [] 11 (s11 ⟨6,ln,L⟩ g R D i false 2) [] =
(
 bif decide (D 2 = Int.ofNat (ln (1:Nat))) then
 some ((.normal,[.view 1 6 (fun y=>[lpV (L y) (ln y)
 none])
 none,idV g R (some R),dnR D,.int .i64 (.ofNat i),.bool false,.int .i64 3],[]))
 else
 bif decF (p [.view 1 6 (fun y=>[lpV (L y) (ln y)
 none])
 none,.agg [.int .u8 2,.int .i64 (D (2:Nat))],dnV D] (.int .i64 c)) then
 bif decide (0<c) then
 some ((.normal,[.view 1 6 (fun y=>[lpV (L y) (ln y)
 none])
 none,idV g R (some R),dnR D,.int .i64 (.ofNat i),.bool false,.int .i64 3],[]))
 else
 bif decide (0<=Int.ofNat i)&&decide (Int.ofNat i<Int.ofNat R) then
 bif decide ((g i).y = 2) then
 bif decide ((g i).n = D (2:Nat)) then
 some ((.normal,[.view 1 6 (fun y=>[lpV (L y) (ln y)
 none])
 none,idV g R (some R),.reg [.int .i64 (D (0:Nat)),.int .i64 (D (1:Nat)),.int .i64 (IntKind.i64.wrap (D (2:Nat)+(1:Int))),.int .i64 (D (3:Nat)),.int .i64 (D (4:Nat)),.int .i64 (D (5:Nat)),.int .i64 (D (6:Nat))],.int .i64 (.ofNat i),.bool true,.int .i64 3],[]))
 else
 some ((.ret,[.bool false,.view 1 6 (fun y=>[lpV (L y) (ln y)
 none])
 none,idV g R (some R),dnR D,.int .i64 (.ofNat i),.bool true],[]))
 else
 some ((.ret,[.bool false,.view 1 6 (fun y=>[lpV (L y) (ln y)
 none])
 none,idV g R (some R),dnR D,.int .i64 (.ofNat i),.bool true],[]))
 else none else
 none):=by kernel_rfl
theorem i3n3 (ln:Nat->Nat) (L:Nat->Nat->Lpp) (g:Nat->Idd) (R:Nat) (D:Nat->Int) (i:Nat) (p:List T->T->Prop) (c:Int):iterR P05 G05 A05 (K3n p c) 0 3 [] 11 (s11 ⟨6,ln,L⟩ g R D i false 3) [] =
(
 bif decide (D 3 = Int.ofNat (ln (2:Nat))) then
 some ((.normal,[.view 1 6 (fun y=>[lpV (L y) (ln y)
 none])
 none,idV g R (some R),dnR D,.int .i64 (.ofNat i),.bool false,.int .i64 4],[]))
 else
 bif decF (p [.view 1 6 (fun y=>[lpV (L y) (ln y)
 none])
 none,.agg [.int .u8 3,.int .i64 (D (3:Nat))],dnV D] (.int .i64 c)) then
 bif decide (0<c) then
 some ((.normal,[.view 1 6 (fun y=>[lpV (L y) (ln y)
 none])
 none,idV g R (some R),dnR D,.int .i64 (.ofNat i),.bool false,.int .i64 4],[]))
 else
 bif decide (0<=Int.ofNat i)&&decide (Int.ofNat i<Int.ofNat R) then
 bif decide ((g i).y = 3) then
 bif decide ((g i).n = D (3:Nat)) then
 some ((.normal,[.view 1 6 (fun y=>[lpV (L y) (ln y)
 none])
 none,idV g R (some R),.reg [.int .i64 (D (0:Nat)),.int .i64 (D (1:Nat)),.int .i64 (D (2:Nat)),.int .i64 (IntKind.i64.wrap (D (3:Nat)+(1:Int))),.int .i64 (D (4:Nat)),.int .i64 (D (5:Nat)),.int .i64 (D (6:Nat))],.int .i64 (.ofNat i),.bool true,.int .i64 4],[]))
 else
 some ((.ret,[.bool false,.view 1 6 (fun y=>[lpV (L y) (ln y)
 none])
 none,idV g R (some R),dnR D,.int .i64 (.ofNat i),.bool true],[]))
 else
 some ((.ret,[.bool false,.view 1 6 (fun y=>[lpV (L y) (ln y)
 none])
 none,idV g R (some R),dnR D,.int .i64 (.ofNat i),.bool true],[]))
 else none else
 none):=by kernel_rfl
theorem i3n4 (ln:Nat->Nat) (L:Nat->Nat->Lpp) (g:Nat->Idd) (R:Nat) (D:Nat->Int) (i:Nat) (p:List T->T->Prop) (c:Int):iterR P05 G05 A05 (K3n p c) 0 3 [] 11 (s11 ⟨6,ln,L⟩ g R D i false 4) [] =
(
 bif decide (D 4 = Int.ofNat (ln (3:Nat))) then
 some ((.normal,[.view 1 6 (fun y=>[lpV (L y) (ln y)
 none])
 none,idV g R (some R),dnR D,.int .i64 (.ofNat i),.bool false,.int .i64 5],[]))
 else
 bif decF (p [.view 1 6 (fun y=>[lpV (L y) (ln y)
 none])
 none,.agg [.int .u8 4,.int .i64 (D (4:Nat))],dnV D] (.int .i64 c)) then
 bif decide (0<c) then
 some ((.normal,[.view 1 6 (fun y=>[lpV (L y) (ln y)
 none])
 none,idV g R (some R),dnR D,.int .i64 (.ofNat i),.bool false,.int .i64 5],[]))
 else
 bif decide (0<=Int.ofNat i)&&decide (Int.ofNat i<Int.ofNat R) then
 bif decide ((g i).y = 4) then
 bif decide ((g i).n = D (4:Nat)) then
 some ((.normal,[.view 1 6 (fun y=>[lpV (L y) (ln y)
 none])
 none,idV g R (some R),.reg [.int .i64 (D (0:Nat)),.int .i64 (D (1:Nat)),.int .i64 (D (2:Nat)),.int .i64 (D (3:Nat)),.int .i64 (IntKind.i64.wrap (D (4:Nat)+(1:Int))),.int .i64 (D (5:Nat)),.int .i64 (D (6:Nat))],.int .i64 (.ofNat i),.bool true,.int .i64 5],[]))
 else
 some ((.ret,[.bool false,.view 1 6 (fun y=>[lpV (L y) (ln y)
 none])
 none,idV g R (some R),dnR D,.int .i64 (.ofNat i),.bool true],[]))
 else
 some ((.ret,[.bool false,.view 1 6 (fun y=>[lpV (L y) (ln y)
 none])
 none,idV g R (some R),dnR D,.int .i64 (.ofNat i),.bool true],[]))
 else none else
 none):=by kernel_rfl
theorem i3n5 (ln:Nat->Nat) (L:Nat->Nat->Lpp) (g:Nat->Idd) (R:Nat) (D:Nat->Int) (i:Nat) (p:List T->T->Prop) (c:Int):iterR P05 G05 A05 (K3n p c) 0 3 [] 11 (s11 ⟨6,ln,L⟩ g R D i false 5) [] =
(
 bif decide (D 5 = Int.ofNat (ln (4:Nat))) then
 some ((.normal,[.view 1 6 (fun y=>[lpV (L y) (ln y)
 none])
 none,idV g R (some R),dnR D,.int .i64 (.ofNat i),.bool false,.int .i64 6],[]))
 else
 bif decF (p [.view 1 6 (fun y=>[lpV (L y) (ln y)
 none])
 none,.agg [.int .u8 5,.int .i64 (D (5:Nat))],dnV D] (.int .i64 c)) then
 bif decide (0<c) then
 some ((.normal,[.view 1 6 (fun y=>[lpV (L y) (ln y)
 none])
 none,idV g R (some R),dnR D,.int .i64 (.ofNat i),.bool false,.int .i64 6],[]))
 else
 bif decide (0<=Int.ofNat i)&&decide (Int.ofNat i<Int.ofNat R) then
 bif decide ((g i).y = 5) then
 bif decide ((g i).n = D (5:Nat)) then
 some ((.normal,[.view 1 6 (fun y=>[lpV (L y) (ln y)
 none])
 none,idV g R (some R),.reg [.int .i64 (D (0:Nat)),.int .i64 (D (1:Nat)),.int .i64 (D (2:Nat)),.int .i64 (D (3:Nat)),.int .i64 (D (4:Nat)),.int .i64 (IntKind.i64.wrap (D (5:Nat)+(1:Int))),.int .i64 (D (6:Nat))],.int .i64 (.ofNat i),.bool true,.int .i64 6],[]))
 else
 some ((.ret,[.bool false,.view 1 6 (fun y=>[lpV (L y) (ln y)
 none])
 none,idV g R (some R),dnR D,.int .i64 (.ofNat i),.bool true],[]))
 else
 some ((.ret,[.bool false,.view 1 6 (fun y=>[lpV (L y) (ln y)
 none])
 none,idV g R (some R),dnR D,.int .i64 (.ofNat i),.bool true],[]))
 else none else
 none):=by kernel_rfl
theorem i3n6 (ln:Nat->Nat) (L:Nat->Nat->Lpp) (g:Nat->Idd) (R:Nat) (D:Nat->Int) (i:Nat) (p:List T->T->Prop) (c:Int):iterR P05 G05 A05 (K3n p c) 0 3 [] 11 (s11 ⟨6,ln,L⟩ g R D i false 6) [] =
(
 bif decide (D 6 = Int.ofNat (ln (5:Nat))) then
 some ((.normal,[.view 1 6 (fun y=>[lpV (L y) (ln y)
 none])
 none,idV g R (some R),dnR D,.int .i64 (.ofNat i),.bool false,.int .i64 7],[]))
 else
 bif decF (p [.view 1 6 (fun y=>[lpV (L y) (ln y)
 none])
 none,.agg [.int .u8 6,.int .i64 (D (6:Nat))],dnV D] (.int .i64 c)) then
 bif decide (0<c) then
 some ((.normal,[.view 1 6 (fun y=>[lpV (L y) (ln y)
 none])
 none,idV g R (some R),dnR D,.int .i64 (.ofNat i),.bool false,.int .i64 7],[]))
 else
 bif decide (0<=Int.ofNat i)&&decide (Int.ofNat i<Int.ofNat R) then
 bif decide ((g i).y = 6) then
 bif decide ((g i).n = D (6:Nat)) then
 some ((.normal,[.view 1 6 (fun y=>[lpV (L y) (ln y)
 none])
 none,idV g R (some R),.reg [.int .i64 (D (0:Nat)),.int .i64 (D (1:Nat)),.int .i64 (D (2:Nat)),.int .i64 (D (3:Nat)),.int .i64 (D (4:Nat)),.int .i64 (D (5:Nat)),.int .i64 (IntKind.i64.wrap (D (6:Nat)+(1:Int)))],.int .i64 (.ofNat i),.bool true,.int .i64 7],[]))
 else
 some ((.ret,[.bool false,.view 1 6 (fun y=>[lpV (L y) (ln y)
 none])
 none,idV g R (some R),dnR D,.int .i64 (.ofNat i),.bool true],[]))
 else
 some ((.ret,[.bool false,.view 1 6 (fun y=>[lpV (L y) (ln y)
 none])
 none,idV g R (some R),dnR D,.int .i64 (.ofNat i),.bool true],[]))
 else none else
 none):=by kernel_rfl
theorem i3x (ln:Nat->Nat) (L:Nat->Nat->Lpp) (g:Nat->Idd) (R:Nat) (D:Nat->Int) (i:Nat) (y:Int):iterR P05 G05 A05 noneO 0 3 [] 11 (s11 ⟨6,ln,L⟩ g R D i true y) [] =
(
 bif decide (y<=6) then
 some ((.exit 2,[.undef,.view 1 6 (fun y=>[lpV (L y) (ln y)
 none])
 none,idV g R (some R),dnR D,.int .i64 (.ofNat i),.bool true],[]))
 else
 some ((.exit 2,[.undef,.view 1 6 (fun y=>[lpV (L y) (ln y)
 none])
 none,idV g R (some R),dnR D,.int .i64 (.ofNat i),.bool true],[]))):=by kernel_rfl
theorem i3o (ln:Nat->Nat) (L:Nat->Nat->Lpp) (g:Nat->Idd) (R:Nat) (D:Nat->Int) (i:Nat) (D2:Nat->Int) (x:List T->Heap->Ex->List T->Heap->Prop):iterR P05 G05 A05 noneO 0 3 (l3i x ⟨6,ln,L⟩ g R D2 i) 7 (s7 ⟨6,ln,L⟩ g R D i) [] =
(
 bif decide (Int.ofNat i<Int.ofNat R) then
 bif decF (x [.view 1 6 (fun y=>[lpV (L y) (ln y)
 none])
 none,idV g R (some R),dnR D,.int .i64 (.ofNat i),.bool false,.int .i64 1] [] (.exit 2) [.undef,.view 1 6 (fun y=>[lpV (L y) (ln y)
 none])
 none,idV g R (some R),dnR D2,.int .i64 (.ofNat i),.bool true] []) then
 some ((.normal,[.view 1 6 (fun y=>[lpV (L y) (ln y)
 none])
 none,idV g R (some R),dnR D2,.int .i64 (IntKind.i64.wrap (Int.ofNat i+1))],[]))
 else none else
 some ((.exit 0,[.undef],[]))):=by kernel_rfl
theorem kL3 (ln:Nat->Nat) (L:Nat->Nat->Lpp) (m g:Nat->Idd) (n R:Nat) (X:Nat->Ll) (N:Nat) (x:List T->Heap->Ex->List T->Heap->Prop) (p8 p9 p10 p11 p13:List T->T->Prop):stepL P05 G05 A05 (K3 p8 p9 p10 p11 p13 ⟨6,ln,L⟩ m g n R) 0 3 (l3o x) [llV X N none] =
(
 bif decF (p8 [llV X N
 none] (.tup [.view 1 6 (fun y=>[lpV (L y) (ln y)
 none])
 none,idV m n
 none])) then
 bif decF (p9 [.view 1 6 (fun y=>[lpV (L y) (ln y)
 none])
 none] (.tup [idV g R (some R),.int .i64 0])) then
 bif decF (p10 [.view 1 6 (fun y=>[lpV (L y) (ln y)
 none])
 none] (.int .i64 0)) then
 bif !decide (Int.ofNat R = Int.ofNat n) then
 some (.bool false)
 else
 bif !decide (Int.ofNat R = Int.ofNat R) then
 some (.bool false)
 else
 bif decF (p11 [.view 1 6 (fun y=>[lpV (L y) (ln y)
 none])
 none] (.int .i64 (.ofNat n))) then
 bif !decide (Int.ofNat n = Int.ofNat n) then
 some (.bool false)
 else
 bif decF (x [.view 1 6 (fun y=>[lpV (L y) (ln y)
 none])
 none,idV g R (some R),.reg [.int .i64 0,.int .i64 0,.int .i64 0,.int .i64 0,.int .i64 0,.int .i64 0,.int .i64 0],.int .i64 0] [] (.exit 0) [.undef] []) then
 bif decF (p13 [] (.bool true)) then
 some (.bool true)
 else none else none else none else none else none else
 none):=by kernel_rfl
def dD (M:Nat->Nat):Nat->Int
 | 0=>0
 | y+1=>M y
theorem lkI_thr (M:Nat->Nat) (a:Idd) (ha:1<=a.y):lkI (dD M) a = !(thr (cM M) a):=by
 unfold lkI thr cM
 rw [show a.y.toNat = (a.y - 1).toNat+1 by omega]
 show decide ((M (a.y - 1).toNat:Int)<=a.n) = _
 rw [← decide_not]
 exact decide_eq_decide.2 (by omega)
theorem lkN_zero (D:Nat->Int) (g:Nat->Idd):∀ n,lkN D g n = 0 ↔ ∀ i,i<n->lkI D (g i) = false
 | 0=>⟨fun _ i hi=>absurd hi (Nat.not_lt_zero _),fun _=>rfl⟩
 | n+1=>by
  have ih:=lkN_zero D g n
  simp only [lkN]
  constructor
  ·intro h i hi
   by_cases q:i = n
   ·subst q
    cases hc:lkI D (g i) with
    | false=>rfl
    | true=>rw [hc] at h; simp at h
   ·exact ih.1 (by omega) i (by omega)
  ·intro h
   rw [ih.2 fun i hi=>h i (by omega),h n (by omega)]
   rfl
theorem lack_rdy (t:Tbl) (M:Nat->Nat) (y:Nat) (hM:M y<t.ln y) (hn:∀ i,i<nN t M y->1<=(needI (t.L y (M y)) i).y):rdy t M y = decide (lack (dD M) t ⟨(y:Int)+1,(M y:Int)⟩ = 0):=by
 unfold rdy lack
 dsimp only
 rw [show ((y:Int)+1 - 1).toNat = y by omega,show ((M y:Nat):Int).toNat = M y by omega,show ((y:Int)+1).toNat = y+1 by omega]
 rw [show decide (dD M (y+1)<(M y:Int)) = false by show decide ((M y:Int)<(M y:Int)) = false; simp]
 rw [show decide (M y<t.ln y) = true by simpa using hM,Bool.true_and,cond_false,Nat.zero_add]
 unfold nN at hn ⊢
 generalize t.L y (M y) = l at hn ⊢
 rw [Bool.eq_iff_iff,allB_iff,decide_eq_true_eq,Nat.add_eq_zero_iff,lkN_zero,lkN_zero]
 constructor
 ·intro h
  refine ⟨fun i hi=>?_,fun i hi=>?_⟩
  ·have h1:=h i (by omega)
   have h2:=hn i (by omega)
   unfold needI at h1 h2
   rw [if_pos hi] at h1 h2
   rw [lkI_thr _ _ h2,h1]; rfl
  ·have h1:=h (l.nt+i) (by omega)
   have h2:=hn (l.nt+i) (by omega)
   unfold needI at h1 h2
   rw [if_neg (by omega),Nat.add_sub_cancel_left] at h1 h2
   rw [lkI_thr _ _ h2,h1]; rfl
 ·rintro ⟨h1,h2⟩ i hi
  have h3:=hn i hi
  unfold needI at h3 ⊢
  by_cases q:i<l.nt
  ·rw [if_pos q] at h3 ⊢
   have:=h1 i q
   rw [lkI_thr _ _ h3] at this
   simpa using this
  ·rw [if_neg q] at h3 ⊢
   have:=h2 (i - l.nt) (by omega)
   rw [lkI_thr _ _ h3] at this
   simpa using this
theorem yes5 {f:FuncId} {p:List T->T->Prop} {args:List T} {r:T} (hp:p = ToldOk P05 G05 f) (t:ToldOk P05 G05 f args r):decF (p args r) = true:=by
 subst hp; exact decF_iff.2 t
section
variable {o:Os} {N:Nat}
theorem need_y (h:OsInv o N) {y n:Nat} (hy:y<6) (hn:n<(o.rw y).length) {i:Nat} (hi:i<((tO o).L y n).nt+((tO o).L y n).np):1<=(needI ((tO o).L y n) i).y/\(needI ((tO o).L y n) i).y<7:=by
 obtain ⟨k,k1,_,k3,_⟩:=h.row y hy n hn
 obtain ⟨j,j1,j2⟩:=good_need k3 hi
 obtain ⟨z,m,hz,_,e,_⟩:=md_id h (k:=j) (by omega)
 rw [show needI ((tO o).L y n) i = ⟨((z+1:Nat):Int),(m:Int)⟩ from j2.symm.trans e]
 dsimp only
 omega
theorem needs_at (h:OsInv o N) (hN:N<=60) (M:Nat->Nat) {y:Nat} (hy:y<6) (hl:M y<(o.rw y).length):ToldOk P05 G05 12 [(tO o).v,.agg [.int .u8 ((y:Int)+1),.int .i64 (M y)],dnV (dD M)] (.int .i64 (lack (dD M) (tO o) ⟨(y:Int)+1,(M y:Int)⟩:Nat)):=by
 refine needsL (dD M) (tO o) (tO_ok h hN) ⟨(y:Int)+1,(M y:Int)⟩ ?_ (by dsimp only; omega) ?_ ?_
 ·unfold Tbl.has tO
  simp only [Bool.and_eq_true,decide_eq_true_eq]
  rw [show ((y:Int)+1 - 1).toNat = y by omega]
  omega
 all_goals
  dsimp only
  rw [show ((y:Int)+1 - 1).toNat = y by omega,show ((M y:Nat):Int).toNat = M y by omega]
  intro i hi
 ·have:=need_y h hy hl (i:=i) (by omega)
  unfold needI at this
  rw [if_pos hi] at this
  omega
 ·have:=need_y h hy hl (i:=((tO o).L y (M y)).nt+i) (by omega)
  unfold needI at this
  rw [if_neg (by omega),Nat.add_sub_cancel_left] at this
  exact ⟨by have:=this.1; show 0<=(Pss.id _).y; omega,this.2⟩
end
open Go.Proofs
section
variable {o:Os} {N:Nat}
theorem in11 (h:OsInv o N) (hN:N<=60) {i:Nat} (M:Nat->Nat) (hM:∀ y,y<6->M y<=(o.rw y).length) {y:Nat} (hy6:y<6) (hr:rdy (tO o) M y = true) (hz:∀ z,z<y->rdy (tO o) M z = false)
 (g:Nat->Idd) (R:Nat) (hi:i<R) (hg:g i = ⟨(y:Int)+1,M y⟩):LoopOk P05 G05 (A05 3) 3 11 (litS (s11 (tO o) g R (dD M) i false 1) [] (.exit 2) (x11 (tO o) g R (dD (inc M y)) i) []):=by
 obtain ⟨p,hp⟩:=is_val P05 G05 12
 have hln:∀ z,z<6->M z<(o.rw z).length->rdy (tO o) M z = decide (lack (dD M) (tO o) ⟨(z:Int)+1,(M z:Int)⟩ = 0):=fun z h1 h2=>lack_rdy (tO o) M z h2 fun j hj=>(need_y h h1 h2 hj).1
 have key:LoopOk P05 G05 (A05 3) 3 11 (litS ((fun k:Nat=>if k<=y then s11 (tO o) g R (dD M) i false ((k:Int)+1) else s11 (tO o) g R (dD (inc M y)) i true ((k:Int)+1)) 0) [] (.exit 2) (x11 (tO o) g R (dD (inc M y)) i) []):=by
  refine loop_steps hm05 (by kernel_rfl) (fun k:Nat=>if k<=y then s11 (tO o) g R (dD M) i false ((k:Int)+1) else s11 (tO o) g R (dD (inc M y)) i true ((k:Int)+1)) (fun _=>[]) (n:=y+1) (fun k hk=>?_) ?_
  ·rw [if_pos (show k<=y by omega)]
   by_cases q:k = y
   ·subst q
    rw [if_neg (by omega)]
    have hlt:M k<(o.rw k).length:=by
     unfold rdy at hr
     rw [Bool.and_eq_true,decide_eq_true_eq] at hr
     exact hr.1
    have h0:=hln k hy6 hlt
    rw [hr] at h0
    have h0:lack (dD M) (tO o) ⟨(k:Int)+1,(M k:Int)⟩ = 0:=by simpa using h0.symm
    have t1:=needs_at h hN M hy6 hlt
    rw [h0] at t1
    have hb:M k<=100000:=by have:=row_len h k; omega
    have hne:¬ (decide ((M k:Int) = Int.ofNat ((tO o).ln k)) = true):=by
     rw [decide_eq_true_eq]
     show ¬ ((M k:Int) = (((o.rw k).length:Nat):Int))
     omega
    have hi1:(decide ((0:Int)<=Int.ofNat i)&&decide (Int.ofNat i<Int.ofNat R)) = true:=by
     simp only [Bool.and_eq_true,decide_eq_true_eq]
     show (0:Int)<=(i:Int)/\(i:Int)<(R:Int)
     omega
    have hgy:decide ((g i).y = (k:Int)+1) = true:=by rw [hg]; simp
    have hgn:decide ((g i).n = (M k:Int)) = true:=by rw [hg]; simp
    obtain rfl | rfl | rfl | rfl | rfl | rfl:k = 0 ∨ k = 1 ∨ k = 2 ∨ k = 3 ∨ k = 4 ∨ k = 5:=by omega
    ·refine Step.mk0 (told_add none_ok (callF_told hp)) rfl rfl loops0 (K:=K3n p 0) (A:=A05) (m:=0) (l:=[]) ((i3n1 _ _ g R (dD M) i p 0).trans (biff hne (bift (yes5 hp t1) (biff (by decide) (bift hi1 (bift hgy (bift hgn ?_))))))) (.refl _)
     rw [show dD M 1 = Int.ofNat (M 0) from rfl,up1 (by omega)]; rfl
    ·refine Step.mk0 (told_add none_ok (callF_told hp)) rfl rfl loops0 (K:=K3n p 0) (A:=A05) (m:=0) (l:=[]) ((i3n2 _ _ g R (dD M) i p 0).trans (biff hne (bift (yes5 hp t1) (biff (by decide) (bift hi1 (bift hgy (bift hgn ?_))))))) (.refl _)
     rw [show dD M 2 = Int.ofNat (M 1) from rfl,up1 (by omega)]; rfl
    ·refine Step.mk0 (told_add none_ok (callF_told hp)) rfl rfl loops0 (K:=K3n p 0) (A:=A05) (m:=0) (l:=[]) ((i3n3 _ _ g R (dD M) i p 0).trans (biff hne (bift (yes5 hp t1) (biff (by decide) (bift hi1 (bift hgy (bift hgn ?_))))))) (.refl _)
     rw [show dD M 3 = Int.ofNat (M 2) from rfl,up1 (by omega)]; rfl
    ·refine Step.mk0 (told_add none_ok (callF_told hp)) rfl rfl loops0 (K:=K3n p 0) (A:=A05) (m:=0) (l:=[]) ((i3n4 _ _ g R (dD M) i p 0).trans (biff hne (bift (yes5 hp t1) (biff (by decide) (bift hi1 (bift hgy (bift hgn ?_))))))) (.refl _)
     rw [show dD M 4 = Int.ofNat (M 3) from rfl,up1 (by omega)]; rfl
    ·refine Step.mk0 (told_add none_ok (callF_told hp)) rfl rfl loops0 (K:=K3n p 0) (A:=A05) (m:=0) (l:=[]) ((i3n5 _ _ g R (dD M) i p 0).trans (biff hne (bift (yes5 hp t1) (biff (by decide) (bift hi1 (bift hgy (bift hgn ?_))))))) (.refl _)
     rw [show dD M 5 = Int.ofNat (M 4) from rfl,up1 (by omega)]; rfl
    ·refine Step.mk0 (told_add none_ok (callF_told hp)) rfl rfl loops0 (K:=K3n p 0) (A:=A05) (m:=0) (l:=[]) ((i3n6 _ _ g R (dD M) i p 0).trans (biff hne (bift (yes5 hp t1) (biff (by decide) (bift hi1 (bift hgy (bift hgn ?_))))))) (.refl _)
     rw [show dD M 6 = Int.ofNat (M 5) from rfl,up1 (by omega)]; rfl
   ·rw [if_pos (by omega)]
    have hr0:=hz k (by omega)
    have hk6:k<6:=by omega
    have hMk:=hM k hk6
    by_cases q2:M k = (o.rw k).length
    ·have he:decide ((M k:Int) = Int.ofNat ((tO o).ln k)) = true:=by
      rw [decide_eq_true_eq]
      show ((M k:Int) = (((o.rw k).length:Nat):Int))
      omega
     obtain rfl | rfl | rfl | rfl | rfl:k = 0 ∨ k = 1 ∨ k = 2 ∨ k = 3 ∨ k = 4:=by omega
     ·exact Step.mk0 (told_add none_ok (callF_told hp)) rfl rfl loops0 (K:=K3n p 0) (A:=A05) (m:=0) (l:=[]) ((i3n1 _ _ g R (dD M) i p 0).trans (bift he rfl)) (.refl _)
     ·exact Step.mk0 (told_add none_ok (callF_told hp)) rfl rfl loops0 (K:=K3n p 0) (A:=A05) (m:=0) (l:=[]) ((i3n2 _ _ g R (dD M) i p 0).trans (bift he rfl)) (.refl _)
     ·exact Step.mk0 (told_add none_ok (callF_told hp)) rfl rfl loops0 (K:=K3n p 0) (A:=A05) (m:=0) (l:=[]) ((i3n3 _ _ g R (dD M) i p 0).trans (bift he rfl)) (.refl _)
     ·exact Step.mk0 (told_add none_ok (callF_told hp)) rfl rfl loops0 (K:=K3n p 0) (A:=A05) (m:=0) (l:=[]) ((i3n4 _ _ g R (dD M) i p 0).trans (bift he rfl)) (.refl _)
     ·exact Step.mk0 (told_add none_ok (callF_told hp)) rfl rfl loops0 (K:=K3n p 0) (A:=A05) (m:=0) (l:=[]) ((i3n5 _ _ g R (dD M) i p 0).trans (bift he rfl)) (.refl _)
    ·have hlt:M k<(o.rw k).length:=by omega
     have h0:=hln k hk6 hlt
     rw [hr0] at h0
     have hpos:0<lack (dD M) (tO o) ⟨(k:Int)+1,(M k:Int)⟩:=by
      have:¬ lack (dD M) (tO o) ⟨(k:Int)+1,(M k:Int)⟩ = 0:=by simpa using h0.symm
      omega
     have t1:=needs_at h hN M hk6 hlt
     have hne:¬ (decide ((M k:Int) = Int.ofNat ((tO o).ln k)) = true):=by
      rw [decide_eq_true_eq]
      show ¬ ((M k:Int) = (((o.rw k).length:Nat):Int))
      omega
     generalize lack (dD M) (tO o) ⟨(k:Int)+1,(M k:Int)⟩ = c at hpos t1
     have hc:decide ((0:Int)<(c:Int)) = true:=by simpa using hpos
     obtain rfl | rfl | rfl | rfl | rfl:k = 0 ∨ k = 1 ∨ k = 2 ∨ k = 3 ∨ k = 4:=by omega
     ·exact Step.mk0 (told_add none_ok (callF_told hp)) rfl rfl loops0 (K:=K3n p c) (A:=A05) (m:=0) (l:=[]) ((i3n1 _ _ g R (dD M) i p c).trans (biff hne (bift (yes5 hp t1) (bift hc rfl)))) (.refl _)
     ·exact Step.mk0 (told_add none_ok (callF_told hp)) rfl rfl loops0 (K:=K3n p c) (A:=A05) (m:=0) (l:=[]) ((i3n2 _ _ g R (dD M) i p c).trans (biff hne (bift (yes5 hp t1) (bift hc rfl)))) (.refl _)
     ·exact Step.mk0 (told_add none_ok (callF_told hp)) rfl rfl loops0 (K:=K3n p c) (A:=A05) (m:=0) (l:=[]) ((i3n3 _ _ g R (dD M) i p c).trans (biff hne (bift (yes5 hp t1) (bift hc rfl)))) (.refl _)
     ·exact Step.mk0 (told_add none_ok (callF_told hp)) rfl rfl loops0 (K:=K3n p c) (A:=A05) (m:=0) (l:=[]) ((i3n4 _ _ g R (dD M) i p c).trans (biff hne (bift (yes5 hp t1) (bift hc rfl)))) (.refl _)
     ·exact Step.mk0 (told_add none_ok (callF_told hp)) rfl rfl loops0 (K:=K3n p c) (A:=A05) (m:=0) (l:=[]) ((i3n5 _ _ g R (dD M) i p c).trans (biff hne (bift (yes5 hp t1) (bift hc rfl)))) (.refl _)
  ·rw [if_neg (by omega)]
   refine Last.mk0 none_ok rfl rfl loops0 (by simp) (K:=noneO) (A:=A05) (m:=0) (l:=[]) ((i3x _ _ g R (dD (inc M y)) i _).trans ?_) (.refl _)
   by_cases q:((y+1:Nat):Int)+1<=6
   ·exact bift (by simpa using q) rfl
   ·exact biff (by simpa using q) rfl
 rw [show (fun k:Nat=>if k<=y then s11 (tO o) g R (dD M) i false ((k:Int)+1) else s11 (tO o) g R (dD (inc M y)) i true ((k:Int)+1)) 0 = s11 (tO o) g R (dD M) i false 1 from if_pos (Nat.zero_le _)] at key
 exact key
theorem out7 (h:OsInv o N) (hN:N<=60):LoopOk P05 G05 (A05 3) 3 7 (litS (s7 (tO o) (oG (tO o) N) N (dD (oM (tO o) 0)) 0) [] (.exit 0) [.undef] []):=by
 obtain ⟨x,hx⟩:=is_loop P05 G05 (A05 3) 3 11
 refine loop_steps hm05 (by kernel_rfl) (fun i=>s7 (tO o) (oG (tO o) N) N (dD (oM (tO o) i)) i) (fun _=>[]) (n:=N) (fun i hi=>?_) ?_
 ·obtain ⟨y,hy⟩:=pick_at h hi
  have hl:=pick_lt hy
  have hz:∀ z,z<y->rdy (tO o) (oM (tO o) i) z = false:=fun z hzy=>by
   unfold pick at hy
   rw [List.find?_eq_some_iff_getElem] at hy
   obtain ⟨_,j,hj,e,hj2⟩:=hy
   rw [List.getElem_range] at e
   subst e
   have:=hj2 z hzy
   rw [List.getElem_range] at this
   simpa using this
  have t1:=in11 h hN (i:=i) (oM (tO o) i) (oM_le h i) hl.1 hl.2 hz (oG (tO o) N) N hi (oG_at h hy N hi (Nat.le_refl _))
  have e:oM (tO o) (i+1) = inc (oM (tO o) i) y:=by
   show (match pick (tO o) (oM (tO o) i) with | some y=>inc (oM (tO o) i) y | none=>oM (tO o) i) = _
   rw [hy]
  rw [← e] at t1
  refine Step.mk0 none_ok rfl rfl (loops1 (loopF_ok hx _)) (K:=noneO) (A:=A05) (m:=0) (l:=l3i x (tO o) (oG (tO o) N) N (dD (oM (tO o) (i+1))) i) ((i3o _ _ (oG (tO o) N) N (dD (oM (tO o) i)) i (dD (oM (tO o) (i+1))) x).trans ?_) (.refl _)
  refine bift (by simpa using hi) (bift (loopF_yes hx t1) ?_)
  rw [up1 (by omega)]; rfl
 ·refine Last.mk0 none_ok rfl rfl (loops1 (loopF_ok hx _)) (by simp) (K:=noneO) (A:=A05) (m:=0) (l:=l3i x (tO o) (oG (tO o) N) N (dD (oM (tO o) N)) N) ((i3o _ _ (oG (tO o) N) N (dD (oM (tO o) N)) N (dD (oM (tO o) N)) x).trans ?_) (.refl _)
  exact biff (by simp) rfl
end
theorem law3T (X:Nat->Ll) (n:Nat) (hX:∀ i,(X i).Ok):ToldOk P05 G05 3 [llV X n none] (.bool true):=by
 obtain ⟨x,hx⟩:=is_loop P05 G05 (A05 3) 3 7
 obtain ⟨p8,h8⟩:=is_val P05 G05 8
 obtain ⟨p9,h9⟩:=is_val P05 G05 9
 obtain ⟨p10,h10⟩:=is_val P05 G05 10
 obtain ⟨p11,h11⟩:=is_val P05 G05 11
 obtain ⟨p13,h13⟩:=is_val P05 G05 13
 have t8:=(ofT (X:=X) (n:=n) hX).frz
 have hN:min n 60<=60:=Nat.min_le_right _ _
 generalize min n 60 = N at t8 hN
 have h:=os_inv X N
 generalize oS X N = o at t8 h
 have hm:o.md.length = N:=h.len
 rw [hm] at t8
 have ok:=tO_ok h hN
 have t9:=(OrderT (tO o) ok).frz
 have t10:=CheckT (tO o) ok
 have t11:=countT (tO o) ok
 have t7:=out7 h hN
 rw [tO_sum h] at t11
 unfold ordV at t9
 rw [chk0 h hN] at t9 t10
 rw [if_pos rfl,ordN_eq h] at t9
 have s8:ToldOk P05 G05 8 [llV X n none] (.tup [(tO o).v,idV (fun j=>o.md.getD j id0) N none]) :=
  t8.tupTo (.cons (.view (.view (.inr rfl) fun j _=>.refl _)) (.cons (.newv _) .nil))
 have s9:ToldOk P05 G05 9 [(tO o).v] (.tup [idV (oG (tO o) N) N (some N),.int .i64 0]):=t9.tupTo (.cons (.newv _) (.cons (.refl _) .nil))
 refine stepL_told hm05 hn05 (told_add (told_add (told_add (told_add (told_add none_ok (callF_told h8)) (callF_told h9)) (callF_told h10)) (callF_told h11)) (callF_told h13)) (K:=K3 p8 p9 p10 p11 p13 (tO o) (fun j=>o.md.getD j id0) (oG (tO o) N) N N) (A:=A05) (m:=0) (by kernel_rfl) (l:=l3o x) (loops1 (loopF_ok hx _)) ?_
 refine (kL3 _ _ (fun j=>o.md.getD j id0) (oG (tO o) N) N N X n x p8 p9 p10 p11 p13).trans ?_
 exact bift (yes5 h8 s8) (bift (yes5 h9 s9) (bift (yes5 h10 t10) (biff (by simp) (biff (by simp) (bift (yes5 h11 t11) (biff (by simp) (bift (loopF_yes hx t7) (bift (yes5 h13 livesT) rfl))))))))
open Go.Proofs
section
variable {Hp:Type}
theorem agg23_05:aggTy P05 23 = false:=by kernel_rfl
theorem cells5_05:P05.cellsOf 5 = 1:=by kernel_rfl
theorem cells66_05:P05.cellsOf 66 = 5:=by kernel_rfl
def cI5 (l:List T):Int:=match l with | [.int _ z]=>z | _=>0
theorem inv5_05 {ts:List T} {d:DataW Hp} (h:CT P05 5 ts d):∃ a:Int,ts = [.int .u8 a]/\0<=a/\a<256:=by
 obtain ⟨a,rfl,rfl,w⟩:=h.int_inv Try.underlying5
 have w:=wf_u8 w
 exact ⟨a,rfl,by omega,by omega⟩
theorem row05 {ts:List T} {d:DataW Hp} (h:CT P05 64 ts d):∃ (r:Nat->Int) (n:Nat),(∀ j,0<=r j/\r j<256)/\∃ x,ts = [x]/\Sim x (u8V r n none):=by
 rcases h.slice_inv Try.underlying64 (by rw [cells5_05]; omega) with ⟨rfl,rfl⟩ | ⟨n,c,g,elems,spare,rfl,rfl,he,hs,hn,hc,hg⟩
 ·exact ⟨fun _=>0,0,fun _=>⟨Int.le_refl 0,(by decide:(0:Int)<256)⟩,_,rfl,.nilv _ _ (.inl rfl)⟩
 ·have key:∀ j,j<n->∃ a:Int,g j = [.int .u8 a]/\0<=a/\a<256:=fun j hj=>inv5_05 (hg j elems[j] (by simp [show j<elems.length by omega]))
  refine ⟨fun j=>if j<n then cI5 (g j) else 0,n,fun j=>?_,_,rfl,?_⟩
  ·dsimp only
   split
   ·rename_i hj
    obtain ⟨a,q,q1,q2⟩:=key j hj
    rw [q]
    exact ⟨q1,q2⟩
   ·omega
  ·rw [cells5_05]
   refine .view (.inr rfl) fun j hj=>?_
   obtain ⟨a,q,_⟩:=key j hj
   show Sims (g j) [.int .u8 (if j<n then cI5 (g j) else 0)]
   rw [if_pos hj,q]
   exact .refl _
def ll0:Ll:=⟨0,false,false,fun _=>0,0,fun _=>0,0⟩
theorem ll0_ok:ll0.Ok:=⟨⟨Int.le_refl 0,show (0:Int)<256 by decide⟩,fun _=>⟨Int.le_refl 0,show (0:Int)<256 by decide⟩,fun _=>⟨Int.le_refl 0,show (0:Int)<256 by decide⟩⟩
theorem ll05 {ts:List T} {d:DataW Hp} (h:CT P05 66 ts d):∃ l:Ll,l.Ok/\Sims ts l.c:=by
 obtain ⟨parts,ds,rfl,rfl,hs⟩:=CT.struct_inv Try.underlying66 h; clear h; rename _=>h
 change CTs P05 [5,4,4,64,64] parts ds at h
 obtain ⟨p1,_,d1,_,rfl,rfl,h1,h⟩:=h.cons
 obtain ⟨p2,_,d2,_,rfl,rfl,h2,h⟩:=h.cons
 obtain ⟨p3,_,d3,_,rfl,rfl,h3,h⟩:=h.cons
 obtain ⟨p4,_,d4,_,rfl,rfl,h4,h⟩:=h.cons
 obtain ⟨p5,_,d5,_,rfl,rfl,h5,h⟩:=h.cons
 obtain ⟨rfl,rfl⟩:=h.nil
 obtain ⟨y,rfl,y1⟩:=inv5_05 h1
 obtain ⟨b,rfl,_⟩:=h2.bool_inv Try.underlying4
 obtain ⟨w,rfl,_⟩:=h3.bool_inv Try.underlying4
 obtain ⟨th,nt,t1,x,rfl,t2⟩:=row05 h4
 obtain ⟨ps,np,s1,z,rfl,s2⟩:=row05 h5
 exact ⟨⟨y,b,w,th,nt,ps,np⟩,⟨y1,t1,s1⟩,.cons (.refl _) (.cons (.refl _) (.cons (.refl _) (.cons t2 (.cons s2 .nil))))⟩
theorem inv23_05 {ts:List T} {d:DataW Hp} (h:CT P05 23 ts d):∃ (X:Nat->Ll) (n:Nat),(∀ i,(X i).Ok)/\Sim (topT P05 23 ts) (llV X n none):=by
 rcases h.slice_inv Try.underlying23 (by rw [cells66_05]; omega) with ⟨rfl,rfl⟩ | ⟨n,c,g,elems,spare,rfl,rfl,he,hs,hn,hc,hg⟩
 ·exact ⟨fun _=>ll0,0,fun _=>ll0_ok,by rw [show topT P05 23 [T.nils] = T.nils by simp [topT,agg23_05]]; exact .nilv _ _ (.inl rfl)⟩
 ·have key:∀ j,∃ l:Ll,l.Ok/\(j<n->Sims (g j) l.c):=fun j=>by
   by_cases hj:j<n
   ·obtain ⟨l,h1,h2⟩:=ll05 (hg j elems[j] (by simp [show j<elems.length by omega]))
    exact ⟨l,h1,fun _=>h2⟩
   ·exact ⟨ll0,ll0_ok,fun h=>absurd h hj⟩
  refine ⟨fun j=>(key j).choose,n,fun i=>(key i).choose_spec.1,?_⟩
  rw [show topT P05 23 [T.view (P05.cellsOf 66) n g (some c)] = T.view (P05.cellsOf 66) n g (some c) by simp [topT,agg23_05],cells66_05]
  exact .view (.inr rfl) fun j hj=>(key j).choose_spec.2 hj
end
end Go.Ab

