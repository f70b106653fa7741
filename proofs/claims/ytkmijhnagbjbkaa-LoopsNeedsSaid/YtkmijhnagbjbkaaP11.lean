/- A part of the proof: nothing is assumed. -/
import Derived.Test.YtkmijhnagbjbkaaP5
import Derived.Test.YtkmijhnagbjbkaaP10
import Derived.Test.YtkmijhnagbjbkaaP9
import Derived.Test.YtkmijhnagbjbkaaP4
set_option linter.all false
namespace Go.Ab
open Go.Proofs
theorem livesT:ToldOk P05 G05 13 [] (.bool true) :=
 stepV_told (A:=A05) (K:=inlW P05 G05 A05 (fun f=>!([23,27,40,47,32,64].contains f)) (fun f=>f==33) 40 10) (m:=40) hm05 hn05 (inlW_ok hm05 hn05 40 10) (by kernel_rfl)
open Go.Proofs
def x11 (t:Tbl) (g:Nat->Idd) (R:Nat) (D:Nat->Int) (i:Nat):List T:=[.undef,t.v,idV g R (some R),dnR D,.int .i64 i,.bool true]
theorem yes5 {f:FuncId} {p:List T->T->Prop} {args:List T} {r:T} (hp:p = ToldOk P05 G05 f) (t:ToldOk P05 G05 f args r):decF (p args r) = true:=by
 subst hp; exact decF_iff.2 t
section
variable {o:Os} {N:Nat}
end
open Go.Proofs
section
variable {o:Os} {N:Nat}
end
open Go.Proofs
def n15 (a:Idd) (t:Tbl) (g:Nat->Idd) (N:Nat) (x7 x8 x9 x10 x11:T) (b:Bool) (ov:Idd) (mn i:Nat) (l:Lpp) (k:Nat):List T:=[.reg a.c,t.v,idV g N none,x7,x8,x9,x10,x11,.nils,.bool b,.reg ov.c,.int .i64 mn,.int .i64 i,.reg l.c,.int .i64 k]
def n10 (a:Idd) (t:Tbl) (g:Nat->Idd) (N:Nat) (x7 x8 x9 x10 x11:T) (b:Bool) (ov:Idd) (mn i:Nat):List T:=[.reg a.c,t.v,idV g N none,x7,x8,x9,x10,x11,.nils,.bool b,.reg ov.c,.int .i64 mn,.int .i64 i]
def m10 (a:Idd) (t:Tbl) (x7 x8 x9 x10 x11:T) (b:Bool) (ov:Idd) (mn:Nat):List T:=[.reg a.c,t.v,x7,x8,x9,x10,x11,.nils,.bool b,.reg ov.c,.int .i64 mn]
def lR5 (l:Lpp):T:=.reg [.int .u8 l.b,.bool l.w,idV l.th l.nt (some l.nt),psV l.ps l.np (some l.np)]
def n33 (a:Idd) (t:Tbl) (x7:T) (l:Lpp) (v:Nat) (w:List Idd) (y n:Nat) (x:Idd) (b:Bool) (k:Nat):List T:=[.reg a.c,t.v,x7,lR5 l,.own 0 v 0 w.length none,.int .i64 y,.int .i64 n,.reg x.c,.bool b,.int .i64 k]
def m33 (a:Idd) (t:Tbl) (x7:T) (l:Lpp) (v:Nat) (w:List Idd) (y n:Nat) (x:Idd) (b:Bool):List T:=[.reg a.c,t.v,x7,lR5 l,.own 0 v 0 w.length none,.int .i64 y,.int .i64 n,.reg x.c,.bool b]
def n28 (a:Idd) (t:Tbl) (x7:T) (l:Lpp) (v:Nat) (w:List Idd) (y n:Nat):List T:=[.reg a.c,t.v,x7,lR5 l,.own 0 v 0 w.length none,.int .i64 y,.int .i64 n]
def n25 (a:Idd) (t:Tbl) (x7:T) (l:Lpp) (v:Nat) (w:List Idd) (y:Nat):List T:=[.reg a.c,t.v,x7,lR5 l,.own 0 v 0 w.length none,.int .i64 y]
def p2:Nat->List Nat
 | 0=>[]
 | n+1=>2 :: p2 n
def B25:List Nat:=0 :: 0 :: 2 :: 1 :: p2 12
def X5:List Nat:=0 :: 1 :: 2 :: B25
def B28:List Nat:=0 :: 0 :: 2 :: X5
def X7:List Nat:=0 :: 1 :: 2 :: B28
noncomputable def l10 (x:List T->Heap->Ex->List T->Heap->Prop) (r:List T):List (Nat × (List T->Heap->LT)):=[(15,loopF x (.ret (.exit 2) r []))]
noncomputable def l9 (x:List T->Heap->Ex->List T->Heap->Prop) (r:List T):List (Nat × (List T->Heap->LT)):=[(10,loopF x (.ret (.exit 0) r []))]
noncomputable def l7 (x y:List T->Heap->Ex->List T->Heap->Prop) (r s:List T) (h:Heap):List (Nat × (List T->Heap->LT)):=[(33,loopF x (.ret (.exit 8) r h)),(37,loopF y (.ret (.exit 10) s h))]
noncomputable def K5a (p:List T->T->Prop) (t:Tbl) (g:Nat->Idd) (N:Nat):Orc:=noneO.add 8 (callF p fun _=>some (.tup [t.v,idV g N none]))
noncomputable def K5b (p:List T->T->Prop) (r:T):Orc:=noneO.add 15 (callF p fun _=>some r)
noncomputable def K5c (p:List T->T->Prop) (b:Idd) (c:Bool):Orc:=noneO.add 14 (callF p fun _=>some (.tup [.agg b.c,.bool c]))
noncomputable def K5d (p:List T->T->Prop) (r:T):Orc:=noneO.add 16 (callF p fun _=>some r)
noncomputable def K5e (p:List T->T->Prop):Orc:=noneO.add 13 (callF p fun _=>some (.bool true))
def nlN (l:Lpp):T:=.agg [.int .u8 l.b,.bool l.w,.new (idV l.th l.nt (some l.nt)),.new (psV l.ps l.np (some l.np))]
theorem i5a (a:Idd) (ln:Nat->Nat) (L:Nat->Nat->Lpp) (g:Nat->Idd) (N:Nat) (x7 x8 x9 x10 x11:T) (b:Bool) (ov:Idd) (mn i:Nat) (l:Lpp) (k:Nat):iterR P05 G05 A05 noneO 0 5 [] 15 (n15 a ⟨6,ln,L⟩ g N x7 x8 x9 x10 x11 b ov mn i l k) [] =
(
 bif decide (Int.ofNat k<Int.ofNat l.nt) then
 bif decide (0<=Int.ofNat k)&&decide (Int.ofNat k<Int.ofNat l.nt) then
 bif decide ((l.th k).y = a.y) then
 bif decide ((l.th k).n = a.n) then
 bif decide (0<=Int.ofNat i)&&decide (Int.ofNat i<Int.ofNat N) then
 some ((.normal,[.reg a.c,.view 1 6 (fun y=>[lpV (L y) (ln y)
 none])
 none,idV g N
 none,x7,x8,x9,x10,x11,.nils,.bool b,.reg (g i).c,.int .i64 (IntKind.i64.wrap (Int.ofNat mn+1)),.int .i64 (.ofNat i),.reg l.c,.int .i64 (IntKind.i64.wrap (Int.ofNat k+1))],[]))
 else none else
 some ((.normal,[.reg a.c,.view 1 6 (fun y=>[lpV (L y) (ln y)
 none])
 none,idV g N
 none,x7,x8,x9,x10,x11,.nils,.bool b,.reg ov.c,.int .i64 (.ofNat mn),.int .i64 (.ofNat i),.reg l.c,.int .i64 (IntKind.i64.wrap (Int.ofNat k+1))],[]))
 else
 some ((.normal,[.reg a.c,.view 1 6 (fun y=>[lpV (L y) (ln y)
 none])
 none,idV g N
 none,x7,x8,x9,x10,x11,.nils,.bool b,.reg ov.c,.int .i64 (.ofNat mn),.int .i64 (.ofNat i),.reg l.c,.int .i64 (IntKind.i64.wrap (Int.ofNat k+1))],[]))
 else none else
 some ((.exit 2,[.reg a.c,.view 1 6 (fun y=>[lpV (L y) (ln y)
 none])
 none,idV g N
 none,x7,x8,x9,x10,x11,.nils,.bool b,.reg ov.c,.int .i64 (.ofNat mn),.int .i64 (.ofNat i)],[]))):=by kernel_rfl
theorem i5b (a:Idd) (ln:Nat->Nat) (L:Nat->Nat->Lpp) (g:Nat->Idd) (N:Nat) (x7 x8 x9 x10 x11:T) (b:Bool) (ov:Idd) (mn i:Nat) (b2:Bool) (ov2:Idd) (mn2:Nat) (x:List T->Heap->Ex->List T->Heap->Prop):iterR P05 G05 A05 noneO 0 5 (l10 x (n10 a ⟨6,ln,L⟩ g N x7 x8 x9 x10 x11 b2 ov2 mn2 i)) 10 (n10 a ⟨6,ln,L⟩ g N x7 x8 x9 x10 x11 b ov mn i) [] =
(
 bif decide (Int.ofNat i<Int.ofNat N) then
 bif b then
 bif decide (0<=Int.ofNat i)&&decide (Int.ofNat i<Int.ofNat N) then
 bif decide (0<=IntKind.u8.wrap ((g i).y - 1))&&decide (IntKind.u8.wrap ((g i).y - 1)<(6:Int)) then
 bif decide (0<=Int.ofNat i)&&decide (Int.ofNat i<Int.ofNat N) then
 bif decide ((0:Int)<=(g i).n)&&decide ((g i).n<Int.ofNat (ln (IntKind.u8.wrap ((g i).y - (1:Int))).toNat)) then
 bif decF (x [.reg a.c,.view 1 6 (fun y=>[lpV (L y) (ln y)
 none])
 none,idV g N
 none,x7,x8,x9,x10,x11,.nils,.bool true,.reg ov.c,.int .i64 (.ofNat mn),.int .i64 (.ofNat i),.reg (L (IntKind.u8.wrap ((g i).y - (1:Int))).toNat (g i).n.toNat).c,.int .i64 0] [] (.exit 2) [.reg a.c,.view 1 6 (fun y=>[lpV (L y) (ln y)
 none])
 none,idV g N
 none,x7,x8,x9,x10,x11,.nils,.bool b2,.reg ov2.c,.int .i64 (.ofNat mn2),.int .i64 (.ofNat i)] []) then
 some ((.normal,[.reg a.c,.view 1 6 (fun y=>[lpV (L y) (ln y)
 none])
 none,idV g N
 none,x7,x8,x9,x10,x11,.nils,.bool b2,.reg ov2.c,.int .i64 (.ofNat mn2),.int .i64 (IntKind.i64.wrap (Int.ofNat i+1))],[]))
 else none else none else none else none else none else
 bif decide (0<=Int.ofNat i)&&decide (Int.ofNat i<Int.ofNat N) then
 bif decide ((g i).y = a.y) then
 bif decide ((g i).n = a.n) then
 bif decide (0<=Int.ofNat i)&&decide (Int.ofNat i<Int.ofNat N) then
 bif decide (0<=IntKind.u8.wrap ((g i).y - 1))&&decide (IntKind.u8.wrap ((g i).y - 1)<(6:Int)) then
 bif decide (0<=Int.ofNat i)&&decide (Int.ofNat i<Int.ofNat N) then
 bif decide ((0:Int)<=(g i).n)&&decide ((g i).n<Int.ofNat (ln (IntKind.u8.wrap ((g i).y - (1:Int))).toNat)) then
 bif decF (x [.reg a.c,.view 1 6 (fun y=>[lpV (L y) (ln y)
 none])
 none,idV g N
 none,x7,x8,x9,x10,x11,.nils,.bool true,.reg ov.c,.int .i64 (.ofNat mn),.int .i64 (.ofNat i),.reg (L (IntKind.u8.wrap ((g i).y - (1:Int))).toNat (g i).n.toNat).c,.int .i64 0] [] (.exit 2) [.reg a.c,.view 1 6 (fun y=>[lpV (L y) (ln y)
 none])
 none,idV g N
 none,x7,x8,x9,x10,x11,.nils,.bool b2,.reg ov2.c,.int .i64 (.ofNat mn2),.int .i64 (.ofNat i)] []) then
 some ((.normal,[.reg a.c,.view 1 6 (fun y=>[lpV (L y) (ln y)
 none])
 none,idV g N
 none,x7,x8,x9,x10,x11,.nils,.bool b2,.reg ov2.c,.int .i64 (.ofNat mn2),.int .i64 (IntKind.i64.wrap (Int.ofNat i+1))],[]))
 else none else none else none else none else none else
 bif decide (0<=Int.ofNat i)&&decide (Int.ofNat i<Int.ofNat N) then
 bif decide (0<=IntKind.u8.wrap ((g i).y - 1))&&decide (IntKind.u8.wrap ((g i).y - 1)<(6:Int)) then
 bif decide (0<=Int.ofNat i)&&decide (Int.ofNat i<Int.ofNat N) then
 bif decide ((0:Int)<=(g i).n)&&decide ((g i).n<Int.ofNat (ln (IntKind.u8.wrap ((g i).y - (1:Int))).toNat)) then
 bif decF (x [.reg a.c,.view 1 6 (fun y=>[lpV (L y) (ln y)
 none])
 none,idV g N
 none,x7,x8,x9,x10,x11,.nils,.bool false,.reg ov.c,.int .i64 (.ofNat mn),.int .i64 (.ofNat i),.reg (L (IntKind.u8.wrap ((g i).y - (1:Int))).toNat (g i).n.toNat).c,.int .i64 0] [] (.exit 2) [.reg a.c,.view 1 6 (fun y=>[lpV (L y) (ln y)
 none])
 none,idV g N
 none,x7,x8,x9,x10,x11,.nils,.bool b2,.reg ov2.c,.int .i64 (.ofNat mn2),.int .i64 (.ofNat i)] []) then
 some ((.normal,[.reg a.c,.view 1 6 (fun y=>[lpV (L y) (ln y)
 none])
 none,idV g N
 none,x7,x8,x9,x10,x11,.nils,.bool b2,.reg ov2.c,.int .i64 (.ofNat mn2),.int .i64 (IntKind.i64.wrap (Int.ofNat i+1))],[]))
 else none else none else none else none else none else
 bif decide (0<=Int.ofNat i)&&decide (Int.ofNat i<Int.ofNat N) then
 bif decide (0<=IntKind.u8.wrap ((g i).y - 1))&&decide (IntKind.u8.wrap ((g i).y - 1)<(6:Int)) then
 bif decide (0<=Int.ofNat i)&&decide (Int.ofNat i<Int.ofNat N) then
 bif decide ((0:Int)<=(g i).n)&&decide ((g i).n<Int.ofNat (ln (IntKind.u8.wrap ((g i).y - (1:Int))).toNat)) then
 bif decF (x [.reg a.c,.view 1 6 (fun y=>[lpV (L y) (ln y)
 none])
 none,idV g N
 none,x7,x8,x9,x10,x11,.nils,.bool false,.reg ov.c,.int .i64 (.ofNat mn),.int .i64 (.ofNat i),.reg (L (IntKind.u8.wrap ((g i).y - (1:Int))).toNat (g i).n.toNat).c,.int .i64 0] [] (.exit 2) [.reg a.c,.view 1 6 (fun y=>[lpV (L y) (ln y)
 none])
 none,idV g N
 none,x7,x8,x9,x10,x11,.nils,.bool b2,.reg ov2.c,.int .i64 (.ofNat mn2),.int .i64 (.ofNat i)] []) then
 some ((.normal,[.reg a.c,.view 1 6 (fun y=>[lpV (L y) (ln y)
 none])
 none,idV g N
 none,x7,x8,x9,x10,x11,.nils,.bool b2,.reg ov2.c,.int .i64 (.ofNat mn2),.int .i64 (IntKind.i64.wrap (Int.ofNat i+1))],[]))
 else none else none else none else none else none else none else
 some ((.exit 0,[.reg a.c,.view 1 6 (fun y=>[lpV (L y) (ln y)
 none])
 none,x7,x8,x9,x10,x11,.nils,.bool b,.reg ov.c,.int .i64 (.ofNat mn)],[]))):=by kernel_rfl
theorem i5c (a:Idd) (ln:Nat->Nat) (L:Nat->Nat->Lpp) (x7:T) (l:Lpp) (v:Nat) (w:List Idd) (y n:Nat) (x:Idd) (b:Bool) (k:Nat):iterR P05 G05 A05 noneO 0 5 [] 33 (n33 a ⟨6,ln,L⟩ x7 l v w y n x b k) [idB v w] =
(
 bif decide (Int.ofNat k<Int.ofNat l.nt) then
 bif b then
 some ((.normal,[.reg a.c,.view 1 6 (fun y=>[lpV (L y) (ln y)
 none])
 none,x7,lR5 l,.own 0 v 0 w.length
 none,.int .i64 (.ofNat y),.int .i64 (.ofNat n),.reg x.c,.bool true,.int .i64 (IntKind.i64.wrap (Int.ofNat k+1))],[idB v w]))
 else
 bif decide (0<=Int.ofNat k)&&decide (Int.ofNat k<Int.ofNat l.nt) then
 bif decide ((l.th k).y = x.y) then
 bif decide ((l.th k).n = x.n) then
 some ((.normal,[.reg a.c,.view 1 6 (fun y=>[lpV (L y) (ln y)
 none])
 none,x7,lR5 l,.own 0 v 0 w.length
 none,.int .i64 (.ofNat y),.int .i64 (.ofNat n),.reg x.c,.bool true,.int .i64 (IntKind.i64.wrap (Int.ofNat k+1))],[idB v w]))
 else
 some ((.normal,[.reg a.c,.view 1 6 (fun y=>[lpV (L y) (ln y)
 none])
 none,x7,lR5 l,.own 0 v 0 w.length
 none,.int .i64 (.ofNat y),.int .i64 (.ofNat n),.reg x.c,.bool false,.int .i64 (IntKind.i64.wrap (Int.ofNat k+1))],[idB v w]))
 else
 some ((.normal,[.reg a.c,.view 1 6 (fun y=>[lpV (L y) (ln y)
 none])
 none,x7,lR5 l,.own 0 v 0 w.length
 none,.int .i64 (.ofNat y),.int .i64 (.ofNat n),.reg x.c,.bool false,.int .i64 (IntKind.i64.wrap (Int.ofNat k+1))],[idB v w]))
 else none else
 some ((.exit 8,[.reg a.c,.view 1 6 (fun y=>[lpV (L y) (ln y)
 none])
 none,x7,lR5 l,.own 0 v 0 w.length
 none,.int .i64 (.ofNat y),.int .i64 (.ofNat n),.reg x.c,.bool b],[idB v w]))):=by kernel_rfl
theorem i5d (a:Idd) (ln:Nat->Nat) (L:Nat->Nat->Lpp) (x7:T) (l:Lpp) (v:Nat) (w:List Idd) (y n:Nat) (x:Idd) (b:Bool) (k:Nat):iterR P05 G05 A05 noneO 0 5 [] 37 (n33 a ⟨6,ln,L⟩ x7 l v w y n x b k) [idB v w] =
(
 bif decide (Int.ofNat k<Int.ofNat l.np) then
 bif b then
 some ((.normal,[.reg a.c,.view 1 6 (fun y=>[lpV (L y) (ln y)
 none])
 none,x7,lR5 l,.own 0 v 0 w.length
 none,.int .i64 (.ofNat y),.int .i64 (.ofNat n),.reg x.c,.bool true,.int .i64 (IntKind.i64.wrap (Int.ofNat k+1))],[idB v w]))
 else
 bif decide (0<=Int.ofNat k)&&decide (Int.ofNat k<Int.ofNat l.np) then
 bif decide ((l.ps k).y = x.y) then
 bif decide ((l.ps k).n = x.n) then
 some ((.normal,[.reg a.c,.view 1 6 (fun y=>[lpV (L y) (ln y)
 none])
 none,x7,lR5 l,.own 0 v 0 w.length
 none,.int .i64 (.ofNat y),.int .i64 (.ofNat n),.reg x.c,.bool true,.int .i64 (IntKind.i64.wrap (Int.ofNat k+1))],[idB v w]))
 else
 some ((.normal,[.reg a.c,.view 1 6 (fun y=>[lpV (L y) (ln y)
 none])
 none,x7,lR5 l,.own 0 v 0 w.length
 none,.int .i64 (.ofNat y),.int .i64 (.ofNat n),.reg x.c,.bool false,.int .i64 (IntKind.i64.wrap (Int.ofNat k+1))],[idB v w]))
 else
 some ((.normal,[.reg a.c,.view 1 6 (fun y=>[lpV (L y) (ln y)
 none])
 none,x7,lR5 l,.own 0 v 0 w.length
 none,.int .i64 (.ofNat y),.int .i64 (.ofNat n),.reg x.c,.bool false,.int .i64 (IntKind.i64.wrap (Int.ofNat k+1))],[idB v w]))
 else none else
 some ((.exit 10,[.reg a.c,.view 1 6 (fun y=>[lpV (L y) (ln y)
 none])
 none,x7,lR5 l,.own 0 v 0 w.length
 none,.int .i64 (.ofNat y),.int .i64 (.ofNat n),.reg x.c,.bool b],[idB v w]))):=by kernel_rfl
theorem g5x (a:Idd) (ln:Nat->Nat) (L:Nat->Nat->Lpp) (x7:T) (l:Lpp) (v:Nat) (w:List Idd) (y n:Nat) (x:Idd) (b1 b2:Bool) (p q:List T->Heap->Ex->List T->Heap->Prop):codeL P05 G05 A05 noneO 0 5 (l7 p q (m33 a ⟨6,ln,L⟩ x7 l v w y n x b1) (m33 a ⟨6,ln,L⟩ x7 l v w y n x b2) [idB v w]) (nav X7) [3,5,7,10,12,19,20] (n28 a ⟨6,ln,L⟩ x7 l v w y n) [idB v w] [3,5,7,10,12,19,20] =
(
 bif decide (IntKind.u8.wrap (Int.ofNat y) = a.y) then
 bif decide (Int.ofNat n = IntKind.i64.wrap (a.n - 1)) then
 bif decF (p [.reg a.c,.view 1 6 (fun y=>[lpV (L y) (ln y)
 none])
 none,x7,lR5 l,.own 0 v 0 w.length
 none,.int .i64 (.ofNat y),.int .i64 (.ofNat n),.reg [.int .u8 (IntKind.u8.wrap (Int.ofNat y)),.int .i64 (.ofNat n)],.bool true,.int .i64 0] [idB v w] (.exit 8) [.reg a.c,.view 1 6 (fun y=>[lpV (L y) (ln y)
 none])
 none,x7,lR5 l,.own 0 v 0 w.length
 none,.int .i64 (.ofNat y),.int .i64 (.ofNat n),.reg x.c,.bool b1] [idB v w]) then
 bif decF (q [.reg a.c,.view 1 6 (fun y=>[lpV (L y) (ln y)
 none])
 none,x7,lR5 l,.own 0 v 0 w.length
 none,.int .i64 (.ofNat y),.int .i64 (.ofNat n),.reg x.c,.bool b1,.int .i64 0] [idB v w] (.exit 10) [.reg a.c,.view 1 6 (fun y=>[lpV (L y) (ln y)
 none])
 none,x7,lR5 l,.own 0 v 0 w.length
 none,.int .i64 (.ofNat y),.int .i64 (.ofNat n),.reg x.c,.bool b2] [idB v w]) then
 bif b2 then
 bif v==v&&true then
 bif ((0:Nat)+w.length).ble w.length then
 bif ((w.length+(1:Nat)) * (17:Nat)).ble 70368744177664 then
 bif ((0:Nat)+w.length+(1:Nat)).ble w.length then
 some ((.normal,[.reg a.c,.view 1 6 (fun y=>[lpV (L y) (ln y)
 none])
 none,x7,lR5 l,.own 0 v 0 (w.length+1)
 none,.int .i64 (.ofNat y),.int .i64 (.ofNat n)],[.mk v 2 w.length (fun j =>
 bif ((0:Nat)+w.length).ble j&&j.blt (0+w.length+1) then [x.c].getD ((0:Nat)+(j - (0+w.length))) []
 else (w.getD j (Idd.mk (0:Int) (0:Int))).c) true false
 none,tmpI x]))
 else
 some ((.normal,[.reg a.c,.view 1 6 (fun y=>[lpV (L y) (ln y)
 none])
 none,x7,lR5 l,.own 0 (v+1) (0:Nat) (w.length+1)
 none,.int .i64 (.ofNat y),.int .i64 (.ofNat n)],[.mk (v+1) (2:Nat) (w.length+1) (fun j =>
 bif j.blt w.length then (w.getD ((0:Nat)+j) (Idd.mk (0:Int) (0:Int))).c
 else [x.c].getD ((0:Nat)+(j - w.length)) []) true false
 none,tmpI x]))
 else none else none else none else
 some ((.normal,[.reg a.c,.view 1 6 (fun y=>[lpV (L y) (ln y)
 none])
 none,x7,lR5 l,.own 0 v 0 w.length
 none,.int .i64 (.ofNat y),.int .i64 (.ofNat n)],[idB v w]))
 else none else none else
 bif decF (p [.reg a.c,.view 1 6 (fun y=>[lpV (L y) (ln y)
 none])
 none,x7,lR5 l,.own 0 v 0 w.length
 none,.int .i64 (.ofNat y),.int .i64 (.ofNat n),.reg [.int .u8 (IntKind.u8.wrap (Int.ofNat y)),.int .i64 (.ofNat n)],.bool false,.int .i64 0] [idB v w] (.exit 8) [.reg a.c,.view 1 6 (fun y=>[lpV (L y) (ln y)
 none])
 none,x7,lR5 l,.own 0 v 0 w.length
 none,.int .i64 (.ofNat y),.int .i64 (.ofNat n),.reg x.c,.bool b1] [idB v w]) then
 bif decF (q [.reg a.c,.view 1 6 (fun y=>[lpV (L y) (ln y)
 none])
 none,x7,lR5 l,.own 0 v 0 w.length
 none,.int .i64 (.ofNat y),.int .i64 (.ofNat n),.reg x.c,.bool b1,.int .i64 0] [idB v w] (.exit 10) [.reg a.c,.view 1 6 (fun y=>[lpV (L y) (ln y)
 none])
 none,x7,lR5 l,.own 0 v 0 w.length
 none,.int .i64 (.ofNat y),.int .i64 (.ofNat n),.reg x.c,.bool b2] [idB v w]) then
 bif b2 then
 bif v==v&&true then
 bif ((0:Nat)+w.length).ble w.length then
 bif ((w.length+(1:Nat)) * (17:Nat)).ble 70368744177664 then
 bif ((0:Nat)+w.length+(1:Nat)).ble w.length then
 some ((.normal,[.reg a.c,.view 1 6 (fun y=>[lpV (L y) (ln y)
 none])
 none,x7,lR5 l,.own 0 v 0 (w.length+1)
 none,.int .i64 (.ofNat y),.int .i64 (.ofNat n)],[.mk v 2 w.length (fun j =>
 bif ((0:Nat)+w.length).ble j&&j.blt (0+w.length+1) then [x.c].getD ((0:Nat)+(j - (0+w.length))) []
 else (w.getD j (Idd.mk (0:Int) (0:Int))).c) true false
 none,tmpI x]))
 else
 some ((.normal,[.reg a.c,.view 1 6 (fun y=>[lpV (L y) (ln y)
 none])
 none,x7,lR5 l,.own 0 (v+1) (0:Nat) (w.length+1)
 none,.int .i64 (.ofNat y),.int .i64 (.ofNat n)],[.mk (v+1) (2:Nat) (w.length+1) (fun j =>
 bif j.blt w.length then (w.getD ((0:Nat)+j) (Idd.mk (0:Int) (0:Int))).c
 else [x.c].getD ((0:Nat)+(j - w.length)) []) true false
 none,tmpI x]))
 else none else none else none else
 some ((.normal,[.reg a.c,.view 1 6 (fun y=>[lpV (L y) (ln y)
 none])
 none,x7,lR5 l,.own 0 v 0 w.length
 none,.int .i64 (.ofNat y),.int .i64 (.ofNat n)],[idB v w]))
 else none else none else
 bif decF (p [.reg a.c,.view 1 6 (fun y=>[lpV (L y) (ln y)
 none])
 none,x7,lR5 l,.own 0 v 0 w.length
 none,.int .i64 (.ofNat y),.int .i64 (.ofNat n),.reg [.int .u8 (IntKind.u8.wrap (Int.ofNat y)),.int .i64 (.ofNat n)],.bool false,.int .i64 0] [idB v w] (.exit 8) [.reg a.c,.view 1 6 (fun y=>[lpV (L y) (ln y)
 none])
 none,x7,lR5 l,.own 0 v 0 w.length
 none,.int .i64 (.ofNat y),.int .i64 (.ofNat n),.reg x.c,.bool b1] [idB v w]) then
 bif decF (q [.reg a.c,.view 1 6 (fun y=>[lpV (L y) (ln y)
 none])
 none,x7,lR5 l,.own 0 v 0 w.length
 none,.int .i64 (.ofNat y),.int .i64 (.ofNat n),.reg x.c,.bool b1,.int .i64 0] [idB v w] (.exit 10) [.reg a.c,.view 1 6 (fun y=>[lpV (L y) (ln y)
 none])
 none,x7,lR5 l,.own 0 v 0 w.length
 none,.int .i64 (.ofNat y),.int .i64 (.ofNat n),.reg x.c,.bool b2] [idB v w]) then
 bif b2 then
 bif v==v&&true then
 bif ((0:Nat)+w.length).ble w.length then
 bif ((w.length+(1:Nat)) * (17:Nat)).ble 70368744177664 then
 bif ((0:Nat)+w.length+(1:Nat)).ble w.length then
 some ((.normal,[.reg a.c,.view 1 6 (fun y=>[lpV (L y) (ln y)
 none])
 none,x7,lR5 l,.own 0 v 0 (w.length+1)
 none,.int .i64 (.ofNat y),.int .i64 (.ofNat n)],[.mk v 2 w.length (fun j =>
 bif ((0:Nat)+w.length).ble j&&j.blt (0+w.length+1) then [x.c].getD ((0:Nat)+(j - (0+w.length))) []
 else (w.getD j (Idd.mk (0:Int) (0:Int))).c) true false
 none,tmpI x]))
 else
 some ((.normal,[.reg a.c,.view 1 6 (fun y=>[lpV (L y) (ln y)
 none])
 none,x7,lR5 l,.own 0 (v+1) (0:Nat) (w.length+1)
 none,.int .i64 (.ofNat y),.int .i64 (.ofNat n)],[.mk (v+1) (2:Nat) (w.length+1) (fun j =>
 bif j.blt w.length then (w.getD ((0:Nat)+j) (Idd.mk (0:Int) (0:Int))).c
 else [x.c].getD ((0:Nat)+(j - w.length)) []) true false
 none,tmpI x]))
 else none else none else none else
 some ((.normal,[.reg a.c,.view 1 6 (fun y=>[lpV (L y) (ln y)
 none])
 none,x7,lR5 l,.own 0 v 0 w.length
 none,.int .i64 (.ofNat y),.int .i64 (.ofNat n)],[idB v w]))
 else none else
 none):=by kernel_rfl
theorem g5c (a:Idd) (ln:Nat->Nat) (L:Nat->Nat->Lpp) (x7:T) (l:Lpp) (v:Nat) (w:List Idd) (y n:Nat):codeL P05 G05 A05 noneO 0 5 [] (nav (1 :: B28)) [3,5,7,10,12,19,20] (n28 a ⟨6,ln,L⟩ x7 l v w y n) [idB v w] [3,5,7,10,12,19,20] =
(
 bif decide (0<=IntKind.i64.wrap (Int.ofNat y - 1))&&decide (IntKind.i64.wrap (Int.ofNat y - 1)<(6:Int)) then
 bif decide (Int.ofNat n<Int.ofNat (ln (IntKind.i64.wrap (Int.ofNat y - (1:Int))).toNat)) then
 some ((.normal,[.reg a.c,.view 1 6 (fun y=>[lpV (L y) (ln y)
 none])
 none,x7,lR5 l,.own 0 v 0 w.length
 none,.int .i64 (.ofNat y),.int .i64 (.ofNat n)],[idB v w]))
 else
 some ((.exit 6,[.reg a.c,.view 1 6 (fun y=>[lpV (L y) (ln y)
 none])
 none,x7,lR5 l,.own 0 v 0 w.length
 none,.int .i64 (.ofNat y),.int .i64 (.ofNat n)],[idB v w]))
 else
 none):=by kernel_rfl
theorem g5e (a:Idd) (ln:Nat->Nat) (L:Nat->Nat->Lpp) (x7:T) (l:Lpp) (v:Nat) (w:List Idd) (y n:Nat):codeL P05 G05 A05 noneO 0 5 [] (nav (2 :: 2 :: B28)) [3,5,7,10,12,19,20] (n28 a ⟨6,ln,L⟩ x7 l v w y n) [idB v w] [3,5,7,10,12,19,20] =
(
 some ((.normal,[.reg a.c,.view 1 6 (fun y=>[lpV (L y) (ln y)
 none])
 none,x7,lR5 l,.own 0 v 0 w.length
 none,.int .i64 (.ofNat y),.int .i64 (IntKind.i64.wrap (Int.ofNat n+1))],[idB v w]))):=by kernel_rfl
theorem g5f (a:Idd) (ln:Nat->Nat) (L:Nat->Nat->Lpp) (x7:T) (l:Lpp) (v:Nat) (w:List Idd) (y:Nat):codeL P05 G05 A05 noneO 0 5 [] (nav (1 :: B25)) [3,5,7,10,12,19] (n25 a ⟨6,ln,L⟩ x7 l v w y) [idB v w] [3,5,7,10,12,19] =
(
 bif decide (Int.ofNat y<=6) then
 some ((.normal,[.reg a.c,.view 1 6 (fun y=>[lpV (L y) (ln y)
 none])
 none,x7,lR5 l,.own 0 v 0 w.length
 none,.int .i64 (.ofNat y)],[idB v w]))
 else
 some ((.exit 4,[.reg a.c,.view 1 6 (fun y=>[lpV (L y) (ln y)
 none])
 none,x7,lR5 l,.own 0 v 0 w.length
 none,.int .i64 (.ofNat y)],[idB v w]))):=by kernel_rfl
theorem g5g (a:Idd) (ln:Nat->Nat) (L:Nat->Nat->Lpp) (x7:T) (l:Lpp) (v:Nat) (w:List Idd) (y:Nat):codeL P05 G05 A05 noneO 0 5 [] (nav (1 :: X5)) [3,5,7,10,12,19] (n25 a ⟨6,ln,L⟩ x7 l v w y) [idB v w] [3,5,7,10,12,19,20] =
(
 some ((.normal,[.reg a.c,.view 1 6 (fun y=>[lpV (L y) (ln y)
 none])
 none,x7,lR5 l,.own 0 v 0 w.length
 none,.int .i64 (.ofNat y),.int .i64 0],[idB v w]))):=by kernel_rfl
theorem g5h (a:Idd) (ln:Nat->Nat) (L:Nat->Nat->Lpp) (x7:T) (l:Lpp) (v:Nat) (w:List Idd) (y:Nat):codeL P05 G05 A05 noneO 0 5 [] (nav (2 :: 2 :: B25)) [3,5,7,10,12,19] (n25 a ⟨6,ln,L⟩ x7 l v w y) [idB v w] [3,5,7,10,12,19] =
(
 some ((.normal,[.reg a.c,.view 1 6 (fun y=>[lpV (L y) (ln y)
 none])
 none,x7,lR5 l,.own 0 v 0 w.length
 none,.int .i64 (IntKind.i64.wrap (Int.ofNat y+1))],[idB v w]))):=by kernel_rfl
open Go.Proofs
theorem idd_eq {x a:Idd}:x = a ↔ x.y = a.y/\x.n = a.n:=⟨fun h=>by subst h; exact ⟨rfl,rfl⟩,fun h=>by cases x; cases a; simp_all⟩
def mnK (l:Lpp) (a:Idd):Nat->Nat
 | 0=>0
 | k+1=>mnK l a k+(if l.th k = a then 1 else 0)
theorem mnK_le (l:Lpp) (a:Idd):∀ k,mnK l a k<=k
 | 0=>Nat.le_refl _
 | k+1=>by have:=mnK_le l a k; simp only [mnK]; split <;> omega
def orK (f:Nat->Idd) (x:Idd) (b:Bool):Nat->Bool
 | 0=>b
 | k+1=>orK f x b k || decide (f k = x)
def Lid (t:Tbl) (x:Idd):Lpp:=t.L (x.y - 1).toNat x.n.toNat
def MN (t:Tbl) (g:Nat->Idd) (a:Idd):Nat->Nat
 | 0=>0
 | i+1=>MN t g a i+mnK (Lid t (g i)) a (Lid t (g i)).nt
def OV (t:Tbl) (g:Nat->Idd) (a:Idd):Nat->Idd
 | 0=>⟨0,0⟩
 | i+1=>if mnK (Lid t (g i)) a (Lid t (g i)).nt = 0 then OV t g a i else g i
def TB (g:Nat->Idd) (a:Idd):Nat->Bool
 | 0=>false
 | i+1=>TB g a i || decide (g i = a)
section
variable (a:Idd) (ln:Nat->Nat) (L:Nat->Nat->Lpp) (g:Nat->Idd) (N:Nat) (x7 x8 x9 x10 x11:T)
theorem lp15n (b:Bool) (ov:Idd) (mn i:Nat) (l:Lpp) (hi:i<N) (hn:l.nt<=1000) (hm:mn<=100000) :
 LoopOk P05 G05 (A05 5) 5 15 (litS (n15 a ⟨6,ln,L⟩ g N x7 x8 x9 x10 x11 b ov mn i l 0) [] (.exit 2) (n10 a ⟨6,ln,L⟩ g N x7 x8 x9 x10 x11 b (if mnK l a l.nt = 0 then ov else g i) (mn+mnK l a l.nt) i) []):=by
 refine loop_steps hm05 (by kernel_rfl) (fun k=>n15 a ⟨6,ln,L⟩ g N x7 x8 x9 x10 x11 b (if mnK l a k = 0 then ov else g i) (mn+mnK l a k) i l k) (fun _=>[]) (n:=l.nt) (fun k hk=>?_)
  (Last.mk0 none_ok rfl rfl loops0 (by simp) (K:=noneO) (A:=A05) (m:=0) (l:=[]) ((i5a a ln L g N x7 x8 x9 x10 x11 b _ _ i l l.nt).trans (biff (by simp) rfl)) (.refl _))
 have hk0:decide (Int.ofNat k<Int.ofNat l.nt) = true:=by simpa using hk
 have hk1:(decide ((0:Int)<=Int.ofNat k)&&decide (Int.ofNat k<Int.ofNat l.nt)) = true:=by simpa using hk
 have hi1:(decide ((0:Int)<=Int.ofNat i)&&decide (Int.ofNat i<Int.ofNat N)) = true:=by simpa using hi
 have hle:=mnK_le l a k
 have e:=i5a a ln L g N x7 x8 x9 x10 x11 b (if mnK l a k = 0 then ov else g i) (mn+mnK l a k) i l k
 rw [hk1,hk0,hi1,up1 (i:=k) (by omega)] at e
 refine Step.mk0 none_ok rfl rfl loops0 (K:=noneO) (A:=A05) (m:=0) (l:=[]) (e.trans ?_) (.refl _)
 simp only [cond_true]
 by_cases q:l.th k = a
 ·have e2:mnK l a (k+1) = mnK l a k+1:=by simp only [mnK]; rw [if_pos q]
  rw [e2,if_neg (show ¬ (mnK l a k+1 = 0) by omega),up1 (i:=mn+mnK l a k) (by omega)]
  obtain ⟨q1,q2⟩:=idd_eq.1 q
  exact bift (by simpa using q1) (bift (by simpa using q2) rfl)
 ·have e2:mnK l a (k+1) = mnK l a k:=by simp only [mnK]; rw [if_neg q,Nat.add_zero]
  rw [e2]
  by_cases q1:(l.th k).y = a.y
  ·exact bift (by simpa using q1) (biff (by simpa using fun q2=>q (idd_eq.2 ⟨q1,q2⟩)) rfl)
  ·exact biff (by simpa using q1) rfl
theorem lp10n (hN:N<=60) (hg:∀ i,i<N->∃ y n:Nat,y<6/\n<ln y/\g i = ⟨((y+1:Nat):Int),(n:Int)⟩) (hnt:∀ y n,(L y n).nt<=1000) :
 LoopOk P05 G05 (A05 5) 5 10 (litS (n10 a ⟨6,ln,L⟩ g N x7 x8 x9 x10 x11 false ⟨0,0⟩ 0 0) [] (.exit 0) (m10 a ⟨6,ln,L⟩ x7 x8 x9 x10 x11 (TB g a N) (OV ⟨6,ln,L⟩ g a N) (MN ⟨6,ln,L⟩ g a N)) []):=by
 obtain ⟨x,hx⟩:=is_loop P05 G05 (A05 5) 5 15
 have hMN:∀ i,MN ⟨6,ln,L⟩ g a i<=1000 * i:=by
  intro i
  induction i with
  | zero=>exact Nat.le_refl _
  | succ i ih =>
   have h1:=mnK_le (Lid ⟨6,ln,L⟩ (g i)) a (Lid ⟨6,ln,L⟩ (g i)).nt
   have h2:(Lid ⟨6,ln,L⟩ (g i)).nt<=1000:=hnt _ _
   simp only [MN]; omega
 refine loop_steps hm05 (by kernel_rfl) (fun i=>n10 a ⟨6,ln,L⟩ g N x7 x8 x9 x10 x11 (TB g a i) (OV ⟨6,ln,L⟩ g a i) (MN ⟨6,ln,L⟩ g a i) i) (fun _=>[]) (n:=N) (fun i hi=>?_)
  (Last.mk0 none_ok rfl rfl (loops1 (loopF_ok hx _)) (by simp) (K:=noneO) (A:=A05) (m:=0) (l:=l10 x (n10 a ⟨6,ln,L⟩ g N x7 x8 x9 x10 x11 false ⟨0,0⟩ 0 N)) ((i5b a ln L g N x7 x8 x9 x10 x11 _ _ _ N false ⟨0,0⟩ 0 x).trans (biff (by simp) rfl)) (.refl _))
 obtain ⟨y,n,hy,hn,e0⟩:=hg i hi
 have hm:=hMN i
 have t1:=lp15n a ln L g N x7 x8 x9 x10 x11 (TB g a (i+1)) (OV ⟨6,ln,L⟩ g a i) (MN ⟨6,ln,L⟩ g a i) i (Lid ⟨6,ln,L⟩ (g i)) hi (hnt _ _) (by omega)
 have hi0:decide (Int.ofNat i<Int.ofNat N) = true:=by simpa using hi
 have hi1:(decide ((0:Int)<=Int.ofNat i)&&decide (Int.ofNat i<Int.ofNat N)) = true:=by simpa using hi
 have ew:IntKind.u8.wrap ((g i).y - 1) = (y:Int):=by rw [e0]; dsimp only; rw [show ((y+1:Nat):Int) - 1 = (y:Int) by omega]; exact wr8 (by omega) (by omega)
 have en:(g i).n = (n:Int):=by rw [e0]
 have hy1:(decide ((0:Int)<=(y:Int))&&decide ((y:Int)<6)) = true:=by simp only [Bool.and_eq_true,decide_eq_true_eq]; omega
 have hn1:(decide ((0:Int)<=(n:Int))&&decide ((n:Int)<Int.ofNat (ln y))) = true:=by simp only [Bool.and_eq_true,decide_eq_true_eq]; show (0:Int)<=(n:Int)/\(n:Int)<((ln y:Nat):Int); omega
 have eL:Lid ⟨6,ln,L⟩ (g i) = L y n:=by
  unfold Lid
  rw [e0]
  dsimp only
  rw [show (((y+1:Nat):Int) - 1).toNat = y by omega,show ((n:Nat):Int).toNat = n by omega]
 have e:=i5b a ln L g N x7 x8 x9 x10 x11 (TB g a i) (OV ⟨6,ln,L⟩ g a i) (MN ⟨6,ln,L⟩ g a i) i (TB g a (i+1)) (OV ⟨6,ln,L⟩ g a (i+1)) (MN ⟨6,ln,L⟩ g a (i+1)) x
 rw [hi1,hi0,ew,en,show ((y:Int)).toNat = y by omega,show ((n:Nat):Int).toNat = n by omega,hy1,hn1,up1 (i:=i) (by omega)] at e
 simp only [cond_true] at e
 rw [eL] at t1
 have c1:=loopF_yes hx t1
 have eo:OV ⟨6,ln,L⟩ g a (i+1) = if mnK (L y n) a (L y n).nt = 0 then OV ⟨6,ln,L⟩ g a i else g i:=by simp only [OV]; rw [eL]
 have em:MN ⟨6,ln,L⟩ g a (i+1) = MN ⟨6,ln,L⟩ g a i+mnK (L y n) a (L y n).nt:=by simp only [MN]; rw [eL]
 rw [← eo,← em] at c1
 refine Step.mk0 none_ok rfl rfl (loops1 (loopF_ok hx _)) (K:=noneO) (A:=A05) (m:=0) (l:=l10 x (n10 a ⟨6,ln,L⟩ g N x7 x8 x9 x10 x11 (TB g a (i+1)) (OV ⟨6,ln,L⟩ g a (i+1)) (MN ⟨6,ln,L⟩ g a (i+1)) i)) (e.trans ?_) (.refl _)
 have eT:TB g a (i+1) = (TB g a i || decide (g i = a)):=rfl
 cases hb:TB g a i with
 | true =>
  have:TB g a (i+1) = true:=by rw [eT,hb]; rfl
  rw [this] at c1 ⊢
  exact bift rfl (bift c1 rfl)
 | false =>
  by_cases q:g i = a
  ·have:TB g a (i+1) = true:=by rw [eT,hb]; simpa using q
   rw [this] at c1 ⊢
   obtain ⟨q1,q2⟩:=idd_eq.1 q
   rw [en] at q2
   exact biff (by simp) (bift (by simpa using q1) (bift (by simpa using q2) (bift c1 rfl)))
  ·have:TB g a (i+1) = false:=by rw [eT,hb]; simpa using q
   rw [this] at c1 ⊢
   by_cases q1:(g i).y = a.y
   ·refine biff (by simp) (bift (by simpa using q1) (biff (by rw [decide_eq_true_eq]; intro q2; exact q (idd_eq.2 ⟨q1,en.trans q2⟩)) (bift c1 rfl)))
   ·exact biff (by simp) (biff (by simpa using q1) (bift c1 rfl))
end
section
variable (a:Idd) (ln:Nat->Nat) (L:Nat->Nat->Lpp) (x7:T) (l:Lpp) (v:Nat) (w:List Idd) (y n:Nat) (x:Idd) (b:Bool)
theorem lp33 (hn:l.nt<=1000):LoopOk P05 G05 (A05 5) 5 33 (litS (n33 a ⟨6,ln,L⟩ x7 l v w y n x b 0) [idB v w] (.exit 8) (m33 a ⟨6,ln,L⟩ x7 l v w y n x (orK l.th x b l.nt)) [idB v w]):=by
 refine loop_steps hm05 (by kernel_rfl) (fun k=>n33 a ⟨6,ln,L⟩ x7 l v w y n x (orK l.th x b k) k) (fun _=>[idB v w]) (n:=l.nt) (fun k hk=>?_)
  (Last.mk0 none_ok rfl rfl loops0 (by simp) (K:=noneO) (A:=A05) (m:=0) (l:=[]) ((i5c a ln L x7 l v w y n x _ l.nt).trans (biff (by simp) rfl)) (.refl _))
 have hk0:decide (Int.ofNat k<Int.ofNat l.nt) = true:=by simpa using hk
 have hk1:(decide ((0:Int)<=Int.ofNat k)&&decide (Int.ofNat k<Int.ofNat l.nt)) = true:=by simpa using hk
 have e:=i5c a ln L x7 l v w y n x (orK l.th x b k) k
 rw [hk1,hk0,up1 (i:=k) (by omega)] at e
 simp only [cond_true] at e
 refine Step.mk0 none_ok rfl rfl loops0 (K:=noneO) (A:=A05) (m:=0) (l:=[]) (e.trans ?_) (.refl _)
 have eT:orK l.th x b (k+1) = (orK l.th x b k || decide (l.th k = x)):=rfl
 rw [eT]
 cases orK l.th x b k with
 | true=>rfl
 | false =>
  by_cases q:l.th k = x
  ·obtain ⟨q1,q2⟩:=idd_eq.1 q
   rw [show decide (l.th k = x) = true by simpa using q]
   exact biff (by simp) (bift (by simpa using q1) (bift (by simpa using q2) rfl))
  ·rw [show decide (l.th k = x) = false by simpa using q]
   by_cases q1:(l.th k).y = x.y
   ·exact biff (by simp) (bift (by simpa using q1) (biff (by simpa using fun q2=>q (idd_eq.2 ⟨q1,q2⟩)) rfl))
   ·exact biff (by simp) (biff (by simpa using q1) rfl)
theorem lp37 (hn:l.np<=1000):LoopOk P05 G05 (A05 5) 5 37 (litS (n33 a ⟨6,ln,L⟩ x7 l v w y n x b 0) [idB v w] (.exit 10) (m33 a ⟨6,ln,L⟩ x7 l v w y n x (orK (fun k=>(l.ps k).id) x b l.np)) [idB v w]):=by
 refine loop_steps hm05 (by kernel_rfl) (fun k=>n33 a ⟨6,ln,L⟩ x7 l v w y n x (orK (fun k=>(l.ps k).id) x b k) k) (fun _=>[idB v w]) (n:=l.np) (fun k hk=>?_)
  (Last.mk0 none_ok rfl rfl loops0 (by simp) (K:=noneO) (A:=A05) (m:=0) (l:=[]) ((i5d a ln L x7 l v w y n x _ l.np).trans (biff (by simp) rfl)) (.refl _))
 have hk0:decide (Int.ofNat k<Int.ofNat l.np) = true:=by simpa using hk
 have hk1:(decide ((0:Int)<=Int.ofNat k)&&decide (Int.ofNat k<Int.ofNat l.np)) = true:=by simpa using hk
 have e:=i5d a ln L x7 l v w y n x (orK (fun k=>(l.ps k).id) x b k) k
 rw [hk1,hk0,up1 (i:=k) (by omega)] at e
 simp only [cond_true] at e
 refine Step.mk0 none_ok rfl rfl loops0 (K:=noneO) (A:=A05) (m:=0) (l:=[]) (e.trans ?_) (.refl _)
 have eT:orK (fun k=>(l.ps k).id) x b (k+1) = (orK (fun k=>(l.ps k).id) x b k || decide ((l.ps k).id = x)):=rfl
 rw [eT]
 cases orK (fun k=>(l.ps k).id) x b k with
 | true=>rfl
 | false =>
  by_cases q:(l.ps k).id = x
  ·obtain ⟨q1,q2⟩:=idd_eq.1 q
   rw [show decide ((l.ps k).id = x) = true by simpa using q]
   exact biff (by simp) (bift (by rw [decide_eq_true_eq]; exact q1) (bift (by rw [decide_eq_true_eq]; exact q2) rfl))
  ·rw [show decide ((l.ps k).id = x) = false by simpa using q]
   by_cases q1:(l.ps k).y = x.y
   ·exact biff (by simp) (bift (by rw [decide_eq_true_eq]; exact q1) (biff (by rw [decide_eq_true_eq]; exact fun q2=>q (idd_eq.2 ⟨q1,q2⟩)) rfl))
   ·exact biff (by simp) (biff (by rw [decide_eq_true_eq]; exact q1) rfl)
end
open Go.Proofs
abbrev P5:=Pz P05 G05 A05 5 []
abbrev W5:=Wk G05 A05 5 0
theorem run5 {K:Orc} (hK:OrcOk P05 G05 K) {p l l1:List Nat} {vs v1:List T} {h h1:Heap} {e:Ex} (hk:codeL P05 G05 A05 K 0 5 [] (nav p) l vs h l1 = some (e,v1,h1)):P5 p l vs h e l1 v1 h1 :=
 Pz.run hm05 hK (by kernel_rfl) loops0 hk
theorem run5L {p l l1:List Nat} {vs v1:List T} {h h1:Heap} {e:Ex} {lo:List (Nat × (List T->Heap->LT))} (hL:∀ q ∈ lo,LoopOk P05 G05 (A05 5) 5 q.1 q.2) (hk:codeL P05 G05 A05 noneO 0 5 lo (nav p) l vs h l1 = some (e,v1,h1)):P5 p l vs h e l1 v1 h1 :=
 Pz.run hm05 none_ok (by kernel_rfl) hL hk
def nd (a:Idd) (l:Lpp) (x:Idd):Bool:=orK (fun k=>(l.ps k).id) x (orK l.th x (decide (x.y = a.y)&&decide (x.n = a.n - 1)) l.nt) l.np
def wRow (a:Idd) (l:Lpp) (y:Nat):Nat->List Idd
 | 0=>[]
 | n+1=>wRow a l y n ++ (if nd a l ⟨((y+1:Nat):Int),(n:Int)⟩ = true then [⟨((y+1:Nat):Int),(n:Int)⟩] else [])
def wAll (a:Idd) (l:Lpp) (ln:Nat->Nat):Nat->List Idd
 | 0=>[]
 | y+1=>wAll a l ln y ++ wRow a l y (ln y)
theorem wRow_len (a:Idd) (l:Lpp) (y:Nat):∀ n,(wRow a l y n).length<=n
 | 0=>Nat.le_refl _
 | n+1=>by
  have:=wRow_len a l y n
  simp only [wRow,List.length_append]
  split <;> simp <;> omega
theorem wAll_len (a:Idd) (l:Lpp) {ln:Nat->Nat} (h:∀ y,ln y<=60):∀ y,(wAll a l ln y).length<=60 * y
 | 0=>Nat.le_refl _
 | y+1=>by
  have h1:=wAll_len a l h y
  have h2:=wRow_len a l y (ln y)
  have:=h y
  simp only [wAll,List.length_append]; omega
section
variable {a:Idd} {ln:Nat->Nat} {L:Nat->Nat->Lpp} {z:Nat->Idd} {kz:Nat} {l:Lpp} {v:Nat} {w:List Idd} {y n:Nat}
theorem wa5 {x:Idd}:W5 [3,5,7,10,12,19,20] [.reg a.c,Tbl.v ⟨6,ln,L⟩,idV z kz (some kz),lR5 l,.own 0 (v+1) 0 (w.length+1) none,.int .i64 y,.int .i64 n] [⟨v+1,2,w.length+1,fun j=>bif j.blt w.length then (w.getD (0+j) ⟨0,0⟩).c else [x.c].getD (0+(j - w.length)) [],true,false,none⟩,tmpI x]
 (n28 a ⟨6,ln,L⟩ (idV z kz (some kz)) l (v+1) (w ++ [x]) y n) [idB (v+1) (w ++ [x])]:=fun nt=>by
 refine WeakTo.canonS [0] rfl ?_ rfl (.cons ⟨rfl,rfl,?_,id,fun j hj=>?_⟩ .nil)
 ·unfold n28
  rw [List.length_append]; rfl
 ·show (w ++ [x]).length = w.length+1
  rw [List.length_append]; rfl
 ·exact app_idB j hj
theorem x7p (hnt:l.nt<=1000) (hnp:l.np<=1000) (hy:y<=100) (hn:n<=1000) (ha:-1000<=a.n/\a.n<=1000000) (hw:w.length<=1000):∃ v',P5 X7 [3,5,7,10,12,19,20] (n28 a ⟨6,ln,L⟩ (idV z kz (some kz)) l v w y n) [idB v w] .normal [3,5,7,10,12,19,20]
 (n28 a ⟨6,ln,L⟩ (idV z kz (some kz)) l v' (w ++ (if nd a l ⟨(y:Int),(n:Int)⟩ = true then [⟨(y:Int),(n:Int)⟩] else [])) y n) [idB v' (w ++ (if nd a l ⟨(y:Int),(n:Int)⟩ = true then [⟨(y:Int),(n:Int)⟩] else []))]:=by
 obtain ⟨p,hp⟩:=is_loop P05 G05 (A05 5) 5 33
 obtain ⟨q,hq⟩:=is_loop P05 G05 (A05 5) 5 37
 have t1:=lp33 a ln L (idV z kz (some kz)) l v w y n ⟨(y:Int),(n:Int)⟩ (decide ((y:Int) = a.y)&&decide ((n:Int) = a.n - 1)) hnt
 have t2:=lp37 a ln L (idV z kz (some kz)) l v w y n ⟨(y:Int),(n:Int)⟩ (orK l.th ⟨(y:Int),(n:Int)⟩ (decide ((y:Int) = a.y)&&decide ((n:Int) = a.n - 1)) l.nt) hnp
 have e:=g5x a ln L (idV z kz (some kz)) l v w y n ⟨(y:Int),(n:Int)⟩ (orK l.th ⟨(y:Int),(n:Int)⟩ (decide ((y:Int) = a.y)&&decide ((n:Int) = a.n - 1)) l.nt) (nd a l ⟨(y:Int),(n:Int)⟩) p q
 have c2:=loopF_yes hq t2
 change decF (q _ _ _ (m33 a ⟨6,ln,L⟩ (idV z kz (some kz)) l v w y n ⟨(y:Int),(n:Int)⟩ (nd a l ⟨(y:Int),(n:Int)⟩)) _) = true at c2
 generalize nd a l ⟨(y:Int),(n:Int)⟩ = b2 at c2 e ⊢
 have w1:IntKind.u8.wrap (Int.ofNat y) = (y:Int):=wr8 (by show (0:Int)<=(y:Int); omega) (by show (y:Int)<=255; omega)
 have w2:IntKind.i64.wrap (a.n - 1) = a.n - 1:=wr64 (by omega) (by omega)
 have v1:(v==v&&true) = true:=by simp
 have v2:(0+w.length).ble w.length = true:=bleT (by omega)
 have v3:((w.length+1) * 17).ble 70368744177664 = true:=bleT (by omega)
 have v4:(0+w.length+1).ble w.length = false:=by rw [Bool.eq_false_iff]; intro h; rw [Nat.ble_eq] at h; omega
 rw [w1,w2,v4,v3,v2,v1] at e
 have hL:∀ r s,∀ qq ∈ l7 p q r s [idB v w],LoopOk P05 G05 (A05 5) 5 qq.1 qq.2:=fun r s qq hqq=>by
  simp only [l7,List.mem_cons,List.not_mem_nil,or_false] at hqq
  rcases hqq with rfl | rfl
  ·exact loopF_ok hp _
  ·exact loopF_ok hq _
 cases b2 with
 | true =>
  refine ⟨v+1,Pz.post (run5L (hL _ _) (e.trans ?_)) wa5⟩
  simp only [cond_true,cond_false]
  cases h1:decide ((y:Int) = a.y) with
  | false =>
   rw [h1] at t1 c2
   exact biff Bool.false_ne_true (bift (loopF_yes hp t1) (bift c2 rfl))
  | true =>
   rw [h1] at t1 c2
   cases h2:decide ((n:Int) = a.n - 1) with
   | false =>
    rw [h2] at t1 c2
    exact bift rfl (biff (by first | exact Bool.false_ne_true | exact fun h=>absurd (h2.symm.trans h) Bool.false_ne_true) (bift (loopF_yes hp t1) (bift c2 rfl)))
   | true =>
    rw [h2] at t1 c2
    exact bift rfl (bift (by first | rfl | exact h2) (bift (loopF_yes hp t1) (bift c2 rfl)))
 | false =>
  refine ⟨v,run5L (hL _ _) (e.trans ?_)⟩
  simp only [cond_true,cond_false,Bool.false_eq_true,if_false,List.append_nil]
  cases h1:decide ((y:Int) = a.y) with
  | false =>
   rw [h1] at t1 c2
   exact biff Bool.false_ne_true (bift (loopF_yes hp t1) (bift c2 rfl))
  | true =>
   rw [h1] at t1 c2
   cases h2:decide ((n:Int) = a.n - 1) with
   | false =>
    rw [h2] at t1 c2
    exact bift rfl (biff (by first | exact Bool.false_ne_true | exact fun h=>absurd (h2.symm.trans h) Bool.false_ne_true) (bift (loopF_yes hp t1) (bift c2 rfl)))
   | true =>
    rw [h2] at t1 c2
    exact bift rfl (bift (by first | rfl | exact h2) (bift (loopF_yes hp t1) (bift c2 rfl)))
end
open Go.Proofs
section
variable {a:Idd} {ln:Nat->Nat} {L:Nat->Nat->Lpp} {z:Nat->Idd} {kz:Nat} {l:Lpp}
variable (hnt:l.nt<=1000) (hnp:l.np<=1000) (ha:-1000<=a.n/\a.n<=1000000) (hln:∀ y,ln y<=60)
include hnt hnp ha hln
theorem loop28 {K:Nat} (hK:K<6) {v0:Nat} {W:List Idd} (hW:W.length<=400):∃ v',P5 (2 :: X5) [3,5,7,10,12,19,20] (n28 a ⟨6,ln,L⟩ (idV z kz (some kz)) l v0 W (K+1) 0) [idB v0 W] .normal [3,5,7,10,12,19]
 (n25 a ⟨6,ln,L⟩ (idV z kz (some kz)) l v' (W ++ wRow a l K (ln K)) (K+1)) [idB v' (W ++ wRow a l K (ln K))]:=by
 have hlK:=hln K
 have wy:IntKind.i64.wrap (Int.ofNat (K+1) - 1) = (K:Int):=by
  rw [show Int.ofNat (K+1) - 1 = (K:Int) by show ((K+1:Nat):Int) - 1 = _; omega]
  exact wr64 (by omega) (by omega)
 have hy:(decide ((0:Int)<=(K:Int))&&decide ((K:Int)<6)) = true:=by simp only [Bool.and_eq_true,decide_eq_true_eq]; omega
 have tk:((K:Int)).toNat = K:=by omega
 obtain ⟨e,vs',h',⟨rfl,v',rfl,rfl⟩,hg⟩:=Pz.loop (P:=P05) (G:=G05) (A:=A05) (f:=5) (h0:=[]) (p:=0 :: 2 :: X5) (l:=[3,5,7,10,12,19,20]) (l1:=[3,5,7,10,12,19,20]) (by kernel_rfl)
  (fun M vs h=>∃ n v,n<=ln K/\M = ln K - n/\vs = n28 a ⟨6,ln,L⟩ (idV z kz (some kz)) l v (W ++ wRow a l K n) (K+1) n/\h = [idB v (W ++ wRow a l K n)])
  (fun e vs h=>e = .exit 6/\∃ v,vs = n28 a ⟨6,ln,L⟩ (idV z kz (some kz)) l v (W ++ wRow a l K (ln K)) (K+1) (ln K)/\h = [idB v (W ++ wRow a l K (ln K))])
  (fun M vs h hI=>by
   obtain ⟨n,v,hn,rfl,rfl,rfl⟩:=hI
   have hwl:=wRow_len a l K n
   have hlen:(W ++ wRow a l K n).length<=1000:=by rw [List.length_append]; omega
   have ec:=g5c a ln L (idV z kz (some kz)) l v (W ++ wRow a l K n) (K+1) n
   rw [wy,hy,tk,cond_true] at ec
   rcases Nat.lt_or_ge n (ln K) with q | q
   ·obtain ⟨v',hx⟩:=x7p (a:=a) (ln:=ln) (L:=L) (z:=z) (kz:=kz) (l:=l) (v:=v) (w:=W ++ wRow a l K n) (y:=K+1) (n:=n) hnt hnp (by omega) (by omega) ha hlen
    have e2:(W ++ wRow a l K n) ++ (if nd a l ⟨((K+1:Nat):Int),(n:Int)⟩ = true then [⟨((K+1:Nat):Int),(n:Int)⟩] else []) = W ++ wRow a l K (n+1):=by
     simp only [wRow,List.append_assoc]
    rw [e2] at hx
    have c0:decide (Int.ofNat n<Int.ofNat (ln K)) = true:=by simpa using q
    have ee:=g5e a ln L (idV z kz (some kz)) l v' (W ++ wRow a l K (n+1)) (K+1) n
    rw [up1 (by omega)] at ee
    exact .inl ⟨ln K - (n+1),_,_,by omega,Pz.seq (by kernel_rfl) (run5 none_ok (ec.trans (bift c0 rfl))) (Pz.seq (by kernel_rfl) (Pz.blk (id:=7) (e:=.normal) (by kernel_rfl) rfl hx) (run5 none_ok ee)),n+1,v',by omega,rfl,rfl,rfl⟩
   ·obtain rfl:n = ln K:=by omega
    have c0:¬ (decide (Int.ofNat (ln K)<Int.ofNat (ln K)) = true):=by simp
    exact .inr ⟨.exit 6,_,_,(by simp),Pz.seqX (by kernel_rfl) (by simp) (run5 none_ok (ec.trans (biff c0 rfl))),rfl,v,rfl,rfl⟩) (n:=ln K) ⟨0,v0,Nat.zero_le _,rfl,(by rw [show wRow a l K 0 = [] from rfl,List.append_nil]:n28 a ⟨6,ln,L⟩ (idV z kz (some kz)) l v0 W (K+1) 0 = _),(by rw [show wRow a l K 0 = [] from rfl,List.append_nil]:[idB v0 W] = _)⟩
 exact ⟨v',Pz.only (Pz.blk (id:=6) (e:=.exit 6) (by kernel_rfl) rfl hg) rfl⟩
theorem loop25:∃ v',P5 (2 :: 1 :: p2 12) [3,5,7,10,12,19] (n25 a ⟨6,ln,L⟩ (idV z kz (some kz)) l 0 [] 1) [idB 0 []] .normal [7,12] [idV z kz (some kz),.own 0 v' 0 (wAll a l ln 6).length none] [idB v' (wAll a l ln 6)]:=by
 obtain ⟨e,vs',h',⟨rfl,v',rfl,rfl⟩,hg⟩:=Pz.loop (P:=P05) (G:=G05) (A:=A05) (f:=5) (h0:=[]) (p:=0 :: 2 :: 1 :: p2 12) (l:=[3,5,7,10,12,19]) (l1:=[3,5,7,10,12,19]) (by kernel_rfl)
  (fun M vs h=>∃ y v,y<=6/\M = 6 - y/\vs = n25 a ⟨6,ln,L⟩ (idV z kz (some kz)) l v (wAll a l ln y) (y+1)/\h = [idB v (wAll a l ln y)])
  (fun e vs h=>e = .exit 4/\∃ v,vs = n25 a ⟨6,ln,L⟩ (idV z kz (some kz)) l v (wAll a l ln 6) 7/\h = [idB v (wAll a l ln 6)])
  (fun M vs h hI=>by
   obtain ⟨y,v,hy,rfl,rfl,rfl⟩:=hI
   have hwl:=wAll_len a l hln y
   have ef:=g5f a ln L (idV z kz (some kz)) l v (wAll a l ln y) (y+1)
   rcases Nat.lt_or_ge y 6 with q | q
   ·obtain ⟨v',hx⟩:=loop28 (L:=L) (z:=z) (kz:=kz) hnt hnp ha hln q (v0:=v) (W:=wAll a l ln y) (by omega)
    have c0:decide (Int.ofNat (y+1)<=6) = true:=by rw [decide_eq_true_eq]; show ((y+1:Nat):Int)<=6; omega
    have eg:=g5g a ln L (idV z kz (some kz)) l v (wAll a l ln y) (y+1)
    have eh:=g5h a ln L (idV z kz (some kz)) l v' (wAll a l ln y ++ wRow a l y (ln y)) (y+1)
    rw [up1 (by omega)] at eh
    exact .inl ⟨6 - (y+1),_,_,by omega,Pz.seq (by kernel_rfl) (run5 none_ok (ef.trans (bift c0 rfl))) (Pz.seq (by kernel_rfl) (Pz.blk (id:=5) (e:=.normal) (by kernel_rfl) rfl (Pz.seq (by kernel_rfl) (run5 none_ok eg) hx)) (run5 none_ok eh)),y+1,v',by omega,rfl,rfl,rfl⟩
   ·obtain rfl:y = 6:=by omega
    have c0:¬ (decide (Int.ofNat (6+1)<=6) = true):=by decide
    exact .inr ⟨.exit 4,_,_,(by simp),Pz.seqX (by kernel_rfl) (by simp) (run5 none_ok (ef.trans (biff c0 rfl))),rfl,v,rfl,rfl⟩) (n:=6) ⟨0,0,by omega,rfl,rfl,rfl⟩
 exact ⟨v',Pz.only (Pz.blk (id:=4) (e:=.exit 4) (by kernel_rfl) rfl hg) rfl⟩
end
open Go.Proofs
noncomputable def K5f (p q:List T->T->Prop) (s:List UInt8):Orc:=(noneO.add 13 (callF p fun _=>some (.bool true))).add 17 (callF q fun _=>some (.str s))
def zR5:T:=.reg [.int .u8 0,.bool false,.nils,.nils]
theorem k5_1 (a:Idd) (ln:Nat->Nat) (L:Nat->Nat->Lpp) (g:Nat->Idd) (N:Nat) (X:Nat->Ll) (n:Nat) (p:List T->T->Prop):codeL P05 G05 A05 (K5a p ⟨6,ln,L⟩ g N) 0 5 [] (nav [1,2]) [0,3] [llV X n none,.reg a.c] [] [3,5,6] =
(
 bif decF (p [llV X n
 none] (.tup [.view 1 6 (fun y=>[lpV (L y) (ln y)
 none])
 none,idV g N
 none])) then
 some ((.normal,[.reg a.c,.view 1 6 (fun y=>[lpV (L y) (ln y)
 none])
 none,idV g N
 none],[]))
 else
 none):=by kernel_rfl
theorem k5_2t (a:Idd) (ln:Nat->Nat) (L:Nat->Nat->Lpp) (g:Nat->Idd) (N:Nat) (z:Nat->Idd) (kz:Nat) (p:List T->T->Prop):codeL P05 G05 A05 (K5b p (.new (idV z kz (some kz)))) 0 5 [] (nav [1,2,2]) [3,5,6] [.reg a.c,Tbl.v ⟨6,ln,L⟩,idV g N none] [] [3,5,6,7] =
(
 bif decF (p [.view 1 6 (fun y=>[lpV (L y) (ln y)
 none])
 none,.agg a.c] (idV z kz (some kz)).new) then
 some ((.normal,[.reg a.c,.view 1 6 (fun y=>[lpV (L y) (ln y)
 none])
 none,idV g N
 none,idV z kz (some kz)],[]))
 else
 none):=by kernel_rfl
theorem k5_2n (a:Idd) (ln:Nat->Nat) (L:Nat->Nat->Lpp) (g:Nat->Idd) (N:Nat) (p:List T->T->Prop):codeL P05 G05 A05 (K5b p .nils) 0 5 [] (nav [1,2,2]) [3,5,6] [.reg a.c,Tbl.v ⟨6,ln,L⟩,idV g N none] [] [3,5,6,7] =
(
 bif decF (p [.view 1 6 (fun y=>[lpV (L y) (ln y)
 none])
 none,.agg a.c] .nils) then
 some ((.normal,[.reg a.c,.view 1 6 (fun y=>[lpV (L y) (ln y)
 none])
 none,idV g N
 none,.nils],[]))
 else
 none):=by kernel_rfl
theorem k5_3 (a:Idd) (ln:Nat->Nat) (L:Nat->Nat->Lpp) (g:Nat->Idd) (N:Nat) (x7:T) (b:Idd) (c:Bool) (p:List T->T->Prop):codeL P05 G05 A05 (K5c p b c) 0 5 [] (nav [1,2,2,2]) [3,5,6,7] [.reg a.c,Tbl.v ⟨6,ln,L⟩,idV g N none,x7] [] [3,5,6,7,8,9] =
(
 bif decF (p [.view 1 6 (fun y=>[lpV (L y) (ln y)
 none])
 none,.agg a.c] (.tup [.agg b.c,.bool c])) then
 bif c then
 some ((.normal,[.reg a.c,.view 1 6 (fun y=>[lpV (L y) (ln y)
 none])
 none,idV g N
 none,x7,.reg b.c,.bool true],[]))
 else
 some ((.normal,[.reg a.c,.view 1 6 (fun y=>[lpV (L y) (ln y)
 none])
 none,idV g N
 none,x7,.reg b.c,.bool false],[]))
 else
 none):=by kernel_rfl
theorem k5_4t (a:Idd) (ln:Nat->Nat) (L:Nat->Nat->Lpp) (g:Nat->Idd) (N:Nat) (x7 x8 x9:T) (l:Lpp) (p:List T->T->Prop):codeL P05 G05 A05 (K5d p (.tup [nlN l,.int .i64 0])) 0 5 [] (nav [1,2,2,2,2]) [3,5,6,7,8,9] [.reg a.c,Tbl.v ⟨6,ln,L⟩,idV g N none,x7,x8,x9] [] [3,5,6,7,8,9,10,11] =
(
 bif decF (p [.view 1 6 (fun y=>[lpV (L y) (ln y)
 none])
 none,.agg a.c] (.tup [nlN l,.int .i64 0])) then
 some ((.normal,[.reg a.c,.view 1 6 (fun y=>[lpV (L y) (ln y)
 none])
 none,idV g N
 none,x7,x8,x9,lR5 l,.int .i64 0],[]))
 else
 none):=by kernel_rfl
theorem k5_4n (a:Idd) (ln:Nat->Nat) (L:Nat->Nat->Lpp) (g:Nat->Idd) (N:Nat) (x7 x8 x9:T) (p:List T->T->Prop):codeL P05 G05 A05 (K5d p (.tup [zlT,.int .i64 7])) 0 5 [] (nav [1,2,2,2,2]) [3,5,6,7,8,9] [.reg a.c,Tbl.v ⟨6,ln,L⟩,idV g N none,x7,x8,x9] [] [3,5,6,7,8,9,10,11] =
(
 bif decF (p [.view 1 6 (fun y=>[lpV (L y) (ln y)
 none])
 none,.agg a.c] (.tup [.agg [.int .u8 0,.bool false,.nils,.nils],.int .i64 7])) then
 some ((.normal,[.reg a.c,.view 1 6 (fun y=>[lpV (L y) (ln y)
 none])
 none,idV g N
 none,x7,x8,x9,.reg [.int .u8 0,.bool false,.nils,.nils],.int .i64 7],[]))
 else
 none):=by kernel_rfl
theorem k5_9 (a:Idd) (ln:Nat->Nat) (L:Nat->Nat->Lpp) (g:Nat->Idd) (N:Nat) (x7 x8 x9 x10 x11:T) (b2:Bool) (ov2:Idd) (mn2:Nat) (x:List T->Heap->Ex->List T->Heap->Prop):codeL P05 G05 A05 noneO 0 5 (l9 x (m10 a ⟨6,ln,L⟩ x7 x8 x9 x10 x11 b2 ov2 mn2)) (nav (1 :: p2 9)) [3,5,6,7,8,9,10,11,12,13,14,15] [.reg a.c,Tbl.v ⟨6,ln,L⟩,idV g N none,x7,x8,x9,x10,x11,.nils,.bool false,.reg [.int .u8 0,.int .i64 0],.int .i64 0] [] [3,5,7,8,9,10,11,12,13,14,15] =
(
 bif decF (x [.reg a.c,.view 1 6 (fun y=>[lpV (L y) (ln y)
 none])
 none,idV g N
 none,x7,x8,x9,x10,x11,.nils,.bool false,.reg [.int .u8 0,.int .i64 0],.int .i64 0,.int .i64 0] [] (.exit 0) [.reg a.c,.view 1 6 (fun y=>[lpV (L y) (ln y)
 none])
 none,x7,x8,x9,x10,x11,.nils,.bool b2,.reg ov2.c,.int .i64 (.ofNat mn2)] []) then
 some ((.normal,[.reg a.c,.view 1 6 (fun y=>[lpV (L y) (ln y)
 none])
 none,x7,x8,x9,x10,x11,.nils,.bool b2,.reg ov2.c,.int .i64 (.ofNat mn2)],[]))
 else
 none):=by kernel_rfl
theorem k5_20t (a:Idd) (ln:Nat->Nat) (L:Nat->Nat->Lpp) (z:Nat->Idd) (kz:Nat) (b:Idd) (c:Bool) (l:Lpp) (ov:Idd) (mn:Nat):codeL P05 G05 A05 noneO 0 5 [] (nav (1 :: p2 10)) [3,5,7,8,9,10,11,12,13,14,15] (m10 a ⟨6,ln,L⟩ (idV z kz (some kz)) (.reg b.c) (.bool c) (lR5 l) (.int .i64 0) true ov mn) [] [3,5,7,10,12,13] =
(
 bif decide (1<Int.ofNat mn) then
 some ((.ret,[.reg a.c,.view 1 6 (fun y=>[lpV (L y) (ln y)
 none])
 none,idV z kz (some kz),lR5 l,.nils,.bool true],[]))
 else
 bif c then
 bif decide (Int.ofNat mn = 1) then
 bif decide (b.y = ov.y) then
 bif decide (b.n = ov.n) then
 some ((.normal,[.reg a.c,.view 1 6 (fun y=>[lpV (L y) (ln y)
 none])
 none,idV z kz (some kz),lR5 l,.nils,.bool true],[]))
 else
 some ((.ret,[.reg a.c,.view 1 6 (fun y=>[lpV (L y) (ln y)
 none])
 none,idV z kz (some kz),lR5 l,.nils,.bool true],[]))
 else
 some ((.ret,[.reg a.c,.view 1 6 (fun y=>[lpV (L y) (ln y)
 none])
 none,idV z kz (some kz),lR5 l,.nils,.bool true],[]))
 else
 some ((.ret,[.reg a.c,.view 1 6 (fun y=>[lpV (L y) (ln y)
 none])
 none,idV z kz (some kz),lR5 l,.nils,.bool true],[]))
 else
 bif decide (Int.ofNat mn = 1) then
 some ((.ret,[.reg a.c,.view 1 6 (fun y=>[lpV (L y) (ln y)
 none])
 none,idV z kz (some kz),lR5 l,.nils,.bool true],[]))
 else
 bif decide (b.y = ov.y) then
 bif decide (b.n = ov.n) then
 some ((.normal,[.reg a.c,.view 1 6 (fun y=>[lpV (L y) (ln y)
 none])
 none,idV z kz (some kz),lR5 l,.nils,.bool true],[]))
 else
 some ((.ret,[.reg a.c,.view 1 6 (fun y=>[lpV (L y) (ln y)
 none])
 none,idV z kz (some kz),lR5 l,.nils,.bool true],[]))
 else
 some ((.ret,[.reg a.c,.view 1 6 (fun y=>[lpV (L y) (ln y)
 none])
 none,idV z kz (some kz),lR5 l,.nils,.bool true],[]))):=by kernel_rfl
theorem k5_20n (a:Idd) (ln:Nat->Nat) (L:Nat->Nat->Lpp) (b:Idd) (c:Bool) (ov:Idd) (mn:Nat):codeL P05 G05 A05 noneO 0 5 [] (nav (1 :: p2 10)) [3,5,7,8,9,10,11,12,13,14,15] (m10 a ⟨6,ln,L⟩ .nils (.reg b.c) (.bool c) zR5 (.int .i64 7) false ov mn) [] [3,5,7,10,12,13] =
(
 bif decide (1<Int.ofNat mn) then
 some ((.ret,[.reg a.c,.view 1 6 (fun y=>[lpV (L y) (ln y)
 none])
 none,.nils,.reg [.int .u8 0,.bool false,.nils,.nils],.nils,.bool false],[]))
 else
 bif c then
 bif decide (Int.ofNat mn = 1) then
 bif decide (b.y = ov.y) then
 bif decide (b.n = ov.n) then
 some ((.normal,[.reg a.c,.view 1 6 (fun y=>[lpV (L y) (ln y)
 none])
 none,.nils,.reg [.int .u8 0,.bool false,.nils,.nils],.nils,.bool false],[]))
 else
 some ((.ret,[.reg a.c,.view 1 6 (fun y=>[lpV (L y) (ln y)
 none])
 none,.nils,.reg [.int .u8 0,.bool false,.nils,.nils],.nils,.bool false],[]))
 else
 some ((.ret,[.reg a.c,.view 1 6 (fun y=>[lpV (L y) (ln y)
 none])
 none,.nils,.reg [.int .u8 0,.bool false,.nils,.nils],.nils,.bool false],[]))
 else
 some ((.ret,[.reg a.c,.view 1 6 (fun y=>[lpV (L y) (ln y)
 none])
 none,.nils,.reg [.int .u8 0,.bool false,.nils,.nils],.nils,.bool false],[]))
 else
 bif decide (Int.ofNat mn = 1) then
 some ((.ret,[.reg a.c,.view 1 6 (fun y=>[lpV (L y) (ln y)
 none])
 none,.nils,.reg [.int .u8 0,.bool false,.nils,.nils],.nils,.bool false],[]))
 else
 bif decide (b.y = ov.y) then
 bif decide (b.n = ov.n) then
 some ((.normal,[.reg a.c,.view 1 6 (fun y=>[lpV (L y) (ln y)
 none])
 none,.nils,.reg [.int .u8 0,.bool false,.nils,.nils],.nils,.bool false],[]))
 else
 some ((.ret,[.reg a.c,.view 1 6 (fun y=>[lpV (L y) (ln y)
 none])
 none,.nils,.reg [.int .u8 0,.bool false,.nils,.nils],.nils,.bool false],[]))
 else
 some ((.ret,[.reg a.c,.view 1 6 (fun y=>[lpV (L y) (ln y)
 none])
 none,.nils,.reg [.int .u8 0,.bool false,.nils,.nils],.nils,.bool false],[]))):=by kernel_rfl
theorem k5_22t (a:Idd) (ln:Nat->Nat) (L:Nat->Nat->Lpp) (z:Nat->Idd) (kz:Nat) (l:Lpp):codeL P05 G05 A05 noneO 0 5 [] (nav (1 :: p2 11)) [3,5,7,10,12,13] [.reg a.c,Tbl.v ⟨6,ln,L⟩,idV z kz (some kz),lR5 l,.nils,.bool true] [] [3,5,7,10,12] =
(
 some ((.normal,[.reg a.c,.view 1 6 (fun y=>[lpV (L y) (ln y)
 none])
 none,idV z kz (some kz),lR5 l,.nils],[]))):=by kernel_rfl
theorem k5_22n (a:Idd) (ln:Nat->Nat) (L:Nat->Nat->Lpp) (p:List T->T->Prop):codeL P05 G05 A05 (K5e p) 0 5 [] (nav (1 :: p2 11)) [3,5,7,10,12,13] [.reg a.c,Tbl.v ⟨6,ln,L⟩,.nils,zR5,.nils,.bool false] [] [4,3,5,7,10,12] =
(
 bif decF (p [] (.bool true)) then
 some ((.ret,[.bool true,.reg a.c,.view 1 6 (fun y=>[lpV (L y) (ln y)
 none])
 none,.nils,.reg [.int .u8 0,.bool false,.nils,.nils],.nils],[]))
 else
 none):=by kernel_rfl
theorem k5_24 (a:Idd) (ln:Nat->Nat) (L:Nat->Nat->Lpp) (z:Nat->Idd) (kz:Nat) (l:Lpp):codeL P05 G05 A05 noneO 0 5 [] (nav (1 :: 1 :: p2 12)) [3,5,7,10,12] [.reg a.c,Tbl.v ⟨6,ln,L⟩,idV z kz (some kz),lR5 l,.nils] [] [3,5,7,10,12,19] =
(
 some ((.normal,[.reg a.c,.view 1 6 (fun y=>[lpV (L y) (ln y)
 none])
 none,idV z kz (some kz),lR5 l,.nils,.int .i64 1],[]))):=by kernel_rfl
theorem k5_42 (z w:Nat->Idd) (kz n:Nat) (s:List UInt8) (p q:List T->T->Prop):codeL P05 G05 A05 (K5f p q s) 0 5 [] (nav (p2 13)) [7,12] [idV z kz (some kz),idV w n none] [] [4] =
(
 bif decF (q [idV z kz (some kz)] (.str s)) then
 bif decF (q [idV w n
 none] (.str s)) then
 bif decide (s = s) then
 bif decide (Int.ofNat kz = Int.ofNat n) then
 bif decide (Int.ofNat kz = Int.ofNat kz) then
 bif decF (p [] (.bool true)) then
 some ((.ret,[.bool true],[]))
 else none else
 some ((.ret,[.bool false],[]))
 else
 some ((.ret,[.bool false],[]))
 else
 some ((.ret,[.bool false],[]))
 else none else
 none):=by kernel_rfl
open Go.Proofs
def setO (o:Os) (K i:Nat) (l:Lpp):Os:=⟨o.fr,o.md,upG o.rw K ((o.rw K).set i l)⟩
section
variable {o:Os} {N K i:Nat} {l:Lpp}
theorem set_ln (e:Nat):(tO (setO o K i l)).ln e = (tO o).ln e:=by
 show (upG o.rw K ((o.rw K).set i l) e).length = (o.rw e).length
 unfold upG
 split
 ·rename_i q; subst q; rw [List.length_set]
 ·rfl
theorem set_L (hi:i<(o.rw K).length) (e j:Nat):(tO (setO o K i l)).L e j = if e = K/\j = i then l else (tO o).L e j:=by
 show (upG o.rw K ((o.rw K).set i l) e).getD j lp0 = _
 unfold upG
 by_cases q:e = K
 ·subst q
  rw [if_pos rfl,List.getD_eq_getElem?_getD,List.getElem?_set]
  by_cases q2:i = j
  ·subst q2
   rw [if_pos rfl,if_pos hi,if_pos ⟨rfl,rfl⟩]; rfl
  ·rw [if_neg q2,if_neg (fun h=>q2 h.2.symm),← List.getD_eq_getElem?_getD]; rfl
 ·rw [if_neg q,if_neg (fun h=>q h.1)]; rfl
theorem rowTh_set {r:List Lpp} (hi:i<r.length) (x:Idd):(rowTh (r.set i l)).count x+(thL (r.getD i lp0)).count x = (rowTh r).count x+(thL l).count x:=by
 have e:r = r.take i ++ (r.getD i lp0 :: r.drop (i+1)):=by
  rw [List.getD_eq_getElem?_getD,List.getElem?_eq_getElem hi,Option.getD_some,List.getElem_cons_drop,List.take_append_drop]
 have e2:(rowTh r).count x = (rowTh (r.take i)).count x+((thL (r.getD i lp0)).count x+(rowTh (r.drop (i+1))).count x):=by
  conv=>lhs; rw [e]
  simp only [rowTh,List.flatMap_append,List.flatMap_cons,List.count_append]
 rw [e2,List.set_eq_take_append_cons_drop,if_pos hi]
 simp only [rowTh,List.flatMap_append,List.flatMap_cons,List.count_append]
 omega
theorem allTh_set (hK:K<6) (hi:i<(o.rw K).length) (x:Idd):(allTh (setO o K i l).rw).count x+(thL ((tO o).L K i)).count x = (allTh o.rw).count x+(thL l).count x:=by
 have h1:=rowTh_set (l:=l) hi x
 have e:∀ e,(setO o K i l).rw e = if e = K then (o.rw K).set i l else o.rw e:=fun e=>rfl
 have h2:(thL ((tO o).L K i)).count x = (thL ((o.rw K).getD i lp0)).count x:=rfl
 rw [h2]
 obtain rfl | rfl | rfl | rfl | rfl | rfl:K = 0 ∨ K = 1 ∨ K = 2 ∨ K = 3 ∨ K = 4 ∨ K = 5:=by omega
 all_goals
  simp only [allTh,List.count_append,e,if_true,if_false,Nat.reduceEqDiff] at h1 ⊢
  try omega
theorem mem_thL {l:Lpp} {a:Idd}:a ∈ thL l ↔ ∃ i,i<l.nt/\l.th i = a:=by simp [thL]
theorem cnt_mem {l:Lpp} {a:Idd}:cnt l.th l.nt a = true ↔ a ∈ thL l:=by
 rw [mem_thL]
 unfold cnt
 rw [Bool.not_eq_true',← Bool.not_eq_true,allB_iff]
 simp only [Classical.not_forall,Bool.not_eq_true',Bool.not_eq_false]
 constructor
 ·rintro ⟨i,hi,h⟩
  refine ⟨i,hi,?_⟩
  unfold eqI at h
  simp only [Bool.and_eq_true,decide_eq_true_eq] at h
  obtain ⟨h1,h2⟩:=h
  cases hh:l.th i with | mk y n=>rw [hh] at h1 h2; cases a; simp_all
 ·rintro ⟨i,hi,h⟩
  exact ⟨i,hi,by rw [h]; simp [eqI]⟩
theorem all_nd (h:OsInv o N):(allTh o.rw).Nodup:=by
 have h1:=h.perm.nodup_iff.2 h.nodup
 rw [List.nodup_append] at h1
 exact h1.1
theorem mem_all {y j:Nat} (hy:y<6) (hj:j<(o.rw y).length) {x:Idd} (hx:x ∈ thL ((tO o).L y j)):x ∈ allTh o.rw:=by
 have h1:x ∈ rowTh (o.rw y):=List.mem_flatMap.2 ⟨_,mem_getD (d:=lp0) hj,hx⟩
 unfold allTh
 simp only [List.mem_append]
 obtain rfl | rfl | rfl | rfl | rfl | rfl:y = 0 ∨ y = 1 ∨ y = 2 ∨ y = 3 ∨ y = 4 ∨ y = 5:=by omega
 all_goals simp only [h1,true_or,or_true]
theorem of_all {x:Idd} (hx:x ∈ allTh o.rw):∃ y j,y<6/\j<(o.rw y).length/\x ∈ thL ((tO o).L y j):=by
 have key:∀ y,y<6->x ∈ rowTh (o.rw y)->∃ y j,y<6/\j<(o.rw y).length/\x ∈ thL ((tO o).L y j):=fun y hy h=>by
  obtain ⟨l,hl,hx⟩:=List.mem_flatMap.1 h
  obtain ⟨j,hj,e⟩:=getD_mem (d:=lp0) hl
  exact ⟨y,j,hy,hj,by show x ∈ thL ((o.rw y).getD j lp0); rw [e]; exact hx⟩
 unfold allTh at hx
 simp only [List.mem_append] at hx
 rcases hx with ((((hx | hx) | hx) | hx) | hx) | hx
 ·exact key 0 (by omega) hx
 ·exact key 1 (by omega) hx
 ·exact key 2 (by omega) hx
 ·exact key 3 (by omega) hx
 ·exact key 4 (by omega) hx
 ·exact key 5 (by omega) hx
variable (h:OsInv o N) (hN:N<=60) (hK:K<6) (hi:i<(o.rw K).length)
include h hN hK hi
end
open Go.Proofs
section
variable {o:Os} {N:Nat}
theorem uniq_th (h:OsInv o N) {y j y' j':Nat} (hy:y<6) (hj:j<(o.rw y).length) (hy':y'<6) (hj':j'<(o.rw y').length) {a:Idd} (h1:a ∈ thL ((tO o).L y j)) (h2:a ∈ thL ((tO o).L y' j')):y = y'/\j = j':=by
 refine Classical.byContradiction fun q=>?_
 have c:=allTh_set (o:=o) (l:=⟨0,false,fun _=>id0,0,fun _=>ps0,0⟩) hy hj a
 have c1:=List.nodup_iff_count.1 (all_nd h) a
 have c2:=List.one_le_count_iff.2 h1
 have c3:a ∈ allTh (setO o y j ⟨0,false,fun _=>id0,0,fun _=>ps0,0⟩).rw:=by
  refine mem_all (o:=setO o y j _) hy' (j:=j') ?_ ?_
  ·have:=set_ln (o:=o) (K:=y) (i:=j) (l:=⟨0,false,fun _=>id0,0,fun _=>ps0,0⟩) y'
   show j'<(tO (setO o y j _)).ln y'
   rw [this]; exact hj'
  ·rw [set_L hj,if_neg (fun hh=>q ⟨hh.1.symm,hh.2.symm⟩)]; exact h2
 have c4:=List.one_le_count_iff.2 c3
 rw [show thL ⟨0,false,fun _=>id0,0,fun _=>ps0,0⟩ = [] from rfl,List.count_nil] at c
 omega
theorem mnK_count (l:Lpp) (a:Idd):∀ k,mnK l a k = ((List.range k).map l.th).count a
 | 0=>rfl
 | k+1=>by
  rw [List.range_succ,List.map_append,List.count_append,← mnK_count l a k]
  simp only [mnK,List.map_cons,List.map_nil,List.count_singleton]
  congr 1
  by_cases q:l.th k = a
  ·simp [q]
  ·simp [q]
theorem mnK_zero {l:Lpp} {a:Idd} (h:a ∉ thL l):mnK l a l.nt = 0:=by rw [mnK_count]; exact List.count_eq_zero.2 h
theorem mnK_one (h:OsInv o N) {y j:Nat} (hy:y<6) (hj:j<(o.rw y).length) {a:Idd} (h1:a ∈ thL ((tO o).L y j)):mnK ((tO o).L y j) a ((tO o).L y j).nt = 1:=by
 rw [mnK_count]
 have c:=allTh_set (o:=o) (l:=⟨0,false,fun _=>id0,0,fun _=>ps0,0⟩) hy hj a
 have c1:=List.nodup_iff_count.1 (all_nd h) a
 have c2:=List.one_le_count_iff.2 h1
 rw [show thL ⟨0,false,fun _=>id0,0,fun _=>ps0,0⟩ = [] from rfl,List.count_nil] at c
 have e:thL ((tO o).L y j) = (List.range ((tO o).L y j).nt).map ((tO o).L y j).th:=rfl
 rw [← e]
 omega
theorem lid_md {y j:Nat}:Lid (tO o) ⟨((y+1:Nat):Int),(j:Int)⟩ = (tO o).L y j:=by
 unfold Lid
 dsimp only
 rw [show (((y+1:Nat):Int) - 1).toNat = y by omega,show ((j:Nat):Int).toNat = j by omega]
theorem mn_none (h:OsInv o N) {a:Idd} (ha:a ∉ allTh o.rw):∀ i,i<=N->MN (tO o) (fun j=>o.md.getD j id0) a i = 0/\OV (tO o) (fun j=>o.md.getD j id0) a i = ⟨0,0⟩
 | 0,_=>⟨rfl,rfl⟩
 | i+1,hi=>by
  obtain ⟨h1,h2⟩:=mn_none h ha i (by omega)
  obtain ⟨y,j,hy,hj,e,_⟩:=md_id h (k:=i) (by omega)
  have e0:mnK (Lid (tO o) (o.md.getD i id0)) a (Lid (tO o) (o.md.getD i id0)).nt = 0:=by
   rw [e,lid_md]
   exact mnK_zero fun hm=>ha (mem_all hy hj hm)
  simp only [MN,OV]
  rw [e0,h1,if_pos rfl]
  exact ⟨rfl,h2⟩
theorem mn_one (h:OsInv o N) {a:Idd} {y j:Nat} (hy:y<6) (hj:j<(o.rw y).length) (ha:a ∈ thL ((tO o).L y j)):MN (tO o) (fun j=>o.md.getD j id0) a N = 1/\OV (tO o) (fun j=>o.md.getD j id0) a N = ⟨((y+1:Nat):Int),(j:Int)⟩:=by
 obtain ⟨k,k1,k2,_⟩:=h.row y hy j hj
 have key:∀ i,i<=N->(i<=k->MN (tO o) (fun j=>o.md.getD j id0) a i = 0)/\(k<i->MN (tO o) (fun j=>o.md.getD j id0) a i = 1/\OV (tO o) (fun j=>o.md.getD j id0) a i = ⟨((y+1:Nat):Int),(j:Int)⟩):=by
  intro i
  induction i with
  | zero=>intro _; exact ⟨fun _=>rfl,fun hk=>absurd hk (Nat.not_lt_zero _)⟩
  | succ i ih =>
   intro hi
   obtain ⟨g1,g2⟩:=ih (by omega)
   obtain ⟨y',j',hy',hj',e,_⟩:=md_id h (k:=i) (by omega)
   by_cases q:i = k
   ·subst q
    refine ⟨fun hh=>by omega,fun _=>?_⟩
    simp only [MN,OV]
    rw [k2,lid_md,mnK_one h hy hj ha,g1 (Nat.le_refl _)]
    exact ⟨rfl,rfl⟩
   ·have e0:mnK (Lid (tO o) (o.md.getD i id0)) a (Lid (tO o) (o.md.getD i id0)).nt = 0:=by
     rw [e,lid_md]
     refine mnK_zero fun hm=>q ?_
     obtain ⟨rfl,rfl⟩:=uniq_th h hy hj hy' hj' ha hm
     exact md_inj h (by omega) k1 (e.trans k2.symm)
    simp only [MN,OV]
    rw [e0,if_pos rfl]
    exact ⟨fun hh=>g1 (by omega),fun hh=>g2 (by omega)⟩
 exact (key N (Nat.le_refl _)).2 k1
theorem TB_iff (g:Nat->Idd) (a:Idd):∀ N,TB g a N = true ↔ ∃ i,i<N/\g i = a
 | 0=>⟨fun h=>(by cases h),fun ⟨i,hi,_⟩=>absurd hi (Nat.not_lt_zero _)⟩
 | N+1=>by
  simp only [TB,Bool.or_eq_true,decide_eq_true_eq,TB_iff g a N]
  constructor
  ·rintro (⟨i,hi,e⟩ | e)
   ·exact ⟨i,by omega,e⟩
   ·exact ⟨N,by omega,e⟩
  ·rintro ⟨i,hi,e⟩
   by_cases q:i = N
   ·subst q; exact .inr e
   ·exact .inl ⟨i,by omega,e⟩
theorem has_form (h:OsInv o N) {a:Idd} (hh:(tO o).has a = true):∃ y j:Nat,y<6/\j<(o.rw y).length/\a = ⟨((y+1:Nat):Int),(j:Int)⟩:=by
 obtain ⟨r1,r2,r3,r4⟩:=has_bd hh
 have r2:a.y<=((6:Nat):Int):=r2
 have r4:a.n<(((o.rw (a.y - 1).toNat).length:Nat):Int):=r4
 refine ⟨(a.y - 1).toNat,a.n.toNat,by omega,by omega,idd_eq.2 ⟨?_,?_⟩⟩
 ·dsimp only; omega
 ·dsimp only; omega
theorem TB_has (h:OsInv o N) (a:Idd):TB (fun j=>o.md.getD j id0) a N = (tO o).has a:=by
 rw [Bool.eq_iff_iff,TB_iff]
 constructor
 ·rintro ⟨i,hi,e⟩
  rw [← e]; exact md_has h hi
 ·intro hh
  obtain ⟨y,j,hy,hj,rfl⟩:=has_form h hh
  obtain ⟨k,k1,k2,_⟩:=h.row y hy j hj
  exact ⟨k,k1,k2⟩
end
theorem orK_iff (f:Nat->Idd) (x:Idd) (b:Bool):∀ n,orK f x b n = true ↔ b = true ∨ ∃ k,k<n/\f k = x
 | 0=>⟨fun h=>.inl h,fun h=>h.elim id fun ⟨k,hk,_⟩=>absurd hk (Nat.not_lt_zero _)⟩
 | n+1=>by
  simp only [orK,Bool.or_eq_true,decide_eq_true_eq,orK_iff f x b n]
  constructor
  ·rintro ((h | ⟨k,hk,e⟩) | e)
   ·exact .inl h
   ·exact .inr ⟨k,by omega,e⟩
   ·exact .inr ⟨n,by omega,e⟩
  ·rintro (h | ⟨k,hk,e⟩)
   ·exact .inl (.inl h)
   ·by_cases q:k = n
    ·subst q; exact .inr e
    ·exact .inl (.inr ⟨k,by omega,e⟩)
theorem nd_iff (a:Idd) (l:Lpp) (x:Idd):nd a l x = true ↔ (x.y = a.y/\x.n = a.n - 1) ∨ (∃ k,k<l.nt/\l.th k = x) ∨ ∃ k,k<l.np/\(l.ps k).id = x:=by
 unfold nd
 rw [orK_iff,orK_iff,Bool.and_eq_true,decide_eq_true_eq,decide_eq_true_eq,or_assoc]
theorem mem_wRow {a:Idd} {l:Lpp} {y:Nat} {x:Idd}:∀ {n:Nat},x ∈ wRow a l y n ↔ ∃ j:Nat,j<n/\x = ⟨((y+1:Nat):Int),(j:Int)⟩/\nd a l x = true
 | 0=>⟨fun h=>by simp [wRow] at h,fun ⟨j,hj,_⟩=>absurd hj (Nat.not_lt_zero _)⟩
 | n+1=>by
  simp only [wRow,List.mem_append,mem_wRow (n:=n)]
  constructor
  ·rintro (⟨j,hj,e,hn⟩ | hm)
   ·exact ⟨j,by omega,e,hn⟩
   ·split at hm
    ·rename_i hn
     rw [List.mem_singleton] at hm
     exact ⟨n,by omega,hm,hm ▸ hn⟩
    ·simp at hm
  ·rintro ⟨j,hj,e,hn⟩
   by_cases q:j = n
   ·subst q
    rw [e] at hn
    rw [if_pos hn]
    exact .inr (by rw [List.mem_singleton]; exact e)
   ·exact .inl ⟨j,by omega,e,hn⟩
theorem mem_wAll {a:Idd} {l:Lpp} {ln:Nat->Nat} {x:Idd}:∀ {Y:Nat},x ∈ wAll a l ln Y ↔ ∃ y j:Nat,y<Y/\j<ln y/\x = ⟨((y+1:Nat):Int),(j:Int)⟩/\nd a l x = true
 | 0=>⟨fun h=>by simp [wAll] at h,fun ⟨y,_,hy,_⟩=>absurd hy (Nat.not_lt_zero _)⟩
 | Y+1=>by
  simp only [wAll,List.mem_append,mem_wAll (Y:=Y),mem_wRow]
  constructor
  ·rintro (⟨y,j,hy,hj,e⟩ | ⟨j,hj,e⟩)
   ·exact ⟨y,j,by omega,hj,e⟩
   ·exact ⟨Y,j,by omega,hj,e⟩
  ·rintro ⟨y,j,hy,hj,e⟩
   by_cases q:y = Y
   ·subst q; exact .inr ⟨j,hj,e⟩
   ·exact .inl ⟨y,j,by omega,hj,e⟩
theorem enc_lt {y j y' j':Nat} (hj:j<=1000) (hj':j'<=1000) (h:y<y' ∨ y = y'/\j<j'):enc ⟨((y+1:Nat):Int),(j:Int)⟩<enc ⟨((y'+1:Nat):Int),(j':Int)⟩:=by
 unfold enc
 dsimp only
 rcases h with h | ⟨rfl,h⟩
 ·have:((y+1:Nat):Int)+1<=((y'+1:Nat):Int):=by omega
  have h2:(((y+1:Nat):Int)+1) * 18446744073709551616<=((y'+1:Nat):Int) * 18446744073709551616:=Int.mul_le_mul_of_nonneg_right this (by decide)
  omega
 ·omega
theorem wRow_sorted {a:Idd} {l:Lpp} {y:Nat}:∀ {n:Nat},n<=1000->(wRow a l y n).Pairwise (fun p q=>enc p<enc q)
 | 0,_=>.nil
 | n+1,hn=>by
  simp only [wRow]
  rw [List.pairwise_append]
  refine ⟨wRow_sorted (by omega),?_,fun p hp q hq=>?_⟩
  ·split
   ·exact List.pairwise_singleton _ _
   ·exact .nil
  ·obtain ⟨j,hj,rfl,_⟩:=mem_wRow.1 hp
   split at hq
   ·rw [List.mem_singleton] at hq
    subst hq
    exact enc_lt (by omega) (by omega) (.inr ⟨rfl,hj⟩)
   ·simp at hq
theorem wAll_sorted {a:Idd} {l:Lpp} {ln:Nat->Nat} (hln:∀ y,ln y<=1000):∀ {Y:Nat},(wAll a l ln Y).Pairwise (fun p q=>enc p<enc q)
 | 0=>.nil
 | Y+1=>by
  simp only [wAll]
  rw [List.pairwise_append]
  refine ⟨wAll_sorted hln,wRow_sorted (hln Y),fun p hp q hq=>?_⟩
  obtain ⟨y,j,hy,hj,rfl,_⟩:=mem_wAll.1 hp
  obtain ⟨j',hj',rfl,_⟩:=mem_wRow.1 hq
  have:=hln y
  have:=hln Y
  exact enc_lt (by omega) (by omega) (.inl hy)
theorem sorted_ext:∀ {l1 l2:List Int},l1.Pairwise (·<·)->l2.Pairwise (·<·)->(∀ x,x ∈ l1 ↔ x ∈ l2)->l1 = l2
 | [],[],_,_,_=>rfl
 | [],y :: ys,_,_,h=>by have:=(h y).2 (by simp); simp at this
 | x :: xs,[],_,_,h=>by have:=(h x).1 (by simp); simp at this
 | x :: xs,y :: ys,h1,h2,h=>by
  rw [List.pairwise_cons] at h1 h2
  have e:x = y:=by
   have hx:=(h x).1 (by simp)
   have hy:=(h y).2 (by simp)
   rw [List.mem_cons] at hx hy
   rcases hx with hx | hx
   ·exact hx
   ·rcases hy with hy | hy
    ·exact hy.symm
    ·have a1:=h1.1 y hy
     have a2:=h2.1 x hx
     omega
  subst e
  rw [sorted_ext h1.2 h2.2 fun z=>?_]
  constructor
  ·intro hz
   have:=(h z).1 (by simp [hz])
   rw [List.mem_cons] at this
   rcases this with rfl | hz'
   ·have:=h1.1 z hz; omega
   ·exact hz'
  ·intro hz
   have:=(h z).2 (by simp [hz])
   rw [List.mem_cons] at this
   rcases this with rfl | hz'
   ·have:=h2.1 z hz; omega
   ·exact hz'
theorem got_want {o:Os} {N:Nat} (h:OsInv o N) (hN:N<=60) {a:Idd} (hh:(tO o).has a = true) {z:Nat->Int} {k:Nat} (hz:NdOk (Lid (tO o) a) a z k) :
 k = (wAll a (Lid (tO o) a) (tO o).ln 6).length/\∀ j,j<k->dec (z j) = (wAll a (Lid (tO o) a) (tO o).ln 6).getD j id0:=by
 obtain ⟨y0,j0,hy0,hj0,ea⟩:=has_form h hh
 have eL:Lid (tO o) a = (tO o).L y0 j0:=by rw [ea]; exact lid_md
 obtain ⟨k0,k1,k2,k3,_⟩:=h.row y0 hy0 j0 hj0
 have hneed:∀ i,i<(Lid (tO o) a).nt+(Lid (tO o) a).np->∃ y j:Nat,y<6/\j<(o.rw y).length/\needI (Lid (tO o) a) i = ⟨((y+1:Nat):Int),(j:Int)⟩:=fun i hi=>by
  rw [eL] at hi ⊢
  obtain ⟨m,m1,m2⟩:=good_need k3 (i:=i) hi
  obtain ⟨y,j,hy,hj,e,_⟩:=md_id h (k:=m) (by omega)
  exact ⟨y,j,hy,hj,m2.symm.trans e⟩
 have hln:∀ y,(tO o).ln y<=1000:=fun y=>by have:=row_len h y; show (o.rw y).length<=1000; omega
 obtain ⟨s1,s2,s3⟩:=hz
 have hmem:∀ w,w ∈ (List.range k).map z ↔ w ∈ (wAll a (Lid (tO o) a) (tO o).ln 6).map enc:=by
  intro w
  rw [List.mem_map,List.mem_map]
  have e1:(∃ j,j ∈ List.range k/\z j = w) ↔ Mem z 0 k w:=by simp [Mem]
  rw [e1,s2 w]
  constructor
  ·rintro ⟨j,_,hj,e⟩
   unfold ndX at e
   by_cases q:j<(Lid (tO o) a).nt+(Lid (tO o) a).np
   ·rw [if_pos q] at e
    obtain ⟨y,n,hy,hn,e2⟩:=hneed j q
    refine ⟨needI (Lid (tO o) a) j,mem_wAll.2 ⟨y,n,hy,hn,e2,(nd_iff _ _ _).2 (.inr ?_)⟩,e⟩
    by_cases q2:j<(Lid (tO o) a).nt
    ·exact .inl ⟨j,q2,by unfold needI; rw [if_pos q2]⟩
    ·exact .inr ⟨j - (Lid (tO o) a).nt,by omega,by unfold needI; rw [if_neg q2]⟩
   ·rw [if_neg q] at e
    unfold ndN at hj
    have h0:0<a.n:=by
     rcases Int.lt_or_le 0 a.n with h0 | h0
     ·exact h0
     ·rw [if_neg (by omega)] at hj; omega
    refine ⟨⟨a.y,a.n - 1⟩,mem_wAll.2 ⟨y0,j0 - 1,hy0,by show j0 - 1<(o.rw y0).length; omega,?_,(nd_iff _ _ _).2 (.inl ⟨rfl,rfl⟩)⟩,e⟩
    rw [ea] at h0 ⊢
    dsimp only at h0 ⊢
    congr 1
    omega
  ·rintro ⟨x,hx,e⟩
   obtain ⟨y,j,hy,hj,ex,hn⟩:=mem_wAll.1 hx
   rcases (nd_iff _ _ _).1 hn with ⟨e1,e2⟩ | ⟨m,hm,em⟩ | ⟨m,hm,em⟩
   ·have h0:0<a.n:=by rw [ex] at e2; dsimp only at e2; omega
    refine ⟨(Lid (tO o) a).nt+(Lid (tO o) a).np,Nat.zero_le _,by unfold ndN; rw [if_pos h0]; omega,?_⟩
    unfold ndX
    rw [if_neg (by omega),← e,show x = ⟨a.y,a.n - 1⟩ from idd_eq.2 ⟨e1,e2⟩]
   ·refine ⟨m,Nat.zero_le _,by unfold ndN; split <;> omega,?_⟩
    unfold ndX needI
    rw [if_pos (by omega),if_pos hm,em,e]
   ·refine ⟨(Lid (tO o) a).nt+m,Nat.zero_le _,by unfold ndN; split <;> omega,?_⟩
    unfold ndX needI
    rw [if_pos (by omega),if_neg (by omega),Nat.add_sub_cancel_left,em,e]
 have p1:((List.range k).map z).Pairwise (·<·):=by
  rw [List.pairwise_map,List.pairwise_iff_getElem]
  intro i j hi hj hij
  rw [List.getElem_range,List.getElem_range]
  exact s1 i j hij (by simpa using hj)
 have p2:((wAll a (Lid (tO o) a) (tO o).ln 6).map enc).Pairwise (·<·):=by
  rw [List.pairwise_map]
  exact wAll_sorted hln
 have e:=sorted_ext p1 p2 hmem
 have hlen:=congrArg List.length e
 rw [List.length_map,List.length_map,List.length_range] at hlen
 refine ⟨hlen,fun j hj=>?_⟩
 have hj2:j<(wAll a (Lid (tO o) a) (tO o).ln 6).length:=by omega
 have e2:((List.range k).map z)[j]? = ((wAll a (Lid (tO o) a) (tO o).ln 6).map enc)[j]?:=by rw [e]
 rw [List.getElem?_map,List.getElem?_map,List.getElem?_range hj,List.getElem?_eq_getElem hj2] at e2
 have e3:z j = enc ((wAll a (Lid (tO o) a) (tO o).ln 6)[j]):=Option.some.inj e2
 rw [e3,List.getD_eq_getElem?_getD,List.getElem?_eq_getElem hj2,Option.getD_some]
 refine dec_enc ?_
 obtain ⟨y,n,hy,hn,ex,_⟩:=mem_wAll.1 (List.getElem_mem hj2)
 rw [ex]
 have:=hln y
 exact ⟨⟨by dsimp only; omega,by dsimp only; omega⟩,by dsimp only; omega,by dsimp only; omega⟩
open Go.Proofs
theorem txt_congr {g g':Nat->Idd}:∀ {k:Nat},(∀ j,j<k->g j = g' j)->txt g k = txt g' k
 | 0,_=>rfl
 | k+1,h=>by
  simp only [txt]
  rw [txt_congr fun j hj=>h j (by omega),h k (by omega)]
theorem gh5 {a:Idd} {ln:Nat->Nat} {L:Nat->Nat->Lpp} {z:Nat->Idd} {kz:Nat} {l:Lpp}:W5 [3,5,7,10,12,19] [.reg a.c,Tbl.v ⟨6,ln,L⟩,idV z kz (some kz),lR5 l,.nils,.int .i64 1] [] (n25 a ⟨6,ln,L⟩ (idV z kz (some kz)) l 0 [] 1) [idB 0 []]:=fun nt=>by
 refine WeakTo.ghost [idB 0 []] (by simp [idB]) rfl (fun k x y hx hy=>?_) (NilBs.refl _)
 rcases k with _ | _ | _ | _ | _ | _ | k <;> simp only [n25,List.getElem?_cons_zero,List.getElem?_cons_succ,List.getElem?_nil,Option.some.injEq,reduceCtorEq] at hx hy
 case succ.succ.succ.succ.zero =>
  subst hx hy
  exact .inl (NilT.own (b:=idB 0 []) (show 0<=0 from Nat.le_refl 0) rfl rfl)
 all_goals (subst hx; subst hy; exact .refl _)
theorem fz5 {z:Nat->Idd} {kz v:Nat} {W:List Idd}:W5 [7,12] [idV z kz (some kz),.own 0 v 0 W.length none] [idB v W] [idV z kz (some kz),idV (fun j=>W.getD j id0) W.length none] []:=fun nt=>by
 refine WeakTo.canonS [] rfl ?_ rfl .nil
 have e:ren [] [idB v W] (.own 0 v 0 W.length none) = (bif (true&&(v==v&&Nat.ble (0+W.length) W.length)) then T.view 2 W.length (fun j=>(W.getD (0+j) id0).c) none else .undef):=rfl
 show [idV z kz (some kz),ren [] [idB v W] (.own 0 v 0 W.length none)] = _
 rw [e,beq_self_eq_true,bleT (show 0+W.length<=W.length by omega)]
 simp only [Bool.and_self,cond_true,Nat.zero_add]
 rfl
theorem law5nT (X:Nat->Ll) (n:Nat) (hX:∀ i,(X i).Ok) (a:Idd) (ha:a.Ok):ToldOk P05 G05 5 [llV X n none,.agg a.c] (.bool true):=by
 obtain ⟨p8,h8⟩:=is_val P05 G05 8
 obtain ⟨p15,h15⟩:=is_val P05 G05 15
 obtain ⟨p14,h14⟩:=is_val P05 G05 14
 obtain ⟨p16,h16⟩:=is_val P05 G05 16
 obtain ⟨p13,h13⟩:=is_val P05 G05 13
 obtain ⟨p17,h17⟩:=is_val P05 G05 17
 obtain ⟨x10,hx10⟩:=is_loop P05 G05 (A05 5) 5 10
 have t8:=(ofT (X:=X) (n:=n) hX).frz
 have hN:min n 60<=60:=Nat.min_le_right _ _
 generalize min n 60 = N at t8 hN
 have h:=os_inv X N
 generalize oS X N = o at t8 h
 have hmd:o.md.length = N:=h.len
 rw [hmd] at t8
 have ok:=tO_ok h hN
 have s8:ToldOk P05 G05 8 [llV X n none] (.tup [(tO o).v,idV (fun j=>o.md.getD j id0) N none]) :=
  t8.tupTo (.cons (.view (.view (.inr rfl) fun j _=>.refl _)) (.cons (.newv _) .nil))
 have t16:=(findT (tO o) ok a ha).frz
 have t14:=aboveT (tO o) ok a (show 6<=255 by omega)
 have hLb:∀ y j,((tO o).L y j).nt<=4/\((tO o).L y j).np<=5:=fun y j=>by
  show ((o.rw y).getD j lp0).nt<=4/\((o.rw y).getD j lp0).np<=5
  by_cases hy:y<6
  ·by_cases hj:j<(o.rw y).length
   ·obtain ⟨k,k1,_,⟨b,w,th,ps,d,e,_,_,q3,q4,_⟩,_⟩:=h.row y hy j hj
    rw [e]; exact ⟨q3,q4⟩
   ·rw [List.getD_eq_getElem?_getD,List.getElem?_eq_none (by omega)]; exact ⟨Nat.zero_le _,Nat.zero_le _⟩
  ·rw [h.out y (by omega)]; exact ⟨Nat.zero_le _,Nat.zero_le _⟩
 have t10:=fun x7 x8 x9 x10 x11=>lp10n a (tO o).ln (tO o).L (fun j=>o.md.getD j id0) N x7 x8 x9 x10 x11 hN (fun i hi=>by
  obtain ⟨y,j,hy,hj,e,_⟩:=md_id h hi
  exact ⟨y,j,hy,hj,e⟩) (fun y j=>by have:=(hLb y j).1; omega)
 have hTB:=TB_has h a
 have q0:P5 [1] [0,1] [llV X n none,.agg a.c] [] .normal [0,3] [llV X n none,.reg a.c] []:=run5 none_ok (by kernel_rfl)
 have q1:P5 [1,2] [0,3] [llV X n none,.reg a.c] [] .normal [3,5,6] [.reg a.c,(tO o).v,idV (fun j=>o.md.getD j id0) N none] [] :=
  run5 (told_add none_ok (callF_told h8)) ((k5_1 a (tO o).ln (tO o).L (fun j=>o.md.getD j id0) N X n p8).trans (bift (yes5 h8 s8) rfl))
 have hab:∃ (b:Idd) (c:Bool),ToldOk P05 G05 14 [(tO o).v,.agg a.c] (.tup [.agg b.c,.bool c])/\((c = false/\MN (tO o) (fun j=>o.md.getD j id0) a N = 0/\b = OV (tO o) (fun j=>o.md.getD j id0) a N) ∨ (c = true/\MN (tO o) (fun j=>o.md.getD j id0) a N = 1/\b = OV (tO o) (fun j=>o.md.getD j id0) a N)):=by
  cases hc:allB (abY (tO o) a) (tO o).h with
  | true =>
   have hno:a ∉ allTh o.rw:=fun hm=>by
    obtain ⟨y,j,hy,hj,hx⟩:=of_all hm
    have:=(allB_iff _ _).1 ((allB_iff _ _).1 hc y hy) j hj
    unfold abI at this
    rw [cnt_mem.2 hx] at this
    cases this
   obtain ⟨e1,e2⟩:=mn_none h hno N (Nat.le_refl _)
   exact ⟨⟨0,0⟩,false,t14.1 hc,.inl ⟨rfl,e1,e2.symm⟩⟩
  | false =>
   obtain ⟨y,j,hy,hj,hcn,t⟩:=t14.2 hc
   obtain ⟨e1,e2⟩:=mn_one h hy hj (cnt_mem.1 hcn)
   exact ⟨⟨(y:Int)+1,j⟩,true,t,.inr ⟨rfl,e1,e2.symm⟩⟩
 obtain ⟨b,c,t14,hbc⟩:=hab
 have mid:∀ x7 x10 x11:T,P5 [1,2,2] [3,5,6] [.reg a.c,(tO o).v,idV (fun j=>o.md.getD j id0) N none] [] .normal [3,5,6,7] [.reg a.c,(tO o).v,idV (fun j=>o.md.getD j id0) N none,x7] [] →
  P5 [1,2,2,2,2] [3,5,6,7,8,9] [.reg a.c,(tO o).v,idV (fun j=>o.md.getD j id0) N none,x7,.reg b.c,.bool c] [] .normal [3,5,6,7,8,9,10,11] [.reg a.c,(tO o).v,idV (fun j=>o.md.getD j id0) N none,x7,.reg b.c,.bool c,x10,x11] [] →
  ∀ {e:Ex} {l1:List Nat} {v1:List T} {h1:Heap},P5 (p2 10) [3,5,7,8,9,10,11,12,13,14,15] (m10 a (tO o) x7 (.reg b.c) (.bool c) x10 x11 ((tO o).has a) (OV (tO o) (fun j=>o.md.getD j id0) a N) (MN (tO o) (fun j=>o.md.getD j id0) a N)) [] e l1 v1 h1 →
  P5 [] [0,1] [llV X n none,.agg a.c] [] e l1 v1 h1:=by
  intro x7 x10v x11 q2 q4 e l1 v1 h1 rest
  have q3:P5 [1,2,2,2] [3,5,6,7] [.reg a.c,(tO o).v,idV (fun j=>o.md.getD j id0) N none,x7] [] .normal [3,5,6,7,8,9] [.reg a.c,(tO o).v,idV (fun j=>o.md.getD j id0) N none,x7,.reg b.c,.bool c] [] :=
   run5 (told_add none_ok (callF_told h14)) ((k5_3 a (tO o).ln (tO o).L (fun j=>o.md.getD j id0) N x7 b c p14).trans (bift (yes5 h14 t14) (by cases c <;> rfl)))
  have q5:P5 [1,2,2,2,2,2] [3,5,6,7,8,9,10,11] [.reg a.c,(tO o).v,idV (fun j=>o.md.getD j id0) N none,x7,.reg b.c,.bool c,x10v,x11] [] .normal [3,5,6,7,8,9,10,11,12] [.reg a.c,(tO o).v,idV (fun j=>o.md.getD j id0) N none,x7,.reg b.c,.bool c,x10v,x11,.nils] []:=run5 none_ok (by kernel_rfl)
  have q6:P5 [1,2,2,2,2,2,2] [3,5,6,7,8,9,10,11,12] [.reg a.c,(tO o).v,idV (fun j=>o.md.getD j id0) N none,x7,.reg b.c,.bool c,x10v,x11,.nils] [] .normal [3,5,6,7,8,9,10,11,12,13] [.reg a.c,(tO o).v,idV (fun j=>o.md.getD j id0) N none,x7,.reg b.c,.bool c,x10v,x11,.nils,.bool false] []:=run5 none_ok (by kernel_rfl)
  have q7:P5 [1,2,2,2,2,2,2,2] [3,5,6,7,8,9,10,11,12,13] [.reg a.c,(tO o).v,idV (fun j=>o.md.getD j id0) N none,x7,.reg b.c,.bool c,x10v,x11,.nils,.bool false] [] .normal [3,5,6,7,8,9,10,11,12,13,14] [.reg a.c,(tO o).v,idV (fun j=>o.md.getD j id0) N none,x7,.reg b.c,.bool c,x10v,x11,.nils,.bool false,.reg [.int .u8 0,.int .i64 0]] []:=run5 none_ok (by kernel_rfl)
  have q8:P5 [1,2,2,2,2,2,2,2,2] [3,5,6,7,8,9,10,11,12,13,14] [.reg a.c,(tO o).v,idV (fun j=>o.md.getD j id0) N none,x7,.reg b.c,.bool c,x10v,x11,.nils,.bool false,.reg [.int .u8 0,.int .i64 0]] [] .normal [3,5,6,7,8,9,10,11,12,13,14,15] [.reg a.c,(tO o).v,idV (fun j=>o.md.getD j id0) N none,x7,.reg b.c,.bool c,x10v,x11,.nils,.bool false,.reg [.int .u8 0,.int .i64 0],.int .i64 0] []:=run5 none_ok (by kernel_rfl)
  have tl:=t10 x7 (.reg b.c) (.bool c) x10v x11
  rw [hTB] at tl
  have q9:P5 (1 :: p2 9) [3,5,6,7,8,9,10,11,12,13,14,15] [.reg a.c,(tO o).v,idV (fun j=>o.md.getD j id0) N none,x7,.reg b.c,.bool c,x10v,x11,.nils,.bool false,.reg [.int .u8 0,.int .i64 0],.int .i64 0] [] .normal [3,5,7,8,9,10,11,12,13,14,15] (m10 a (tO o) x7 (.reg b.c) (.bool c) x10v x11 ((tO o).has a) (OV (tO o) (fun j=>o.md.getD j id0) a N) (MN (tO o) (fun j=>o.md.getD j id0) a N)) [] :=
   run5L (loops1 (loopF_ok hx10 _)) ((k5_9 a (tO o).ln (tO o).L (fun j=>o.md.getD j id0) N x7 (.reg b.c) (.bool c) x10v x11 ((tO o).has a) (OV (tO o) (fun j=>o.md.getD j id0) a N) (MN (tO o) (fun j=>o.md.getD j id0) a N) x10).trans (bift (loopF_yes hx10 tl) rfl))
  exact Pz.seq (by kernel_rfl) q0 (Pz.seq (by kernel_rfl) q1 (Pz.seq (by kernel_rfl) q2 (Pz.seq (by kernel_rfl) q3 (Pz.seq (by kernel_rfl) q4 (Pz.seq (by kernel_rfl) q5 (Pz.seq (by kernel_rfl) q6 (Pz.seq (by kernel_rfl) q7 (Pz.seq (by kernel_rfl) q8 (Pz.seq (by kernel_rfl) q9 rest)))))))))
 cases hh:(tO o).has a with
 | true =>
  obtain ⟨z,k,hz,t15⟩:=needsT (tO o) ok a ha hh (by
   have:=hLb (a.y - 1).toNat a.n.toNat
   unfold ndN
   split <;> omega)
  have t15:=t15.frz
  rw [hh,cond_true] at t16
  obtain ⟨gk,gw⟩:=got_want h hN hh hz
  have q2:P5 [1,2,2] [3,5,6] [.reg a.c,(tO o).v,idV (fun j=>o.md.getD j id0) N none] [] .normal [3,5,6,7] [.reg a.c,(tO o).v,idV (fun j=>o.md.getD j id0) N none,idV (fun j=>dec (z j)) k (some k)] [] :=
   run5 (told_add none_ok (callF_told h15)) ((k5_2t a (tO o).ln (tO o).L (fun j=>o.md.getD j id0) N (fun j=>dec (z j)) k p15).trans (bift (yes5 h15 t15) rfl))
  have q4:P5 [1,2,2,2,2] [3,5,6,7,8,9] [.reg a.c,(tO o).v,idV (fun j=>o.md.getD j id0) N none,idV (fun j=>dec (z j)) k (some k),.reg b.c,.bool c] [] .normal [3,5,6,7,8,9,10,11] [.reg a.c,(tO o).v,idV (fun j=>o.md.getD j id0) N none,idV (fun j=>dec (z j)) k (some k),.reg b.c,.bool c,lR5 (Lid (tO o) a),.int .i64 0] [] :=
   run5 (told_add none_ok (callF_told h16)) ((k5_4t a (tO o).ln (tO o).L (fun j=>o.md.getD j id0) N (idV (fun j=>dec (z j)) k (some k)) (.reg b.c) (.bool c) (Lid (tO o) a) p16).trans (bift (yes5 h16 t16) rfl))
  have hb:=hLb (a.y - 1).toNat a.n.toNat
  have hbnd:=has_bd hh
  have hln:∀ y,(tO o).ln y<=60:=fun y=>by have:=row_len h y; show (o.rw y).length<=60; omega
  have han:-1000<=a.n/\a.n<=1000000:=by
   have:=hln (a.y - 1).toNat
   omega
  obtain ⟨v',hl25⟩:=loop25 (a:=a) (ln:=(tO o).ln) (L:=(tO o).L) (z:=fun j=>dec (z j)) (kz:=k) (l:=Lid (tO o) a) (show ((tO o).L (a.y - 1).toNat a.n.toNat).nt<=1000 by omega) (show ((tO o).L (a.y - 1).toNat a.n.toNat).np<=1000 by omega) han hln
  generalize hW:wAll a (Lid (tO o) a) (tO o).ln 6 = W at gk gw hl25
  have hk12:=hz.2.2
  have tt1:ToldOk P05 G05 17 [idV (fun j=>W.getD j id0) W.length none] (.str (txt (fun j=>W.getD j id0) W.length)):=textT _ _ (by omega)
  have tt2:ToldOk P05 G05 17 [idV (fun j=>dec (z j)) k (some k)] (.str (txt (fun j=>W.getD j id0) W.length)):=by
   have:=textT (fun j=>dec (z j)) k (by omega)
   rw [txt_congr gw,gk] at this
   rw [gk]
   exact this.sim (.cons (.view (.inr rfl) fun _ _=>.refl _) .nil)
  have q20:P5 (1 :: p2 10) [3,5,7,8,9,10,11,12,13,14,15] (m10 a (tO o) (idV (fun j=>dec (z j)) k (some k)) (.reg b.c) (.bool c) (lR5 (Lid (tO o) a)) (.int .i64 0) true (OV (tO o) (fun j=>o.md.getD j id0) a N) (MN (tO o) (fun j=>o.md.getD j id0) a N)) [] .normal [3,5,7,10,12,13] [.reg a.c,(tO o).v,idV (fun j=>dec (z j)) k (some k),lR5 (Lid (tO o) a),.nils,.bool true] []:=by
   have e:=k5_20t a (tO o).ln (tO o).L (fun j=>dec (z j)) k b c (Lid (tO o) a) (OV (tO o) (fun j=>o.md.getD j id0) a N) (MN (tO o) (fun j=>o.md.getD j id0) a N)
   refine run5 none_ok (e.trans ?_)
   rcases hbc with ⟨rfl,e1,e2⟩ | ⟨rfl,e1,e2⟩
   ·rw [e1,← e2]
    exact biff (by decide) (biff (by simp) (biff (by decide) (bift (by simp) (bift (by simp) rfl))))
   ·rw [e1,← e2]
    exact biff (by decide) (bift rfl (bift (by decide) (bift (by simp) (bift (by simp) rfl))))
  have q22:P5 (1 :: p2 11) [3,5,7,10,12,13] [.reg a.c,(tO o).v,idV (fun j=>dec (z j)) k (some k),lR5 (Lid (tO o) a),.nils,.bool true] [] .normal [3,5,7,10,12] [.reg a.c,(tO o).v,idV (fun j=>dec (z j)) k (some k),lR5 (Lid (tO o) a),.nils] []:=run5 none_ok (k5_22t a (tO o).ln (tO o).L (fun j=>dec (z j)) k (Lid (tO o) a))
  have q24:P5 (1 :: 1 :: p2 12) [3,5,7,10,12] [.reg a.c,(tO o).v,idV (fun j=>dec (z j)) k (some k),lR5 (Lid (tO o) a),.nils] [] .normal [3,5,7,10,12,19] (n25 a (tO o) (idV (fun j=>dec (z j)) k (some k)) (Lid (tO o) a) 0 [] 1) [idB 0 []] :=
   Pz.post (run5 none_ok (k5_24 a (tO o).ln (tO o).L (fun j=>dec (z j)) k (Lid (tO o) a))) gh5
  have q42:P5 (p2 13) [7,12] [idV (fun j=>dec (z j)) k (some k),idV (fun j=>W.getD j id0) W.length none] [] .ret [4] [.bool true] [] :=
   run5 (told_add (told_add none_ok (callF_told h13)) (callF_told h17)) ((k5_42 (fun j=>dec (z j)) (fun j=>W.getD j id0) k W.length (txt (fun j=>W.getD j id0) W.length) p13 p17).trans (bift (yes5 h17 tt2) (bift (yes5 h17 tt1) (bift (by simp) (bift (by rw [gk]; simp) (bift (by simp) (bift (yes5 h13 livesT) rfl)))))))
  rw [hh] at mid
  exact Pz.told hn05 Try.func5 (by kernel_rfl) (by kernel_rfl) rfl (mid _ _ _ q2 q4 (Pz.seq (by kernel_rfl) q20 (Pz.seq (by kernel_rfl) q22 (Pz.seq (by kernel_rfl) (Pz.seq (by kernel_rfl) q24 (Pz.post hl25 fz5)) q42)))) (by kernel_rfl)
 | false =>
  have t15:=needsN (tO o) ok a ha hh
  rw [hh,cond_false] at t16
  have q2:P5 [1,2,2] [3,5,6] [.reg a.c,(tO o).v,idV (fun j=>o.md.getD j id0) N none] [] .normal [3,5,6,7] [.reg a.c,(tO o).v,idV (fun j=>o.md.getD j id0) N none,.nils] [] :=
   run5 (told_add none_ok (callF_told h15)) ((k5_2n a (tO o).ln (tO o).L (fun j=>o.md.getD j id0) N p15).trans (bift (yes5 h15 t15) rfl))
  have q4:P5 [1,2,2,2,2] [3,5,6,7,8,9] [.reg a.c,(tO o).v,idV (fun j=>o.md.getD j id0) N none,.nils,.reg b.c,.bool c] [] .normal [3,5,6,7,8,9,10,11] [.reg a.c,(tO o).v,idV (fun j=>o.md.getD j id0) N none,.nils,.reg b.c,.bool c,zR5,.int .i64 7] [] :=
   run5 (told_add none_ok (callF_told h16)) ((k5_4n a (tO o).ln (tO o).L (fun j=>o.md.getD j id0) N .nils (.reg b.c) (.bool c) p16).trans (bift (yes5 h16 t16) rfl))
  have q20:P5 (1 :: p2 10) [3,5,7,8,9,10,11,12,13,14,15] (m10 a (tO o) .nils (.reg b.c) (.bool c) zR5 (.int .i64 7) false (OV (tO o) (fun j=>o.md.getD j id0) a N) (MN (tO o) (fun j=>o.md.getD j id0) a N)) [] .normal [3,5,7,10,12,13] [.reg a.c,(tO o).v,.nils,zR5,.nils,.bool false] []:=by
   have e:=k5_20n a (tO o).ln (tO o).L b c (OV (tO o) (fun j=>o.md.getD j id0) a N) (MN (tO o) (fun j=>o.md.getD j id0) a N)
   refine run5 none_ok (e.trans ?_)
   rcases hbc with ⟨rfl,e1,e2⟩ | ⟨rfl,e1,e2⟩
   ·rw [e1,← e2]
    exact biff (by decide) (biff (by simp) (biff (by decide) (bift (by simp) (bift (by simp) rfl))))
   ·rw [e1,← e2]
    exact biff (by decide) (bift rfl (bift (by decide) (bift (by simp) (bift (by simp) rfl))))
  have q22:P5 (1 :: p2 11) [3,5,7,10,12,13] [.reg a.c,(tO o).v,.nils,zR5,.nils,.bool false] [] .ret [4,3,5,7,10,12] [.bool true,.reg a.c,(tO o).v,.nils,zR5,.nils] [] :=
   run5 (told_add none_ok (callF_told h13)) ((k5_22n a (tO o).ln (tO o).L p13).trans (bift (yes5 h13 livesT) rfl))
  rw [hh] at mid
  exact Pz.told hn05 Try.func5 (by kernel_rfl) (by kernel_rfl) rfl (mid _ _ _ q2 q4 (Pz.seq (by kernel_rfl) q20 (Pz.seqX (by kernel_rfl) (by simp) q22))) (by kernel_rfl)
open Go.Proofs
section
variable {Hp:Type}
theorem agg23_05:aggTy P05 23 = false:=by kernel_rfl
theorem agg36_05:aggTy P05 36 = true:=by kernel_rfl
theorem cells5_05:P05.cellsOf 5 = 1:=by kernel_rfl
theorem cells66_05:P05.cellsOf 66 = 5:=by kernel_rfl
def cI5 (l:List T):Int:=match l with | [.int _ z]=>z | _=>0
theorem inv5_05 {ts:List T} {d:DataW Hp} (h:CT P05 5 ts d):∃ a:Int,ts = [.int .u8 a]/\0<=a/\a<256:=by
 obtain ⟨a,rfl,rfl,w⟩:=h.int_inv Try.underlying5
 have w:=wf_u8 w
 exact ⟨a,rfl,by omega,by omega⟩
theorem inv3_05 {ts:List T} {d:DataW Hp} (h:CT P05 3 ts d):∃ a:Int,ts = [.int .i64 a]/\-9223372036854775808<=a/\a<=9223372036854775807:=by
 obtain ⟨a,rfl,rfl,w⟩:=h.int_inv Try.underlying3
 exact ⟨a,rfl,wf_i64 w⟩
theorem row05 {ts:List T} {d:DataW Hp} (h:CT P05 64 ts d):∃ (r:Nat->Int) (n:Nat),(∀ j,0<=r j/\r j<256)/\∃ x,ts = [x]/\Sim x (u8V r n none):=by
 rcases h.slice_inv Try.underlying64 (by rw [cells5_05]; omega) with ⟨rfl,rfl⟩ | ⟨n,c,g,elems,spare,rfl,rfl,he,hs,hn,hc,hg⟩
 ·exact ⟨fun _=>0,0,fun _=>⟨Int.le_refl 0,(by decide:(0:Int)<256)⟩,_,rfl,.nilv _ _ (.inl rfl)⟩
 ·have key:∀ j,j<n->∃ a:Int,g j = [.int .u8 a]/\0<=a/\a<256:=fun j hj=>inv5_05 (hg j elems[j] (by simp [show j<elems.length by omega]))
  refine ⟨fun j=>if j<n then cI5 (g j) else 0,n,fun j=>?_,_,rfl,?_⟩
  ·dsimp only
   split
   ·rename_i hj
    obtain ⟨a,q,q1,q2⟩:=key j hj
    rw [q]
    exact ⟨q1,q2⟩
   ·omega
  ·rw [cells5_05]
   refine .view (.inr rfl) fun j hj=>?_
   obtain ⟨a,q,_⟩:=key j hj
   show Sims (g j) [.int .u8 (if j<n then cI5 (g j) else 0)]
   rw [if_pos hj,q]
   exact .refl _
def ll0:Ll:=⟨0,false,false,fun _=>0,0,fun _=>0,0⟩
theorem ll0_ok:ll0.Ok:=⟨⟨Int.le_refl 0,show (0:Int)<256 by decide⟩,fun _=>⟨Int.le_refl 0,show (0:Int)<256 by decide⟩,fun _=>⟨Int.le_refl 0,show (0:Int)<256 by decide⟩⟩
theorem ll05 {ts:List T} {d:DataW Hp} (h:CT P05 66 ts d):∃ l:Ll,l.Ok/\Sims ts l.c:=by
 obtain ⟨parts,ds,rfl,rfl,hs⟩:=CT.struct_inv Try.underlying66 h; clear h; rename _=>h
 change CTs P05 [5,4,4,64,64] parts ds at h
 obtain ⟨p1,_,d1,_,rfl,rfl,h1,h⟩:=h.cons
 obtain ⟨p2,_,d2,_,rfl,rfl,h2,h⟩:=h.cons
 obtain ⟨p3,_,d3,_,rfl,rfl,h3,h⟩:=h.cons
 obtain ⟨p4,_,d4,_,rfl,rfl,h4,h⟩:=h.cons
 obtain ⟨p5,_,d5,_,rfl,rfl,h5,h⟩:=h.cons
 obtain ⟨rfl,rfl⟩:=h.nil
 obtain ⟨y,rfl,y1⟩:=inv5_05 h1
 obtain ⟨b,rfl,_⟩:=h2.bool_inv Try.underlying4
 obtain ⟨w,rfl,_⟩:=h3.bool_inv Try.underlying4
 obtain ⟨th,nt,t1,x,rfl,t2⟩:=row05 h4
 obtain ⟨ps,np,s1,z,rfl,s2⟩:=row05 h5
 exact ⟨⟨y,b,w,th,nt,ps,np⟩,⟨y1,t1,s1⟩,.cons (.refl _) (.cons (.refl _) (.cons (.refl _) (.cons t2 (.cons s2 .nil))))⟩
theorem inv23_05 {ts:List T} {d:DataW Hp} (h:CT P05 23 ts d):∃ (X:Nat->Ll) (n:Nat),(∀ i,(X i).Ok)/\Sim (topT P05 23 ts) (llV X n none):=by
 rcases h.slice_inv Try.underlying23 (by rw [cells66_05]; omega) with ⟨rfl,rfl⟩ | ⟨n,c,g,elems,spare,rfl,rfl,he,hs,hn,hc,hg⟩
 ·exact ⟨fun _=>ll0,0,fun _=>ll0_ok,by rw [show topT P05 23 [T.nils] = T.nils by simp [topT,agg23_05]]; exact .nilv _ _ (.inl rfl)⟩
 ·have key:∀ j,∃ l:Ll,l.Ok/\(j<n->Sims (g j) l.c):=fun j=>by
   by_cases hj:j<n
   ·obtain ⟨l,h1,h2⟩:=ll05 (hg j elems[j] (by simp [show j<elems.length by omega]))
    exact ⟨l,h1,fun _=>h2⟩
   ·exact ⟨ll0,ll0_ok,fun h=>absurd h hj⟩
  refine ⟨fun j=>(key j).choose,n,fun i=>(key i).choose_spec.1,?_⟩
  rw [show topT P05 23 [T.view (P05.cellsOf 66) n g (some c)] = T.view (P05.cellsOf 66) n g (some c) by simp [topT,agg23_05],cells66_05]
  exact .view (.inr rfl) fun j hj=>(key j).choose_spec.2 hj
theorem inv36_05 {ts:List T} {d:DataW Hp} (h:CT P05 36 ts d):∃ a:Idd,a.Ok/\topT P05 36 ts = .agg a.c:=by
 obtain ⟨parts,ds,rfl,rfl,hs⟩:=CT.struct_inv Try.underlying36 h; clear h; rename _=>h
 change CTs P05 [5,3] parts ds at h
 obtain ⟨p1,_,d1,_,rfl,rfl,h1,h⟩:=h.cons
 obtain ⟨p2,_,d2,_,rfl,rfl,h2,h⟩:=h.cons
 obtain ⟨rfl,rfl⟩:=h.nil
 obtain ⟨y,rfl,y1⟩:=inv5_05 h1
 obtain ⟨n,rfl,n1⟩:=inv3_05 h2
 exact ⟨⟨y,n⟩,⟨y1,n1⟩,by simp [topT,agg36_05,Idd.c]⟩
end
end Go.Ab

