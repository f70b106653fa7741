/- A part of the proof: nothing is assumed. -/
import Derived.Test.YtkmijhnagbjbkaaP5
import Derived.Test.YtkmijhnagbjbkaaP10
import Derived.Test.YtkmijhnagbjbkaaP9
import Derived.Test.YtkmijhnagbjbkaaP4
set_option linter.all false
namespace Go.Ab
open Go.Proofs
theorem livesT:ToldOk P05 G05 13 [] (.bool true) :=
 stepV_told (A:=A05) (K:=inlW P05 G05 A05 (fun f=>!([23,27,40,47,32,64].contains f)) (fun f=>f==33) 40 10) (m:=40) hm05 hn05 (inlW_ok hm05 hn05 40 10) (by kernel_rfl)
open Go.Proofs
theorem yes5 {f:FuncId} {p:List T->T->Prop} {args:List T} {r:T} (hp:p = ToldOk P05 G05 f) (t:ToldOk P05 G05 f args r):decF (p args r) = true:=by
 subst hp; exact decF_iff.2 t
section
variable {o:Os} {N:Nat}
end
open Go.Proofs
section
variable {o:Os} {N:Nat}
end
open Go.Proofs
def uB (ln:Nat->Nat) (L:Nat->Nat->Lpp) (i v:Nat):Blk:=⟨v,1,6+i,fun e=>[bif Nat.blt e 6 then lpV (L e) (ln e) none else lpV (fun _=>lp0) 1 none],false,false,none⟩
def s6 (m:Int) (a:Idd) (t:Tbl) (g:Nat->Idd) (N i v:Nat):List T:=[.int .u8 m,.reg a.c,t.v,idV g N none,.own 0 v 0 (6+i) none,.int .i64 i]
def thB (l:Lpp) (i:Nat):Blk:=⟨0,2,l.nt,fun j=>[.int .u8 (l.th j).y,.int .i64 (bif Nat.blt j i then -1 else (l.th j).n)],true,false,none⟩
def psB6 (l:Lpp) (i:Nat):Blk:=⟨0,4,l.np,fun j=>[.int .u8 (l.ps j).y,.int .i64 (bif Nat.blt j i then -1 else (l.ps j).n),.bool (l.ps j).f,.int .u8 (l.ps j).d],true,false,none⟩
def lr6 (l:Lpp):T:=.reg [.int .u8 l.b,.bool l.w,.own 0 0 0 l.nt (some l.nt),.own 1 0 0 l.np (some l.np)]
def zr6:T:=.reg [.int .u8 0,.bool false,.nils,.nils]
def s15 (t:Tbl) (l:Lpp) (i:Nat):List T:=[t.v,lr6 l,.int .i64 i]
def B6:List Nat:=[0,0,2,1,2,2,2]
noncomputable def K6a (p:List T->T->Prop) (t:Tbl) (g:Nat->Idd) (N:Nat):Orc:=noneO.add 8 (callF p fun _=>some (.tup [t.v,idV g N none]))
noncomputable def K6b (p:List T->T->Prop) (c:Int):Orc:=noneO.add 11 (callF p fun _=>some (.int .i64 c))
noncomputable def K6c (p:List T->T->Prop) (r:T):Orc:=noneO.add 16 (callF p fun _=>some r)
noncomputable def K6d (p:List T->T->Prop) (b:Bool):Orc:=noneO.add 18 (callF p fun _=>some (.bool b))
noncomputable def K6e (p:List T->T->Prop):Orc:=noneO.add 13 (callF p fun _=>some (.bool true))
noncomputable def K6f (p q:List T->T->Prop):Orc:=(noneO.add 13 (callF p fun _=>some (.bool true))).add 10 (callF q fun _=>some (.int .i64 0))
theorem g6b (ln:Nat->Nat) (L:Nat->Nat->Lpp) (g:Nat->Idd) (N:Nat) (m:Int) (a:Idd) (X:Nat->Ll) (n:Nat) (p:List T->T->Prop):codeL P05 G05 A05 (K6a p ⟨6,ln,L⟩ g N) 0 6 [] (nav [1,2]) [0,1,5] [llV X n none,.int .u8 m,.reg a.c] [] [1,5,7,8] =
(
 bif decF (p [llV X n
 none] (.tup [.view 1 6 (fun y=>[lpV (L y) (ln y)
 none])
 none,idV g N
 none])) then
 some ((.normal,[.int .u8 m,.reg a.c,.view 1 6 (fun y=>[lpV (L y) (ln y)
 none])
 none,idV g N
 none],[]))
 else
 none):=by kernel_rfl
theorem g6c (ln:Nat->Nat) (L:Nat->Nat->Lpp) (g:Nat->Idd) (N:Nat) (m:Int) (a:Idd):codeL P05 G05 A05 noneO 0 6 [] (nav [1,2,2]) [1,5,7,8] [.int .u8 m,.reg a.c,Tbl.v ⟨6,ln,L⟩,idV g N none] [] [1,5,7,8,9] =
(
 some ((.normal,[.int .u8 m,.reg a.c,.view 1 6 (fun y=>[lpV (L y) (ln y)
 none])
 none,idV g N
 none,.own 1 0 0 6
 none],[.mk 0 1 0 (fun j=>[]) true true
 none,.mk 0 1 6 (fun j=>[lpV (L j) (ln j)
 none]) false false
 none]))):=by kernel_rfl
theorem g6d (ln:Nat->Nat) (L:Nat->Nat->Lpp) (g:Nat->Idd) (N:Nat) (m:Int) (a:Idd) (i v:Nat):codeL P05 G05 A05 noneO 0 6 [] (nav (1 :: B6)) [1,5,7,8,9,10] (s6 m a ⟨6,ln,L⟩ g N i v) [uB ln L i v] [1,5,7,8,9,10] =
(
 bif decide (Int.ofNat i<IntKind.i64.wrap (m.tmod 4)) then
 some ((.normal,[.int .u8 m,.reg a.c,.view 1 6 (fun y=>[lpV (L y) (ln y)
 none])
 none,idV g N
 none,.own 0 v 0 (6+i)
 none,.int .i64 (.ofNat i)],[uB ln L i v]))
 else
 some ((.exit 0,[.int .u8 m,.reg a.c,.view 1 6 (fun y=>[lpV (L y) (ln y)
 none])
 none,idV g N
 none,.own 0 v 0 (6+i)
 none,.int .i64 (.ofNat i)],[uB ln L i v]))):=by kernel_rfl
theorem g6g (ln:Nat->Nat) (L:Nat->Nat->Lpp) (g:Nat->Idd) (N:Nat) (m:Int) (a:Idd) (t:Tbl) (c:Int) (p:List T->T->Prop):codeL P05 G05 A05 (K6b p c) 0 6 [] (nav [1,2,2,2,2]) [1,5,7,8,9] [.int .u8 m,.reg a.c,Tbl.v ⟨6,ln,L⟩,idV g N none,t.v] [] [5,7] =
(
 bif decF (p [t.v] (.int .i64 c)) then
 bif !decide (c = IntKind.i64.wrap (Int.ofNat N+IntKind.i64.wrap (m.tmod 4))) then
 some ((.ret,[.reg a.c,.view 1 6 (fun y=>[lpV (L y) (ln y)
 none])
 none],[]))
 else
 some ((.normal,[.reg a.c,.view 1 6 (fun y=>[lpV (L y) (ln y)
 none])
 none],[]))
 else
 none):=by kernel_rfl
theorem g6h (ln:Nat->Nat) (L:Nat->Nat->Lpp) (a:Idd) (l:Lpp) (p:List T->T->Prop):codeL P05 G05 A05 (K6c p (.tup [nlT l,.int .i64 0])) 0 6 [] (nav [1,2,2,2,2,2]) [5,7] [.reg a.c,Tbl.v ⟨6,ln,L⟩] [] [5,7,11,12] =
(
 bif decF (p [.view 1 6 (fun y=>[lpV (L y) (ln y)
 none])
 none,.agg a.c] (.tup [nlT l,.int .i64 0])) then
 some ((.normal,[.reg a.c,.view 1 6 (fun y=>[lpV (L y) (ln y)
 none])
 none,lr6 l,.int .i64 0],[bkR l.th l.nt,b64 l.ps l.np]))
 else
 none):=by kernel_rfl
theorem g6i (ln:Nat->Nat) (L:Nat->Nat->Lpp) (a:Idd) (p:List T->T->Prop):codeL P05 G05 A05 (K6c p (.tup [zlT,.int .i64 7])) 0 6 [] (nav [1,2,2,2,2,2]) [5,7] [.reg a.c,Tbl.v ⟨6,ln,L⟩] [] [5,7,11,12] =
(
 bif decF (p [.view 1 6 (fun y=>[lpV (L y) (ln y)
 none])
 none,.agg a.c] (.tup [.agg [.int .u8 0,.bool false,.nils,.nils],.int .i64 7])) then
 some ((.normal,[.reg a.c,.view 1 6 (fun y=>[lpV (L y) (ln y)
 none])
 none,.reg [.int .u8 0,.bool false,.nils,.nils],.int .i64 7],[]))
 else
 none):=by kernel_rfl
theorem g6j (ln:Nat->Nat) (L:Nat->Nat->Lpp) (a:Idd) (l:Lpp) (p:List T->T->Prop):codeL P05 G05 A05 (K6d p true) 0 6 [] (nav [1,2,2,2,2,2,2]) [5,7,11,12] [.reg a.c,Tbl.v ⟨6,ln,L⟩,lr6 l,.int .i64 0] [thB l 0,psB6 l 0] [7,11,12] =
(
 bif decF (p [.view 1 6 (fun y=>[lpV (L y) (ln y)
 none])
 none,.agg a.c] (.bool true)) then
 some ((.normal,[.view 1 6 (fun y=>[lpV (L y) (ln y)
 none])
 none,lr6 l,.int .i64 0],[bkR l.th l.nt,b64 l.ps l.np]))
 else
 none):=by kernel_rfl
theorem g6k (ln:Nat->Nat) (L:Nat->Nat->Lpp) (a:Idd) (p:List T->T->Prop):codeL P05 G05 A05 (K6d p false) 0 6 [] (nav [1,2,2,2,2,2,2]) [5,7,11,12] [.reg a.c,Tbl.v ⟨6,ln,L⟩,zr6,.int .i64 7] [] [7,11,12] =
(
 bif decF (p [.view 1 6 (fun y=>[lpV (L y) (ln y)
 none])
 none,.agg a.c] (.bool false)) then
 some ((.normal,[.view 1 6 (fun y=>[lpV (L y) (ln y)
 none])
 none,.reg [.int .u8 0,.bool false,.nils,.nils],.int .i64 7],[]))
 else
 none):=by kernel_rfl
theorem g6l (ln:Nat->Nat) (L:Nat->Nat->Lpp) (l:Lpp):codeL P05 G05 A05 noneO 0 6 [] (nav [1,2,2,2,2,2,2,2]) [7,11,12] [Tbl.v ⟨6,ln,L⟩,lr6 l,.int .i64 0] [thB l 0,psB6 l 0] [7,11] =
(
 some ((.normal,[.view 1 6 (fun y=>[lpV (L y) (ln y)
 none])
 none,lr6 l],[bkR l.th l.nt,b64 l.ps l.np]))):=by kernel_rfl
theorem g6m (ln:Nat->Nat) (L:Nat->Nat->Lpp) (p:List T->T->Prop):codeL P05 G05 A05 (K6e p) 0 6 [] (nav [1,2,2,2,2,2,2,2]) [7,11,12] [Tbl.v ⟨6,ln,L⟩,zr6,.int .i64 7] [] [6,7,11] =
(
 bif decF (p [] (.bool true)) then
 some ((.ret,[.bool true,.view 1 6 (fun y=>[lpV (L y) (ln y)
 none])
 none,.reg [.int .u8 0,.bool false,.nils,.nils]],[]))
 else
 none):=by kernel_rfl
theorem i6a (ln:Nat->Nat) (L:Nat->Nat->Lpp) (l:Lpp) (i:Nat):iterR P05 G05 A05 noneO 0 6 [] 15 (s15 ⟨6,ln,L⟩ l i) [thB l i,psB6 l 0] =
(
 bif decide (Int.ofNat i<Int.ofNat l.nt) then
 bif decide (0<=Int.ofNat i)&&decide (Int.ofNat i<Int.ofNat l.nt) then
 bif ((0:Nat)+i).blt l.nt&&true&&true&&true then
 some ((.normal,[.view 1 6 (fun y=>[lpV (L y) (ln y)
 none])
 none,lr6 l,.int .i64 (IntKind.i64.wrap (Int.ofNat i+1))],[.mk 0 2 l.nt (fun e=>[.int .u8 (bif e==0+i then (l.th ((0:Nat)+i)).y
 else (l.th e).y),.int .i64 (bif e==0+i then (-1:Int)
 else
 bif e.blt i then (-1:Int)
 else (l.th e).n)]) true false
 none,b64 l.ps l.np]))
 else none else none else
 some ((.exit 2,[.view 1 6 (fun y=>[lpV (L y) (ln y)
 none])
 none,lr6 l],[thB l i,b64 l.ps l.np]))):=by kernel_rfl
theorem i6b (ln:Nat->Nat) (L:Nat->Nat->Lpp) (l:Lpp) (i:Nat):iterR P05 G05 A05 noneO 0 6 [] 19 (s15 ⟨6,ln,L⟩ l i) [thB l l.nt,psB6 l i] =
(
 bif decide (Int.ofNat i<Int.ofNat l.np) then
 bif decide (0<=Int.ofNat i)&&decide (Int.ofNat i<Int.ofNat l.np) then
 bif ((0:Nat)+i).blt l.np&&true&&true&&true then
 some ((.normal,[.view 1 6 (fun y=>[lpV (L y) (ln y)
 none])
 none,lr6 l,.int .i64 (IntKind.i64.wrap (Int.ofNat i+1))],[thB l l.nt,.mk 0 4 l.np (fun e=>[.int .u8 (bif e==0+i then (l.ps ((0:Nat)+i)).y
 else (l.ps e).y),.int .i64 (bif e==0+i then (-1:Int)
 else
 bif e.blt i then (-1:Int)
 else (l.ps e).n),.bool (bif e==0+i then (l.ps ((0:Nat)+i)).f
 else (l.ps e).f),.int .u8 (bif e==0+i then (l.ps ((0:Nat)+i)).d
 else (l.ps e).d)]) true false
 none]))
 else none else none else
 some ((.exit 4,[.view 1 6 (fun y=>[lpV (L y) (ln y)
 none])
 none,lr6 l],[thB l l.nt,psB6 l i]))):=by kernel_rfl
theorem g6n (ln:Nat->Nat) (L:Nat->Nat->Lpp) (l:Lpp) (x:List T->Heap->Ex->List T->Heap->Prop):codeL P05 G05 A05 noneO 0 6 [(15,loopF x (.ret (.exit 2) [Tbl.v ⟨6,ln,L⟩,lr6 l] [thB l l.nt,psB6 l 0]))] (nav [1,2,2,2,2,2,2,2,2]) [7,11] [Tbl.v ⟨6,ln,L⟩,lr6 l] [thB l 0,psB6 l 0] [7,11] =
(
 bif decF (x [.view 1 6 (fun y=>[lpV (L y) (ln y)
 none])
 none,lr6 l,.int .i64 0] [bkR l.th l.nt,b64 l.ps l.np] (.exit 2) [.view 1 6 (fun y=>[lpV (L y) (ln y)
 none])
 none,lr6 l] [thB l l.nt,b64 l.ps l.np]) then
 some ((.normal,[.view 1 6 (fun y=>[lpV (L y) (ln y)
 none])
 none,lr6 l],[thB l l.nt,b64 l.ps l.np]))
 else
 none):=by kernel_rfl
theorem g6o (ln:Nat->Nat) (L:Nat->Nat->Lpp) (l:Lpp) (x:List T->Heap->Ex->List T->Heap->Prop):codeL P05 G05 A05 noneO 0 6 [(19,loopF x (.ret (.exit 4) [Tbl.v ⟨6,ln,L⟩,lr6 l] [thB l l.nt,psB6 l l.np]))] (nav [1,2,2,2,2,2,2,2,2,2]) [7,11] [Tbl.v ⟨6,ln,L⟩,lr6 l] [thB l l.nt,psB6 l 0] [7,11] =
(
 bif decF (x [.view 1 6 (fun y=>[lpV (L y) (ln y)
 none])
 none,lr6 l,.int .i64 0] [thB l l.nt,b64 l.ps l.np] (.exit 4) [.view 1 6 (fun y=>[lpV (L y) (ln y)
 none])
 none,lr6 l] [thB l l.nt,psB6 l l.np]) then
 some ((.normal,[.view 1 6 (fun y=>[lpV (L y) (ln y)
 none])
 none,lr6 l],[thB l l.nt,psB6 l l.np]))
 else
 none):=by kernel_rfl
theorem g6p (ln:Nat->Nat) (L:Nat->Nat->Lpp) (l:Lpp) (p q:List T->T->Prop):codeL P05 G05 A05 (K6f p q) 0 6 [] (nav [2,2,2,2,2,2,2,2,2,2]) [7,11] [Tbl.v ⟨6,ln,L⟩,lr6 l] [thB l l.nt,psB6 l l.np] [6] =
(
 bif decF (q [.view 1 6 (fun y=>[lpV (L y) (ln y)
 none])
 none] (.int .i64 0)) then
 bif decide (Int.ofNat l.nt = Int.ofNat l.nt) then
 bif decide (Int.ofNat l.np = Int.ofNat l.np) then
 bif decF (p [] (.bool true)) then
 some ((.ret,[.bool true],[thB l l.nt,psB6 l l.np]))
 else none else
 some ((.ret,[.bool false],[thB l l.nt,psB6 l l.np]))
 else
 some ((.ret,[.bool false],[thB l l.nt,psB6 l l.np]))
 else
 none):=by kernel_rfl
open Go.Proofs
abbrev P6:=Pz P05 G05 A05 6 []
abbrev W6:=Wk G05 A05 6 0
theorem run6 {K:Orc} (hK:OrcOk P05 G05 K) {p l l1:List Nat} {vs v1:List T} {h h1:Heap} {e:Ex} (hk:codeL P05 G05 A05 K 0 6 [] (nav p) l vs h l1 = some (e,v1,h1)):P6 p l vs h e l1 v1 h1 :=
 Pz.run hm05 hK (by kernel_rfl) loops0 hk
theorem run6L {p l l1:List Nat} {vs v1:List T} {h h1:Heap} {e:Ex} {lo:List (Nat × (List T->Heap->LT))} (hL:∀ q ∈ lo,LoopOk P05 G05 (A05 6) 6 q.1 q.2) (hk:codeL P05 G05 A05 noneO 0 6 lo (nav p) l vs h l1 = some (e,v1,h1)):P6 p l vs h e l1 v1 h1 :=
 Pz.run hm05 none_ok (by kernel_rfl) hL hk
def tU (t:Tbl) (k:Nat):Tbl:=⟨6+k,fun e=>if e<6 then t.ln e else 1,fun e j=>if e<6 then t.L e j else lp0⟩
def row1:List T:=[T.view 4 1 (fun j=>[[.int .u8 0,.bool false,.nils,.nils]].getD j []) (some 1)]
def uA (ln:Nat->Nat) (L:Nat->Nat->Lpp) (i v:Nat):Blk:=⟨v+1,1,6+i+1,fun j=>bif j.blt (6+i) then [bif Nat.blt (0+j) 6 then lpV (L (0+j)) (ln (0+j)) none else lpV (fun _=>lp0) 1 none] else [row1].getD (0+(j - (6+i))) [],false,false,none⟩
def gb6:Blk:=⟨0,1,1,fun j=>[row1].getD j [],false,true,none⟩
theorem simI_view {sz n:Nat} {g g':Nat->List T} {c:Option Nat} (h:∀ j,j<n->Sims (g j) (g' j)):SimI (.view sz n g c) (.view sz n g' none):=.inr ⟨rfl,.view (.inr rfl) h,rfl⟩
section
variable {ln:Nat->Nat} {L:Nat->Nat->Lpp} {g:Nat->Idd} {N:Nat} {m:Int} {a:Idd} {i v:Nat}
theorem uA_get (e:Nat) (he:e<6+i+1):(uA ln L i v).get e = [bif Nat.blt e 6 then lpV (L e) (ln e) none else bif Nat.blt e (6+i) then lpV (fun _=>lp0) 1 none else T.view 4 1 (fun j=>[[.int .u8 0,.bool false,.nils,.nils]].getD j []) (some 1)]:=by
 show (bif e.blt (6+i) then [bif Nat.blt (0+e) 6 then lpV (L (0+e)) (ln (0+e)) none else lpV (fun _=>lp0) 1 none] else [row1].getD (0+(e - (6+i))) []) = _
 by_cases q:e<6+i
 ·rw [bltT q,cond_true,cond_true,Nat.zero_add]
 ·obtain rfl:e = 6+i:=by omega
  rw [show (6+i).blt (6+i) = false by rw [Bool.eq_false_iff]; intro h; have:=blt_lt h; omega,show Nat.blt (6+i) 6 = false by rw [Bool.eq_false_iff]; intro h; have:=blt_lt h; omega,cond_false,cond_false,cond_false,Nat.sub_self]
  rfl
theorem wr6 {x:Int}:W6 [1,5,7,8,9,10] [.int .u8 m,.reg a.c,Tbl.v ⟨6,ln,L⟩,idV g N none,.own 0 (v+1) 0 (6+i+1) none,.int .i64 x] [uA ln L i v,gb6]
 [.int .u8 m,.reg a.c,Tbl.v ⟨6,ln,L⟩,idV g N none,.own 0 (v+1) 0 (6+(i+1)) none,.int .i64 x] [uB ln L (i+1) (v+1)]:=fun nt=>by
 refine .trans (.canon [0] rfl) (.simAll rfl (fun j x y h1 h2=>?_) (.cons ⟨rfl,rfl,rfl⟩ (fun h=>by cases h) (fun e he=>?_) .nil))
 ·have:y = x:=Option.some.inj (h2.symm.trans h1)
  subst this
  exact .refl _
 ·have he:e<6+i+1:=he
  show SimL (((uA ln L i v).get e).map (ren0 [0] [uA ln L i v,gb6])) [bif Nat.blt e 6 then lpV (L e) (ln e) none else lpV (fun _=>lp0) 1 none]
  rw [uA_get e he]
  cases Nat.blt e 6 with
  | true=>exact .refl _
  | false =>
   cases Nat.blt e (6+i) with
   | true=>exact .refl _
   | false =>
    refine .cons (simI_view fun j hj=>?_) .nil
    obtain rfl:j = 0:=by omega
    exact .cons (.refl _) (.cons (.refl _) (.cons (.nilv _ _ (.inl rfl)) (.cons (.nilv _ _ (.inl rfl)) .nil)))
theorem wf6 {k:Nat}:W6 [1,5,7,8,9] [.int .u8 m,.reg a.c,Tbl.v ⟨6,ln,L⟩,idV g N none,.own 0 v 0 (6+k) none] [uB ln L k v] [.int .u8 m,.reg a.c,Tbl.v ⟨6,ln,L⟩,idV g N none,(tU ⟨6,ln,L⟩ k).v] []:=fun nt=>by
 refine .trans (.canon [] rfl) (.simAll rfl (fun j x y h1 h2=>?_) .nil)
 have e9:ren [] [uB ln L k v] (.own 0 v 0 (6+k) none) = .view 1 (6+k) (fun e=>[bif Nat.blt (0+e) 6 then lpV (L (0+e)) (ln (0+e)) none else lpV (fun _=>lp0) 1 none].map (resolve 3 [] [uB ln L k v])) none:=by
  have e:ren [] [uB ln L k v] (.own 0 v 0 (6+k) none) = (bif (true&&(v==v&&Nat.ble (0+(6+k)) (6+k))) then T.view 1 (6+k) (fun e=>[bif Nat.blt (0+e) 6 then lpV (L (0+e)) (ln (0+e)) none else lpV (fun _=>lp0) 1 none].map (resolve 3 [] [uB ln L k v])) none else .undef):=rfl
  rw [e,beq_self_eq_true,bleT (show 0+(6+k)<=6+k by omega)]
  rfl
 match j with
 | 0 | 1 | 2 | 3 =>
  have:y = x:=Option.some.inj (h2.symm.trans h1)
  subst this
  exact .refl _
 | 4 =>
  have h1:some (ren [] [uB ln L k v] (.own 0 v 0 (6+k) none)) = some x:=h1
  rw [e9] at h1
  obtain rfl:=Option.some.inj h1
  obtain rfl:=Option.some.inj h2
  refine .inl (simI_view fun e he=>?_)
  rw [Nat.zero_add]
  show Sims [resolve 3 [] [uB ln L k v] (bif Nat.blt e 6 then lpV (L e) (ln e) none else lpV (fun _=>lp0) 1 none)] [lpV (fun j=>if e<6 then L e j else lp0) (if e<6 then ln e else 1) none]
  by_cases q:e<6
  ·rw [bltT q,if_pos q]
   simp only [if_pos q]
   exact .refl _
  ·rw [show Nat.blt e 6 = false by rw [Bool.eq_false_iff]; intro h; exact q (blt_lt h),if_neg q]
   simp only [if_neg q]
   exact .refl _
 | j+5=>simp at h2
end
theorem tU_sum (t:Tbl):∀ k,(tU t k).sum 6 = t.sum 6:=fun k=>by
 show 0+t.ln 0+t.ln 1+t.ln 2+t.ln 3+t.ln 4+t.ln 5 = 0+t.ln 0+t.ln 1+t.ln 2+t.ln 3+t.ln 4+t.ln 5
 rfl
theorem tU_sum2 (t:Tbl) (k:Nat):∀ j,(tU t k).sum (6+j) = t.sum 6+j
 | 0=>tU_sum t k
 | j+1=>by
  have ih:=tU_sum2 t k j
  show (tU t k).sum (6+j)+(tU t k).ln (6+j) = _
  rw [ih]
  show t.sum 6+j+(if 6+j<6 then t.ln (6+j) else 1) = _
  rw [if_neg (by omega)]; omega
theorem tU_ok {t:Tbl} (h:t.Ok) {k:Nat} (hk:k<=3):(tU t k).Ok:=by
 refine ⟨by show 6+k<=1000; omega,fun y=>?_,fun y i=>?_⟩
 ·show (if y<6 then t.ln y else 1)<=10000
  split
  ·exact h.ln y
  ·omega
 ·show (if y<6 then t.L y i else lp0).Ok
  split
  ·exact h.L y i
  ·exact lp0_ok
theorem lp15 (ln:Nat->Nat) (L:Nat->Nat->Lpp) (l:Lpp) (hn:l.nt<=100000):LoopOk P05 G05 (A05 6) 6 15 (litS (s15 ⟨6,ln,L⟩ l 0) [thB l 0,psB6 l 0] (.exit 2) [Tbl.v ⟨6,ln,L⟩,lr6 l] [thB l l.nt,psB6 l 0]) :=
 loop_steps hm05 (by kernel_rfl) (fun i=>s15 ⟨6,ln,L⟩ l i) (fun i=>[thB l i,psB6 l 0]) (n:=l.nt) (fun i hi=>by
  refine Step.mk0 none_ok rfl rfl loops0 (K:=noneO) (A:=A05) (m:=0) (l:=[]) (h1:=[⟨0,2,l.nt,fun e=>[T.int IntKind.u8 (bif e==i then (l.th i).y else (l.th e).y),T.int IntKind.i64 (bif e==i then (-1:Int) else bif e.blt i then (-1:Int) else (l.th e).n)],true,false,none⟩,psB6 l 0]) ((i6a ln L l i).trans (bift (by simpa using hi) (bift (by simpa using hi) (bift (by rw [Nat.zero_add,bltT hi]; rfl) ?_)))) (.cons ⟨rfl,rfl,rfl,id,fun e he=>?_⟩ (.refl _))
  ·rw [up1 (by omega),Nat.zero_add]; rfl
  ·show [T.int .u8 (l.th e).y,T.int .i64 (bif Nat.blt e (i+1) then -1 else (l.th e).n)] = [T.int IntKind.u8 (bif e==i then (l.th i).y else (l.th e).y),T.int IntKind.i64 (bif e==i then (-1:Int) else bif e.blt i then (-1:Int) else (l.th e).n)]
   by_cases q:e = i
   ·subst q
    rw [beq_self_eq_true,bltT (show e<e+1 by omega)]; rfl
   ·rw [show (e==i) = false by simpa using q]
    have:Nat.blt e (i+1) = Nat.blt e i:=by
     rw [Bool.eq_iff_iff,Nat.blt_eq,Nat.blt_eq]; omega
    rw [this]; rfl)
  (Last.mk0 none_ok rfl rfl loops0 (by simp) (K:=noneO) (A:=A05) (m:=0) (l:=[]) ((i6a ln L l l.nt).trans (biff (by simp) rfl)) (.refl _))
theorem lp19 (ln:Nat->Nat) (L:Nat->Nat->Lpp) (l:Lpp) (hn:l.np<=100000):LoopOk P05 G05 (A05 6) 6 19 (litS (s15 ⟨6,ln,L⟩ l 0) [thB l l.nt,psB6 l 0] (.exit 4) [Tbl.v ⟨6,ln,L⟩,lr6 l] [thB l l.nt,psB6 l l.np]) :=
 loop_steps hm05 (by kernel_rfl) (fun i=>s15 ⟨6,ln,L⟩ l i) (fun i=>[thB l l.nt,psB6 l i]) (n:=l.np) (fun i hi=>by
  refine Step.mk0 none_ok rfl rfl loops0 (K:=noneO) (A:=A05) (m:=0) (l:=[]) (h1:=[thB l l.nt,⟨0,4,l.np,fun e=>[T.int IntKind.u8 (bif e==i then (l.ps i).y else (l.ps e).y),T.int IntKind.i64 (bif e==i then (-1:Int) else bif e.blt i then (-1:Int) else (l.ps e).n),T.bool (bif e==i then (l.ps i).f else (l.ps e).f),T.int IntKind.u8 (bif e==i then (l.ps i).d else (l.ps e).d)],true,false,none⟩]) ((i6b ln L l i).trans (bift (by simpa using hi) (bift (by simpa using hi) (bift (by rw [Nat.zero_add,bltT hi]; rfl) ?_)))) (.cons ⟨rfl,rfl,rfl,id,fun _ _=>rfl⟩ (.cons ⟨rfl,rfl,rfl,id,fun e he=>?_⟩ .nil))
  ·rw [up1 (by omega),Nat.zero_add]; rfl
  ·show [T.int .u8 (l.ps e).y,T.int .i64 (bif Nat.blt e (i+1) then -1 else (l.ps e).n),T.bool (l.ps e).f,T.int .u8 (l.ps e).d] = [T.int IntKind.u8 (bif e==i then (l.ps i).y else (l.ps e).y),T.int IntKind.i64 (bif e==i then (-1:Int) else bif e.blt i then (-1:Int) else (l.ps e).n),T.bool (bif e==i then (l.ps i).f else (l.ps e).f),T.int IntKind.u8 (bif e==i then (l.ps i).d else (l.ps e).d)]
   by_cases q:e = i
   ·subst q
    rw [beq_self_eq_true,bltT (show e<e+1 by omega)]; rfl
   ·rw [show (e==i) = false by simpa using q]
    have:Nat.blt e (i+1) = Nat.blt e i:=by
     rw [Bool.eq_iff_iff,Nat.blt_eq,Nat.blt_eq]; omega
    rw [this]; rfl)
  (Last.mk0 none_ok rfl rfl loops0 (by simp) (K:=noneO) (A:=A05) (m:=0) (l:=[]) ((i6b ln L l l.np).trans (biff (by simp) rfl)) (.refl _))
open Go.Proofs
def uP (ln:Nat->Nat) (L:Nat->Nat->Lpp) (i v:Nat):Blk:=⟨v,1,6+i,fun j=>bif (0+(6+i)).ble j&&j.blt (0+(6+i)+1) then [row1].getD (0+(j - (0+(6+i)))) [] else [bif j.blt 6 then lpV (L j) (ln j) none else lpV (fun _=>lp0) 1 none],false,false,none⟩
theorem g6e2 (ln:Nat->Nat) (L:Nat->Nat->Lpp) (g:Nat->Idd) (N:Nat) (m:Int) (a:Idd) (i v:Nat):codeL P05 G05 A05 noneO 0 6 [] (nav (0 :: 1 :: 2 :: B6)) [1,5,7,8,9,10] (s6 m a ⟨6,ln,L⟩ g N i v) [uB ln L i v] [1,5,7,8,9,10] =
 (bif v==v&&true then bif (0+(6+i)).ble (6+i) then bif ((6+i+1) * 25).ble 70368744177664 then bif (0+(6+i)+1).ble (6+i) then
  some (.normal,[.int .u8 m,.reg a.c,Tbl.v ⟨6,ln,L⟩,idV g N none,.own 0 v 0 (6+i+1) none,.int .i64 i],[uP ln L i v,gb6])
  else some (.normal,[.int .u8 m,.reg a.c,Tbl.v ⟨6,ln,L⟩,idV g N none,.own 0 (v+1) 0 (6+i+1) none,.int .i64 i],[uA ln L i v,gb6]) else none else none else none):=by kernel_rfl
theorem g6f2 (ln:Nat->Nat) (L:Nat->Nat->Lpp) (g:Nat->Idd) (N:Nat) (m:Int) (a:Idd) (i v:Nat):codeL P05 G05 A05 noneO 0 6 [] (nav (2 :: 2 :: B6)) [1,5,7,8,9,10] [.int .u8 m,.reg a.c,Tbl.v ⟨6,ln,L⟩,idV g N none,.own 0 v 0 (6+(i+1)) none,.int .i64 i] [uB ln L (i+1) v] [1,5,7,8,9,10] =
 some (.normal,[.int .u8 m,.reg a.c,Tbl.v ⟨6,ln,L⟩,idV g N none,.own 0 v 0 (6+(i+1)) none,.int .i64 (IntKind.i64.wrap (Int.ofNat i+1))],[uB ln L (i+1) v]):=by kernel_rfl
theorem rf6 (ln:Nat->Nat) (L:Nat->Nat->Lpp) (g:Nat->Idd) (N:Nat) (m:Int) (a:Idd) (i v:Nat) (hi:i<=3):P6 (2 :: 2 :: B6) [1,5,7,8,9,10] [.int .u8 m,.reg a.c,Tbl.v ⟨6,ln,L⟩,idV g N none,.own 0 v 0 (6+(i+1)) none,.int .i64 i] [uB ln L (i+1) v] .normal [1,5,7,8,9,10] (s6 m a ⟨6,ln,L⟩ g N (i+1) v) [uB ln L (i+1) v]:=by
 have e:=g6f2 ln L g N m a i v
 rw [up1 (by omega)] at e
 exact run6 none_ok e
theorem rd6 (ln:Nat->Nat) (L:Nat->Nat->Lpp) (g:Nat->Idd) (N:Nat) (m:Int) (a:Idd) (i v:Nat) (hi:i<=3):P6 (0 :: 1 :: 2 :: B6) [1,5,7,8,9,10] (s6 m a ⟨6,ln,L⟩ g N i v) [uB ln L i v] .normal [1,5,7,8,9,10] [.int .u8 m,.reg a.c,Tbl.v ⟨6,ln,L⟩,idV g N none,.own 0 (v+1) 0 (6+(i+1)) none,.int .i64 i] [uB ln L (i+1) (v+1)]:=by
 have c1:(v==v&&true) = true:=by simp
 have c2:(0+(6+i)).ble (6+i) = true:=bleT (by omega)
 have c3:((6+i+1) * 25).ble 70368744177664 = true:=bleT (by omega)
 have c4:¬ ((0+(6+i)+1).ble (6+i) = true):=by rw [Nat.ble_eq]; omega
 have e:=g6e2 ln L g N m a i v
 rw [c1,c2,c3,Bool.eq_false_iff.2 c4] at e
 exact Pz.post (run6 none_ok e) wr6
theorem loop6 {ln:Nat->Nat} {L:Nat->Nat->Lpp} {g:Nat->Idd} {N:Nat} {m:Int} {a:Idd} {k:Nat} (hk:k<=3) (hm:IntKind.i64.wrap (m.tmod 4) = Int.ofNat k) :
 ∃ v,P6 [0,2,1,2,2,2] [1,5,7,8,9,10] (s6 m a ⟨6,ln,L⟩ g N 0 0) [uB ln L 0 0] (.exit 0) [1,5,7,8,9,10] (s6 m a ⟨6,ln,L⟩ g N k v) [uB ln L k v]:=by
 obtain ⟨e,vs',h',⟨rfl,v,rfl,rfl⟩,hg⟩:=Pz.loop (P:=P05) (G:=G05) (A:=A05) (f:=6) (h0:=[]) (p:=[0,2,1,2,2,2]) (l:=[1,5,7,8,9,10]) (l1:=[1,5,7,8,9,10]) (by kernel_rfl)
  (fun M vs h=>∃ i v,i<=k/\M = k - i/\vs = s6 m a ⟨6,ln,L⟩ g N i v/\h = [uB ln L i v])
  (fun e vs h=>e = .exit 0/\∃ v,vs = s6 m a ⟨6,ln,L⟩ g N k v/\h = [uB ln L k v])
  (fun M vs h hI=>by
   obtain ⟨i,v,hi,rfl,rfl,rfl⟩:=hI
   rcases Nat.lt_or_ge i k with q | q
   ·have c0:decide (Int.ofNat i<IntKind.i64.wrap (m.tmod 4)) = true:=by rw [hm,decide_eq_true_eq]; show (i:Int)<(k:Int); omega
    exact .inl ⟨k - (i+1),s6 m a ⟨6,ln,L⟩ g N (i+1) (v+1),[uB ln L (i+1) (v+1)],by omega,Pz.seq (by kernel_rfl) (run6 none_ok ((g6d ln L g N m a i v).trans (bift c0 rfl))) (Pz.seq (by kernel_rfl) (Pz.blk (id:=1) (e:=.normal) (by kernel_rfl) rfl (rd6 ln L g N m a i v (by omega))) (rf6 ln L g N m a i (v+1) (by omega))),i+1,v+1,by omega,rfl,rfl,rfl⟩
   ·obtain rfl:i = k:=by omega
    have c0:¬ (decide (Int.ofNat i<IntKind.i64.wrap (m.tmod 4)) = true):=by rw [hm,decide_eq_true_eq]; show ¬ (i:Int)<(i:Int); omega
    exact .inr ⟨.exit 0,_,_,(by simp),Pz.seqX (by kernel_rfl) (by simp) (run6 none_ok ((g6d ln L g N m a i v).trans (biff c0 rfl))),rfl,v,rfl,rfl⟩) (n:=k) ⟨0,0,Nat.zero_le _,rfl,rfl,rfl⟩
 exact ⟨v,hg⟩
theorem w2_6 {ln:Nat->Nat} {L:Nat->Nat->Lpp} {g:Nat->Idd} {N:Nat} {m:Int} {a:Idd}:W6 [1,5,7,8,9] [.int .u8 m,.reg a.c,Tbl.v ⟨6,ln,L⟩,idV g N none,.own 1 0 0 6 none] [⟨0,1,0,fun j=>[],true,true,none⟩,⟨0,1,6,fun j=>[lpV (L j) (ln j) none],false,false,none⟩]
 [.int .u8 m,.reg a.c,Tbl.v ⟨6,ln,L⟩,idV g N none,.own 0 0 0 (6+0) none] [uB ln L 0 0]:=fun nt =>
 WeakTo.canonS [1] rfl rfl rfl (.cons ⟨rfl,rfl,rfl,id,six rfl rfl rfl rfl rfl rfl⟩ .nil)
theorem law6T (X:Nat->Ll) (n:Nat) (hX:∀ i,(X i).Ok) (m:Int) (hm0:0<=m/\m<256) (a:Idd) (ha:a.Ok):ToldOk P05 G05 6 [llV X n none,.int .u8 m,.agg a.c] (.bool true):=by
 obtain ⟨p8,h8⟩:=is_val P05 G05 8
 obtain ⟨p11,h11⟩:=is_val P05 G05 11
 obtain ⟨p16,h16⟩:=is_val P05 G05 16
 obtain ⟨p18,h18⟩:=is_val P05 G05 18
 obtain ⟨p10,h10⟩:=is_val P05 G05 10
 obtain ⟨p13,h13⟩:=is_val P05 G05 13
 have t8:=(ofT (X:=X) (n:=n) hX).frz
 have hN:min n 60<=60:=Nat.min_le_right _ _
 generalize min n 60 = N at t8 hN
 have h:=os_inv X N
 generalize oS X N = o at t8 h
 have hmd:o.md.length = N:=h.len
 rw [hmd] at t8
 have ok:=tO_ok h hN
 have s8:ToldOk P05 G05 8 [llV X n none] (.tup [(tO o).v,idV (fun j=>o.md.getD j id0) N none]) :=
  t8.tupTo (.cons (.view (.view (.inr rfl) fun j _=>.refl _)) (.cons (.newv _) .nil))
 obtain ⟨k,hk,ek⟩:∃ k:Nat,k<=3/\IntKind.i64.wrap (m.tmod 4) = Int.ofNat k:=by
  have e:=tmodN hm0.1 4
  refine ⟨m.toNat % 4,by omega,?_⟩
  rw [show (4:Int) = Int.ofNat 4 from rfl,e]
  exact wr64 (by show (-9223372036854775808:Int)<=((m.toNat % 4:Nat):Int); omega) (by show ((m.toNat % 4:Nat):Int)<=9223372036854775807; omega)
 have t11:=countT (tU (tO o) k) (tU_ok ok hk)
 rw [show (tU (tO o) k).sum (tU (tO o) k).h = N+k by rw [← tO_sum h]; exact tU_sum2 (tO o) k k] at t11
 have t16:=findT (tO o) ok a ha
 have t18:=thereT (tO o) ok a ha
 have t10:=CheckT (tO o) ok
 rw [chk0 h hN] at t10
 have q0:P6 [1] [0,1,2] [llV X n none,.int .u8 m,.agg a.c] [] .normal [0,1,5] [llV X n none,.int .u8 m,.reg a.c] []:=run6 none_ok (by kernel_rfl)
 have q1:P6 [1,2] [0,1,5] [llV X n none,.int .u8 m,.reg a.c] [] .normal [1,5,7,8] [.int .u8 m,.reg a.c,(tO o).v,idV (fun j=>o.md.getD j id0) N none] [] :=
  run6 (told_add none_ok (callF_told h8)) ((g6b (tO o).ln (tO o).L (fun j=>o.md.getD j id0) N m a X n p8).trans (bift (yes5 h8 s8) rfl))
 have q2:P6 [1,2,2] [1,5,7,8] [.int .u8 m,.reg a.c,(tO o).v,idV (fun j=>o.md.getD j id0) N none] [] .normal [1,5,7,8,9] [.int .u8 m,.reg a.c,(tO o).v,idV (fun j=>o.md.getD j id0) N none,.own 0 0 0 (6+0) none] [uB (tO o).ln (tO o).L 0 0] :=
  Pz.post (run6 none_ok (g6c (tO o).ln (tO o).L (fun j=>o.md.getD j id0) N m a)) w2_6
 obtain ⟨v,hl⟩:=loop6 (ln:=(tO o).ln) (L:=(tO o).L) (g:=fun j=>o.md.getD j id0) (N:=N) (m:=m) (a:=a) hk ek
 have q3a:P6 [1,1,2,2,2] [1,5,7,8,9] [.int .u8 m,.reg a.c,(tO o).v,idV (fun j=>o.md.getD j id0) N none,.own 0 0 0 (6+0) none] [uB (tO o).ln (tO o).L 0 0] .normal [1,5,7,8,9,10] (s6 m a (tO o) (fun j=>o.md.getD j id0) N 0 0) [uB (tO o).ln (tO o).L 0 0] :=
  run6 none_ok (by kernel_rfl)
 have q3:P6 [1,2,2,2] [1,5,7,8,9] [.int .u8 m,.reg a.c,(tO o).v,idV (fun j=>o.md.getD j id0) N none,.own 0 0 0 (6+0) none] [uB (tO o).ln (tO o).L 0 0] .normal [1,5,7,8,9] [.int .u8 m,.reg a.c,(tO o).v,idV (fun j=>o.md.getD j id0) N none,(tU (tO o) k).v] [] :=
  Pz.seq (by kernel_rfl) q3a (Pz.post (Pz.only (Pz.blk (id:=0) (e:=.exit 0) (by kernel_rfl) rfl hl) rfl) wf6)
 have ec:Int.ofNat (N+k) = IntKind.i64.wrap (Int.ofNat N+IntKind.i64.wrap (m.tmod 4)):=by
  rw [ek]
  exact (wr64 (by show (-9223372036854775808:Int)<=(N:Int)+(k:Int); omega) (by show (N:Int)+(k:Int)<=9223372036854775807; omega)).symm
 have q4:P6 [1,2,2,2,2] [1,5,7,8,9] [.int .u8 m,.reg a.c,(tO o).v,idV (fun j=>o.md.getD j id0) N none,(tU (tO o) k).v] [] .normal [5,7] [.reg a.c,(tO o).v] [] :=
  run6 (told_add none_ok (callF_told h11)) ((g6g (tO o).ln (tO o).L (fun j=>o.md.getD j id0) N m a (tU (tO o) k) (Int.ofNat (N+k)) p11).trans (bift (yes5 h11 t11) (biff (by rw [← ec]; simp) rfl)))
 cases hh:(tO o).has a with
 | true =>
  rw [hh] at t16 t18
  rw [cond_true] at t16
  generalize hl0:(tO o).L (a.y - 1).toNat a.n.toNat = l at t16
  have hlo:l.Ok:=by rw [← hl0]; exact ok.L _ _
  have l15:=lp15 (tO o).ln (tO o).L l hlo.nt
  have l19:=lp19 (tO o).ln (tO o).L l hlo.np
  obtain ⟨x,hx⟩:=is_loop P05 G05 (A05 6) 6 15
  obtain ⟨y,hy⟩:=is_loop P05 G05 (A05 6) 6 19
  have q5:P6 [1,2,2,2,2,2] [5,7] [.reg a.c,(tO o).v] [] .normal [5,7,11,12] [.reg a.c,(tO o).v,lr6 l,.int .i64 0] [thB l 0,psB6 l 0] :=
   run6 (told_add none_ok (callF_told h16)) ((g6h (tO o).ln (tO o).L a l p16).trans (bift (yes5 h16 t16) (by kernel_rfl)))
  have q6:P6 [1,2,2,2,2,2,2] [5,7,11,12] [.reg a.c,(tO o).v,lr6 l,.int .i64 0] [thB l 0,psB6 l 0] .normal [7,11,12] [(tO o).v,lr6 l,.int .i64 0] [thB l 0,psB6 l 0] :=
   run6 (told_add none_ok (callF_told h18)) ((g6j (tO o).ln (tO o).L a l p18).trans (bift (yes5 h18 t18) (by kernel_rfl)))
  have q7:P6 [1,2,2,2,2,2,2,2] [7,11,12] [(tO o).v,lr6 l,.int .i64 0] [thB l 0,psB6 l 0] .normal [7,11] [(tO o).v,lr6 l] [thB l 0,psB6 l 0]:=run6 none_ok ((g6l (tO o).ln (tO o).L l).trans (by kernel_rfl))
  have q8:P6 [1,2,2,2,2,2,2,2,2] [7,11] [(tO o).v,lr6 l] [thB l 0,psB6 l 0] .normal [7,11] [(tO o).v,lr6 l] [thB l l.nt,psB6 l 0] :=
   run6L (lo:=[(15,loopF x (.ret (.exit 2) [Tbl.v ⟨6,(tO o).ln,(tO o).L⟩,lr6 l] [thB l l.nt,psB6 l 0]))]) (loops1 (loopF_ok hx _)) ((g6n (tO o).ln (tO o).L l x).trans (bift (loopF_yes hx l15) (by kernel_rfl)))
  have q9:P6 [1,2,2,2,2,2,2,2,2,2] [7,11] [(tO o).v,lr6 l] [thB l l.nt,psB6 l 0] .normal [7,11] [(tO o).v,lr6 l] [thB l l.nt,psB6 l l.np] :=
   run6L (lo:=[(19,loopF y (.ret (.exit 4) [Tbl.v ⟨6,(tO o).ln,(tO o).L⟩,lr6 l] [thB l l.nt,psB6 l l.np]))]) (loops1 (loopF_ok hy _)) ((g6o (tO o).ln (tO o).L l y).trans (bift (loopF_yes hy l19) (by kernel_rfl)))
  have q10:P6 [2,2,2,2,2,2,2,2,2,2] [7,11] [(tO o).v,lr6 l] [thB l l.nt,psB6 l l.np] .ret [6] [.bool true] [thB l l.nt,psB6 l l.np] :=
   run6 (told_add (told_add none_ok (callF_told h13)) (callF_told h10)) ((g6p (tO o).ln (tO o).L l p13 p10).trans (bift (yes5 h10 t10) (bift (by simp) (bift (by simp) (bift (yes5 h13 livesT) (by kernel_rfl))))))
  exact Pz.told hn05 Try.func6 (by kernel_rfl) (by kernel_rfl) rfl (Pz.seq (by kernel_rfl) q0 (Pz.seq (by kernel_rfl) q1 (Pz.seq (by kernel_rfl) q2 (Pz.seq (by kernel_rfl) q3 (Pz.seq (by kernel_rfl) q4 (Pz.seq (by kernel_rfl) q5 (Pz.seq (by kernel_rfl) q6 (Pz.seq (by kernel_rfl) q7 (Pz.seq (by kernel_rfl) q8 (Pz.seq (by kernel_rfl) q9 q10)))))))))) (by kernel_rfl)
 | false =>
  rw [hh] at t16 t18
  rw [cond_false] at t16
  have q5:P6 [1,2,2,2,2,2] [5,7] [.reg a.c,(tO o).v] [] .normal [5,7,11,12] [.reg a.c,(tO o).v,zr6,.int .i64 7] [] :=
   run6 (told_add none_ok (callF_told h16)) ((g6i (tO o).ln (tO o).L a p16).trans (bift (yes5 h16 t16) rfl))
  have q6:P6 [1,2,2,2,2,2,2] [5,7,11,12] [.reg a.c,(tO o).v,zr6,.int .i64 7] [] .normal [7,11,12] [(tO o).v,zr6,.int .i64 7] [] :=
   run6 (told_add none_ok (callF_told h18)) ((g6k (tO o).ln (tO o).L a p18).trans (bift (yes5 h18 t18) rfl))
  have q7:P6 [1,2,2,2,2,2,2,2] [7,11,12] [(tO o).v,zr6,.int .i64 7] [] .ret [6,7,11] [.bool true,(tO o).v,zr6] [] :=
   run6 (told_add none_ok (callF_told h13)) ((g6m (tO o).ln (tO o).L p13).trans (bift (yes5 h13 livesT) rfl))
  exact Pz.told hn05 Try.func6 (by kernel_rfl) (by kernel_rfl) rfl (Pz.seq (by kernel_rfl) q0 (Pz.seq (by kernel_rfl) q1 (Pz.seq (by kernel_rfl) q2 (Pz.seq (by kernel_rfl) q3 (Pz.seq (by kernel_rfl) q4 (Pz.seq (by kernel_rfl) q5 (Pz.seq (by kernel_rfl) q6 (Pz.seqX (by kernel_rfl) (by simp) q7)))))))) (by kernel_rfl)
open Go.Proofs
section
variable {Hp:Type}
theorem agg23_05:aggTy P05 23 = false:=by kernel_rfl
theorem agg36_05:aggTy P05 36 = true:=by kernel_rfl
theorem cells5_05:P05.cellsOf 5 = 1:=by kernel_rfl
theorem cells66_05:P05.cellsOf 66 = 5:=by kernel_rfl
def cI5 (l:List T):Int:=match l with | [.int _ z]=>z | _=>0
theorem inv5_05 {ts:List T} {d:DataW Hp} (h:CT P05 5 ts d):∃ a:Int,ts = [.int .u8 a]/\0<=a/\a<256:=by
 obtain ⟨a,rfl,rfl,w⟩:=h.int_inv Try.underlying5
 have w:=wf_u8 w
 exact ⟨a,rfl,by omega,by omega⟩
theorem inv3_05 {ts:List T} {d:DataW Hp} (h:CT P05 3 ts d):∃ a:Int,ts = [.int .i64 a]/\-9223372036854775808<=a/\a<=9223372036854775807:=by
 obtain ⟨a,rfl,rfl,w⟩:=h.int_inv Try.underlying3
 exact ⟨a,rfl,wf_i64 w⟩
theorem row05 {ts:List T} {d:DataW Hp} (h:CT P05 64 ts d):∃ (r:Nat->Int) (n:Nat),(∀ j,0<=r j/\r j<256)/\∃ x,ts = [x]/\Sim x (u8V r n none):=by
 rcases h.slice_inv Try.underlying64 (by rw [cells5_05]; omega) with ⟨rfl,rfl⟩ | ⟨n,c,g,elems,spare,rfl,rfl,he,hs,hn,hc,hg⟩
 ·exact ⟨fun _=>0,0,fun _=>⟨Int.le_refl 0,(by decide:(0:Int)<256)⟩,_,rfl,.nilv _ _ (.inl rfl)⟩
 ·have key:∀ j,j<n->∃ a:Int,g j = [.int .u8 a]/\0<=a/\a<256:=fun j hj=>inv5_05 (hg j elems[j] (by simp [show j<elems.length by omega]))
  refine ⟨fun j=>if j<n then cI5 (g j) else 0,n,fun j=>?_,_,rfl,?_⟩
  ·dsimp only
   split
   ·rename_i hj
    obtain ⟨a,q,q1,q2⟩:=key j hj
    rw [q]
    exact ⟨q1,q2⟩
   ·omega
  ·rw [cells5_05]
   refine .view (.inr rfl) fun j hj=>?_
   obtain ⟨a,q,_⟩:=key j hj
   show Sims (g j) [.int .u8 (if j<n then cI5 (g j) else 0)]
   rw [if_pos hj,q]
   exact .refl _
def ll0:Ll:=⟨0,false,false,fun _=>0,0,fun _=>0,0⟩
theorem ll0_ok:ll0.Ok:=⟨⟨Int.le_refl 0,show (0:Int)<256 by decide⟩,fun _=>⟨Int.le_refl 0,show (0:Int)<256 by decide⟩,fun _=>⟨Int.le_refl 0,show (0:Int)<256 by decide⟩⟩
theorem ll05 {ts:List T} {d:DataW Hp} (h:CT P05 66 ts d):∃ l:Ll,l.Ok/\Sims ts l.c:=by
 obtain ⟨parts,ds,rfl,rfl,hs⟩:=CT.struct_inv Try.underlying66 h; clear h; rename _=>h
 change CTs P05 [5,4,4,64,64] parts ds at h
 obtain ⟨p1,_,d1,_,rfl,rfl,h1,h⟩:=h.cons
 obtain ⟨p2,_,d2,_,rfl,rfl,h2,h⟩:=h.cons
 obtain ⟨p3,_,d3,_,rfl,rfl,h3,h⟩:=h.cons
 obtain ⟨p4,_,d4,_,rfl,rfl,h4,h⟩:=h.cons
 obtain ⟨p5,_,d5,_,rfl,rfl,h5,h⟩:=h.cons
 obtain ⟨rfl,rfl⟩:=h.nil
 obtain ⟨y,rfl,y1⟩:=inv5_05 h1
 obtain ⟨b,rfl,_⟩:=h2.bool_inv Try.underlying4
 obtain ⟨w,rfl,_⟩:=h3.bool_inv Try.underlying4
 obtain ⟨th,nt,t1,x,rfl,t2⟩:=row05 h4
 obtain ⟨ps,np,s1,z,rfl,s2⟩:=row05 h5
 exact ⟨⟨y,b,w,th,nt,ps,np⟩,⟨y1,t1,s1⟩,.cons (.refl _) (.cons (.refl _) (.cons (.refl _) (.cons t2 (.cons s2 .nil))))⟩
theorem inv23_05 {ts:List T} {d:DataW Hp} (h:CT P05 23 ts d):∃ (X:Nat->Ll) (n:Nat),(∀ i,(X i).Ok)/\Sim (topT P05 23 ts) (llV X n none):=by
 rcases h.slice_inv Try.underlying23 (by rw [cells66_05]; omega) with ⟨rfl,rfl⟩ | ⟨n,c,g,elems,spare,rfl,rfl,he,hs,hn,hc,hg⟩
 ·exact ⟨fun _=>ll0,0,fun _=>ll0_ok,by rw [show topT P05 23 [T.nils] = T.nils by simp [topT,agg23_05]]; exact .nilv _ _ (.inl rfl)⟩
 ·have key:∀ j,∃ l:Ll,l.Ok/\(j<n->Sims (g j) l.c):=fun j=>by
   by_cases hj:j<n
   ·obtain ⟨l,h1,h2⟩:=ll05 (hg j elems[j] (by simp [show j<elems.length by omega]))
    exact ⟨l,h1,fun _=>h2⟩
   ·exact ⟨ll0,ll0_ok,fun h=>absurd h hj⟩
  refine ⟨fun j=>(key j).choose,n,fun i=>(key i).choose_spec.1,?_⟩
  rw [show topT P05 23 [T.view (P05.cellsOf 66) n g (some c)] = T.view (P05.cellsOf 66) n g (some c) by simp [topT,agg23_05],cells66_05]
  exact .view (.inr rfl) fun j hj=>(key j).choose_spec.2 hj
theorem inv36_05 {ts:List T} {d:DataW Hp} (h:CT P05 36 ts d):∃ a:Idd,a.Ok/\topT P05 36 ts = .agg a.c:=by
 obtain ⟨parts,ds,rfl,rfl,hs⟩:=CT.struct_inv Try.underlying36 h; clear h; rename _=>h
 change CTs P05 [5,3] parts ds at h
 obtain ⟨p1,_,d1,_,rfl,rfl,h1,h⟩:=h.cons
 obtain ⟨p2,_,d2,_,rfl,rfl,h2,h⟩:=h.cons
 obtain ⟨rfl,rfl⟩:=h.nil
 obtain ⟨y,rfl,y1⟩:=inv5_05 h1
 obtain ⟨n,rfl,n1⟩:=inv3_05 h2
 exact ⟨⟨y,n⟩,⟨y1,n1⟩,by simp [topT,agg36_05,Idd.c]⟩
end
end Go.Ab

