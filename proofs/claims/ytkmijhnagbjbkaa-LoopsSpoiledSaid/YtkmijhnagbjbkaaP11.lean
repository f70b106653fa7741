/- A part of the proof: nothing is assumed. -/
import Derived.Test.YtkmijhnagbjbkaaP5
import Derived.Test.YtkmijhnagbjbkaaP10
import Derived.Test.YtkmijhnagbjbkaaP9
import Derived.Test.YtkmijhnagbjbkaaP4
set_option linter.all false
namespace Go.Ab
open Go.Proofs
theorem livesT:ToldOk P05 G05 13 [] (.bool true) :=
 stepV_told (A:=A05) (K:=inlW P05 G05 A05 (fun f=>!([23,27,40,47,32,64].contains f)) (fun f=>f==33) 40 10) (m:=40) hm05 hn05 (inlW_ok hm05 hn05 40 10) (by kernel_rfl)
open Go.Proofs
theorem yes5 {f:FuncId} {p:List T->T->Prop} {args:List T} {r:T} (hp:p = ToldOk P05 G05 f) (t:ToldOk P05 G05 f args r):decF (p args r) = true:=by
 subst hp; exact decF_iff.2 t
section
variable {o:Os} {N:Nat}
end
open Go.Proofs
section
variable {o:Os} {N:Nat}
end
open Go.Proofs
abbrev P4:=Pz P05 G05 A05 4 []
abbrev W4:=Wk G05 A05 4 0
theorem run4 {K:Orc} (hK:OrcOk P05 G05 K) {p l l1:List Nat} {vs v1:List T} {h h1:Heap} {e:Ex} (hk:codeL P05 G05 A05 K 0 4 [] (nav p) l vs h l1 = some (e,v1,h1)):P4 p l vs h e l1 v1 h1 :=
 Pz.run hm05 hK (by kernel_rfl) loops0 hk
def tbV (t:Tbl):Blk:=⟨0,1,t.h,fun y=>[lpV (t.L y) (t.ln y) none],false,false,none⟩
def tX:T:=.own 0 0 0 6 (some 6)
def hK (ln:Nat->Nat) (L:Nat->Nat->Lpp) (K v:Nat):Heap:=[⟨0,1,6,fun e=>[bif e==K then .own 1 v 0 (ln K) none else lpV (L e) (ln e) none],false,false,none⟩,⟨v,4,ln K,fun j=>(L K j).c,false,false,none⟩]
def S4:List Nat:=[1,2,2,2,2,2,2]
def rg4 (a0 a1:Int):T:=.reg [.int .u8 a0,.int .u8 a1]
def id4 (K i:Nat):T:=.reg [.int .u8 ((K:Int)+1),.int .i64 i]
def in4 (a0 a1:Int) (g:Nat->Idd) (N K v i:Nat) (z:Int):List T:=[rg4 a0 a1,tX,idV g N none,id4 K i,.ptr 1 v i 0,.int .i64 1,.int .u8 z]
def tb7 (vr:Nat->Nat) (rw:Nat->List Lpp):Blk:=⟨0,1,6,fun e=>[.own (1+e) (vr e) 0 (rw e).length none],false,true,none⟩
def h7 (vr:Nat->Nat) (rw:Nat->List Lpp):Heap:=tb7 vr rw :: rws vr rw
def rwT (L:Nat->Nat->Lpp) (K i:Nat) (b:Int) (x y:T):Nat->List T:=fun e =>
 [.int .u8 (bif e==i then b else (L K e).b),.bool (bif e==i then (L K i).w else (L K e).w),bif e==i then x else idV (L K e).th (L K e).nt none,bif e==i then y else psV (L K e).ps (L K e).np none]
def rH4 (ln:Nat->Nat) (L:Nat->Nat->Lpp) (K v:Nat) (row:Nat->List T) (bs:Heap):Heap:=⟨0,1,6,fun e=>[bif e==K then .own 1 v 0 (ln K) none else lpV (L e) (ln e) none],false,false,none⟩ :: ⟨v,4,ln K,row,false,false,none⟩ :: bs
section
variable (ln:Nat->Nat) (L:Nat->Nat->Lpp) (g:Nat->Idd) (N K v i:Nat) (a0 a1:Int)
theorem six6 (h:K<6):K = 0 ∨ K = 1 ∨ K = 2 ∨ K = 3 ∨ K = 4 ∨ K = 5:=by omega
theorem z0 (hKK:K<6):codeL P05 G05 A05 noneO 0 4 [] (nav (2 :: S4)) [3,5,6,7,8,9,41] (in4 a0 a1 g N K v i 0) (hK ln L K v) [5,9] =
 (bif v==v&&true then bif v==v&&true then bif v==v&&true then bif v==v&&true then bif i.blt (ln K)&&true&&true&&true then
  some (.normal,[tX,.int .i64 1],rH4 ln L K v (rwT L K i (L K i).b (.own 2 0 0 1 (some 1)) (psV (L K i).ps (L K i).np none)) [⟨0,2,1,fun j=>[[T.int .u8 ((K:Int)+1),.int .i64 (Int.ofNat (ln K))]].getD j [],true,true,none⟩])
  else none else none else none else none else none):=by
 obtain rfl | rfl | rfl | rfl | rfl | rfl:=six6 K hKK
 all_goals kernel_rfl
theorem z2 (hKK:K<6):codeL P05 G05 A05 noneO 0 4 [] (nav (2 :: S4)) [3,5,6,7,8,9,41] (in4 a0 a1 g N K v i 2) (hK ln L K v) [5,9] =
 (bif v==v&&true then bif v==v&&true then bif v==v&&true then bif i.blt (ln K)&&true&&true&&true then
  some (.normal,[tX,.int .i64 6],rH4 ln L K v (rwT L K i (L K i).b (idV (L K i).th (L K i).nt none) (.own 2 0 0 1 (some 1))) [⟨0,4,1,fun j=>[[T.int .u8 ((K:Int)+1),.int .i64 (Int.ofNat i),.bool false,.int .u8 0]].getD j [],true,true,none⟩])
  else none else none else none else none):=by
 obtain rfl | rfl | rfl | rfl | rfl | rfl:=six6 K hKK
 all_goals kernel_rfl
theorem z3 (hKK:K<6):codeL P05 G05 A05 noneO 0 4 [] (nav (2 :: S4)) [3,5,6,7,8,9,41] (in4 a0 a1 g N K v i 3) (hK ln L K v) [5,9] =
 (bif decide ((0:Int)<Int.ofNat N) then bif decide ((0:Int)<Int.ofNat N) then bif v==v&&true then bif v==v&&true then bif v==v&&true then bif i.blt (ln K)&&true&&true&&true then
  some (.normal,[tX,.int .i64 1],rH4 ln L K v (rwT L K i (L K i).b (idV (L K i).th (L K i).nt none) (.own 2 0 0 2 (some 2))) [⟨0,4,2,fun j=>[[T.int .u8 (g 0).y,.int .i64 (g 0).n,.bool false,.int .u8 0],[.int .u8 (g 0).y,.int .i64 (g 0).n,.bool false,.int .u8 1]].getD j [],true,true,none⟩])
  else none else none else none else none else none else none):=by
 obtain rfl | rfl | rfl | rfl | rfl | rfl:=six6 K hKK
 all_goals kernel_rfl
theorem z4 (hKK:K<6):codeL P05 G05 A05 noneO 0 4 [] (nav (2 :: S4)) [3,5,6,7,8,9,41] (in4 a0 a1 g N K v i 4) (hK ln L K v) [5,9] =
 (bif v==v&&true then bif v==v&&true then bif v==v&&true then bif i.blt (ln K)&&true&&true&&true then
  some (.normal,[tX,.int .i64 1],rH4 ln L K v (rwT L K i 2 (idV (L K i).th (L K i).nt none) (psV (L K i).ps (L K i).np none)) [])
  else none else none else none else none):=by
 obtain rfl | rfl | rfl | rfl | rfl | rfl:=six6 K hKK
 all_goals kernel_rfl
noncomputable def K4a (p:List T->T->Prop) (b:Idd) (c:Bool):Orc:=noneO.add 14 (callF p fun _=>some (.tup [.agg b.c,.bool c]))
def bl1 (K i:Nat):Heap:=[⟨0,2,1,fun j=>[[T.int .u8 ((K:Int)+1),.int .i64 (Int.ofNat i)]].getD j [],true,true,none⟩]
theorem z1f (hKK:K<6) (p:List T->T->Prop) (b:Idd):codeL P05 G05 A05 (K4a p b false) 0 4 [] (nav (2 :: S4)) [3,5,6,7,8,9,41] (in4 a0 a1 g N K v i 1) (hK ln L K v) [5,9] =
 (bif decF (p [resolveArg (hK ln L K v) tX,.agg [.int .u8 ((K:Int)+1),.int .i64 (Int.ofNat i)]] (.tup [.agg b.c,.bool false])) then
  bif v==v&&true then bif v==v&&true then bif v==v&&true then bif i.blt (ln K)&&true&&true&&true then
  some (.normal,[tX,.int .i64 6],rH4 ln L K v (rwT L K i (L K i).b (.own 2 0 0 1 (some 1)) (psV (L K i).ps (L K i).np none)) (bl1 K i))
  else none else none else none else none else none):=by
 obtain rfl | rfl | rfl | rfl | rfl | rfl:=six6 K hKK
 all_goals kernel_rfl
theorem z1t (hKK:K<6) (p:List T->T->Prop) (b:Idd):codeL P05 G05 A05 (K4a p b true) 0 4 [] (nav (2 :: S4)) [3,5,6,7,8,9,41] (in4 a0 a1 g N K v i 1) (hK ln L K v) [5,9] =
 (bif decF (p [resolveArg (hK ln L K v) tX,.agg [.int .u8 ((K:Int)+1),.int .i64 (Int.ofNat i)]] (.tup [.agg b.c,.bool true])) then
  bif v==v&&true then bif v==v&&true then bif v==v&&true then bif i.blt (ln K)&&true&&true&&true then
  bif decide (b.y = (K:Int)+1) then bif decide (b.n = Int.ofNat i) then
  some (.normal,[tX,.int .i64 6],rH4 ln L K v (rwT L K i (L K i).b (.own 2 0 0 1 (some 1)) (psV (L K i).ps (L K i).np none)) (bl1 K i))
  else some (.normal,[tX,.int .i64 8],rH4 ln L K v (rwT L K i (L K i).b (.own 2 0 0 1 (some 1)) (psV (L K i).ps (L K i).np none)) (bl1 K i))
  else some (.normal,[tX,.int .i64 8],rH4 ln L K v (rwT L K i (L K i).b (.own 2 0 0 1 (some 1)) (psV (L K i).ps (L K i).np none)) (bl1 K i))
  else none else none else none else none else none):=by
 obtain rfl | rfl | rfl | rfl | rfl | rfl:=six6 K hKK
 all_goals kernel_rfl
theorem z7 (hKK:K<6):codeL P05 G05 A05 noneO 0 4 [] (nav (1 :: S4)) [3,5,6,7,8,9] [rg4 a0 a1,tX,idV g N none,id4 K i,.ptr 1 v i 0,.int .i64 1] (hK ln L K v) [3,5,6,7,8,9,41] =
 some (.normal,in4 a0 a1 g N K v i (a1.tmod 5),hK ln L K v):=by
 obtain rfl | rfl | rfl | rfl | rfl | rfl:=six6 K hKK
 all_goals kernel_rfl
theorem r5z (hKK:K<6):codeL P05 G05 A05 noneO 0 4 [] (nav [1,2,2,2,2]) [3,5,6,7] [rg4 a0 a1,tX,idV g N none,id4 K i] (hK ln L K v) [3,5,6,7,8] =
 (bif v==v&&true then bif decide ((0:Int)<=Int.ofNat i)&&decide (Int.ofNat i<Int.ofNat (ln K)) then some (.normal,[rg4 a0 a1,tX,idV g N none,id4 K i,.ptr 1 v (0+i) 0],hK ln L K v) else none else none):=by
 obtain rfl | rfl | rfl | rfl | rfl | rfl:=six6 K hKK
 all_goals kernel_rfl
theorem r6z (hKK:K<6):codeL P05 G05 A05 noneO 0 4 [] (nav [1,2,2,2,2,2]) [3,5,6,7,8] [rg4 a0 a1,tX,idV g N none,id4 K i,.ptr 1 v i 0] (hK ln L K v) [3,5,6,7,8,9] =
 some (.normal,[rg4 a0 a1,tX,idV g N none,id4 K i,.ptr 1 v i 0,.int .i64 1],hK ln L K v):=by
 obtain rfl | rfl | rfl | rfl | rfl | rfl:=six6 K hKK
 all_goals kernel_rfl
theorem r4z (vr:Nat->Nat) (rw:Nat->List Lpp):codeL P05 G05 A05 noneO 0 4 [] (nav [1,2,2,2]) [3,5,6] [rg4 a0 a1,tX,idV g N none] (h7 vr rw) [3,5,6,7] =
 (bif decide (Int.ofNat N = (0:Int)) then none else bif decide ((0:Int)<=(IntKind.i64.wrap a0).tmod (Int.ofNat N))&&decide ((IntKind.i64.wrap a0).tmod (Int.ofNat N)<Int.ofNat N) then
  some (.normal,[rg4 a0 a1,tX,idV g N none,.reg (g ((IntKind.i64.wrap a0).tmod (Int.ofNat N)).toNat).c],h7 vr rw) else none):=by kernel_rfl
noncomputable def K4b (p:List T->T->Prop):Orc:=noneO.add 13 (callF p fun _=>some (.bool true))
theorem r2z (vr:Nat->Nat) (rw:Nat->List Lpp) (p:List T->T->Prop):codeL P05 G05 A05 (K4b p) 0 4 [] (nav [1,2,2]) [3,5,6] [rg4 a0 a1,tX,idV g N none] (h7 vr rw) [4,3,5,6] =
 (bif decide (Int.ofNat N<(2:Int)) then bif decF (p [] (.bool true)) then some (.ret,[.bool true,rg4 a0 a1,tX,idV g N none],h7 vr rw) else none
  else some (.normal,[.undef,rg4 a0 a1,tX,idV g N none],h7 vr rw)):=by kernel_rfl
noncomputable def K4c (p q:List T->T->Prop) (c:Int):Orc:=(noneO.add 13 (callF p fun _=>some (.bool true))).add 10 (callF q fun _=>some (.int .i64 c))
theorem r22z (c e:Int) (p q:List T->T->Prop):codeL P05 G05 A05 (K4c p q c) 0 4 [] (nav [2,2,2,2,2,2,2]) [5,9] [tX,.int .i64 e] [tbV ⟨6,ln,L⟩] [4] =
 (bif decF (q [resolveArg [tbV ⟨6,ln,L⟩] tX] (.int .i64 c)) then bif decide (c = e) then bif decF (p [] (.bool true)) then some (.ret,[.bool true],[tbV ⟨6,ln,L⟩]) else none else some (.ret,[.bool false],[tbV ⟨6,ln,L⟩]) else none):=by kernel_rfl
noncomputable def K4d (p:List T->Heap->T->Heap->Prop) (r:T) (h:Heap):Orc:=noneO.addRef 8 (refF p fun _ _=>some (r,h))
theorem r1z (X:Nat->Ll) (n:Nat) (vr:Nat->Nat) (rw:Nat->List Lpp) (vf:Nat) (fr:List Idd) (vm:Nat) (md:List Idd) (p:List T->Heap->T->Heap->Prop) :
 codeL P05 G05 A05 (K4d p (.tup [.own 0 0 0 6 (some 6),.own 2 vm 0 md.length none]) (h8 vr rw vf fr vm md)) 0 4 [] (nav [1,2]) [0,3] [llV X n none,rg4 a0 a1] [] [3,5,6] =
 (bif decF (p [llV X n none] [] (.tup [.own 0 0 0 6 (some 6),.own 2 vm 0 md.length none]) (h8 vr rw vf fr vm md)) then some (.normal,[rg4 a0 a1,.own 0 0 0 6 (some 6),.own 2 vm 0 md.length none],h8 vr rw vf fr vm md) else none):=by kernel_rfl
theorem r0z (X:Nat->Ll) (n:Nat):codeL P05 G05 A05 noneO 0 4 [] (nav [1]) [0,1] [llV X n none,.agg [.int .u8 a0,.int .u8 a1]] [] [0,3] = some (.normal,[llV X n none,rg4 a0 a1],[]):=by kernel_rfl
end
theorem ofR {X:Nat->Ll} {n:Nat} (hX:∀ i,(X i).Ok):∃ vr vm vf,ToldRef P05 G05 8 [llV X n none] [] (.tup [.own 0 0 0 6 (some 6),.own 2 vm 0 (oS X (min n 60)).md.length none]) (h8 vr (oS X (min n 60)).rw vf (oS X (min n 60)).fr vm (oS X (min n 60)).md):=by
 obtain ⟨vr,vm,vf,hg⟩:=all8 (n:=n) hX
 generalize oS X (min n 60) = o at hg ⊢
 exact ⟨vr,vm,vf,Pz.toldRef hn05 Try.func8 (by kernel_rfl) (by kernel_rfl) rfl hg (by kernel_rfl)⟩
open Go.Proofs
def setO (o:Os) (K i:Nat) (l:Lpp):Os:=⟨o.fr,o.md,upG o.rw K ((o.rw K).set i l)⟩
def lzT (l:Lpp) (a:Idd):Lpp:=⟨l.b,l.w,fun _=>a,1,l.ps,l.np⟩
def lzP (l:Lpp) (a:Idd):Lpp:=⟨l.b,l.w,l.th,l.nt,fun _=>⟨a.y,a.n,false,0⟩,1⟩
def lzQ (l:Lpp) (a:Idd):Lpp:=⟨l.b,l.w,l.th,l.nt,fun j=>⟨a.y,a.n,false,if j = 0 then 0 else 1⟩,2⟩
def lzB (l:Lpp):Lpp:=⟨2,l.w,l.th,l.nt,l.ps,l.np⟩
theorem rgt_iff (t:Tbl) (l:Lpp):rgt t l = true ↔ (l.b = 0 ∨ l.b = 1)/\l.nt<=4/\l.np<=4096/\(∀ i,i<l.nt->t.has (l.th i) = true)/\(∀ i,i<l.np->t.has (l.ps i).id = true/\((l.ps i).d = 0 ∨ (l.ps i).d = 1))/\(pshM l.ps l.np).1 = l.np:=by
 have e1:allB (rgI t l) l.nt = true ↔ ∀ i,i<l.nt->t.has (l.th i) = true:=allB_iff _ _
 have e2:allB (rgP t l) l.np = true ↔ ∀ i,i<l.np->t.has (l.ps i).id = true/\((l.ps i).d = 0 ∨ (l.ps i).d = 1):=by
  rw [allB_iff]
  simp only [rgP,Bool.and_eq_true,Bool.or_eq_true,decide_eq_true_eq]
 rw [← e1,← e2]
 unfold rgt
 have e3:(decide (l.b = 0) || decide (l.b = 1)) = true ↔ (l.b = 0 ∨ l.b = 1):=by simp
 have e4:(decide (4<l.nt) || decide (4096<l.np)) = false ↔ (l.nt<=4/\l.np<=4096):=by simp
 rw [← e3]
 have e5:(l.nt<=4/\l.np<=4096/\allB (rgI t l) l.nt = true/\allB (rgP t l) l.np = true/\(pshM l.ps l.np).1 = l.np) ↔ ((decide (4<l.nt) || decide (4096<l.np)) = false/\allB (rgI t l) l.nt = true/\allB (rgP t l) l.np = true/\decide ((pshM l.ps l.np).1 = l.np) = true):=by
  rw [e4,decide_eq_true_eq,and_assoc]
 rw [e5]
 cases (decide (l.b = 0) || decide (l.b = 1)) <;> cases (decide (4<l.nt) || decide (4096<l.np)) <;> cases allB (rgI t l) l.nt <;> cases allB (rgP t l) l.np <;> cases decide ((pshM l.ps l.np).1 = l.np) <;> simp
theorem rgt_has {t t2:Tbl} (h:∀ a,t2.has a = t.has a) (l:Lpp):rgt t2 l = rgt t l:=by
 rw [Bool.eq_iff_iff,rgt_iff,rgt_iff]
 simp only [h]
section
variable {o:Os} {N K i:Nat} {l:Lpp}
theorem set_ln (e:Nat):(tO (setO o K i l)).ln e = (tO o).ln e:=by
 show (upG o.rw K ((o.rw K).set i l) e).length = (o.rw e).length
 unfold upG
 split
 ·rename_i q; subst q; rw [List.length_set]
 ·rfl
theorem set_L (hi:i<(o.rw K).length) (e j:Nat):(tO (setO o K i l)).L e j = if e = K/\j = i then l else (tO o).L e j:=by
 show (upG o.rw K ((o.rw K).set i l) e).getD j lp0 = _
 unfold upG
 by_cases q:e = K
 ·subst q
  rw [if_pos rfl,List.getD_eq_getElem?_getD,List.getElem?_set]
  by_cases q2:i = j
  ·subst q2
   rw [if_pos rfl,if_pos hi,if_pos ⟨rfl,rfl⟩]; rfl
  ·rw [if_neg q2,if_neg (fun h=>q2 h.2.symm),← List.getD_eq_getElem?_getD]; rfl
 ·rw [if_neg q,if_neg (fun h=>q h.1)]; rfl
theorem set_has (a:Idd):(tO (setO o K i l)).has a = (tO o).has a:=by
 unfold Tbl.has
 rw [set_ln]; rfl
theorem set_sum (h:OsInv o N):(tO (setO o K i l)).sum (tO (setO o K i l)).h = N:=by
 rw [← tO_sum h]
 show 0+(tO (setO o K i l)).ln 0+(tO (setO o K i l)).ln 1+(tO (setO o K i l)).ln 2+(tO (setO o K i l)).ln 3+(tO (setO o K i l)).ln 4+(tO (setO o K i l)).ln 5 = 0+(tO o).ln 0+(tO o).ln 1+(tO o).ln 2+(tO o).ln 3+(tO o).ln 4+(tO o).ln 5
 simp only [set_ln]
theorem set_ok (h:OsInv o N) (hN:N<=60) (hi:i<(o.rw K).length) (hl:l.Ok):(tO (setO o K i l)).Ok:=by
 have h0:=tO_ok h hN
 refine ⟨h0.h,fun y=>by rw [set_ln]; exact h0.ln y,fun y j=>?_⟩
 rw [set_L hi]
 split
 ·exact hl
 ·exact h0.L y j
theorem row_rgt (h:OsInv o N) {y j:Nat} (hy:y<6) (hj:j<(o.rw y).length):rgt (tO o) ((tO o).L y j) = true/\(j = 0->((tO o).L y j).w = true):=by
 obtain ⟨k,k1,_,k3,k4,_⟩:=h.row y hy j hj
 exact ⟨good_rgt h (by omega) k3,k4⟩
theorem chk_1 (h:OsInv o N) (hN:N<=60) (hK:K<6) (hi:i<(o.rw K).length) (hr:rgt (tO o) l = false):chkE (tO (setO o K i l)) = 1:=by
 have e:allB (ckY (tO (setO o K i l))) (tO (setO o K i l)).h = false:=by
  cases hc:allB (ckY (tO (setO o K i l))) (tO (setO o K i l)).h with
  | false=>rfl
  | true =>
   have h1:=(allB_iff _ _).1 ((allB_iff _ _).1 hc K hK) i (by rw [set_ln]; exact hi)
   unfold ckL at h1
   rw [set_L hi,if_pos ⟨rfl,rfl⟩,rgt_has set_has,hr] at h1
   cases h1
 unfold chkE
 rw [if_neg (show ¬ ((tO (setO o K i l)).h ≠ 6) from fun q=>q rfl),set_sum h,if_neg (by omega),e]
 rfl
theorem set_ckY (h:OsInv o N) (hi:i<(o.rw K).length) (hr:rgt (tO o) l = true) (hw:i = 0->l.w = true):allB (ckY (tO (setO o K i l))) (tO (setO o K i l)).h = true:=by
 refine (allB_iff _ _).2 fun y hy=>(allB_iff _ _).2 fun j hj=>?_
 rw [set_ln] at hj
 unfold ckL
 rw [set_L hi,rgt_has set_has,Bool.and_eq_true]
 have hww:∀ (x:Lpp),(j = 0->x.w = true)->(!(j==0) || x.w) = true:=fun x hx=>by
  by_cases q:j = 0
  ·rw [hx q]; simp
  ·simp [q]
 by_cases q:y = K/\j = i
 ·rw [if_pos q]
  obtain ⟨_,rfl⟩:=q
  exact ⟨hr,hww _ hw⟩
 ·rw [if_neg q]
  exact ⟨(row_rgt h hy hj).1,hww _ (row_rgt h hy hj).2⟩
theorem rowTh_set {r:List Lpp} (hi:i<r.length) (x:Idd):(rowTh (r.set i l)).count x+(thL (r.getD i lp0)).count x = (rowTh r).count x+(thL l).count x:=by
 have e:r = r.take i ++ (r.getD i lp0 :: r.drop (i+1)):=by
  rw [List.getD_eq_getElem?_getD,List.getElem?_eq_getElem hi,Option.getD_some,List.getElem_cons_drop,List.take_append_drop]
 have e2:(rowTh r).count x = (rowTh (r.take i)).count x+((thL (r.getD i lp0)).count x+(rowTh (r.drop (i+1))).count x):=by
  conv=>lhs; rw [e]
  simp only [rowTh,List.flatMap_append,List.flatMap_cons,List.count_append]
 rw [e2,List.set_eq_take_append_cons_drop,if_pos hi]
 simp only [rowTh,List.flatMap_append,List.flatMap_cons,List.count_append]
 omega
theorem allTh_set (hK:K<6) (hi:i<(o.rw K).length) (x:Idd):(allTh (setO o K i l).rw).count x+(thL ((tO o).L K i)).count x = (allTh o.rw).count x+(thL l).count x:=by
 have h1:=rowTh_set (l:=l) hi x
 have e:∀ e,(setO o K i l).rw e = if e = K then (o.rw K).set i l else o.rw e:=fun e=>rfl
 have h2:(thL ((tO o).L K i)).count x = (thL ((o.rw K).getD i lp0)).count x:=rfl
 rw [h2]
 obtain rfl | rfl | rfl | rfl | rfl | rfl:K = 0 ∨ K = 1 ∨ K = 2 ∨ K = 3 ∨ K = 4 ∨ K = 5:=by omega
 all_goals
  simp only [allTh,List.count_append,e,if_true,if_false,Nat.reduceEqDiff] at h1 ⊢
  try omega
theorem mem_thL {l:Lpp} {a:Idd}:a ∈ thL l ↔ ∃ i,i<l.nt/\l.th i = a:=by simp [thL]
theorem cnt_mem {l:Lpp} {a:Idd}:cnt l.th l.nt a = true ↔ a ∈ thL l:=by
 rw [mem_thL]
 unfold cnt
 rw [Bool.not_eq_true',← Bool.not_eq_true,allB_iff]
 simp only [Classical.not_forall,Bool.not_eq_true',Bool.not_eq_false]
 constructor
 ·rintro ⟨i,hi,h⟩
  refine ⟨i,hi,?_⟩
  unfold eqI at h
  simp only [Bool.and_eq_true,decide_eq_true_eq] at h
  obtain ⟨h1,h2⟩:=h
  cases hh:l.th i with | mk y n=>rw [hh] at h1 h2; cases a; simp_all
 ·rintro ⟨i,hi,h⟩
  exact ⟨i,hi,by rw [h]; simp [eqI]⟩
theorem all_nd (h:OsInv o N):(allTh o.rw).Nodup:=by
 have h1:=h.perm.nodup_iff.2 h.nodup
 rw [List.nodup_append] at h1
 exact h1.1
theorem mem_all {y j:Nat} (hy:y<6) (hj:j<(o.rw y).length) {x:Idd} (hx:x ∈ thL ((tO o).L y j)):x ∈ allTh o.rw:=by
 have h1:x ∈ rowTh (o.rw y):=List.mem_flatMap.2 ⟨_,mem_getD (d:=lp0) hj,hx⟩
 unfold allTh
 simp only [List.mem_append]
 obtain rfl | rfl | rfl | rfl | rfl | rfl:y = 0 ∨ y = 1 ∨ y = 2 ∨ y = 3 ∨ y = 4 ∨ y = 5:=by omega
 all_goals simp only [h1,true_or,or_true]
theorem of_all {x:Idd} (hx:x ∈ allTh o.rw):∃ y j,y<6/\j<(o.rw y).length/\x ∈ thL ((tO o).L y j):=by
 have key:∀ y,y<6->x ∈ rowTh (o.rw y)->∃ y j,y<6/\j<(o.rw y).length/\x ∈ thL ((tO o).L y j):=fun y hy h=>by
  obtain ⟨l,hl,hx⟩:=List.mem_flatMap.1 h
  obtain ⟨j,hj,e⟩:=getD_mem (d:=lp0) hl
  exact ⟨y,j,hy,hj,by show x ∈ thL ((o.rw y).getD j lp0); rw [e]; exact hx⟩
 unfold allTh at hx
 simp only [List.mem_append] at hx
 rcases hx with ((((hx | hx) | hx) | hx) | hx) | hx
 ·exact key 0 (by omega) hx
 ·exact key 1 (by omega) hx
 ·exact key 2 (by omega) hx
 ·exact key 3 (by omega) hx
 ·exact key 4 (by omega) hx
 ·exact key 5 (by omega) hx
theorem no_self (h:OsInv o N) (hK:K<6) (hi:i<(o.rw K).length):(⟨((K+1:Nat):Int),(i:Int)⟩:Idd) ∉ thL ((tO o).L K i):=by
 intro hm
 obtain ⟨k,k1,k2,k3,_⟩:=h.row K hK i hi
 obtain ⟨m,hm,e⟩:=mem_thL.1 hm
 have hm2:m<((o.rw K).getD i lp0).nt:=hm
 obtain ⟨j,j1,j2⟩:=good_need k3 (i:=m) (by omega)
 unfold needI at j2
 rw [if_pos hm2] at j2
 have:j = k:=md_inj h (by omega) k1 (j2.trans (e.trans k2.symm))
 omega
theorem kC_nd2 (h:(allTh o.rw).Nodup):(kC (tO o) 6).Nodup:=by
 rw [(kC_eq o).nodup_iff]
 unfold List.Nodup
 rw [List.pairwise_map]
 exact List.Pairwise.imp (fun hab hk=>hab (ky_inj hk)) h
theorem tgY_nd2 (h:allB (tgY (tO o)) 6 = true):(allTh o.rw).Nodup:=by
 have h1:=tg_nd (tO o) 6 ((allB_iff _ _).1 h)
 rw [(kC_eq o).nodup_iff] at h1
 unfold List.Nodup at h1
 rw [List.pairwise_map] at h1
 exact List.Pairwise.imp (fun hab hk=>hab (by rw [hk])) h1
theorem ordC_ok {t:Tbl}:∀ {k:Nat},ordC t k = k->∀ j,j<k->oOk t j = true
 | 0,_,j,hj=>by omega
 | k+1,h,j,hj=>by
  simp only [ordC] at h
  have h1:=ordC_le t k
  cases hc:(ordC t k==k&&oOk t k) with
  | false=>rw [hc,cond_false] at h; omega
  | true =>
   rw [Bool.and_eq_true,beq_iff_eq] at hc
   by_cases q:j = k
   ·subst q; exact hc.2
   ·exact ordC_ok hc.1 j (by omega)
theorem ord_self (t:Tbl) (h6:t.h = 6) (hK:K<6) (hi:i<t.ln K) (hs:∃ k,k<(t.L K i).nt+(t.L K i).np/\needI (t.L K i) k = ⟨((K+1:Nat):Int),(i:Int)⟩):ordN t<t.sum t.h:=by
 have h1:∀ k,oM t k K<=i:=by
  intro k
  induction k with
  | zero=>exact Nat.zero_le _
  | succ k ih =>
   simp only [oM]
   cases hp:pick t (oM t k) with
   | none=>exact ih
   | some y =>
    dsimp only
    by_cases q:y = K
    ·subst q
     rw [inc_at]
     obtain ⟨_,hr⟩:=pick_lt hp
     unfold rdy at hr
     rw [Bool.and_eq_true,allB_iff] at hr
     by_cases q2:oM t k y = i
     ·obtain ⟨m,hm,e⟩:=hs
      have:=hr.2 m (by unfold nN; rw [q2]; exact hm)
      rw [q2,e] at this
      unfold thr cM at this
      simp only [decide_eq_true_eq] at this
      rw [show (((y+1:Nat):Int) - 1).toNat = y by omega,q2] at this
      omega
     ·omega
    ·rw [inc_ne _ (fun h=>q h.symm)]; exact ih
 have h2:=ordC_le t (t.sum t.h)
 rcases Nat.lt_or_ge (ordN t) (t.sum t.h) with q | q
 ·exact q
 ·have h3:=ordC_ok (t:=t) (k:=t.sum t.h) (by unfold ordN at q; omega)
  have h4:∀ k,k<=t.sum t.h->sumM (oM t k) = k:=by
   intro k
   induction k with
   | zero=>intro _; rfl
   | succ k ih =>
    intro hk
    have h5:=h3 k (by omega)
    unfold oOk at h5
    obtain ⟨y,hp⟩:=Option.isSome_iff_exists.1 h5
    simp only [oM]
    rw [hp]
    dsimp only
    rw [sumM_inc _ (by rw [← h6]; exact (pick_lt hp).1),ih (by omega)]
  have h5:=h4 _ (Nat.le_refl _)
  have h6':t.sum t.h = t.ln 0+t.ln 1+t.ln 2+t.ln 3+t.ln 4+t.ln 5:=by rw [h6]; simp only [Tbl.sum]; omega
  have hle:=fun y hy=>oM_ok t (t.sum t.h) y hy
  have hK2:=h1 (t.sum t.h)
  have g0:=hle 0 (by omega)
  have g1:=hle 1 (by omega)
  have g2:=hle 2 (by omega)
  have g3:=hle 3 (by omega)
  have g4:=hle 4 (by omega)
  have g5:=hle 5 (by omega)
  unfold sumM at h5
  generalize t.sum t.h = S at *
  obtain rfl | rfl | rfl | rfl | rfl | rfl:K = 0 ∨ K = 1 ∨ K = 2 ∨ K = 3 ∨ K = 4 ∨ K = 5:=by omega
  all_goals omega
theorem chk_6 (h:OsInv o N) (hN:N<=60) (hK:K<6) (hi:i<(o.rw K).length) (hr:rgt (tO o) l = true) (hw:i = 0->l.w = true) (hnd:(allTh (setO o K i l).rw).Nodup) (hs:∃ k,k<l.nt+l.np/\needI l k = ⟨((K+1:Nat):Int),(i:Int)⟩):chkE (tO (setO o K i l)) = 6:=by
 have e1:=set_ckY (l:=l) h hi hr hw
 have e2:allB (tgY (tO (setO o K i l))) (tO (setO o K i l)).h = true:=tg_of (kC_nd2 hnd)
 have e3:ordN (tO (setO o K i l))<(tO (setO o K i l)).sum (tO (setO o K i l)).h:=ord_self _ rfl hK (by rw [set_ln]; exact hi) (by rw [set_L hi,if_pos ⟨rfl,rfl⟩]; exact hs)
 unfold chkE
 rw [if_neg (show ¬ ((tO (setO o K i l)).h ≠ 6) from fun q=>q rfl),e1,e2,cond_true,cond_true,if_pos e3,set_sum h,if_neg (by omega)]
theorem chk_8 (h:OsInv o N) (hN:N<=60) (hi:i<(o.rw K).length) (hr:rgt (tO o) l = true) (hw:i = 0->l.w = true) (hnd:¬ (allTh (setO o K i l).rw).Nodup):chkE (tO (setO o K i l)) = 8:=by
 have e1:=set_ckY (l:=l) h hi hr hw
 have e2:allB (tgY (tO (setO o K i l))) (tO (setO o K i l)).h = false:=by
  cases hc:allB (tgY (tO (setO o K i l))) (tO (setO o K i l)).h with
  | false=>rfl
  | true=>exact absurd (tgY_nd2 hc) hnd
 unfold chkE
 rw [if_neg (show ¬ ((tO (setO o K i l)).h ≠ 6) from fun q=>q rfl),e1,e2,cond_true,cond_false,set_sum h,if_neg (by omega)]
theorem self_has (h:OsInv o N) (hK:K<6) (hi:i<(o.rw K).length):(tO o).has ⟨((K+1:Nat):Int),(i:Int)⟩ = true:=by
 obtain ⟨k,k1,k2,_⟩:=h.row K hK i hi
 rw [← k2]; exact md_has h k1
theorem nd_le {x:List Idd} (h:∀ a,x.count a<=1):x.Nodup:=List.nodup_iff_count.2 h
variable (h:OsInv o N) (hN:N<=60) (hK:K<6) (hi:i<(o.rw K).length)
include h hN hK hi
theorem way0:chkE (tO (setO o K i (lzT ((tO o).L K i) ⟨((K+1:Nat):Int),((o.rw K).length:Int)⟩))) = 1:=by
 refine chk_1 h hN hK hi ?_
 cases hc:rgt (tO o) (lzT ((tO o).L K i) ⟨((K+1:Nat):Int),((o.rw K).length:Int)⟩) with
 | false=>rfl
 | true =>
  have h1:=((rgt_iff _ _).1 hc).2.2.2.1 0 (show 0<1 by omega)
  have h2:(tO o).has ⟨((K+1:Nat):Int),((o.rw K).length:Int)⟩ = true:=h1
  unfold Tbl.has at h2
  simp only [Bool.and_eq_true,decide_eq_true_eq] at h2
  rw [show (((K+1:Nat):Int) - 1).toNat = K by omega] at h2
  have:((o.rw K).length:Int)<(((o.rw K).length:Nat):Int):=h2.2
  omega
theorem way3 (a:Idd):chkE (tO (setO o K i (lzQ ((tO o).L K i) a))) = 1:=by
 refine chk_1 h hN hK hi ?_
 cases hc:rgt (tO o) (lzQ ((tO o).L K i) a) with
 | false=>rfl
 | true =>
  have h1:(pshM (lzQ ((tO o).L K i) a).ps 2).1 = 2:=((rgt_iff _ _).1 hc).2.2.2.2.2
  have h2:(pshM (lzQ ((tO o).L K i) a).ps 2).1 = 0:=by
   have e1:pshM (lzQ ((tO o).L K i) a).ps 1 = (1,fun e=>if e = 0 then (lzQ ((tO o).L K i) a).ps 0 else ⟨0,0,false,0⟩):=by simp [pshM]; rfl
   have e2:pshM (lzQ ((tO o).L K i) a).ps 2 = (0,fun e=>if e = 0 then (lzQ ((tO o).L K i) a).ps 0 else ⟨0,0,false,0⟩):=by
    rw [show pshM (lzQ ((tO o).L K i) a).ps 2 = if (decide (0<(pshM (lzQ ((tO o).L K i) a).ps 1).1)&&cnc ((pshM (lzQ ((tO o).L K i) a).ps 1).2 ((pshM (lzQ ((tO o).L K i) a).ps 1).1 - 1)) ((lzQ ((tO o).L K i) a).ps 1)) = true then ((pshM (lzQ ((tO o).L K i) a).ps 1).1 - 1,(pshM (lzQ ((tO o).L K i) a).ps 1).2) else ((pshM (lzQ ((tO o).L K i) a).ps 1).1+1,fun e=>if e = (pshM (lzQ ((tO o).L K i) a).ps 1).1 then (lzQ ((tO o).L K i) a).ps 1 else (pshM (lzQ ((tO o).L K i) a).ps 1).2 e) from rfl,e1]
    simp [cnc,lzQ]
   rw [e2]
  omega
theorem way4:chkE (tO (setO o K i (lzB ((tO o).L K i)))) = 1:=by
 refine chk_1 h hN hK hi ?_
 cases hc:rgt (tO o) (lzB ((tO o).L K i)) with
 | false=>rfl
 | true =>
  have h1:=((rgt_iff _ _).1 hc).1
  have h2:(2:Int) = 0 ∨ (2:Int) = 1:=h1
  omega
theorem way2:chkE (tO (setO o K i (lzP ((tO o).L K i) ⟨((K+1:Nat):Int),(i:Int)⟩))) = 6:=by
 obtain ⟨g1,g2⟩:=row_rgt h hK hi
 obtain ⟨r1,r2,r3,r4,r5,r6⟩:=(rgt_iff _ _).1 g1
 refine chk_6 h hN hK hi ((rgt_iff _ _).2 ⟨r1,r2,show 1<=4096 by omega,r4,fun j hj=>⟨self_has h hK hi,.inl rfl⟩,?_⟩) g2 ?_ ⟨((tO o).L K i).nt,show _<((tO o).L K i).nt+1 by omega,?_⟩
 ·show (pshM _ 1).1 = 1
  simp [pshM]
 ·refine nd_le fun x=>?_
  have c:=allTh_set (l:=lzP ((tO o).L K i) ⟨((K+1:Nat):Int),(i:Int)⟩) hK hi x
  have e:thL (lzP ((tO o).L K i) ⟨((K+1:Nat):Int),(i:Int)⟩) = thL ((tO o).L K i):=rfl
  have:=List.nodup_iff_count.1 (all_nd h) x
  rw [e] at c
  omega
 ·unfold needI
  rw [if_neg (by show ¬ ((tO o).L K i).nt<((tO o).L K i).nt; omega)]
  rfl
theorem way1:chkE (tO (setO o K i (lzT ((tO o).L K i) ⟨((K+1:Nat):Int),(i:Int)⟩))) = if (⟨((K+1:Nat):Int),(i:Int)⟩:Idd) ∈ allTh o.rw then 8 else 6:=by
 obtain ⟨g1,g2⟩:=row_rgt h hK hi
 obtain ⟨r1,r2,r3,r4,r5,r6⟩:=(rgt_iff _ _).1 g1
 have hr:rgt (tO o) (lzT ((tO o).L K i) ⟨((K+1:Nat):Int),(i:Int)⟩) = true:=(rgt_iff _ _).2 ⟨r1,show 1<=4 by omega,r3,fun j hj=>self_has h hK hi,r5,r6⟩
 have hns:=List.count_eq_zero.2 (no_self h hK hi)
 have e:thL (lzT ((tO o).L K i) ⟨((K+1:Nat):Int),(i:Int)⟩) = [⟨((K+1:Nat):Int),(i:Int)⟩]:=rfl
 split
 ·rename_i hm
  refine chk_8 h hN hi hr g2 fun hnd=>?_
  have c:=allTh_set (l:=lzT ((tO o).L K i) ⟨((K+1:Nat):Int),(i:Int)⟩) hK hi ⟨((K+1:Nat):Int),(i:Int)⟩
  have c1:=List.nodup_iff_count.1 hnd ⟨((K+1:Nat):Int),(i:Int)⟩
  have c2:=List.one_le_count_iff.2 hm
  rw [e,List.count_singleton_self] at c
  omega
 ·rename_i hm
  refine chk_6 h hN hK hi hr g2 (nd_le fun x=>?_) ⟨0,show 0<1+_ by omega,rfl⟩
  have c:=allTh_set (l:=lzT ((tO o).L K i) ⟨((K+1:Nat):Int),(i:Int)⟩) hK hi x
  have c1:=List.nodup_iff_count.1 (all_nd h) x
  have c2:=List.count_eq_zero.2 hm
  rw [e] at c
  by_cases q:x = ⟨((K+1:Nat):Int),(i:Int)⟩
  ·subst q
   rw [List.count_singleton_self] at c
   omega
  ·rw [List.count_singleton,if_neg (by simpa using fun hh=>q hh.symm)] at c
   omega
end
open Go.Proofs
theorem w1_4 {a0 a1:Int} {vr:Nat->Nat} {rw:Nat->List Lpp} {vf vm:Nat} {fr md:List Idd}:W4 [3,5,6] [rg4 a0 a1,.own 0 0 0 6 (some 6),.own 2 vm 0 md.length none] (h8 vr rw vf fr vm md) [rg4 a0 a1,tX,idL md] (h7 vr rw):=fun nt=>by
 have e:resolve 4 [0,3,4,5,6,7,8] (h8 vr rw vf fr vm md) (.own 2 vm 0 md.length none) = idL md:=by
  have e:resolve 4 [0,3,4,5,6,7,8] (h8 vr rw vf fr vm md) (.own 2 vm 0 md.length none) = (bif (true&&(vm==vm&&Nat.ble (0+md.length) md.length)) then T.view 2 md.length (fun j=>(md.getD (0+j) id0).c) none else .undef):=rfl
  rw [e,beq_self_eq_true,bleT (show 0+md.length<=md.length by omega)]
  simp only [Bool.and_self,cond_true,Nat.zero_add]
  rfl
 refine WeakTo.canonS [0,3,4,5,6,7,8] rfl ?_ rfl (.cons ⟨rfl,rfl,rfl,id,six rfl rfl rfl rfl rfl rfl⟩ (sbRs .nil))
 show [rg4 a0 a1,tX,resolve 4 [0,3,4,5,6,7,8] (h8 vr rw vf fr vm md) (.own 2 vm 0 md.length none)] = _
 rw [e]
def ln4 (rw:Nat->List Lpp):Nat->Nat:=fun e=>(rw e).length
def L4 (rw:Nat->List Lpp):Nat->Nat->Lpp:=fun e j=>(rw e).getD j lp0
theorem w2_4 {a0 a1:Int} {g:Nat->Idd} {N:Nat} {vr:Nat->Nat} {rw:Nat->List Lpp} {K i:Nat} (hK6:K<6):W4 [3,5,6,7] [rg4 a0 a1,tX,idV g N none,id4 K i] (h7 vr rw) [rg4 a0 a1,tX,idV g N none,id4 K i] (hK (ln4 rw) (L4 rw) K (vr K)):=fun nt=>by
 have rr:∀ (σ:List Nat) (e:Nat),e<6->σ.contains (1+e) = false->posOf σ (1+e) = none->[lpV (L4 rw e) (ln4 rw e) none] = [ren0 σ (h7 vr rw) (.own (1+e) (vr e) 0 (rw e).length none)]:=fun σ e he hc hp=>by
  simp only [ren0,hp]
  refine congrArg (fun x=>[x]) (resR (d:=2) (ex:=σ) (h:=h7 vr rw) (i:=1+e) ?_ hc).symm
  obtain rfl | rfl | rfl | rfl | rfl | rfl:=six6 e he
  all_goals rfl
 obtain rfl | rfl | rfl | rfl | rfl | rfl:=six6 K hK6
 ·exact WeakTo.canonS [0,1] rfl rfl rfl (.cons ⟨rfl,rfl,rfl,id,six rfl (rr _ 1 (by omega) rfl rfl) (rr _ 2 (by omega) rfl rfl) (rr _ 3 (by omega) rfl rfl) (rr _ 4 (by omega) rfl rfl) (rr _ 5 (by omega) rfl rfl)⟩ (sbR .nil))
 ·exact WeakTo.canonS [0,2] rfl rfl rfl (.cons ⟨rfl,rfl,rfl,id,six (rr _ 0 (by omega) rfl rfl) rfl (rr _ 2 (by omega) rfl rfl) (rr _ 3 (by omega) rfl rfl) (rr _ 4 (by omega) rfl rfl) (rr _ 5 (by omega) rfl rfl)⟩ (sbR .nil))
 ·exact WeakTo.canonS [0,3] rfl rfl rfl (.cons ⟨rfl,rfl,rfl,id,six (rr _ 0 (by omega) rfl rfl) (rr _ 1 (by omega) rfl rfl) rfl (rr _ 3 (by omega) rfl rfl) (rr _ 4 (by omega) rfl rfl) (rr _ 5 (by omega) rfl rfl)⟩ (sbR .nil))
 ·exact WeakTo.canonS [0,4] rfl rfl rfl (.cons ⟨rfl,rfl,rfl,id,six (rr _ 0 (by omega) rfl rfl) (rr _ 1 (by omega) rfl rfl) (rr _ 2 (by omega) rfl rfl) rfl (rr _ 4 (by omega) rfl rfl) (rr _ 5 (by omega) rfl rfl)⟩ (sbR .nil))
 ·exact WeakTo.canonS [0,5] rfl rfl rfl (.cons ⟨rfl,rfl,rfl,id,six (rr _ 0 (by omega) rfl rfl) (rr _ 1 (by omega) rfl rfl) (rr _ 2 (by omega) rfl rfl) (rr _ 3 (by omega) rfl rfl) rfl (rr _ 5 (by omega) rfl rfl)⟩ (sbR .nil))
 ·exact WeakTo.canonS [0,6] rfl rfl rfl (.cons ⟨rfl,rfl,rfl,id,six (rr _ 0 (by omega) rfl rfl) (rr _ 1 (by omega) rfl rfl) (rr _ 2 (by omega) rfl rfl) (rr _ 3 (by omega) rfl rfl) (rr _ 4 (by omega) rfl rfl) rfl⟩ (sbR .nil))
theorem fin4 {ln:Nat->Nat} {L L2:Nat->Nat->Lpp} {K v:Nat} {row:Nat->List T} {bs:Heap} {z:Int} (hr:∀ j,j<ln K->Sims ((row j).map (resolve 3 [0] (rH4 ln L K v row bs))) (L2 K j).c) (hL:∀ e,e ≠ K->∀ j,L2 e j = L e j) :
 W4 [5,9] [tX,.int .i64 z] (rH4 ln L K v row bs) [tX,.int .i64 z] [tbV ⟨6,ln,L2⟩]:=fun nt=>by
 refine .trans (.canon [0] rfl) (.simAll rfl (fun i x y h1 h2=>?_) (.cons ⟨rfl,rfl,rfl⟩ (fun h=>by cases h) (fun e he=>.cons ?_ .nil) .nil))
 ·have:y = x:=Option.some.inj (h2.symm.trans h1)
  subst this
  exact .refl _
 ·show SimI (ren0 [0] (rH4 ln L K v row bs) (bif e==K then .own 1 v 0 (ln K) none else lpV (L e) (ln e) none)) (lpV (L2 e) (ln e) none)
  by_cases q:e = K
  ·subst q
   rw [beq_self_eq_true,cond_true]
   have ee:ren0 [0] (rH4 ln L e v row bs) (.own 1 v 0 (ln e) none) = (bif (true&&(v==v&&Nat.ble (0+ln e) (ln e))) then T.view 4 (ln e) (fun j=>(row (0+j)).map (resolve 3 [0] (rH4 ln L e v row bs))) none else .undef):=rfl
   rw [ee,beq_self_eq_true,bleT (show 0+ln e<=ln e by omega)]
   refine .inr ⟨rfl,.view (.inr rfl) fun j hj=>?_,rfl⟩
   rw [Nat.zero_add]
   exact hr j hj
  ·rw [show (e==K) = false by simpa using q,cond_false]
   refine .inr ⟨rfl,.view (.inr rfl) fun j hj=>?_,rfl⟩
   rw [hL e q j]
   exact .refl _
theorem row4 {L L2:Nat->Nat->Lpp} {K i:Nat} {b:Int} {x y:T} {H:Heap} {th:Nat->Idd} {nt:Nat} {ps:Nat->Pss} {np:Nat} (hx:Sim (resolve 3 [0] H x) (idV th nt none)) (hy:Sim (resolve 3 [0] H y) (psV ps np none))
 (h1:L2 K i = ⟨b,(L K i).w,th,nt,ps,np⟩) (h2:∀ j,j ≠ i->L2 K j = L K j) (j:Nat):Sims ((rwT L K i b x y j).map (resolve 3 [0] H)) (L2 K j).c:=by
 unfold rwT
 by_cases q:j = i
 ·subst q
  rw [h1,beq_self_eq_true]
  exact .cons (.refl _) (.cons (.refl _) (.cons hx (.cons hy .nil)))
 ·rw [h2 j q,show (j==i) = false by simpa using q]
  exact .refl _
theorem sim_own {H:Heap} {sz n:Nat} {l:List (List T)} {g:Nat->List T} (hb:H[2]? = some ⟨0,sz,n,fun j=>l.getD j [],true,true,none⟩) (hg:∀ j,j<n->l.getD j [] = g j):Sim (resolve 3 [0] H (.own 2 0 0 n (some n))) (.view sz n g none):=by
 have e:resolve 3 [0] H (.own 2 0 0 n (some n)) = .view sz n (fun j=>l.getD (0+j) []) (some n):=by
  simp only [resolve,hb]
  show (bif (true&&(true&&Nat.ble (0+n) n)) then _ else _) = _
  rw [bleT (show 0+n<=n by omega)]
  rfl
 rw [e]
 refine .view (.inr rfl) fun j hj=>?_
 rw [Nat.zero_add,hg j hj]
 exact .refl _
section
variable {o:Os} {N:Nat} {K i:Nat} (a0 a1:Int) (g:Nat->Idd) (v:Nat)
theorem hL2_4 (hi:i<(o.rw K).length) (l2:Lpp):∀ e,e ≠ K->∀ j,(tO (setO o K i l2)).L e j = L4 o.rw e j:=fun e he j=>by rw [set_L hi,if_neg (fun q=>he q.1)]; rfl
theorem hLi_4 (hi:i<(o.rw K).length) (l2:Lpp):(tO (setO o K i l2)).L K i = l2:=by rw [set_L hi,if_pos ⟨rfl,rfl⟩]
theorem hLj_4 (hi:i<(o.rw K).length) (l2:Lpp):∀ j,j ≠ i->(tO (setO o K i l2)).L K j = L4 o.rw K j:=fun j hj=>by rw [set_L hi,if_neg (fun q=>hj q.2)]; rfl
theorem vv4:(v==v&&true) = true:=by simp
theorem ib4 (hi:i<(o.rw K).length):(i.blt (ln4 o.rw K)&&true&&true&&true) = true:=by rw [bltT (show i<ln4 o.rw K from hi)]; rfl
variable (hK6:K<6) (hi:i<(o.rw K).length)
include hK6 hi
theorem sw0:P4 (2 :: S4) [3,5,6,7,8,9,41] (in4 a0 a1 g N K v i 0) (hK (ln4 o.rw) (L4 o.rw) K v) .normal [5,9] [tX,.int .i64 1] [tbV ⟨6,ln4 o.rw,(tO (setO o K i (lzT ((tO o).L K i) ⟨((K+1:Nat):Int),((o.rw K).length:Int)⟩))).L⟩]:=by
 refine Pz.post (run4 none_ok ((z0 (ln4 o.rw) (L4 o.rw) g N K v i a0 a1 hK6).trans (bift (vv4 v) (bift (vv4 v) (bift (vv4 v) (bift (vv4 v) (bift (ib4 hi) rfl))))))) (fin4 (fun j _=>row4 (sim_own rfl fun j hj=>?_) (.refl _) (hLi_4 hi _) (hLj_4 hi _) j) (hL2_4 hi _))
 obtain rfl:j = 0:=by omega
 rfl
theorem sw2:P4 (2 :: S4) [3,5,6,7,8,9,41] (in4 a0 a1 g N K v i 2) (hK (ln4 o.rw) (L4 o.rw) K v) .normal [5,9] [tX,.int .i64 6] [tbV ⟨6,ln4 o.rw,(tO (setO o K i (lzP ((tO o).L K i) ⟨((K+1:Nat):Int),(i:Int)⟩))).L⟩]:=by
 refine Pz.post (run4 none_ok ((z2 (ln4 o.rw) (L4 o.rw) g N K v i a0 a1 hK6).trans (bift (vv4 v) (bift (vv4 v) (bift (vv4 v) (bift (ib4 hi) rfl)))))) (fin4 (fun j _=>row4 (.refl _) (sim_own rfl fun j hj=>?_) (hLi_4 hi _) (hLj_4 hi _) j) (hL2_4 hi _))
 obtain rfl:j = 0:=by omega
 rfl
theorem sw3 (hN:0<N):P4 (2 :: S4) [3,5,6,7,8,9,41] (in4 a0 a1 g N K v i 3) (hK (ln4 o.rw) (L4 o.rw) K v) .normal [5,9] [tX,.int .i64 1] [tbV ⟨6,ln4 o.rw,(tO (setO o K i (lzQ ((tO o).L K i) (g 0)))).L⟩]:=by
 have hd:decide ((0:Int)<Int.ofNat N) = true:=by rw [decide_eq_true_eq]; show (0:Int)<(N:Int); omega
 refine Pz.post (run4 none_ok ((z3 (ln4 o.rw) (L4 o.rw) g N K v i a0 a1 hK6).trans (bift hd (bift hd (bift (vv4 v) (bift (vv4 v) (bift (vv4 v) (bift (ib4 hi) rfl)))))))) (fin4 (fun j _=>row4 (.refl _) (sim_own rfl fun j hj=>?_) (hLi_4 hi _) (hLj_4 hi _) j) (hL2_4 hi _))
 obtain rfl | rfl:j = 0 ∨ j = 1:=by omega
 ·rfl
 ·rfl
theorem sw4:P4 (2 :: S4) [3,5,6,7,8,9,41] (in4 a0 a1 g N K v i 4) (hK (ln4 o.rw) (L4 o.rw) K v) .normal [5,9] [tX,.int .i64 1] [tbV ⟨6,ln4 o.rw,(tO (setO o K i (lzB ((tO o).L K i)))).L⟩] :=
 Pz.post (run4 none_ok ((z4 (ln4 o.rw) (L4 o.rw) g N K v i a0 a1 hK6).trans (bift (vv4 v) (bift (vv4 v) (bift (vv4 v) (bift (ib4 hi) rfl)))))) (fin4 (fun j _=>row4 (.refl _) (.refl _) (hLi_4 hi _) (hLj_4 hi _) j) (hL2_4 hi _))
omit hi in
theorem hsim4:Sims [resolveArg (hK (ln4 o.rw) (L4 o.rw) K v) tX,.agg [.int .u8 ((K:Int)+1),.int .i64 (Int.ofNat i)]] [(tO o).v,.agg (⟨((K+1:Nat):Int),(i:Int)⟩:Idd).c]:=by
 refine .cons (.view (.inr rfl) fun e he=>?_) (.cons (.refl _) .nil)
 show Sims (List.map (resolve 3 [] (hK (ln4 o.rw) (L4 o.rw) K v)) [bif 0+e==K then .own 1 v 0 (ln4 o.rw K) none else lpV (L4 o.rw (0+e)) (ln4 o.rw (0+e)) none]) [lpV (L4 o.rw e) (ln4 o.rw e) none]
 rw [Nat.zero_add]
 by_cases q:e = K
 ·subst q
  rw [beq_self_eq_true,cond_true]
  have ee:resolve 3 [] (hK (ln4 o.rw) (L4 o.rw) e v) (.own 1 v 0 (ln4 o.rw e) none) = (bif (true&&(v==v&&Nat.ble (0+ln4 o.rw e) (ln4 o.rw e))) then T.view 4 (ln4 o.rw e) (fun j=>(L4 o.rw e (0+j)).c) none else .undef):=rfl
  rw [List.map_cons,ee,beq_self_eq_true,bleT (show 0+ln4 o.rw e<=ln4 o.rw e by omega)]
  refine .cons (.view (.inr rfl) fun j _=>?_) .nil
  rw [Nat.zero_add]; exact .refl _
 ·rw [show (e==K) = false by simpa using q,cond_false]
  exact .refl _
theorem sw1 (h:OsInv o N) (hN:N<=60):P4 (2 :: S4) [3,5,6,7,8,9,41] (in4 a0 a1 g N K v i 1) (hK (ln4 o.rw) (L4 o.rw) K v) .normal [5,9] [tX,.int .i64 (if (⟨((K+1:Nat):Int),(i:Int)⟩:Idd) ∈ allTh o.rw then 8 else 6)] [tbV ⟨6,ln4 o.rw,(tO (setO o K i (lzT ((tO o).L K i) ⟨((K+1:Nat):Int),(i:Int)⟩))).L⟩]:=by
 obtain ⟨p14,hp14⟩:=is_val P05 G05 14
 have t14:=aboveT (tO o) (tO_ok h hN) ⟨((K+1:Nat):Int),(i:Int)⟩ (show 6<=255 by omega)
 have hab:allB (abY (tO o) ⟨((K+1:Nat):Int),(i:Int)⟩) (tO o).h = true ↔ ¬ (⟨((K+1:Nat):Int),(i:Int)⟩:Idd) ∈ allTh o.rw:=by
  rw [allB_iff]
  constructor
  ·intro hh hmem
   obtain ⟨y,j,hy,hj,hx⟩:=of_all hmem
   have:=(allB_iff _ _).1 (hh y hy) j hj
   unfold abI at this
   rw [cnt_mem.2 hx] at this
   cases this
  ·intro hh y hy
   refine (allB_iff _ _).2 fun j hj=>?_
   unfold abI
   cases hc:cnt ((tO o).L y j).th ((tO o).L y j).nt ⟨((K+1:Nat):Int),(i:Int)⟩ with
   | false=>rfl
   | true=>exact absurd (mem_all hy hj (cnt_mem.1 hc)) hh
 have sb:∀ j:Nat,j<1->([[T.int .u8 ((K:Int)+1),.int .i64 (Int.ofNat i)]]:List (List T)).getD j [] = (⟨((K+1:Nat):Int),(i:Int)⟩:Idd).c:=fun j hj=>by
  obtain rfl:j = 0:=by omega
  rfl
 cases hc:allB (abY (tO o) ⟨((K+1:Nat):Int),(i:Int)⟩) (tO o).h with
 | true =>
  rw [if_neg (hab.1 hc)]
  have t:=(t14.1 hc).sim (hsim4 (i:=i) v hK6)
  exact Pz.post (run4 (told_add none_ok (callF_told hp14)) ((z1f (ln4 o.rw) (L4 o.rw) g N K v i a0 a1 hK6 p14 ⟨0,0⟩).trans (bift (yes5 hp14 t) (bift (vv4 v) (bift (vv4 v) (bift (vv4 v) (bift (ib4 hi) rfl))))))) (fin4 (fun j _=>row4 (sim_own rfl sb) (.refl _) (hLi_4 hi _) (hLj_4 hi _) j) (hL2_4 hi _))
 | false =>
  have hmem:(⟨((K+1:Nat):Int),(i:Int)⟩:Idd) ∈ allTh o.rw:=Classical.byContradiction fun q=>by rw [hab.2 q] at hc; cases hc
  rw [if_pos hmem]
  obtain ⟨y,j,hy,hj,hcn,t⟩:=t14.2 hc
  have t:=t.sim (hsim4 (i:=i) v hK6)
  have hne:¬ (y = K/\j = i):=by
   rintro ⟨rfl,rfl⟩
   exact no_self h hK6 hi (cnt_mem.1 hcn)
  refine Pz.post (run4 (told_add none_ok (callF_told hp14)) (v1:=[tX,.int .i64 8]) (h1:=rH4 (ln4 o.rw) (L4 o.rw) K v (rwT (L4 o.rw) K i (L4 o.rw K i).b (.own 2 0 0 1 (some 1)) (psV (L4 o.rw K i).ps (L4 o.rw K i).np none)) (bl1 K i)) ((z1t (ln4 o.rw) (L4 o.rw) g N K v i a0 a1 hK6 p14 ⟨(y:Int)+1,j⟩).trans (bift (yes5 hp14 t) (bift (vv4 v) (bift (vv4 v) (bift (vv4 v) (bift (ib4 hi) ?_))))))) (fin4 (fun j _=>row4 (sim_own rfl sb) (.refl _) (hLi_4 hi _) (hLj_4 hi _) j) (hL2_4 hi _))
  by_cases qy:y = K
  ·refine bift (by rw [decide_eq_true_eq]; dsimp only; omega) (biff (by rw [decide_eq_true_eq]; show ¬ (j:Int) = (i:Int); omega) rfl)
  ·exact biff (by rw [decide_eq_true_eq]; dsimp only; omega) rfl
end
theorem law4T (X:Nat->Ll) (n:Nat) (hX:∀ i,(X i).Ok) (a0 a1:Int) (h0:0<=a0/\a0<256) (h1:0<=a1/\a1<256):ToldOk P05 G05 4 [llV X n none,.agg [.int .u8 a0,.int .u8 a1]] (.bool true):=by
 obtain ⟨vr,vm,vf,t8⟩:=ofR (n:=n) hX
 have hN:min n 60<=60:=Nat.min_le_right _ _
 generalize min n 60 = N at t8 hN
 have h:=os_inv X N
 generalize oS X N = o at t8 h
 have hm:=h.len
 obtain ⟨p8,hp8⟩:=is_ref P05 G05 8
 obtain ⟨p13,hp13⟩:=is_val P05 G05 13
 obtain ⟨p10,hp10⟩:=is_val P05 G05 10
 obtain ⟨p14,hp14⟩:=is_val P05 G05 14
 have q0:P4 [1] [0,1] [llV X n none,.agg [.int .u8 a0,.int .u8 a1]] [] .normal [0,3] [llV X n none,rg4 a0 a1] []:=run4 none_ok (r0z a0 a1 X n)
 have q1:P4 [1,2] [0,3] [llV X n none,rg4 a0 a1] [] .normal [3,5,6] [rg4 a0 a1,tX,idL o.md] (h7 vr o.rw) :=
  Pz.post (run4 (told_addRef none_ok (refF_told hp8)) ((r1z a0 a1 X n vr o.rw vf o.fr vm o.md p8).trans (bift (refF_yes hp8 t8) rfl))) w1_4
 have eI:idL o.md = idV (fun j=>o.md.getD j id0) N none:=by rw [← hm]; rfl
 rw [eI] at q1
 by_cases hN2:N<2
 ·have q2:P4 [1,2,2] [3,5,6] [rg4 a0 a1,tX,idV (fun j=>o.md.getD j id0) N none] (h7 vr o.rw) .ret [4,3,5,6] [.bool true,rg4 a0 a1,tX,idV (fun j=>o.md.getD j id0) N none] (h7 vr o.rw) :=
   run4 (told_add none_ok (callF_told hp13)) ((r2z _ N a0 a1 vr o.rw p13).trans (bift (by rw [decide_eq_true_eq]; show (N:Int)<2; omega) (bift (yes5 hp13 livesT) rfl)))
  exact Pz.told hn05 Try.func4 (by kernel_rfl) (by kernel_rfl) rfl (Pz.seq (by kernel_rfl) q0 (Pz.seq (by kernel_rfl) q1 (Pz.seqX (by kernel_rfl) (by simp) q2))) (by kernel_rfl)
 ·have q2:P4 [1,2,2] [3,5,6] [rg4 a0 a1,tX,idV (fun j=>o.md.getD j id0) N none] (h7 vr o.rw) .normal [3,5,6] [rg4 a0 a1,tX,idV (fun j=>o.md.getD j id0) N none] (h7 vr o.rw) :=
   Pz.only (run4 (told_add none_ok (callF_told hp13)) ((r2z _ N a0 a1 vr o.rw p13).trans (biff (by rw [decide_eq_true_eq]; show ¬ (N:Int)<2; omega) rfl))) rfl
  have hidx:a0.toNat % N<N:=Nat.mod_lt _ (by omega)
  have eidx:(IntKind.i64.wrap a0).tmod (Int.ofNat N) = Int.ofNat (a0.toNat % N):=by
   rw [wr64 (by omega) (by omega)]; exact tmodN h0.1 N
  obtain ⟨K,i,hK6,hi,emd,_⟩:=md_id h hidx
  have q4:P4 [1,2,2,2] [3,5,6] [rg4 a0 a1,tX,idV (fun j=>o.md.getD j id0) N none] (h7 vr o.rw) .normal [3,5,6,7] [rg4 a0 a1,tX,idV (fun j=>o.md.getD j id0) N none,id4 K i] (hK (ln4 o.rw) (L4 o.rw) K (vr K)):=by
   refine Pz.post (run4 none_ok (v1:=[rg4 a0 a1,tX,idV (fun j=>o.md.getD j id0) N none,id4 K i]) (h1:=h7 vr o.rw) ((r4z _ N a0 a1 vr o.rw).trans ?_)) (w2_4 hK6)
   rw [eidx]
   refine biff (by rw [decide_eq_true_eq]; show ¬ (N:Int) = 0; omega) (bift (by simp only [Bool.and_eq_true,decide_eq_true_eq]; show (0:Int)<=((a0.toNat % N:Nat):Int)/\((a0.toNat % N:Nat):Int)<(N:Int); omega) ?_)
   rw [show (Int.ofNat (a0.toNat % N)).toNat = a0.toNat % N from rfl,emd]
   rfl
  have vv:(vr K==vr K&&true) = true:=by simp
  have hil:i<ln4 o.rw K:=hi
  have ib:(i.blt (ln4 o.rw K)&&true&&true&&true) = true:=by rw [bltT hil]; rfl
  have q5:P4 [1,2,2,2,2] [3,5,6,7] [rg4 a0 a1,tX,idV (fun j=>o.md.getD j id0) N none,id4 K i] (hK (ln4 o.rw) (L4 o.rw) K (vr K)) .normal [3,5,6,7,8] [rg4 a0 a1,tX,idV (fun j=>o.md.getD j id0) N none,id4 K i,.ptr 1 (vr K) i 0] (hK (ln4 o.rw) (L4 o.rw) K (vr K)):=by
   refine run4 none_ok ((r5z (ln4 o.rw) (L4 o.rw) (fun j=>o.md.getD j id0) N K (vr K) i a0 a1 hK6).trans (bift vv (bift (by simp only [Bool.and_eq_true,decide_eq_true_eq]; show (0:Int)<=(i:Int)/\(i:Int)<((ln4 o.rw K:Nat):Int); omega) ?_)))
   rw [Nat.zero_add]
  have q6:P4 [1,2,2,2,2,2] [3,5,6,7,8] [rg4 a0 a1,tX,idV (fun j=>o.md.getD j id0) N none,id4 K i,.ptr 1 (vr K) i 0] (hK (ln4 o.rw) (L4 o.rw) K (vr K)) .normal [3,5,6,7,8,9] [rg4 a0 a1,tX,idV (fun j=>o.md.getD j id0) N none,id4 K i,.ptr 1 (vr K) i 0,.int .i64 1] (hK (ln4 o.rw) (L4 o.rw) K (vr K)) :=
   run4 none_ok (r6z (ln4 o.rw) (L4 o.rw) (fun j=>o.md.getD j id0) N K (vr K) i a0 a1 hK6)
  have ez:a1.tmod 5 = Int.ofNat (a1.toNat % 5):=tmodN h1.1 5
  have q7:P4 (1 :: S4) [3,5,6,7,8,9] [rg4 a0 a1,tX,idV (fun j=>o.md.getD j id0) N none,id4 K i,.ptr 1 (vr K) i 0,.int .i64 1] (hK (ln4 o.rw) (L4 o.rw) K (vr K)) .normal [3,5,6,7,8,9,41] (in4 a0 a1 (fun j=>o.md.getD j id0) N K (vr K) i (Int.ofNat (a1.toNat % 5))) (hK (ln4 o.rw) (L4 o.rw) K (vr K)):=by
   rw [← ez]
   exact run4 none_ok (z7 (ln4 o.rw) (L4 o.rw) (fun j=>o.md.getD j id0) N K (vr K) i a0 a1 hK6)
  have hold:((tO o).L K i).Ok:=(tO_ok h hN).L K i
  have hself:(⟨((K+1:Nat):Int),(i:Int)⟩:Idd).Ok:=by rw [← emd]; exact md_ok h hN hidx
  have rest:∀ (want:Int) (l2:Lpp),l2.Ok->chkE (tO (setO o K i l2)) = want->P4 (2 :: S4) [3,5,6,7,8,9,41] (in4 a0 a1 (fun j=>o.md.getD j id0) N K (vr K) i (Int.ofNat (a1.toNat % 5))) (hK (ln4 o.rw) (L4 o.rw) K (vr K)) .normal [5,9] [tX,.int .i64 want] [tbV ⟨6,ln4 o.rw,(tO (setO o K i l2)).L⟩] →
   ToldOk P05 G05 4 [llV X n none,.agg [.int .u8 a0,.int .u8 a1]] (.bool true):=by
   intro want l2 hl2 hc sw
   have ok:=set_ok (l:=l2) h hN hi hl2
   have e:tO (setO o K i l2) = ⟨6,ln4 o.rw,(tO (setO o K i l2)).L⟩:=by
    have:(tO (setO o K i l2)).ln = ln4 o.rw:=funext fun e=>set_ln e
    rw [← this]; rfl
   have t10:=CheckT _ ok
   rw [hc,e] at t10
   have t10:ToldOk P05 G05 10 [resolveArg [tbV ⟨6,ln4 o.rw,(tO (setO o K i l2)).L⟩] tX] (.int .i64 want):=t10.sim (.cons (.view (.inr rfl) fun j _=>by
    show Sims [lpV ((tO (setO o K i l2)).L (0+j)) (ln4 o.rw (0+j)) none] [lpV ((tO (setO o K i l2)).L j) (ln4 o.rw j) none]
    rw [Nat.zero_add]; exact .refl _) .nil)
   have q22:P4 [2,2,2,2,2,2,2] [5,9] [tX,.int .i64 want] [tbV ⟨6,ln4 o.rw,(tO (setO o K i l2)).L⟩] .ret [4] [.bool true] [tbV ⟨6,ln4 o.rw,(tO (setO o K i l2)).L⟩] :=
    run4 (told_add (told_add none_ok (callF_told hp13)) (callF_told hp10)) ((r22z (ln4 o.rw) (tO (setO o K i l2)).L want want p13 p10).trans (bift (yes5 hp10 t10) (bift (by simp) (bift (yes5 hp13 livesT) rfl))))
   exact Pz.told hn05 Try.func4 (by kernel_rfl) (by kernel_rfl) rfl (Pz.seq (by kernel_rfl) q0 (Pz.seq (by kernel_rfl) q1 (Pz.seq (by kernel_rfl) q2 (Pz.seq (by kernel_rfl) q4 (Pz.seq (by kernel_rfl) q5 (Pz.seq (by kernel_rfl) q6
    (Pz.seq (by kernel_rfl) (Pz.seq (by kernel_rfl) q7 sw) q22))))))) (by kernel_rfl)
  have hz5:a1.toNat % 5<5:=Nat.mod_lt _ (by omega)
  generalize a1.toNat % 5 = z at q7 rest hz5
  have hrl:=row_len h K
  have c0:=way0 h hN hK6 hi
  have c1:=way1 h hN hK6 hi
  have c2:=way2 h hN hK6 hi
  have c3:=way3 h hN hK6 hi (o.md.getD 0 id0)
  have c4:=way4 h hN hK6 hi
  have hself0:(⟨((K+1:Nat):Int),((o.rw K).length:Int)⟩:Idd).Ok:=⟨⟨by dsimp only; omega,by dsimp only; omega⟩,by dsimp only; omega,by dsimp only; omega⟩
  have o0:(lzT ((tO o).L K i) ⟨((K+1:Nat):Int),((o.rw K).length:Int)⟩).Ok:=⟨hold.b,fun _=>hself0,hold.ps,by show 1<=_; omega,hold.np⟩
  have o1:(lzT ((tO o).L K i) ⟨((K+1:Nat):Int),(i:Int)⟩).Ok:=⟨hold.b,fun _=>hself,hold.ps,by show 1<=_; omega,hold.np⟩
  have o2:(lzP ((tO o).L K i) ⟨((K+1:Nat):Int),(i:Int)⟩).Ok:=⟨hold.b,hold.th,fun _=>⟨hself,(show (0:Int)<=0/\(0:Int)<256 by decide)⟩,hold.nt,by show 1<=_; omega⟩
  have o3:(lzQ ((tO o).L K i) (o.md.getD 0 id0)).Ok:=⟨hold.b,hold.th,fun j=>⟨md_ok h hN (by omega),by dsimp only [lzQ]; split <;> omega⟩,hold.nt,by show 2<=_; omega⟩
  have o4:(lzB ((tO o).L K i)).Ok:=⟨(show (0:Int)<=2/\(2:Int)<256 by decide),hold.th,hold.ps,hold.nt,hold.np⟩
  obtain rfl | rfl | rfl | rfl | rfl:z = 0 ∨ z = 1 ∨ z = 2 ∨ z = 3 ∨ z = 4:=by omega
  ·exact rest 1 _ o0 c0 (sw0 a0 a1 _ (vr K) hK6 hi)
  ·exact rest _ _ o1 c1 (sw1 a0 a1 _ (vr K) hK6 hi h hN)
  ·exact rest 6 _ o2 c2 (sw2 a0 a1 _ (vr K) hK6 hi)
  ·exact rest 1 _ o3 c3 (sw3 a0 a1 (fun j=>o.md.getD j id0) (vr K) hK6 hi (by omega))
  ·exact rest 1 _ o4 c4 (sw4 a0 a1 _ (vr K) hK6 hi)
open Go.Proofs
section
variable {Hp:Type}
theorem agg23_05:aggTy P05 23 = false:=by kernel_rfl
theorem cells5_05:P05.cellsOf 5 = 1:=by kernel_rfl
theorem cells66_05:P05.cellsOf 66 = 5:=by kernel_rfl
def cI5 (l:List T):Int:=match l with | [.int _ z]=>z | _=>0
theorem inv5_05 {ts:List T} {d:DataW Hp} (h:CT P05 5 ts d):∃ a:Int,ts = [.int .u8 a]/\0<=a/\a<256:=by
 obtain ⟨a,rfl,rfl,w⟩:=h.int_inv Try.underlying5
 have w:=wf_u8 w
 exact ⟨a,rfl,by omega,by omega⟩
theorem row05 {ts:List T} {d:DataW Hp} (h:CT P05 64 ts d):∃ (r:Nat->Int) (n:Nat),(∀ j,0<=r j/\r j<256)/\∃ x,ts = [x]/\Sim x (u8V r n none):=by
 rcases h.slice_inv Try.underlying64 (by rw [cells5_05]; omega) with ⟨rfl,rfl⟩ | ⟨n,c,g,elems,spare,rfl,rfl,he,hs,hn,hc,hg⟩
 ·exact ⟨fun _=>0,0,fun _=>⟨Int.le_refl 0,(by decide:(0:Int)<256)⟩,_,rfl,.nilv _ _ (.inl rfl)⟩
 ·have key:∀ j,j<n->∃ a:Int,g j = [.int .u8 a]/\0<=a/\a<256:=fun j hj=>inv5_05 (hg j elems[j] (by simp [show j<elems.length by omega]))
  refine ⟨fun j=>if j<n then cI5 (g j) else 0,n,fun j=>?_,_,rfl,?_⟩
  ·dsimp only
   split
   ·rename_i hj
    obtain ⟨a,q,q1,q2⟩:=key j hj
    rw [q]
    exact ⟨q1,q2⟩
   ·omega
  ·rw [cells5_05]
   refine .view (.inr rfl) fun j hj=>?_
   obtain ⟨a,q,_⟩:=key j hj
   show Sims (g j) [.int .u8 (if j<n then cI5 (g j) else 0)]
   rw [if_pos hj,q]
   exact .refl _
def ll0:Ll:=⟨0,false,false,fun _=>0,0,fun _=>0,0⟩
theorem ll0_ok:ll0.Ok:=⟨⟨Int.le_refl 0,show (0:Int)<256 by decide⟩,fun _=>⟨Int.le_refl 0,show (0:Int)<256 by decide⟩,fun _=>⟨Int.le_refl 0,show (0:Int)<256 by decide⟩⟩
theorem ll05 {ts:List T} {d:DataW Hp} (h:CT P05 66 ts d):∃ l:Ll,l.Ok/\Sims ts l.c:=by
 obtain ⟨parts,ds,rfl,rfl,hs⟩:=CT.struct_inv Try.underlying66 h; clear h; rename _=>h
 change CTs P05 [5,4,4,64,64] parts ds at h
 obtain ⟨p1,_,d1,_,rfl,rfl,h1,h⟩:=h.cons
 obtain ⟨p2,_,d2,_,rfl,rfl,h2,h⟩:=h.cons
 obtain ⟨p3,_,d3,_,rfl,rfl,h3,h⟩:=h.cons
 obtain ⟨p4,_,d4,_,rfl,rfl,h4,h⟩:=h.cons
 obtain ⟨p5,_,d5,_,rfl,rfl,h5,h⟩:=h.cons
 obtain ⟨rfl,rfl⟩:=h.nil
 obtain ⟨y,rfl,y1⟩:=inv5_05 h1
 obtain ⟨b,rfl,_⟩:=h2.bool_inv Try.underlying4
 obtain ⟨w,rfl,_⟩:=h3.bool_inv Try.underlying4
 obtain ⟨th,nt,t1,x,rfl,t2⟩:=row05 h4
 obtain ⟨ps,np,s1,z,rfl,s2⟩:=row05 h5
 exact ⟨⟨y,b,w,th,nt,ps,np⟩,⟨y1,t1,s1⟩,.cons (.refl _) (.cons (.refl _) (.cons (.refl _) (.cons t2 (.cons s2 .nil))))⟩
theorem inv23_05 {ts:List T} {d:DataW Hp} (h:CT P05 23 ts d):∃ (X:Nat->Ll) (n:Nat),(∀ i,(X i).Ok)/\Sim (topT P05 23 ts) (llV X n none):=by
 rcases h.slice_inv Try.underlying23 (by rw [cells66_05]; omega) with ⟨rfl,rfl⟩ | ⟨n,c,g,elems,spare,rfl,rfl,he,hs,hn,hc,hg⟩
 ·exact ⟨fun _=>ll0,0,fun _=>ll0_ok,by rw [show topT P05 23 [T.nils] = T.nils by simp [topT,agg23_05]]; exact .nilv _ _ (.inl rfl)⟩
 ·have key:∀ j,∃ l:Ll,l.Ok/\(j<n->Sims (g j) l.c):=fun j=>by
   by_cases hj:j<n
   ·obtain ⟨l,h1,h2⟩:=ll05 (hg j elems[j] (by simp [show j<elems.length by omega]))
    exact ⟨l,h1,fun _=>h2⟩
   ·exact ⟨ll0,ll0_ok,fun h=>absurd h hj⟩
  refine ⟨fun j=>(key j).choose,n,fun i=>(key i).choose_spec.1,?_⟩
  rw [show topT P05 23 [T.view (P05.cellsOf 66) n g (some c)] = T.view (P05.cellsOf 66) n g (some c) by simp [topT,agg23_05],cells66_05]
  exact .view (.inr rfl) fun j hj=>(key j).choose_spec.2 hj
theorem agg41_05:aggTy P05 41 = true:=by kernel_rfl
theorem inv41_05 {ts:List T} {d:DataW Hp} (h:CT P05 41 ts d):∃ a b:Int,(0<=a/\a<256)/\(0<=b/\b<256)/\topT P05 41 ts = .agg [.int .u8 a,.int .u8 b]:=by
 obtain ⟨parts,ds,rfl,_,h⟩:=CT.array_inv Try.underlying41 h
 change CTs P05 [5,5] parts ds at h
 obtain ⟨p1,_,d1,_,rfl,rfl,h1,h⟩:=h.cons
 obtain ⟨p2,_,d2,_,rfl,rfl,h2,h⟩:=h.cons
 obtain ⟨rfl,rfl⟩:=h.nil
 obtain ⟨a,rfl,a1⟩:=inv5_05 h1
 obtain ⟨b,rfl,b1⟩:=inv5_05 h2
 exact ⟨a,b,a1,b1,by simp [topT,agg41_05]⟩
end
end Go.Ab

