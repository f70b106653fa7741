/- A part of the proof: nothing is assumed. -/
import Derived.Test.YtkmijhnagbjbkaaP7
import Derived.Test.YtkmijhnagbjbkaaP12
import Derived.Test.YtkmijhnagbjbkaaP11
import Derived.Test.YtkmijhnagbjbkaaP9
import Derived.Test.YtkmijhnagbjbkaaP4
set_option linter.all false
namespace Go.Ab
open Go.Proofs
theorem k34 (t:Tbl) (c:Option Nat):stepR P05 G05 A05 noneO 0 34 [] [.view 1 t.h (fun y=>[lpV (t.L y) (t.ln y) none]) c] [] =
(
 bif decide (0<=Int.ofNat t.h)&&decide (Int.ofNat t.h<=Int.ofNat t.h)&&decide (Int.ofNat t.h * 24<=140737488355328)&&decide (Int.ofNat t.h<=9223372036854775807) then
 bif ((0:Nat)+t.h).ble t.h then
 some ((.own 0 0 0 t.h (some t.h),[.mk 0 1 t.h (fun j =>
 bif Nat.ble 0 j&&j.blt (0+t.h.min t.h) then [lpV (t.L (j - 0)) (t.ln (j - 0))
 none]
 else [.nils]) false false
 none]))
 else none else
 none):=by kernel_rfl
theorem k35 (g:Nat->Lpp) (n:Nat) (c:Option Nat):stepR P05 G05 A05 noneO 0 35 [] [lpV g n c] [] =
(
 bif decide (0<=Int.ofNat n)&&decide (Int.ofNat n<=Int.ofNat n)&&decide (Int.ofNat n * 56<=140737488355328)&&decide (Int.ofNat n<=9223372036854775807) then
 bif ((0:Nat)+n).ble n then
 some ((.own 0 0 0 n (some n),[.mk 0 4 n (fun j =>
 bif Nat.ble 0 j&&j.blt (0+n.min n) then (g (j - (0:Nat))).c
 else [.int .u8 0,.bool false,.nils,.nils]) false false
 none]))
 else none else
 none):=by kernel_rfl
theorem k19 (z:Nat):stepR P05 G05 A05 noneO 0 19 [] [] [] =
(
 some ((.own 0 0 0 6 (some 6),[.mk 0 1 6 (fun x=>[.nils]) false false
 none]))):=by kernel_rfl
theorem copyTblT (t:Tbl) (ht:t.Ok) (c:Option Nat):ToldOk P05 G05 34 [.view 1 t.h (fun y=>[lpV (t.L y) (t.ln y) none]) c] (.fresh false 1 t.h (fun y=>[lpV (t.L y) (t.ln y) none]) t.h (some t.h)):=by
 have hth:=ht.h
 clear ht
 refine told_row hm05 hn05 none_ok (K:=noneO) (A:=A05) (m:=0) (tab:=false) (by kernel_rfl) loops0 (g:=fun j=>bif Nat.ble 0 j&&Nat.blt j (0+Nat.min t.h t.h) then [lpV (t.L (j - 0)) (t.ln (j - 0)) none] else [.nils]) (fun k hk=>by obtain rfl:=Option.some.inj hk; omega) (fun j hj=>⟨?_,rfl⟩) ?_
 ·show (bif Nat.ble 0 j&&Nat.blt j (0+Nat.min t.h t.h) then [lpV (t.L (j - 0)) (t.ln (j - 0)) none] else [.nils]) = _
  rw [bleT (Nat.zero_le _),show Nat.min t.h t.h = t.h from Nat.min_self _,Nat.zero_add,bltT hj]
  rfl
 ·rw [k34]
  exact BT (BT rfl)
theorem copyRowT (g:Nat->Lpp) (n:Nat) (c:Option Nat) (hn:n<=1000000):ToldOk P05 G05 35 [lpV g n c] (.fresh false 4 n (fun j=>(g j).c) n (some n)):=by
 refine told_row hm05 hn05 none_ok (K:=noneO) (A:=A05) (m:=0) (tab:=false) (by kernel_rfl) loops0 (g:=fun j=>bif Nat.ble 0 j&&Nat.blt j (0+Nat.min n n) then (g (j - 0)).c else [.int .u8 0,.bool false,.nils,.nils]) (fun k hk=>by obtain rfl:=Option.some.inj hk; omega) (fun j hj=>⟨?_,rfl⟩) ?_
 ·show (bif Nat.ble 0 j&&Nat.blt j (0+Nat.min n n) then (g (j - 0)).c else [.int .u8 0,.bool false,.nils,.nils]) = _
  rw [bleT (Nat.zero_le _),show Nat.min n n = n from Nat.min_self _,Nat.zero_add,bltT hj]
  rfl
 ·rw [k35]
  exact BT (BT rfl)
theorem emptyT:ToldOk P05 G05 19 [] (.fresh false 1 6 (fun _=>[.nils]) 6 (some 6)) :=
 told_row hm05 hn05 none_ok (K:=noneO) (A:=A05) (m:=0) (tab:=false) (by kernel_rfl) loops0 (g:=fun _=>[.nils]) (fun k hk=>by obtain rfl:=Option.some.inj hk; omega) (fun _ _=>⟨rfl,rfl⟩) (k19 0)
open Go.Proofs
section
variable {ln:Nat->Nat} {L:Nat->Nat->Lpp} {l:Lpp} {K:Nat}
def tbV5 (ln:Nat->Nat) (L:Nat->Nat->Lpp):Blk:=⟨0,1,6,fun e=>[lpV (L e) (ln e) none],false,false,none⟩
theorem fin20:W20 [6,7] [r6,.int .i64 0] (g1 ln L K l [rB5 (lnA ln K) (LA ln L K l) 6]) [t6,.int .i64 0] (h05 l ++ [tbV5 (lnA ln K) (LA ln L K l)]):=fun nt =>
 WeakTo.canonS [0,1,4] rfl rfl rfl (.cons ⟨rfl,rfl,rfl,id,fun _ _=>rfl⟩ (.cons ⟨rfl,rfl,rfl,id,fun _ _=>rfl⟩ (.cons ⟨rfl,rfl,rfl,id,fun e he=>by
  show [lpV (LA ln L K l e) (lnA ln K e) none] = [ren0 [0,1,4] (g1 ln L K l [rB5 (lnA ln K) (LA ln L K l) 6]) (bif e.blt 6 then lpV (LA ln L K l e) (lnA ln K e) none else .nils)]
  rw [bltT (show e<6 from he)]; rfl⟩ .nil)))
theorem addR (hl:l.Ok) (ht:Tbl.Ok ⟨6,ln,L⟩) (ht':(tA5 ln L K l).Ok) (hK:K<6) (hln:∀ y,ln y<=1000) (hc:chkE ⟨6,ln,L⟩ = 0) (hc':chkE (tA5 ln L K l) = 0) :
 ToldRef P05 G05 20 [Tbl.v ⟨6,ln,L⟩,.int .u8 ((K:Int)+1),.agg (lo5 l)] (h05 l) (.tup [t6,.int .i64 0]) (h05 l ++ [tbV5 (lnA ln K) (LA ln L K l)]):=by
 obtain ⟨p10,h10⟩:=is_val P05 G05 10
 obtain ⟨p34,h34⟩:=is_val P05 G05 34
 obtain ⟨p35,h35⟩:=is_val P05 G05 35
 have hL:∀ y i,(L y i).Ok:=ht.L
 have t10:=CheckT _ ht
 rw [hc] at t10
 have t10':=(CheckT _ ht').sim (longer_sim (ln:=ln) (L:=L) (l:=l) (K:=K))
 rw [hc'] at t10'
 have t34:=copyTblT ⟨6,ln,L⟩ ht none
 have t35:=(copyRowT (L K) (ln K) none (by have:=hln K; omega)).frz
 have k1:¬ (decide ((K:Int)+1<1) = true):=by rw [decide_eq_true_eq]; omega
 have k2:¬ (decide (6<(K:Int)+1) = true):=by rw [decide_eq_true_eq]; omega
 have k3:((ln K).blt (ln K+1)&&((ln K+1) * 57).ble 70368744177664) = true:=by
  rw [bltT (show ln K<ln K+1 by omega),bleT (show (ln K+1) * 57<=70368744177664 by have:=hln K; omega)]; rfl
 have q0:P20 l [1] [0,1,2] [Tbl.v ⟨6,ln,L⟩,.int .u8 ((K:Int)+1),.agg (lo5 l)] (h05 l) .normal [0,1,5] [Tbl.v ⟨6,ln,L⟩,.int .u8 ((K:Int)+1),.reg (lo5 l)] (h05 l):=run20 none_ok (c0 ln L l _)
 have q1:P20 l [1,2] [0,1,5] [Tbl.v ⟨6,ln,L⟩,.int .u8 ((K:Int)+1),.reg (lo5 l)] (h05 l) .normal [0,1,5] [Tbl.v ⟨6,ln,L⟩,.int .u8 ((K:Int)+1),.reg (lo5 l)] (h05 l):=run20 (told_add none_ok (callF_told h10)) ((c1 ln L l p10 _).trans (bift (yes5 h10 t10) rfl))
 have q2:P20 l [1,2,2] [0,1,5] [Tbl.v ⟨6,ln,L⟩,.int .u8 ((K:Int)+1),.reg (lo5 l)] (h05 l) .normal [0,1,5] [Tbl.v ⟨6,ln,L⟩,.int .u8 ((K:Int)+1),.reg (lo5 l)] (h05 l):=run20 none_ok ((c2 ln L l _).trans (biff k1 (biff k2 rfl)))
 have q3:P20 l [1,2,2,2] [0,1,5] [Tbl.v ⟨6,ln,L⟩,.int .u8 ((K:Int)+1),.reg (lo5 l)] (h05 l) .normal [0,1,5,9] [Tbl.v ⟨6,ln,L⟩,.int .u8 ((K:Int)+1),.reg (lo5 l),t6] (h05 l ++ [tbA ⟨6,ln,L⟩]):=run20 (told_add none_ok (callF_told h34)) ((c3 ln L l p34 _).trans (bift (yes5 h34 t34) rfl))
 have q4:P20 l [1,2,2,2,2] [0,1,5,9] [Tbl.v ⟨6,ln,L⟩,.int .u8 ((K:Int)+1),.reg (lo5 l),t6] (h05 l ++ [tbA ⟨6,ln,L⟩]) .normal [9] [t6] (g1 ln L K l []) :=
  Pz.post (run20 (told_addRef (told_add none_ok (callF_told h35)) (fun _ _ _ _ h=>by cases h)) ((c4 ln L l K p35 hK).trans (bift (yes5 h35 t35) (bift k3 rfl)))) w4_20
 have q5:P20 l [1,2,2,2,2,2] [9] [t6] (g1 ln L K l []) .normal [9] [t6] (g1 ln L K l []):=run20 (told_add none_ok (callF_told h10)) ((c5 ln L l K p10).trans (bift (yes5 h10 t10') rfl))
 have q6:P20 l [1,2,2,2,2,2,2] [9] [t6] (g1 ln L K l []) .normal [9,11] [t6,r6] (g1 ln L K l [rB5 (lnA ln K) (LA ln L K l) 0]) :=
  Pz.post (run20 none_ok (c6 ln L l K)) fun nt=>.same (.cons ⟨rfl,rfl,rfl,id,fun _ _=>rfl⟩ (.cons ⟨rfl,rfl,rfl,id,fun _ _=>rfl⟩ (.cons ⟨rfl,rfl,rfl,id,fun _ _=>rfl⟩ (.cons ⟨rfl,rfl,rfl,id,fun _ _=>rfl⟩ (.cons ⟨rfl,rfl,rfl,id,fun e _=>by
   show [bif e.blt 0 then lpV (LA ln L K l e) (lnA ln K e) none else .nils] = [T.nils]
   rw [show e.blt 0 = false by rw [Bool.eq_false_iff]; intro h; have:=blt_lt h; omega]; rfl⟩ .nil)))))
 have q7:P20 l (1 :: Z20) [9,11] [t6,r6] (g1 ln L K l [rB5 (lnA ln K) (LA ln L K l) 0]) .normal [11,50,51,52] (u13 0) (g1 ln L K l [rB5 (lnA ln K) (LA ln L K l) 0]):=run20 none_ok (c7 ln L (lnA ln K) (LA ln L K l) l K 0)
 have hg:=Pz.count (P:=P05) (G:=G05) (A:=A05) (f:=20) (h0:=h05 l) (p:=0 :: 2 :: Z20) (l:=[11,50,51,52]) (l1:=[11,50,51,52]) (by kernel_rfl) (fun y=>u13 y) (fun y=>g1 ln L K l [rB5 (lnA ln K) (LA ln L K l) y]) (n:=6) (e:=.exit 0) (by simp) (fun y hy=>row5 hl hL hln hK hy)
  (Pz.seq (by kernel_rfl) (run20 none_ok ((c8 ln L (lnA ln K) (LA ln L K l) l K 6).trans (biff (by decide) rfl))) (Pz.seqX (by kernel_rfl) (by simp) (run20 none_ok (c9f ln L (lnA ln K) (LA ln L K l) l K 6))))
 have q8:P20 l (2 :: Z20) [11,50,51,52] (u13 0) (g1 ln L K l [rB5 (lnA ln K) (LA ln L K l) 0]) .normal [11] [r6] (g1 ln L K l [rB5 (lnA ln K) (LA ln L K l) 6]):=Pz.only (Pz.blk (id:=0) (e:=.exit 0) (by kernel_rfl) rfl hg) rfl
 have q9:P20 l [2,2,2,2,2,2,2,2] [11] [r6] (g1 ln L K l [rB5 (lnA ln K) (LA ln L K l) 6]) .ret [6,7] [t6,.int .i64 0] (h05 l ++ [tbV5 (lnA ln K) (LA ln L K l)]):=Pz.post (run20 none_ok (c22 ln L (lnA ln K) (LA ln L K l) l K)) fin20
 exact Pz.toldRef hn05 Try.func20 (by kernel_rfl) (by kernel_rfl) rfl (Pz.seq (by kernel_rfl) q0 (Pz.seq (by kernel_rfl) q1 (Pz.seq (by kernel_rfl) q2 (Pz.seq (by kernel_rfl) q3 (Pz.seq (by kernel_rfl) q4 (Pz.seq (by kernel_rfl) q5 (Pz.seq (by kernel_rfl) q6 (Pz.seq (by kernel_rfl) (Pz.seq (by kernel_rfl) q7 q8) q9)))))))) (by kernel_rfl)
end
open Go.Proofs
def d16 (t:Tbl) (y i:Nat) (l:Lpp) (k:Nat):List T:=[t.v,t.v,.int .i64 0,.int .i64 y,.int .i64 i,.reg l.c,.reg l.c,.int .i64 k]
def d10 (t:Tbl) (y i:Nat):List T:=[t.v,t.v,.int .i64 0,.int .i64 y,.int .i64 i]
def d5 (t:Tbl) (y:Nat):List T:=[t.v,t.v,.int .i64 0,.int .i64 y]
noncomputable def Kd5 (p:List T->T->Prop) (s:List UInt8):Orc:=noneO.add 17 (callF p fun _=>some (.str s))
noncomputable def ld10 (x:List T->Heap->Ex->List T->Heap->Prop) (t:Tbl) (y i:Nat):List (Nat × (List T->Heap->LT)):=[(16,loopF x (.ret (.exit 4) (d10 t y i) []))]
noncomputable def ld5 (x:List T->Heap->Ex->List T->Heap->Prop) (t:Tbl) (y:Nat):List (Nat × (List T->Heap->LT)):=[(10,loopF x (.ret (.exit 2) (d5 t y) []))]
noncomputable def ld0 (x:List T->Heap->Ex->List T->Heap->Prop):List (Nat × (List T->Heap->LT)):=[(5,loopF x (.ret (.exit 0) [.undef,.int .i64 0] []))]
theorem j16 (ln:Nat->Nat) (L:Nat->Nat->Lpp) (y i:Nat) (l:Lpp) (k:Nat):iterR P05 G05 A05 noneO 0 21 [] 16 (d16 ⟨6,ln,L⟩ y i l k) [] =
(
 bif decide (Int.ofNat k<Int.ofNat l.np) then
 bif decide (0<=Int.ofNat k)&&decide (Int.ofNat k<Int.ofNat l.np) then
 bif decide (0<=Int.ofNat k)&&decide (Int.ofNat k<Int.ofNat l.np) then
 bif decide ((l.ps k).y = (l.ps k).y) then
 bif decide ((l.ps k).n = (l.ps k).n) then
 bif
 bif (l.ps k).f then (l.ps k).f
 else !(l.ps k).f then
 bif decide ((l.ps k).d = (l.ps k).d) then
 some ((.normal,[.view 1 6 (fun y=>[lpV (L y) (ln y)
 none])
 none,.view 1 6 (fun y=>[lpV (L y) (ln y)
 none])
 none,.int .i64 0,.int .i64 (.ofNat y),.int .i64 (.ofNat i),.reg l.c,.reg l.c,.int .i64 (IntKind.i64.wrap (Int.ofNat k+1))],[]))
 else
 some ((.normal,[.view 1 6 (fun y=>[lpV (L y) (ln y)
 none])
 none,.view 1 6 (fun y=>[lpV (L y) (ln y)
 none])
 none,.int .i64 1,.int .i64 (.ofNat y),.int .i64 (.ofNat i),.reg l.c,.reg l.c,.int .i64 (IntKind.i64.wrap (Int.ofNat k+1))],[]))
 else
 some ((.normal,[.view 1 6 (fun y=>[lpV (L y) (ln y)
 none])
 none,.view 1 6 (fun y=>[lpV (L y) (ln y)
 none])
 none,.int .i64 1,.int .i64 (.ofNat y),.int .i64 (.ofNat i),.reg l.c,.reg l.c,.int .i64 (IntKind.i64.wrap (Int.ofNat k+1))],[]))
 else
 some ((.normal,[.view 1 6 (fun y=>[lpV (L y) (ln y)
 none])
 none,.view 1 6 (fun y=>[lpV (L y) (ln y)
 none])
 none,.int .i64 1,.int .i64 (.ofNat y),.int .i64 (.ofNat i),.reg l.c,.reg l.c,.int .i64 (IntKind.i64.wrap (Int.ofNat k+1))],[]))
 else
 some ((.normal,[.view 1 6 (fun y=>[lpV (L y) (ln y)
 none])
 none,.view 1 6 (fun y=>[lpV (L y) (ln y)
 none])
 none,.int .i64 1,.int .i64 (.ofNat y),.int .i64 (.ofNat i),.reg l.c,.reg l.c,.int .i64 (IntKind.i64.wrap (Int.ofNat k+1))],[]))
 else none else none else
 some ((.exit 4,[.view 1 6 (fun y=>[lpV (L y) (ln y)
 none])
 none,.view 1 6 (fun y=>[lpV (L y) (ln y)
 none])
 none,.int .i64 0,.int .i64 (.ofNat y),.int .i64 (.ofNat i)],[]))):=by kernel_rfl
theorem j10 (ln:Nat->Nat) (L:Nat->Nat->Lpp) (y i:Nat) (s:List UInt8) (p:List T->T->Prop) (x:List T->Heap->Ex->List T->Heap->Prop):iterR P05 G05 A05 (Kd5 p s) 0 21 (ld10 x ⟨6,ln,L⟩ y i) 10 (d10 ⟨6,ln,L⟩ y i) [] =
(
 bif decide (0<=Int.ofNat y)&&decide (Int.ofNat y<6) then
 bif decide (Int.ofNat i<Int.ofNat (ln y)) then
 bif decide (0<=Int.ofNat y)&&decide (Int.ofNat y<6) then
 bif decide (0<=Int.ofNat i)&&decide (Int.ofNat i<Int.ofNat (ln y)) then
 bif decide (0<=Int.ofNat y)&&decide (Int.ofNat y<6) then
 bif decide (0<=Int.ofNat i)&&decide (Int.ofNat i<Int.ofNat (ln y)) then
 bif !decide ((L y i).b = (L y i).b) then
 some ((.normal,[.view 1 6 (fun y=>[lpV (L y) (ln y)
 none])
 none,.view 1 6 (fun y=>[lpV (L y) (ln y)
 none])
 none,.int .i64 1,.int .i64 (.ofNat y),.int .i64 (IntKind.i64.wrap (Int.ofNat i+1))],[]))
 else
 bif (L y i).w then
 bif (L y i).w then
 bif decF (p [idV (L y i).th (L y i).nt
 none] (.str s)) then
 bif decF (p [idV (L y i).th (L y i).nt
 none] (.str s)) then
 bif !decide (s = s) then
 some ((.normal,[.view 1 6 (fun y=>[lpV (L y) (ln y)
 none])
 none,.view 1 6 (fun y=>[lpV (L y) (ln y)
 none])
 none,.int .i64 1,.int .i64 (.ofNat y),.int .i64 (IntKind.i64.wrap (Int.ofNat i+1))],[]))
 else
 bif !decide (Int.ofNat (L y i).np = Int.ofNat (L y i).np) then
 some ((.normal,[.view 1 6 (fun y=>[lpV (L y) (ln y)
 none])
 none,.view 1 6 (fun y=>[lpV (L y) (ln y)
 none])
 none,.int .i64 1,.int .i64 (.ofNat y),.int .i64 (IntKind.i64.wrap (Int.ofNat i+1))],[]))
 else
 bif decF (x [.view 1 6 (fun y=>[lpV (L y) (ln y)
 none])
 none,.view 1 6 (fun y=>[lpV (L y) (ln y)
 none])
 none,.int .i64 0,.int .i64 (.ofNat y),.int .i64 (.ofNat i),.reg (L y i).c,.reg (L y i).c,.int .i64 0] [] (.exit 4) [.view 1 6 (fun y=>[lpV (L y) (ln y)
 none])
 none,.view 1 6 (fun y=>[lpV (L y) (ln y)
 none])
 none,.int .i64 0,.int .i64 (.ofNat y),.int .i64 (.ofNat i)] []) then
 some ((.normal,[.view 1 6 (fun y=>[lpV (L y) (ln y)
 none])
 none,.view 1 6 (fun y=>[lpV (L y) (ln y)
 none])
 none,.int .i64 0,.int .i64 (.ofNat y),.int .i64 (IntKind.i64.wrap (Int.ofNat i+1))],[]))
 else none else none else none else
 some ((.normal,[.view 1 6 (fun y=>[lpV (L y) (ln y)
 none])
 none,.view 1 6 (fun y=>[lpV (L y) (ln y)
 none])
 none,.int .i64 1,.int .i64 (.ofNat y),.int .i64 (IntKind.i64.wrap (Int.ofNat i+1))],[]))
 else
 bif (L y i).w then
 some ((.normal,[.view 1 6 (fun y=>[lpV (L y) (ln y)
 none])
 none,.view 1 6 (fun y=>[lpV (L y) (ln y)
 none])
 none,.int .i64 1,.int .i64 (.ofNat y),.int .i64 (IntKind.i64.wrap (Int.ofNat i+1))],[]))
 else
 bif decF (p [idV (L y i).th (L y i).nt
 none] (.str s)) then
 bif decF (p [idV (L y i).th (L y i).nt
 none] (.str s)) then
 bif !decide (s = s) then
 some ((.normal,[.view 1 6 (fun y=>[lpV (L y) (ln y)
 none])
 none,.view 1 6 (fun y=>[lpV (L y) (ln y)
 none])
 none,.int .i64 1,.int .i64 (.ofNat y),.int .i64 (IntKind.i64.wrap (Int.ofNat i+1))],[]))
 else
 bif !decide (Int.ofNat (L y i).np = Int.ofNat (L y i).np) then
 some ((.normal,[.view 1 6 (fun y=>[lpV (L y) (ln y)
 none])
 none,.view 1 6 (fun y=>[lpV (L y) (ln y)
 none])
 none,.int .i64 1,.int .i64 (.ofNat y),.int .i64 (IntKind.i64.wrap (Int.ofNat i+1))],[]))
 else
 bif decF (x [.view 1 6 (fun y=>[lpV (L y) (ln y)
 none])
 none,.view 1 6 (fun y=>[lpV (L y) (ln y)
 none])
 none,.int .i64 0,.int .i64 (.ofNat y),.int .i64 (.ofNat i),.reg (L y i).c,.reg (L y i).c,.int .i64 0] [] (.exit 4) [.view 1 6 (fun y=>[lpV (L y) (ln y)
 none])
 none,.view 1 6 (fun y=>[lpV (L y) (ln y)
 none])
 none,.int .i64 0,.int .i64 (.ofNat y),.int .i64 (.ofNat i)] []) then
 some ((.normal,[.view 1 6 (fun y=>[lpV (L y) (ln y)
 none])
 none,.view 1 6 (fun y=>[lpV (L y) (ln y)
 none])
 none,.int .i64 0,.int .i64 (.ofNat y),.int .i64 (IntKind.i64.wrap (Int.ofNat i+1))],[]))
 else none else none else none else none else none else none else none else
 some ((.exit 2,[.view 1 6 (fun y=>[lpV (L y) (ln y)
 none])
 none,.view 1 6 (fun y=>[lpV (L y) (ln y)
 none])
 none,.int .i64 0,.int .i64 (.ofNat y)],[]))
 else
 none):=by kernel_rfl
theorem j5 (ln:Nat->Nat) (L:Nat->Nat->Lpp) (y:Nat) (x:List T->Heap->Ex->List T->Heap->Prop):iterR P05 G05 A05 noneO 0 21 (ld5 x ⟨6,ln,L⟩ y) 5 (d5 ⟨6,ln,L⟩ y) [] =
(
 bif decide (Int.ofNat y<6) then
 bif decide (0<=Int.ofNat y)&&decide (Int.ofNat y<6) then
 bif decide (0<=Int.ofNat y)&&decide (Int.ofNat y<6) then
 bif !decide (Int.ofNat (ln y) = Int.ofNat (ln y)) then
 some ((.ret,[.int .i64 (-1:Int),.int .i64 0],[]))
 else
 bif decF (x [.view 1 6 (fun y=>[lpV (L y) (ln y)
 none])
 none,.view 1 6 (fun y=>[lpV (L y) (ln y)
 none])
 none,.int .i64 0,.int .i64 (.ofNat y),.int .i64 0] [] (.exit 2) [.view 1 6 (fun y=>[lpV (L y) (ln y)
 none])
 none,.view 1 6 (fun y=>[lpV (L y) (ln y)
 none])
 none,.int .i64 0,.int .i64 (.ofNat y)] []) then
 some ((.normal,[.view 1 6 (fun y=>[lpV (L y) (ln y)
 none])
 none,.view 1 6 (fun y=>[lpV (L y) (ln y)
 none])
 none,.int .i64 0,.int .i64 (IntKind.i64.wrap (Int.ofNat y+1))],[]))
 else none else none else none else
 some ((.exit 0,[.undef,.int .i64 0],[]))):=by kernel_rfl
theorem j0 (ln:Nat->Nat) (L:Nat->Nat->Lpp) (x:List T->Heap->Ex->List T->Heap->Prop):stepL P05 G05 A05 noneO 0 21 (ld0 x) [Tbl.v ⟨6,ln,L⟩,Tbl.v ⟨6,ln,L⟩] =
(
 bif decF (x [.view 1 6 (fun y=>[lpV (L y) (ln y)
 none])
 none,.view 1 6 (fun y=>[lpV (L y) (ln y)
 none])
 none,.int .i64 0,.int .i64 0] [] (.exit 0) [.undef,.int .i64 0] []) then
 some (.int .i64 0)
 else
 none):=by kernel_rfl
open Go.Proofs
section
variable (ln:Nat->Nat) (L:Nat->Nat->Lpp) (hln:∀ y,ln y<=1000) (hnt:∀ y i,(L y i).nt<=1000) (hnp:∀ y i,(L y i).np<=1000)
theorem ld16 (y i:Nat) (l:Lpp) (hn:l.np<=1000):LoopOk P05 G05 (A05 21) 21 16 (litS (d16 ⟨6,ln,L⟩ y i l 0) [] (.exit 4) (d10 ⟨6,ln,L⟩ y i) []):=by
 refine loop_steps hm05 (by kernel_rfl) (fun k=>d16 ⟨6,ln,L⟩ y i l k) (fun _=>[]) (n:=l.np) (fun k hk=>?_)
  (Last.mk0 none_ok rfl rfl loops0 (by simp) (K:=noneO) (A:=A05) (m:=0) (l:=[]) ((j16 ln L y i l l.np).trans (biff (by simp) rfl)) (.refl _))
 have hk0:decide (Int.ofNat k<Int.ofNat l.np) = true:=by simpa using hk
 have hk1:(decide ((0:Int)<=Int.ofNat k)&&decide (Int.ofNat k<Int.ofNat l.np)) = true:=by simpa using hk
 have e:=j16 ln L y i l k
 rw [hk1,hk0,up1 (by omega)] at e
 refine Step.mk0 none_ok rfl rfl loops0 (K:=noneO) (A:=A05) (m:=0) (l:=[]) (e.trans ?_) (.refl _)
 exact bift rfl (bift rfl (bift rfl (bift (by simp) (bift (by simp) (bift (by cases (l.ps k).f <;> rfl) (bift (by simp) rfl))))))
include hln hnt hnp in
theorem ldI {y:Nat} (hy:y<6):LoopOk P05 G05 (A05 21) 21 10 (litS (d10 ⟨6,ln,L⟩ y 0) [] (.exit 2) (d5 ⟨6,ln,L⟩ y) []):=by
 obtain ⟨x,hx⟩:=is_loop P05 G05 (A05 21) 21 16
 obtain ⟨p,hp⟩:=is_val P05 G05 17
 have hy1:(decide ((0:Int)<=Int.ofNat y)&&decide (Int.ofNat y<6)) = true:=by
  simp only [Bool.and_eq_true,decide_eq_true_eq]; show (0:Int)<=(y:Int)/\(y:Int)<6; omega
 refine loop_steps hm05 (by kernel_rfl) (fun i=>d10 ⟨6,ln,L⟩ y i) (fun _=>[]) (n:=ln y) (fun i hi=>?_) ?_
 ·have hi0:decide (Int.ofNat i<Int.ofNat (ln y)) = true:=by simpa using hi
  have hi1:(decide ((0:Int)<=Int.ofNat i)&&decide (Int.ofNat i<Int.ofNat (ln y))) = true:=by simpa using hi
  have hl:=hln y
  have t17:=textT (L y i).th (L y i).nt (by have:=hnt y i; omega)
  have t16:=ld16 ln L y i (L y i) (hnp y i)
  have e:=j10 ln L y i (txt (L y i).th (L y i).nt) p x
  rw [hy1,hi1,hi0,up1 (by omega)] at e
  refine Step.mk0 (told_add none_ok (callF_told hp)) rfl rfl (loops1 (loopF_ok hx _)) (K:=Kd5 p (txt (L y i).th (L y i).nt)) (A:=A05) (m:=0) (l:=ld10 x ⟨6,ln,L⟩ y i) (e.trans ?_) (.refl _)
  have y17:=yes5 hp t17
  have y16:=loopF_yes hx t16
  cases (L y i).w with
  | true=>exact bift rfl (bift rfl (bift rfl (bift rfl (bift rfl (bift rfl (biff (by simp) (bift rfl (bift rfl (bift y17 (bift y17 (biff (by simp) (biff (by simp) (bift y16 rfl)))))))))))))
  | false=>exact bift rfl (bift rfl (bift rfl (bift rfl (bift rfl (bift rfl (biff (by simp) (biff Bool.false_ne_true (biff Bool.false_ne_true (bift y17 (bift y17 (biff (by simp) (biff (by simp) (bift y16 rfl)))))))))))))
 ·have e:=j10 ln L y (ln y) [] p x
  rw [hy1] at e
  refine Last.mk0 (told_add none_ok (callF_told hp)) rfl rfl (loops1 (loopF_ok hx _)) (by simp) (K:=Kd5 p []) (A:=A05) (m:=0) (l:=ld10 x ⟨6,ln,L⟩ y (ln y)) (e.trans ?_) (.refl _)
  exact bift rfl (biff (by simp) rfl)
include hln hnt hnp in
theorem differT5:ToldOk P05 G05 21 [Tbl.v ⟨6,ln,L⟩,Tbl.v ⟨6,ln,L⟩] (.int .i64 0):=by
 obtain ⟨x,hx⟩:=is_loop P05 G05 (A05 21) 21 10
 obtain ⟨z,hz⟩:=is_loop P05 G05 (A05 21) 21 5
 have t5:LoopOk P05 G05 (A05 21) 21 5 (litS (d5 ⟨6,ln,L⟩ 0) [] (.exit 0) [.undef,.int .i64 0] []):=by
  refine loop_steps hm05 (by kernel_rfl) (fun y=>d5 ⟨6,ln,L⟩ y) (fun _=>[]) (n:=6) (fun y hy=>?_)
   (Last.mk0 none_ok rfl rfl (loops1 (loopF_ok hx _)) (by simp) (K:=noneO) (A:=A05) (m:=0) (l:=ld5 x ⟨6,ln,L⟩ 6) ((j5 ln L 6 x).trans (biff (by decide) rfl)) (.refl _))
  have t10:=ldI ln L hln hnt hnp hy
  have hy0:decide (Int.ofNat y<6) = true:=by rw [decide_eq_true_eq]; show (y:Int)<6; omega
  have hy1:(decide ((0:Int)<=Int.ofNat y)&&decide (Int.ofNat y<6)) = true:=by
   simp only [Bool.and_eq_true,decide_eq_true_eq]; show (0:Int)<=(y:Int)/\(y:Int)<6; omega
  have e:=j5 ln L y x
  rw [hy1,hy0,up1 (by omega)] at e
  refine Step.mk0 none_ok rfl rfl (loops1 (loopF_ok hx _)) (K:=noneO) (A:=A05) (m:=0) (l:=ld5 x ⟨6,ln,L⟩ y) (e.trans ?_) (.refl _)
  exact bift rfl (bift rfl (bift rfl (biff (by simp) (bift (loopF_yes hx t10) rfl))))
 refine stepL_told hm05 hn05 none_ok (K:=noneO) (A:=A05) (m:=0) (by kernel_rfl) (l:=ld0 z) (loops1 (loopF_ok hz _)) ((j0 ln L z).trans ?_)
 exact bift (loopF_yes hz t5) rfl
end
open Go.Proofs
noncomputable def K7a (p:List T->T->Prop):Orc:=noneO.add 13 (callF p fun _=>some (.bool true))
noncomputable def K7b (p:List T->T->Prop) (t:Tbl) (g:Nat->Idd) (N:Nat):Orc:=noneO.add 8 (callF p fun _=>some (.tup [t.v,idV g N none]))
noncomputable def K7c (p:List T->T->Prop) (r:T):Orc:=noneO.add 19 (callF p fun _=>some r)
noncomputable def K7d (p:List T->T->Prop) (a b:Int):Orc:=noneO.add 11 (callF p fun l=>match l with | [.view _ _ _ (some _)]=>some (.int .i64 b) | _=>some (.int .i64 a))
noncomputable def K7e (p:List T->T->Prop) (l:Lpp):Orc:=noneO.add 16 (callF p fun _=>some (.tup [nlT l,.int .i64 0]))
noncomputable def K7f (p:List T->Heap->T->Heap->Prop) (h:Heap):Orc:=noneO.addRef 20 (refF p fun _ _=>some (.tup [t6,.int .i64 0],h))
noncomputable def K7g (p q:List T->T->Prop):Orc:=(noneO.add 13 (callF p fun _=>some (.bool true))).add 21 (callF q fun _=>some (.int .i64 0))
def tC5 (t:Tbl):T:=.view 1 t.h (fun y=>[lpV (t.L y) (t.ln y) none]) (some t.h)
def th7 (l:Lpp) (k:Nat):Blk:=⟨0,2,l.nt,fun j=>[.int .u8 (l.th j).y,.int .i64 (bif j.blt k then IntKind.i64.wrap ((l.th j).n+100) else (l.th j).n)],true,false,none⟩
def h7k (l:Lpp) (k:Nat):Heap:=[th7 l k,b64 l.ps l.np]
def f8 (ln:Nat->Nat) (L:Nat->Nat->Lpp) (g:Nat->Idd) (N:Nat) (u:Tbl) (i:Nat):List T:=[Tbl.v ⟨6,ln,L⟩,idV g N none,u.v,.int .i64 i]
def f17 (ln:Nat->Nat) (L:Nat->Nat->Lpp) (g:Nat->Idd) (N:Nat) (x:T) (i:Nat) (l:Lpp) (k:Nat):List T:=[Tbl.v ⟨6,ln,L⟩,idV g N none,.int .i64 i,.reg (lo5 l),x,.int .i64 k]
def B8':List Nat:=[0,0,2,1,2,2,2,2,2]
def X7':List Nat:=0 :: 1 :: 2 :: B8'
theorem k7b (X:Nat->Ll) (n:Nat) (p:List T->T->Prop):codeL P05 G05 A05 (K7a p) 0 7 [] (nav [1,2]) [0] [llV X n none] [] [2,0] =
(
 bif decide (25<Int.ofNat n) then
 bif decF (p [] (.bool true)) then
 some ((.ret,[.bool true,llV X n
 none],[]))
 else none else
 some ((.normal,[.undef,llV X n
 none],[]))):=by kernel_rfl
theorem k7c (ln:Nat->Nat) (L:Nat->Nat->Lpp) (g:Nat->Idd) (N:Nat) (X:Nat->Ll) (n:Nat) (p:List T->T->Prop):codeL P05 G05 A05 (K7b p ⟨6,ln,L⟩ g N) 0 7 [] (nav [1,2,2]) [0] [llV X n none] [] [3,4] =
(
 bif decF (p [llV X n
 none] (.tup [.view 1 6 (fun y=>[lpV (L y) (ln y)
 none])
 none,idV g N
 none])) then
 some ((.normal,[.view 1 6 (fun y=>[lpV (L y) (ln y)
 none])
 none,idV g N
 none],[]))
 else
 none):=by kernel_rfl
theorem k7d (ln:Nat->Nat) (L:Nat->Nat->Lpp) (g:Nat->Idd) (N:Nat) (ul:Nat->Nat) (uL:Nat->Nat->Lpp) (p:List T->T->Prop):codeL P05 G05 A05 (K7c p (Tbl.v ⟨6,ul,uL⟩)) 0 7 [] (nav [1,2,2,2]) [3,4] [Tbl.v ⟨6,ln,L⟩,idV g N none] [] [3,4,5] =
(
 bif decF (p [] (.view 1 6 (fun y=>[lpV (uL y) (ul y)
 none])
 none)) then
 some ((.normal,[.view 1 6 (fun y=>[lpV (L y) (ln y)
 none])
 none,idV g N
 none,.view 1 6 (fun y=>[lpV (uL y) (ul y)
 none])
 none],[]))
 else
 none):=by kernel_rfl
theorem k7e (ln:Nat->Nat) (L:Nat->Nat->Lpp) (g:Nat->Idd) (N:Nat) (ul:Nat->Nat) (uL:Nat->Nat->Lpp) (p:List T->T->Prop) (b:Int):codeL P05 G05 A05 (K7d p 0 b) 0 7 [] (nav [1,2,2,2,2]) [3,4,5] [Tbl.v ⟨6,ln,L⟩,idV g N none,Tbl.v ⟨6,ul,uL⟩] [] [3,4,5] =
(
 bif decF (p [.view 1 6 (fun y=>[lpV (uL y) (ul y)
 none])
 none] (.int .i64 0)) then
 some ((.normal,[.view 1 6 (fun y=>[lpV (L y) (ln y)
 none])
 none,idV g N
 none,.view 1 6 (fun y=>[lpV (uL y) (ul y)
 none])
 none],[]))
 else
 none):=by kernel_rfl
theorem k7f (ln:Nat->Nat) (L:Nat->Nat->Lpp) (g:Nat->Idd) (N:Nat) (ul:Nat->Nat) (uL:Nat->Nat->Lpp) (i:Nat):codeL P05 G05 A05 noneO 0 7 [] (nav (1 :: B8')) [3,4,5,6] (f8 ln L g N ⟨6,ul,uL⟩ i) [] [3,4,5,6] =
(
 bif decide (Int.ofNat i<Int.ofNat N) then
 some ((.normal,[.view 1 6 (fun y=>[lpV (L y) (ln y)
 none])
 none,idV g N
 none,.view 1 6 (fun y=>[lpV (uL y) (ul y)
 none])
 none,.int .i64 (.ofNat i)],[]))
 else
 some ((.exit 0,[.view 1 6 (fun y=>[lpV (L y) (ln y)
 none])
 none,idV g N
 none,.view 1 6 (fun y=>[lpV (uL y) (ul y)
 none])
 none,.int .i64 (.ofNat i)],[]))):=by kernel_rfl
theorem k7g (ln:Nat->Nat) (L:Nat->Nat->Lpp) (g:Nat->Idd) (N:Nat) (ul:Nat->Nat) (uL:Nat->Nat->Lpp) (i:Nat) (l:Lpp) (p:List T->T->Prop):codeL P05 G05 A05 (K7e p l) 0 7 [] (nav (1 :: X7')) [3,4,5,6] (f8 ln L g N ⟨6,ul,uL⟩ i) [] [3,4,5,6,7,8] =
(
 bif decide (0<=Int.ofNat i)&&decide (Int.ofNat i<Int.ofNat N) then
 bif decF (p [.view 1 6 (fun y=>[lpV (L y) (ln y)
 none])
 none,.agg (g i).c] (.tup [nlT l,.int .i64 0])) then
 some ((.normal,[.view 1 6 (fun y=>[lpV (L y) (ln y)
 none])
 none,idV g N
 none,.view 1 6 (fun y=>[lpV (uL y) (ul y)
 none])
 none,.int .i64 (.ofNat i),.reg (lo5 l),.int .i64 0],h05 l))
 else none else
 none):=by kernel_rfl
theorem k7h (ln:Nat->Nat) (L:Nat->Nat->Lpp) (g:Nat->Idd) (N:Nat) (ul:Nat->Nat) (uL:Nat->Nat->Lpp) (i:Nat) (l:Lpp):codeL P05 G05 A05 noneO 0 7 [] (nav (1 :: 2 :: X7')) [3,4,5,6,7,8] [Tbl.v ⟨6,ln,L⟩,idV g N none,Tbl.v ⟨6,ul,uL⟩,.int .i64 i,.reg (lo5 l),.int .i64 0] (h05 l) [3,4,5,6,7] =
(
 some ((.normal,[.view 1 6 (fun y=>[lpV (L y) (ln y)
 none])
 none,idV g N
 none,.view 1 6 (fun y=>[lpV (uL y) (ul y)
 none])
 none,.int .i64 (.ofNat i),.reg (lo5 l)],h05 l))):=by kernel_rfl
theorem k7i (ln:Nat->Nat) (L:Nat->Nat->Lpp) (g:Nat->Idd) (N:Nat) (ul:Nat->Nat) (uL:Nat->Nat->Lpp) (i:Nat) (l:Lpp) (vl:Nat->Nat) (vL:Nat->Nat->Lpp) (p:List T->Heap->T->Heap->Prop):codeL P05 G05 A05 (K7f p (h05 l ++ [tbV5 vl vL])) 0 7 [] (nav (1 :: 2 :: 2 :: X7')) [3,4,5,6,7] [Tbl.v ⟨6,ln,L⟩,idV g N none,Tbl.v ⟨6,ul,uL⟩,.int .i64 i,.reg (lo5 l)] (h05 l) [3,4,5,6,7,8,9] =
(
 bif decide (0<=Int.ofNat i)&&decide (Int.ofNat i<Int.ofNat N) then
 bif decF (p [.view 1 6 (fun y=>[lpV (uL y) (ul y)
 none])
 none,.int .u8 (g i).y,.agg (lo5 l)] (h05 l) (.tup [.own 2 0 0 6 (some 6),.int .i64 0]) [bkR l.th l.nt,b64 l.ps l.np,tbV5 vl vL]) then
 some ((.normal,[.view 1 6 (fun y=>[lpV (L y) (ln y)
 none])
 none,idV g N
 none,.view 1 6 (fun y=>[lpV (uL y) (ul y)
 none])
 none,.int .i64 (.ofNat i),.reg (lo5 l),.int .i64 0,.own 2 0 0 6 (some 6)],[bkR l.th l.nt,b64 l.ps l.np,tbV5 vl vL]))
 else none else
 none):=by kernel_rfl
theorem k7j (ln:Nat->Nat) (L:Nat->Nat->Lpp) (g:Nat->Idd) (N:Nat) (ul:Nat->Nat) (uL:Nat->Nat->Lpp) (i:Nat) (l:Lpp) (vl:Nat->Nat) (vL:Nat->Nat->Lpp) (a b:Int) (p:List T->T->Prop):codeL P05 G05 A05 (K7d p a b) 0 7 [] (nav (1 :: 2 :: 2 :: 2 :: X7')) [3,4,5,6,7,8,9] [Tbl.v ⟨6,ln,L⟩,idV g N none,Tbl.v ⟨6,ul,uL⟩,.int .i64 i,.reg (lo5 l),.int .i64 0,tC5 ⟨6,vl,vL⟩] (h05 l) [3,4,6,7,9] =
(
 bif decF (p [.view 1 6 (fun y=>[lpV (uL y) (ul y)
 none])
 none] (.int .i64 a)) then
 bif !decide (a = Int.ofNat i) then
 some ((.ret,[.view 1 6 (fun y=>[lpV (L y) (ln y)
 none])
 none,idV g N
 none,.int .i64 (.ofNat i),.reg (lo5 l),.view 1 6 (fun y=>[lpV (vL y) (vl y)
 none]) (some 6)],h05 l))
 else
 bif decF (p [.view 1 6 (fun y=>[lpV (vL y) (vl y)
 none]) (some 6)] (.int .i64 b)) then
 bif !decide (b = IntKind.i64.wrap (Int.ofNat i+1)) then
 some ((.ret,[.view 1 6 (fun y=>[lpV (L y) (ln y)
 none])
 none,idV g N
 none,.int .i64 (.ofNat i),.reg (lo5 l),.view 1 6 (fun y=>[lpV (vL y) (vl y)
 none]) (some 6)],h05 l))
 else
 some ((.normal,[.view 1 6 (fun y=>[lpV (L y) (ln y)
 none])
 none,idV g N
 none,.int .i64 (.ofNat i),.reg (lo5 l),.view 1 6 (fun y=>[lpV (vL y) (vl y)
 none]) (some 6)],h05 l))
 else none else
 none):=by kernel_rfl
theorem k7k (ln:Nat->Nat) (L:Nat->Nat->Lpp) (g:Nat->Idd) (N:Nat) (x:T) (i:Nat) (l:Lpp) (k:Nat):iterR P05 G05 A05 noneO 0 7 [] 17 (f17 ln L g N x i l k) (h7k l k) =
(
 bif decide (Int.ofNat k<Int.ofNat l.nt) then
 bif decide (0<=Int.ofNat k)&&decide (Int.ofNat k<Int.ofNat l.nt) then
 bif ((0:Nat)+k).blt l.nt then
 bif decide (0<=Int.ofNat k)&&decide (Int.ofNat k<Int.ofNat l.nt) then
 bif ((0:Nat)+k).blt l.nt&&true&&true&&true then
 some ((.normal,[.view 1 6 (fun y=>[lpV (L y) (ln y)
 none])
 none,idV g N
 none,.int .i64 (.ofNat i),.reg (lo5 l),x,.int .i64 (IntKind.i64.wrap (Int.ofNat k+1))],[.mk 0 2 l.nt (fun e=>[.int .u8 (bif e==0+k then (l.th ((0:Nat)+k)).y
 else (l.th e).y),.int .i64 (bif e==0+k then IntKind.i64.wrap ((bif ((0:Nat)+k).blt k then IntKind.i64.wrap ((l.th ((0:Nat)+k)).n+100)
 else (l.th ((0:Nat)+k)).n)+(100:Int))
 else
 bif e.blt k then IntKind.i64.wrap ((l.th e).n+100)
 else (l.th e).n)]) true false
 none,b64 l.ps l.np]))
 else none else none else none else none else
 some ((.exit 2,[.view 1 6 (fun y=>[lpV (L y) (ln y)
 none])
 none,idV g N
 none,.int .i64 (.ofNat i),x],h7k l k))):=by kernel_rfl
theorem k7l (ln:Nat->Nat) (L:Nat->Nat->Lpp) (g:Nat->Idd) (N:Nat) (x:T) (i:Nat) (l:Lpp) (q:List T->Heap->Ex->List T->Heap->Prop):codeL P05 G05 A05 noneO 0 7 [(17,loopF q (.ret (.exit 2) [Tbl.v ⟨6,ln,L⟩,idV g N none,.int .i64 i,x] (h7k l l.nt)))] (nav (1 :: 2 :: 2 :: 2 :: 2 :: X7')) [3,4,6,7,9] [Tbl.v ⟨6,ln,L⟩,idV g N none,.int .i64 i,.reg (lo5 l),x] (h7k l 0) [3,4,6,9] =
(
 bif decF (q (f17 ln L g N x i l (nat_lit 0)) (h05 l) (.exit 2) [.view 1 6 (fun y=>[lpV (L y) (ln y)
 none])
 none,idV g N
 none,.int .i64 (.ofNat i),x] (h7k l l.nt)) then
 some ((.normal,[.view 1 6 (fun y=>[lpV (L y) (ln y)
 none])
 none,idV g N
 none,.int .i64 (.ofNat i),x],h7k l l.nt))
 else
 none):=by kernel_rfl
theorem k7m (ln:Nat->Nat) (L:Nat->Nat->Lpp) (g:Nat->Idd) (N:Nat) (ul:Nat->Nat) (uL:Nat->Nat->Lpp) (i:Nat):codeL P05 G05 A05 noneO 0 7 [] (nav (2 :: 2 :: 2 :: 2 :: 2 :: X7')) [3,4,6,9] [Tbl.v ⟨6,ln,L⟩,idV g N none,.int .i64 i,Tbl.v ⟨6,ul,uL⟩] [] [3,4,5,6] =
(
 some ((.normal,[.view 1 6 (fun y=>[lpV (L y) (ln y)
 none])
 none,idV g N
 none,.view 1 6 (fun y=>[lpV (uL y) (ul y)
 none])
 none,.int .i64 (.ofNat i)],[]))):=by kernel_rfl
theorem k7n (ln:Nat->Nat) (L:Nat->Nat->Lpp) (g:Nat->Idd) (N:Nat) (ul:Nat->Nat) (uL:Nat->Nat->Lpp) (i:Nat):codeL P05 G05 A05 noneO 0 7 [] (nav (2 :: 2 :: B8')) [3,4,5,6] (f8 ln L g N ⟨6,ul,uL⟩ i) [] [3,4,5,6] =
(
 some ((.normal,[.view 1 6 (fun y=>[lpV (L y) (ln y)
 none])
 none,idV g N
 none,.view 1 6 (fun y=>[lpV (uL y) (ul y)
 none])
 none,.int .i64 (IntKind.i64.wrap (Int.ofNat i+1))],[]))):=by kernel_rfl
theorem k7o (ln:Nat->Nat) (L:Nat->Nat->Lpp) (p q:List T->T->Prop):codeL P05 G05 A05 (K7g p q) 0 7 [] (nav [2,2,2,2,2,2]) [3,5] [Tbl.v ⟨6,ln,L⟩,Tbl.v ⟨6,ln,L⟩] [] [2] =
(
 bif decF (q [.view 1 6 (fun y=>[lpV (L y) (ln y)
 none])
 none,.view 1 6 (fun y=>[lpV (L y) (ln y)
 none])
 none] (.int .i64 0)) then
 bif decF (p [] (.bool true)) then
 some ((.ret,[.bool true],[]))
 else none else
 none):=by kernel_rfl
open Go.Proofs
def stL (X:Nat->Ll) (i:Nat):Lpp:=mkL (if (X i).b = true then 1 else 0) ((X i).w || decide (((oS X i).rw ((X i).y.toNat % 6)).length = 0)) (thF (X i).th (oS X i).fr (min (X i).nt 4)).1 (psF (X i).ps (((X i).y.toNat / 6 % 2:Nat):Int) (oS X i).md (min (X i).np 5))
def stY (X:Nat->Ll) (i:Nat):Nat:=(X i).y.toNat % 6
theorem stY_lt (X:Nat->Ll) (i:Nat):stY X i<6:=Nat.mod_lt _ (by omega)
theorem st_rw (X:Nat->Ll) (i:Nat):(oS X (i+1)).rw = upG (oS X i).rw (stY X i) ((oS X i).rw (stY X i) ++ [stL X i]):=rfl
theorem st_md (X:Nat->Ll) (i:Nat):(oS X (i+1)).md = (oS X i).md ++ [⟨((stY X i+1:Nat):Int),((oS X i).rw (stY X i)).length⟩]:=rfl
theorem tA5_eq (X:Nat->Ll) (i:Nat):tA5 (tO (oS X i)).ln (tO (oS X i)).L (stY X i) (stL X i) = tO (oS X (i+1)):=by
 have h1:(fun e=>if e = stY X i then (tO (oS X i)).ln e+1 else (tO (oS X i)).ln e) = (tO (oS X (i+1))).ln:=by
  funext e
  show _ = ((oS X (i+1)).rw e).length
  rw [st_rw]
  unfold upG
  by_cases q:e = stY X i
  ·rw [if_pos q,if_pos q,List.length_append,q]; rfl
  ·rw [if_neg q,if_neg q]; rfl
 have h2:(fun e j=>if e = stY X i/\j = (tO (oS X i)).ln e then stL X i else (tO (oS X i)).L e j) = (tO (oS X (i+1))).L:=by
  funext e j
  show _ = ((oS X (i+1)).rw e).getD j lp0
  rw [st_rw]
  unfold upG
  by_cases q:e = stY X i
  ·rw [if_pos q]
   by_cases q2:j = (tO (oS X i)).ln e
   ·rw [if_pos ⟨q,q2⟩,q2,q]
    exact (getD_end _ _ _).symm
   ·rw [if_neg (fun h=>q2 h.2)]
    show ((oS X i).rw e).getD j lp0 = _
    rw [← q]
    rcases Nat.lt_or_ge j ((oS X i).rw e).length with q3 | q3
    ·exact (getD_app q3).symm
    ·have q2:j ≠ ((oS X i).rw e).length:=q2
     rw [List.getD_eq_getElem?_getD,List.getD_eq_getElem?_getD,List.getElem?_eq_none (by omega),List.getElem?_eq_none (by rw [List.length_append,List.length_singleton]; omega)]
  ·rw [if_neg q,if_neg (fun h=>q h.1)]; rfl
 unfold tA5
 rw [h1,h2]
 rfl
theorem rw_pre (X:Nat->Ll) (i:Nat):∀ n,i<=n->∀ e,∃ s,(oS X n).rw e = (oS X i).rw e ++ s
 | 0,h,e=>by obtain rfl:i = 0:=by omega
             exact ⟨[],by simp⟩
 | n+1,h,e=>by
  by_cases q:i = n+1
  ·subst q; exact ⟨[],by simp⟩
  ·obtain ⟨s,hs⟩:=rw_pre X i n (by omega) e
   rw [st_rw]
   unfold upG
   by_cases q2:e = stY X n
   ·subst q2
    rw [if_pos rfl,hs]
    exact ⟨s ++ [stL X n],by simp⟩
   ·rw [if_neg q2]; exact ⟨s,hs⟩
theorem md_pre (X:Nat->Ll) (i:Nat):∀ n,i<=n->∃ s,(oS X n).md = (oS X i).md ++ s
 | 0,h=>by obtain rfl:i = 0:=by omega
           exact ⟨[],by simp⟩
 | n+1,h=>by
  by_cases q:i = n+1
  ·subst q; exact ⟨[],by simp⟩
  ·obtain ⟨s,hs⟩:=md_pre X i n (by omega)
   rw [st_md,hs]
   exact ⟨s ++ [⟨((stY X n+1:Nat):Int),((oS X n).rw (stY X n)).length⟩],by rw [List.append_assoc]⟩
theorem getD_pre {α:Type} {l s:List α} {d:α} {j:Nat} (h:j<l.length):(l ++ s).getD j d = l.getD j d:=by
 rw [List.getD_eq_getElem?_getD,List.getD_eq_getElem?_getD,List.getElem?_append_left h]
theorem at_md (X:Nat->Ll) {i N:Nat} (h:i<N):(oS X N).md.getD i id0 = ⟨((stY X i+1:Nat):Int),((oS X i).rw (stY X i)).length⟩:=by
 obtain ⟨s,hs⟩:=md_pre X (i+1) N h
 have hl:(oS X i).md.length = i:=(oS_len X i).2.1
 rw [hs,getD_pre (by rw [(oS_len X (i+1)).2.1]; omega),st_md]
 have:=getD_end (oS X i).md (⟨((stY X i+1:Nat):Int),((oS X i).rw (stY X i)).length⟩:Idd) id0
 rw [hl] at this
 exact this
theorem at_L (X:Nat->Ll) {i N:Nat} (h:i<N):(tO (oS X N)).L (stY X i) ((oS X i).rw (stY X i)).length = stL X i:=by
 obtain ⟨s,hs⟩:=rw_pre X (i+1) N h (stY X i)
 show ((oS X N).rw (stY X i)).getD _ lp0 = _
 have e:(oS X (i+1)).rw (stY X i) = (oS X i).rw (stY X i) ++ [stL X i]:=by rw [st_rw]; unfold upG; rw [if_pos rfl]
 rw [hs,e,getD_pre (by rw [List.length_append,List.length_singleton]; omega)]
 exact getD_end _ _ _
abbrev P7:=Pz P05 G05 A05 7 []
abbrev W7:=Wk G05 A05 7 0
theorem run7 {K:Orc} (hK:OrcOk P05 G05 K) {p l l1:List Nat} {vs v1:List T} {h h1:Heap} {e:Ex} (hk:codeL P05 G05 A05 K 0 7 [] (nav p) l vs h l1 = some (e,v1,h1)):P7 p l vs h e l1 v1 h1 :=
 Pz.run hm05 hK (by kernel_rfl) loops0 hk
theorem run7L {p l l1:List Nat} {vs v1:List T} {h h1:Heap} {e:Ex} {lo:List (Nat × (List T->Heap->LT))} (hL:∀ q ∈ lo,LoopOk P05 G05 (A05 7) 7 q.1 q.2) (hk:codeL P05 G05 A05 noneO 0 7 lo (nav p) l vs h l1 = some (e,v1,h1)):P7 p l vs h e l1 v1 h1 :=
 Pz.run hm05 none_ok (by kernel_rfl) hL hk
section
variable {ln:Nat->Nat} {L:Nat->Nat->Lpp} {g:Nat->Idd} {N:Nat}
theorem lp17 (x:T) (i:Nat) (l:Lpp) (hn:l.nt<=1000):LoopOk P05 G05 (A05 7) 7 17 (litS (f17 ln L g N x i l 0) (h7k l 0) (.exit 2) [Tbl.v ⟨6,ln,L⟩,idV g N none,.int .i64 i,x] (h7k l l.nt)):=by
 refine loop_steps hm05 (by kernel_rfl) (fun k=>f17 ln L g N x i l k) (fun k=>h7k l k) (n:=l.nt) (fun k hk=>?_)
  (Last.mk0 none_ok rfl rfl loops0 (by simp) (K:=noneO) (A:=A05) (m:=0) (l:=[]) ((k7k ln L g N x i l l.nt).trans (biff (by simp) rfl)) (.refl _))
 have hk0:decide (Int.ofNat k<Int.ofNat l.nt) = true:=by simpa using hk
 have hk1:(decide ((0:Int)<=Int.ofNat k)&&decide (Int.ofNat k<Int.ofNat l.nt)) = true:=by simpa using hk
 have hk2:(0+k).blt l.nt = true:=by rw [Nat.zero_add,bltT hk]
 have e:=k7k ln L g N x i l k
 rw [hk1,hk0,hk2,up1 (by omega)] at e
 refine Step.mk0 none_ok rfl rfl loops0 (K:=noneO) (A:=A05) (m:=0) (l:=[]) (e.trans (bift rfl (bift rfl (bift rfl (bift rfl (bift rfl rfl)))))) (.cons ⟨rfl,rfl,rfl,id,fun j hj=>?_⟩ (.refl _))
 have kk:(0+k).blt k = false:=by rw [Bool.eq_false_iff]; intro h; have:=blt_lt h; omega
 show [T.int .u8 (l.th j).y,.int .i64 (bif j.blt (k+1) then IntKind.i64.wrap ((l.th j).n+100) else (l.th j).n)] = [T.int .u8 (bif j==0+k then (l.th (0+k)).y else (l.th j).y),.int .i64 (bif j==0+k then IntKind.i64.wrap ((bif (0+k).blt k then IntKind.i64.wrap ((l.th (0+k)).n+100) else (l.th (0+k)).n)+100) else bif j.blt k then IntKind.i64.wrap ((l.th j).n+100) else (l.th j).n)]
 rw [kk,cond_false,Nat.zero_add]
 by_cases q:j = k
 ·subst q
  rw [beq_self_eq_true,bltT (show j<j+1 by omega)]; rfl
 ·rw [show (j==k) = false by simpa using q]
  have:Nat.blt j (k+1) = Nat.blt j k:=by rw [Bool.eq_iff_iff,Nat.blt_eq,Nat.blt_eq]; omega
  rw [this]; rfl
end
open Go.Proofs
section
variable {ln:Nat->Nat} {L:Nat->Nat->Lpp} {g:Nat->Idd} {N:Nat} {u v:Tbl} {l:Lpp} {i:Nat}
theorem wn7 {vl:Nat->Nat} {vL:Nat->Nat->Lpp}:W7 [3,4,5,6,7,8,9] [Tbl.v ⟨6,ln,L⟩,idV g N none,u.v,.int .i64 i,.reg (lo5 l),.int .i64 0,t6] [bkR l.th l.nt,b64 l.ps l.np,tbV5 vl vL] [Tbl.v ⟨6,ln,L⟩,idV g N none,u.v,.int .i64 i,.reg (lo5 l),.int .i64 0,tC5 ⟨6,vl,vL⟩] (h05 l):=fun nt=>by
 refine .trans (.canon [0,1] rfl) (.simAll rfl (fun j x y h1 h2=>?_) (.cons ⟨rfl,rfl,rfl⟩ (fun _=>⟨rfl,fun _ _=>rfl⟩) (fun _ _=>.refl _) (.cons ⟨rfl,rfl,rfl⟩ (fun _=>⟨rfl,fun _ _=>rfl⟩) (fun _ _=>.refl _) .nil)))
 match j with
 | 0 | 1 | 2 | 3 | 4 | 5 =>
  have:y = x:=Option.some.inj (h2.symm.trans h1)
  subst this
  exact .refl _
 | 6 =>
  obtain rfl:=Option.some.inj h1
  obtain rfl:=Option.some.inj h2
  refine .inl (.inr ⟨rfl,.view (.inl rfl) fun e he=>?_,rfl⟩)
  show Sims [lpV (vL (0+e)) (vl (0+e)) none] [lpV (vL e) (vl e) none]
  rw [Nat.zero_add]; exact .refl _
 | j+7=>simp at h2
theorem wu7:W7 [3,4,6,9] [Tbl.v ⟨6,ln,L⟩,idV g N none,.int .i64 i,tC5 v] (h7k l l.nt) [Tbl.v ⟨6,ln,L⟩,idV g N none,.int .i64 i,v.v] []:=fun nt=>by
 refine .trans (.canon [] rfl) (.simAll rfl (fun j x y h1 h2=>?_) .nil)
 match j with
 | 0 | 1 | 2 =>
  have:y = x:=Option.some.inj (h2.symm.trans h1)
  subst this
  exact .refl _
 | 3 =>
  obtain rfl:=Option.some.inj h1
  obtain rfl:=Option.some.inj h2
  exact .inl (.inr ⟨rfl,.view (.inr rfl) fun e he=>.refl _,rfl⟩)
 | j+4=>simp at h2
end
theorem round7 (X:Nat->Ll) {N i:Nat} (hN:N<=25) (hi:i<N):P7 B8' [3,4,5,6] (f8 (tO (oS X N)).ln (tO (oS X N)).L (fun j=>(oS X N).md.getD j id0) N (tO (oS X i)) i) [] .normal [3,4,5,6] (f8 (tO (oS X N)).ln (tO (oS X N)).L (fun j=>(oS X N).md.getD j id0) N (tO (oS X (i+1))) (i+1)) []:=by
 obtain ⟨p16,h16⟩:=is_val P05 G05 16
 obtain ⟨p11,h11⟩:=is_val P05 G05 11
 obtain ⟨p20,h20⟩:=is_ref P05 G05 20
 obtain ⟨q17,h17⟩:=is_loop P05 G05 (A05 7) 7 17
 have hN60:N<=60:=by omega
 have iN:=os_inv X N
 have i0:=os_inv X i
 have i1:=os_inv X (i+1)
 have okN:=tO_ok iN hN60
 have ok0:=tO_ok i0 (show i<=60 by omega)
 have ok1:=tO_ok i1 (show i+1<=60 by omega)
 have emd:=at_md X hi
 have hK:=stY_lt X i
 have hlen:((oS X i).rw (stY X i)).length<((oS X N).rw (stY X i)).length:=by
  obtain ⟨s,hs⟩:=rw_pre X (i+1) N hi (stY X i)
  have e:(oS X (i+1)).rw (stY X i) = (oS X i).rw (stY X i) ++ [stL X i]:=by rw [st_rw]; unfold upG; rw [if_pos rfl]
  rw [hs,e,List.length_append,List.length_append,List.length_singleton]; omega
 have hlOk:(stL X i).Ok:=by rw [← at_L X hi]; exact okN.L _ _
 have hlb:(stL X i).nt<=4:=by
  obtain ⟨k,k1,_,⟨b,w,th,ps,d,e,_,_,q3,q4,_⟩,_⟩:=iN.row (stY X i) hK _ hlen
  have e2:(tO (oS X N)).L (stY X i) ((oS X i).rw (stY X i)).length = mkL b w th ps:=e
  rw [← at_L X hi,e2]; exact q3
 have haOk:((oS X N).md.getD i id0).Ok:=md_ok iN hN60 hi
 have hhas:=md_has iN hi
 have t16:=findT (tO (oS X N)) okN _ haOk
 rw [hhas,cond_true] at t16
 have eL:(tO (oS X N)).L (((oS X N).md.getD i id0).y - 1).toNat ((oS X N).md.getD i id0).n.toNat = stL X i:=by
  rw [emd]
  dsimp only
  rw [show (((stY X i+1:Nat):Int) - 1).toNat = stY X i by omega,show ((((oS X i).rw (stY X i)).length:Nat):Int).toNat = ((oS X i).rw (stY X i)).length by omega]
  exact at_L X hi
 rw [eL] at t16
 have c11a:=countT (tO (oS X i)) ok0
 rw [tO_sum i0] at c11a
 have c11b:=countT (tO (oS X (i+1))) ok1
 rw [tO_sum i1] at c11b
 have c11b:ToldOk P05 G05 11 [tC5 (tO (oS X (i+1)))] (.int .i64 (i+1:Nat)):=c11b.sim (.cons (.view (.inr rfl) fun _ _=>.refl _) .nil)
 have tR:=addR (ln:=(tO (oS X i)).ln) (L:=(tO (oS X i)).L) (l:=stL X i) (K:=stY X i) hlOk ok0 (by rw [tA5_eq]; exact ok1) hK (fun y=>by have:=row_len i0 y; show ((oS X i).rw y).length<=1000; omega) (chk0 i0 (by omega)) (by rw [tA5_eq]; exact chk0 i1 (by omega))
 have eT:tA5 (tO (oS X i)).ln (tO (oS X i)).L (stY X i) (stL X i) = tO (oS X (i+1)):=tA5_eq X i
 have e1:lnA (tO (oS X i)).ln (stY X i) = (tO (oS X (i+1))).ln:=congrArg Tbl.ln eT
 have e2:LA (tO (oS X i)).ln (tO (oS X i)).L (stY X i) (stL X i) = (tO (oS X (i+1))).L:=congrArg Tbl.L eT
 rw [e1,e2] at tR
 have t17:=lp17 (ln:=(tO (oS X N)).ln) (L:=(tO (oS X N)).L) (g:=fun j=>(oS X N).md.getD j id0) (N:=N) (tC5 (tO (oS X (i+1)))) i (stL X i) (by omega)
 have b0:decide (Int.ofNat i<Int.ofNat N) = true:=by simpa using hi
 have b1:(decide ((0:Int)<=Int.ofNat i)&&decide (Int.ofNat i<Int.ofNat N)) = true:=by simpa using hi
 have qa:P7 (1 :: B8') [3,4,5,6] (f8 (tO (oS X N)).ln (tO (oS X N)).L (fun j=>(oS X N).md.getD j id0) N (tO (oS X i)) i) [] .normal [3,4,5,6] (f8 (tO (oS X N)).ln (tO (oS X N)).L (fun j=>(oS X N).md.getD j id0) N (tO (oS X i)) i) [] :=
  run7 none_ok ((k7f (tO (oS X N)).ln (tO (oS X N)).L (fun j=>(oS X N).md.getD j id0) N (tO (oS X i)).ln (tO (oS X i)).L i).trans (bift b0 rfl))
 have qb:P7 (1 :: X7') [3,4,5,6] (f8 (tO (oS X N)).ln (tO (oS X N)).L (fun j=>(oS X N).md.getD j id0) N (tO (oS X i)) i) [] .normal [3,4,5,6,7,8] [(tO (oS X N)).v,idV (fun j=>(oS X N).md.getD j id0) N none,(tO (oS X i)).v,.int .i64 i,.reg (lo5 (stL X i)),.int .i64 0] (h05 (stL X i)) :=
  run7 (told_add none_ok (callF_told h16)) ((k7g (tO (oS X N)).ln (tO (oS X N)).L (fun j=>(oS X N).md.getD j id0) N (tO (oS X i)).ln (tO (oS X i)).L i (stL X i) p16).trans (bift b1 (bift (yes5 h16 t16) rfl)))
 have qc:P7 (1 :: 2 :: X7') [3,4,5,6,7,8] [(tO (oS X N)).v,idV (fun j=>(oS X N).md.getD j id0) N none,(tO (oS X i)).v,.int .i64 i,.reg (lo5 (stL X i)),.int .i64 0] (h05 (stL X i)) .normal [3,4,5,6,7] [(tO (oS X N)).v,idV (fun j=>(oS X N).md.getD j id0) N none,(tO (oS X i)).v,.int .i64 i,.reg (lo5 (stL X i))] (h05 (stL X i)) :=
  run7 none_ok (k7h (tO (oS X N)).ln (tO (oS X N)).L (fun j=>(oS X N).md.getD j id0) N (tO (oS X i)).ln (tO (oS X i)).L i (stL X i))
 have ey:((oS X N).md.getD i id0).y = (stY X i:Int)+1:=by rw [emd]; rfl
 have qd:P7 (1 :: 2 :: 2 :: X7') [3,4,5,6,7] [(tO (oS X N)).v,idV (fun j=>(oS X N).md.getD j id0) N none,(tO (oS X i)).v,.int .i64 i,.reg (lo5 (stL X i))] (h05 (stL X i)) .normal [3,4,5,6,7,8,9] [(tO (oS X N)).v,idV (fun j=>(oS X N).md.getD j id0) N none,(tO (oS X i)).v,.int .i64 i,.reg (lo5 (stL X i)),.int .i64 0,tC5 (tO (oS X (i+1)))] (h05 (stL X i)):=by
  have e:=k7i (tO (oS X N)).ln (tO (oS X N)).L (fun j=>(oS X N).md.getD j id0) N (tO (oS X i)).ln (tO (oS X i)).L i (stL X i) (tO (oS X (i+1))).ln (tO (oS X (i+1))).L p20
  rw [b1,cond_true,ey] at e
  exact Pz.post (run7 (told_addRef none_ok (refF_told h20)) (e.trans (bift (refF_yes h20 tR) rfl))) (wn7 (ln:=(tO (oS X N)).ln) (L:=(tO (oS X N)).L) (g:=fun j=>(oS X N).md.getD j id0) (N:=N) (u:=tO (oS X i)) (l:=stL X i) (i:=i) (vl:=(tO (oS X (i+1))).ln) (vL:=(tO (oS X (i+1))).L))
 have qe:P7 (1 :: 2 :: 2 :: 2 :: X7') [3,4,5,6,7,8,9] [(tO (oS X N)).v,idV (fun j=>(oS X N).md.getD j id0) N none,(tO (oS X i)).v,.int .i64 i,.reg (lo5 (stL X i)),.int .i64 0,tC5 (tO (oS X (i+1)))] (h05 (stL X i)) .normal [3,4,6,7,9] [(tO (oS X N)).v,idV (fun j=>(oS X N).md.getD j id0) N none,.int .i64 i,.reg (lo5 (stL X i)),tC5 (tO (oS X (i+1)))] (h05 (stL X i)):=by
  have e:=k7j (tO (oS X N)).ln (tO (oS X N)).L (fun j=>(oS X N).md.getD j id0) N (tO (oS X i)).ln (tO (oS X i)).L i (stL X i) (tO (oS X (i+1))).ln (tO (oS X (i+1))).L (Int.ofNat i) (Int.ofNat (i+1)) p11
  rw [up1 (by omega)] at e
  exact run7 (told_add none_ok (callF_told h11)) (e.trans (bift (yes5 h11 c11a) (biff (by simp) (bift (yes5 h11 c11b) (biff (by simp) rfl)))))
 have qf:P7 (1 :: 2 :: 2 :: 2 :: 2 :: X7') [3,4,6,7,9] [(tO (oS X N)).v,idV (fun j=>(oS X N).md.getD j id0) N none,.int .i64 i,.reg (lo5 (stL X i)),tC5 (tO (oS X (i+1)))] (h05 (stL X i)) .normal [3,4,6,9] [(tO (oS X N)).v,idV (fun j=>(oS X N).md.getD j id0) N none,.int .i64 i,(tO (oS X (i+1))).v] [] :=
  Pz.post (run7L (lo:=[(17,loopF q17 (.ret (.exit 2) [Tbl.v ⟨6,(tO (oS X N)).ln,(tO (oS X N)).L⟩,idV (fun j=>(oS X N).md.getD j id0) N none,.int .i64 i,tC5 (tO (oS X (i+1)))] (h7k (stL X i) (stL X i).nt)))]) (loops1 (loopF_ok h17 _)) ((k7l (tO (oS X N)).ln (tO (oS X N)).L (fun j=>(oS X N).md.getD j id0) N (tC5 (tO (oS X (i+1)))) i (stL X i) q17).trans (bift (loopF_yes h17 t17) rfl))) wu7
 have qg:P7 (2 :: 2 :: 2 :: 2 :: 2 :: X7') [3,4,6,9] [(tO (oS X N)).v,idV (fun j=>(oS X N).md.getD j id0) N none,.int .i64 i,(tO (oS X (i+1))).v] [] .normal [3,4,5,6] (f8 (tO (oS X N)).ln (tO (oS X N)).L (fun j=>(oS X N).md.getD j id0) N (tO (oS X (i+1))) i) [] :=
  run7 none_ok (k7m (tO (oS X N)).ln (tO (oS X N)).L (fun j=>(oS X N).md.getD j id0) N (tO (oS X (i+1))).ln (tO (oS X (i+1))).L i)
 have qh:P7 (2 :: 2 :: B8') [3,4,5,6] (f8 (tO (oS X N)).ln (tO (oS X N)).L (fun j=>(oS X N).md.getD j id0) N (tO (oS X (i+1))) i) [] .normal [3,4,5,6] (f8 (tO (oS X N)).ln (tO (oS X N)).L (fun j=>(oS X N).md.getD j id0) N (tO (oS X (i+1))) (i+1)) []:=by
  have e:=k7n (tO (oS X N)).ln (tO (oS X N)).L (fun j=>(oS X N).md.getD j id0) N (tO (oS X (i+1))).ln (tO (oS X (i+1))).L i
  rw [up1 (by omega)] at e
  exact run7 none_ok e
 exact Pz.seq (by kernel_rfl) qa (Pz.seq (by kernel_rfl) (Pz.blk (id:=1) (e:=.normal) (by kernel_rfl) rfl (Pz.seq (by kernel_rfl) qb (Pz.seq (by kernel_rfl) qc (Pz.seq (by kernel_rfl) qd (Pz.seq (by kernel_rfl) qe (Pz.seq (by kernel_rfl) qf qg)))))) qh)
theorem law7T (X:Nat->Ll) (n:Nat) (hX:∀ i,(X i).Ok):ToldOk P05 G05 7 [llV X n none] (.bool true):=by
 obtain ⟨p8,h8⟩:=is_val P05 G05 8
 obtain ⟨p13,h13⟩:=is_val P05 G05 13
 obtain ⟨p19,h19⟩:=is_val P05 G05 19
 obtain ⟨p11,h11⟩:=is_val P05 G05 11
 obtain ⟨p21,h21⟩:=is_val P05 G05 21
 have q0:P7 [1] [0] [llV X n none] [] .normal [0] [llV X n none] []:=run7 none_ok (by kernel_rfl)
 by_cases h25:25<n
 ·have q1:P7 [1,2] [0] [llV X n none] [] .ret [2,0] [.bool true,llV X n none] []:=run7 (told_add none_ok (callF_told h13)) ((k7b X n p13).trans (bift (by rw [decide_eq_true_eq]; show (25:Int)<(n:Int); omega) (bift (yes5 h13 livesT) rfl)))
  exact Pz.told hn05 Try.func7 (by kernel_rfl) (by kernel_rfl) rfl (Pz.seq (by kernel_rfl) q0 (Pz.seqX (by kernel_rfl) (by simp) q1)) (by kernel_rfl)
 ·have q1:P7 [1,2] [0] [llV X n none] [] .normal [0] [llV X n none] []:=Pz.only (run7 (told_add none_ok (callF_told h13)) ((k7b X n p13).trans (biff (by rw [decide_eq_true_eq]; show ¬ (25:Int)<(n:Int); omega) rfl))) rfl
  have t8:=(ofT (X:=X) (n:=n) hX).frz
  rw [show min n 60 = n by omega] at t8
  have hN:n<=25:=by omega
  have h:=os_inv X n
  have hmd:(oS X n).md.length = n:=h.len
  rw [hmd] at t8
  have ok:=tO_ok h (by omega)
  have s8:ToldOk P05 G05 8 [llV X n none] (.tup [(tO (oS X n)).v,idV (fun j=>(oS X n).md.getD j id0) n none]) :=
   t8.tupTo (.cons (.view (.view (.inr rfl) fun j _=>.refl _)) (.cons (.newv _) .nil))
  have t19:ToldOk P05 G05 19 [] (tO (oS X 0)).v:=emptyT.frz.resTo (.view (.view (.inr rfl) fun j _=>.cons (.nilv _ _ (.inl rfl)) .nil))
  have i0:=os_inv X 0
  have c0:=countT (tO (oS X 0)) (tO_ok i0 (by omega))
  rw [tO_sum i0] at c0
  have t21:=differT5 (tO (oS X n)).ln (tO (oS X n)).L (fun y=>by have:=row_len h y; show ((oS X n).rw y).length<=1000; omega) (fun y i=>by
   show (((oS X n).rw y).getD i lp0).nt<=1000
   refine getD_in (fun l:Lpp=>l.nt<=1000) (Nat.zero_le _) (fun l hl=>?_) i
   by_cases hy:y<6
   ·obtain ⟨j,hj,e⟩:=getD_mem (d:=lp0) hl
    obtain ⟨k,k1,_,⟨b,w,th,ps,d,e2,_,_,q3,q4,_⟩,_⟩:=h.row y hy j hj
    rw [← e,e2]; show th.length<=1000; omega
   ·rw [h.out y (by omega)] at hl; simp at hl) (fun y i=>by
   show (((oS X n).rw y).getD i lp0).np<=1000
   refine getD_in (fun l:Lpp=>l.np<=1000) (Nat.zero_le _) (fun l hl=>?_) i
   by_cases hy:y<6
   ·obtain ⟨j,hj,e⟩:=getD_mem (d:=lp0) hl
    obtain ⟨k,k1,_,⟨b,w,th,ps,d,e2,_,_,q3,q4,_⟩,_⟩:=h.row y hy j hj
    rw [← e,e2]; show ps.length<=1000; omega
   ·rw [h.out y (by omega)] at hl; simp at hl)
  have q2:P7 [1,2,2] [0] [llV X n none] [] .normal [3,4] [(tO (oS X n)).v,idV (fun j=>(oS X n).md.getD j id0) n none] [] :=
   run7 (told_add none_ok (callF_told h8)) ((k7c (tO (oS X n)).ln (tO (oS X n)).L (fun j=>(oS X n).md.getD j id0) n X n p8).trans (bift (yes5 h8 s8) rfl))
  have q3:P7 [1,2,2,2] [3,4] [(tO (oS X n)).v,idV (fun j=>(oS X n).md.getD j id0) n none] [] .normal [3,4,5] [(tO (oS X n)).v,idV (fun j=>(oS X n).md.getD j id0) n none,(tO (oS X 0)).v] [] :=
   run7 (told_add none_ok (callF_told h19)) ((k7d (tO (oS X n)).ln (tO (oS X n)).L (fun j=>(oS X n).md.getD j id0) n (tO (oS X 0)).ln (tO (oS X 0)).L p19).trans (bift (yes5 h19 t19) rfl))
  have q4:P7 [1,2,2,2,2] [3,4,5] [(tO (oS X n)).v,idV (fun j=>(oS X n).md.getD j id0) n none,(tO (oS X 0)).v] [] .normal [3,4,5] [(tO (oS X n)).v,idV (fun j=>(oS X n).md.getD j id0) n none,(tO (oS X 0)).v] [] :=
   run7 (told_add none_ok (callF_told h11)) ((k7e (tO (oS X n)).ln (tO (oS X n)).L (fun j=>(oS X n).md.getD j id0) n (tO (oS X 0)).ln (tO (oS X 0)).L p11 0).trans (bift (yes5 h11 c0) rfl))
  have q5:P7 [1,1,2,2,2,2,2] [3,4,5] [(tO (oS X n)).v,idV (fun j=>(oS X n).md.getD j id0) n none,(tO (oS X 0)).v] [] .normal [3,4,5,6] (f8 (tO (oS X n)).ln (tO (oS X n)).L (fun j=>(oS X n).md.getD j id0) n (tO (oS X 0)) 0) []:=run7 none_ok (by kernel_rfl)
  have hg:=Pz.count (P:=P05) (G:=G05) (A:=A05) (f:=7) (h0:=[]) (p:=[0,2,1,2,2,2,2,2]) (l:=[3,4,5,6]) (l1:=[3,4,5,6]) (by kernel_rfl) (fun i=>f8 (tO (oS X n)).ln (tO (oS X n)).L (fun j=>(oS X n).md.getD j id0) n (tO (oS X i)) i) (fun _=>[]) (n:=n) (e:=.exit 0) (by simp) (fun i hi=>round7 X hN hi)
   (Pz.seqX (by kernel_rfl) (by simp) (run7 none_ok ((k7f (tO (oS X n)).ln (tO (oS X n)).L (fun j=>(oS X n).md.getD j id0) n (tO (oS X n)).ln (tO (oS X n)).L n).trans (biff (by simp) rfl))))
  have q6:P7 [2,1,2,2,2,2,2] [3,4,5,6] (f8 (tO (oS X n)).ln (tO (oS X n)).L (fun j=>(oS X n).md.getD j id0) n (tO (oS X 0)) 0) [] .normal [3,5] [(tO (oS X n)).v,(tO (oS X n)).v] []:=Pz.only (Pz.blk (id:=0) (e:=.exit 0) (by kernel_rfl) rfl hg) rfl
  have q7:P7 [2,2,2,2,2,2] [3,5] [(tO (oS X n)).v,(tO (oS X n)).v] [] .ret [2] [.bool true] [] :=
   run7 (told_add (told_add none_ok (callF_told h13)) (callF_told h21)) ((k7o (tO (oS X n)).ln (tO (oS X n)).L p13 p21).trans (bift (yes5 h21 t21) (bift (yes5 h13 livesT) rfl)))
  exact Pz.told hn05 Try.func7 (by kernel_rfl) (by kernel_rfl) rfl (Pz.seq (by kernel_rfl) q0 (Pz.seq (by kernel_rfl) q1 (Pz.seq (by kernel_rfl) q2 (Pz.seq (by kernel_rfl) q3 (Pz.seq (by kernel_rfl) q4 (Pz.seq (by kernel_rfl) (Pz.seq (by kernel_rfl) q5 q6) q7)))))) (by kernel_rfl)
open Go.Proofs
section
variable {Hp:Type}
theorem agg23_05:aggTy P05 23 = false:=by kernel_rfl
theorem cells5_05:P05.cellsOf 5 = 1:=by kernel_rfl
theorem cells66_05:P05.cellsOf 66 = 5:=by kernel_rfl
def cI5 (l:List T):Int:=match l with | [.int _ z]=>z | _=>0
theorem inv5_05 {ts:List T} {d:DataW Hp} (h:CT P05 5 ts d):∃ a:Int,ts = [.int .u8 a]/\0<=a/\a<256:=by
 obtain ⟨a,rfl,rfl,w⟩:=h.int_inv Try.underlying5
 have w:=wf_u8 w
 exact ⟨a,rfl,by omega,by omega⟩
theorem row05 {ts:List T} {d:DataW Hp} (h:CT P05 64 ts d):∃ (r:Nat->Int) (n:Nat),(∀ j,0<=r j/\r j<256)/\∃ x,ts = [x]/\Sim x (u8V r n none):=by
 rcases h.slice_inv Try.underlying64 (by rw [cells5_05]; omega) with ⟨rfl,rfl⟩ | ⟨n,c,g,elems,spare,rfl,rfl,he,hs,hn,hc,hg⟩
 ·exact ⟨fun _=>0,0,fun _=>⟨Int.le_refl 0,(by decide:(0:Int)<256)⟩,_,rfl,.nilv _ _ (.inl rfl)⟩
 ·have key:∀ j,j<n->∃ a:Int,g j = [.int .u8 a]/\0<=a/\a<256:=fun j hj=>inv5_05 (hg j elems[j] (by simp [show j<elems.length by omega]))
  refine ⟨fun j=>if j<n then cI5 (g j) else 0,n,fun j=>?_,_,rfl,?_⟩
  ·dsimp only
   split
   ·rename_i hj
    obtain ⟨a,q,q1,q2⟩:=key j hj
    rw [q]
    exact ⟨q1,q2⟩
   ·omega
  ·rw [cells5_05]
   refine .view (.inr rfl) fun j hj=>?_
   obtain ⟨a,q,_⟩:=key j hj
   show Sims (g j) [.int .u8 (if j<n then cI5 (g j) else 0)]
   rw [if_pos hj,q]
   exact .refl _
def ll0:Ll:=⟨0,false,false,fun _=>0,0,fun _=>0,0⟩
theorem ll0_ok:ll0.Ok:=⟨⟨Int.le_refl 0,show (0:Int)<256 by decide⟩,fun _=>⟨Int.le_refl 0,show (0:Int)<256 by decide⟩,fun _=>⟨Int.le_refl 0,show (0:Int)<256 by decide⟩⟩
theorem ll05 {ts:List T} {d:DataW Hp} (h:CT P05 66 ts d):∃ l:Ll,l.Ok/\Sims ts l.c:=by
 obtain ⟨parts,ds,rfl,rfl,hs⟩:=CT.struct_inv Try.underlying66 h; clear h; rename _=>h
 change CTs P05 [5,4,4,64,64] parts ds at h
 obtain ⟨p1,_,d1,_,rfl,rfl,h1,h⟩:=h.cons
 obtain ⟨p2,_,d2,_,rfl,rfl,h2,h⟩:=h.cons
 obtain ⟨p3,_,d3,_,rfl,rfl,h3,h⟩:=h.cons
 obtain ⟨p4,_,d4,_,rfl,rfl,h4,h⟩:=h.cons
 obtain ⟨p5,_,d5,_,rfl,rfl,h5,h⟩:=h.cons
 obtain ⟨rfl,rfl⟩:=h.nil
 obtain ⟨y,rfl,y1⟩:=inv5_05 h1
 obtain ⟨b,rfl,_⟩:=h2.bool_inv Try.underlying4
 obtain ⟨w,rfl,_⟩:=h3.bool_inv Try.underlying4
 obtain ⟨th,nt,t1,x,rfl,t2⟩:=row05 h4
 obtain ⟨ps,np,s1,z,rfl,s2⟩:=row05 h5
 exact ⟨⟨y,b,w,th,nt,ps,np⟩,⟨y1,t1,s1⟩,.cons (.refl _) (.cons (.refl _) (.cons (.refl _) (.cons t2 (.cons s2 .nil))))⟩
theorem inv23_05 {ts:List T} {d:DataW Hp} (h:CT P05 23 ts d):∃ (X:Nat->Ll) (n:Nat),(∀ i,(X i).Ok)/\Sim (topT P05 23 ts) (llV X n none):=by
 rcases h.slice_inv Try.underlying23 (by rw [cells66_05]; omega) with ⟨rfl,rfl⟩ | ⟨n,c,g,elems,spare,rfl,rfl,he,hs,hn,hc,hg⟩
 ·exact ⟨fun _=>ll0,0,fun _=>ll0_ok,by rw [show topT P05 23 [T.nils] = T.nils by simp [topT,agg23_05]]; exact .nilv _ _ (.inl rfl)⟩
 ·have key:∀ j,∃ l:Ll,l.Ok/\(j<n->Sims (g j) l.c):=fun j=>by
   by_cases hj:j<n
   ·obtain ⟨l,h1,h2⟩:=ll05 (hg j elems[j] (by simp [show j<elems.length by omega]))
    exact ⟨l,h1,fun _=>h2⟩
   ·exact ⟨ll0,ll0_ok,fun h=>absurd h hj⟩
  refine ⟨fun j=>(key j).choose,n,fun i=>(key i).choose_spec.1,?_⟩
  rw [show topT P05 23 [T.view (P05.cellsOf 66) n g (some c)] = T.view (P05.cellsOf 66) n g (some c) by simp [topT,agg23_05],cells66_05]
  exact .view (.inr rfl) fun j hj=>(key j).choose_spec.2 hj
end
end Go.Ab

