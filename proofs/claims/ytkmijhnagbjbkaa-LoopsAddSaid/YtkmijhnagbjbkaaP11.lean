/- A part of the proof: nothing is assumed. -/
import Derived.Test.YtkmijhnagbjbkaaP5
import Derived.Test.YtkmijhnagbjbkaaP10
import Derived.Test.YtkmijhnagbjbkaaP9
set_option linter.all false
namespace Go.Ab
open Go.Proofs
theorem livesT:ToldOk P05 G05 13 [] (.bool true) :=
 stepV_told (A:=A05) (K:=inlW P05 G05 A05 (fun f=>!([23,27,40,47,32,64].contains f)) (fun f=>f==33) 40 10) (m:=40) hm05 hn05 (inlW_ok hm05 hn05 40 10) (by kernel_rfl)
open Go.Proofs
theorem yes5 {f:FuncId} {p:List T->T->Prop} {args:List T} {r:T} (hp:p = ToldOk P05 G05 f) (t:ToldOk P05 G05 f args r):decF (p args r) = true:=by
 subst hp; exact decF_iff.2 t
section
variable {o:Os} {N:Nat}
end
open Go.Proofs
section
variable {o:Os} {N:Nat}
end
open Go.Proofs
section
variable {ln:Nat->Nat} {L:Nat->Nat->Lpp} {l:Lpp} {K:Nat}
def lnA (ln:Nat->Nat) (K:Nat):Nat->Nat:=fun e=>if e = K then ln e+1 else ln e
def LA (ln:Nat->Nat) (L:Nat->Nat->Lpp) (K:Nat) (l:Lpp):Nat->Nat->Lpp:=fun e i=>if e = K/\i = ln e then l else L e i
def H17 (ln:Nat->Nat) (L:Nat->Nat->Lpp) (K:Nat) (l:Lpp) (y k:Nat):Heap:=g1 ln L K l [rC5 (lnA ln K) (LA ln L K l) y (lnA ln K y),qB5 (LA ln L K l y) (lnA ln K y) k]
theorem qM_same {g:Nat->Lpp} {m k:Nat} {x:Lpp} {X:Blk} (hx:x = g k):SameBlks (bkR l.th l.nt :: b64 l.ps l.np :: tK ln L K 3 :: rK ln L K l :: X :: [qM5 g m k x]) (bkR l.th l.nt :: b64 l.ps l.np :: tK ln L K 3 :: rK ln L K l :: X :: [qB5 g m (k+1)]):=by
 refine .cons ⟨rfl,rfl,rfl,id,fun _ _=>rfl⟩ (.cons ⟨rfl,rfl,rfl,id,fun _ _=>rfl⟩ (.cons ⟨rfl,rfl,rfl,id,fun _ _=>rfl⟩ (.cons ⟨rfl,rfl,rfl,id,fun _ _=>rfl⟩ (.cons ⟨rfl,rfl,rfl,id,fun _ _=>rfl⟩ (.cons ⟨rfl,rfl,rfl,id,fun e he=>?_⟩ .nil)))))
 show (bif e.blt (k+1) then (g e).c else [T.int .u8 0,.bool false,.nils,.nils]) = mergeL (e==0+k) x.c (bif e.blt k then (g e).c else [T.int .u8 0,.bool false,.nils,.nils])
 rw [mergeL_eq,Nat.zero_add,hx]
 by_cases q:e = k
 ·subst q
  rw [beq_self_eq_true,bltT (show e<e+1 by omega)]; rfl
 ·rw [show (e==k) = false by simpa using q,cond_false]
  have:Nat.blt e (k+1) = Nat.blt e k:=by rw [Bool.eq_iff_iff,Nat.blt_eq,Nat.blt_eq]; omega
  rw [this]
theorem copyN (x:Lpp) (hx:x.Ok):ToldOk P05 G05 33 [.agg x.c] (rs5 x):=by
 have t:=(copyLoopT x hx).frz
 exact t.aggTo (.cons (.refl _) (.cons (.refl _) (.cons (.new (.view (.inr rfl) fun _ _=>.refl _)) (.cons (.new (.view (.inr rfl) fun _ _=>.refl _)) .nil))))
variable (hl:l.Ok) (hL:∀ y i,(L y i).Ok) (hln:∀ y,ln y<=1000) (hK:K<6)
include hl hL hln hK
theorem elem5 {y:Nat} (hy:y<6) {k:Nat} (hk:k<lnA ln K y):P20 l N17 [11,12,50,51,52,63,64,65] (u17 y (if y = K then .own 3 0 0 (ln K+1) none else lpV (L y) (ln y) none) (lnA ln K y) k) (H17 ln L K l y k) .normal [11,12,50,51,52,63,64,65]
 (u17 y (if y = K then .own 3 0 0 (ln K+1) none else lpV (L y) (ln y) none) (lnA ln K y) k) (H17 ln L K l y (k+1)):=by
 obtain ⟨p,hp⟩:=is_val P05 G05 33
 have hKo:∀ x,OrcOk P05 G05 (K33n p x):=fun x=>told_add none_ok (callF_told hp)
 have b1:(decide ((0:Int)<=Int.ofNat k)&&decide (Int.ofNat k<Int.ofNat (lnA ln K y))) = true:=by simpa using hk
 have b2:(Nat.blt (0+k) (lnA ln K y)&&true&&true&&true) = true:=by rw [Nat.zero_add,bltT hk]; rfl
 by_cases q:y = K
 ·subst q
  have em:lnA ln y y = ln y+1:=by unfold lnA; rw [if_pos rfl]
  rw [if_pos rfl]
  unfold H17
  rw [em] at hk b1 b2 ⊢
  have e18:=c18o ln L (lnA ln y) (LA ln L y l) l y y k (LA ln L y l y)
  rw [b1,Nat.zero_add,bltT hk,cond_true,cond_true] at e18
  by_cases q2:k<ln y
  ·rw [rKc_lt q2] at e18
   have ex:L y k = LA ln L y l y k:=by unfold LA; rw [if_neg (fun hh=>by omega)]
   exact Pz.seq (by kernel_rfl) (run20 none_ok e18) (Pz.post (run20 (hKo _) ((c19v ln L (lnA ln y) (LA ln L y l) l y y (ln y+1) k (.own 3 0 0 (ln y+1) none) p (LA ln L y l y) (L y k) hy).trans (bift (yes5 hp (copyN _ (hL y k))) (bift b1 (bift b2 rfl))))) fun nt=>.same (qM_same ex))
  ·obtain rfl:k = ln y:=by omega
   rw [rKc_at] at e18
   have ex:l = LA ln L y l y (ln y):=by unfold LA; rw [if_pos ⟨rfl,rfl⟩]
   have t33:ToldOk P05 G05 33 [resolveArg (g1 ln L y l [rC5 (lnA ln y) (LA ln L y l) y (ln y+1),qB5 (LA ln L y l y) (ln y+1) (ln y)]) (.agg (lo5 l))] (rs5 l) :=
    (copyN l hl).sim (.cons (.agg (res_lo rfl rfl rfl rfl)) .nil)
   exact Pz.seq (by kernel_rfl) (run20 none_ok e18) (Pz.post (run20 (hKo _) ((c19o ln L (lnA ln y) (LA ln L y l) l y y (ln y+1) (ln y) (.own 3 0 0 (ln y+1) none) p (LA ln L y l y) hy).trans (bift (yes5 hp t33) (bift b1 (bift b2 rfl))))) fun nt=>.same (qM_same ex))
 ·have em:lnA ln K y = ln y:=by unfold lnA; rw [if_neg q]
  rw [if_neg q]
  unfold H17
  rw [em] at hk b1 b2 ⊢
  have ex:L y k = LA ln L K l y k:=by unfold LA; rw [if_neg (fun hh=>q hh.1)]
  have e18:=c18v ln L (lnA ln K) (LA ln L K l) l K y (ln y) k (LA ln L K l y) (L y)
  rw [b1,cond_true] at e18
  exact Pz.seq (by kernel_rfl) (run20 none_ok e18) (Pz.post (run20 (hKo _) ((c19v ln L (lnA ln K) (LA ln L K l) l K y (ln y) k (lpV (L y) (ln y) none) p (LA ln L K l y) (L y k) hy).trans (bift (yes5 hp (copyN _ (hL y k))) (bift b1 (bift b2 rfl))))) fun nt=>.same (qM_same ex))
omit hl hL hln hK in
theorem frz5 {y:Nat}:W20 [11,50,51,52] (u13 y) (H17 ln L K l y (lnA ln K y)) (u13 y) (g1 ln L K l [rB5 (lnA ln K) (LA ln L K l) (y+1)]):=fun nt=>by
 refine .trans (.canon [0,1,2,3,4] rfl) (.simAll rfl (fun i x z h1 h2=>?_) (.cons ⟨rfl,rfl,rfl⟩ (fun _=>⟨rfl,fun _ _=>rfl⟩) (fun _ _=>.refl _) (.cons ⟨rfl,rfl,rfl⟩ (fun _=>⟨rfl,fun _ _=>rfl⟩) (fun _ _=>.refl _) (.cons ⟨rfl,rfl,rfl⟩ (fun h=>by cases h) (fun e _=>?_) (.cons ⟨rfl,rfl,rfl⟩ (fun h=>by cases h) (fun j hj=>?_) (.cons ⟨rfl,rfl,rfl⟩ (fun h=>by cases h) (fun e he=>?_) .nil))))))
 ·have:z = x:=Option.some.inj (h2.symm.trans h1)
  subst this
  exact .refl _
 ·show SimL (((tK ln L K 3).get e).map (ren0 [0,1,2,3,4] (H17 ln L K l y (lnA ln K y)))) ((tK ln L K 3).get e)
  rw [renT rfl]; exact .refl _
 ·show SimL ((rKc ln L K l j).map (ren0 [0,1,2,3,4] (H17 ln L K l y (lnA ln K y)))) (rKc ln L K l j)
  rw [renK rfl rfl hj]; exact .refl _
 ·show SimL [ren0 [0,1,2,3,4] (H17 ln L K l y (lnA ln K y)) (bif e==y then .own 5 0 0 (lnA ln K y) (some (lnA ln K y)) else bif e.blt y then lpV (LA ln L K l e) (lnA ln K e) none else .nils)] [bif e.blt (y+1) then lpV (LA ln L K l e) (lnA ln K e) none else .nils]
  by_cases q:e = y
  ·subst q
   rw [beq_self_eq_true,cond_true,bltT (show e<e+1 by omega),cond_true]
   have ee:ren0 [0,1,2,3,4] (H17 ln L K l e (lnA ln K e)) (.own 5 0 0 (lnA ln K e) (some (lnA ln K e))) = (bif (true&&(true&&Nat.ble (0+lnA ln K e) (lnA ln K e))) then T.view 4 (lnA ln K e) (fun j=>((qB5 (LA ln L K l e) (lnA ln K e) (lnA ln K e)).get (0+j)).map (resolve 3 [0,1,2,3,4] (H17 ln L K l e (lnA ln K e)))) (some (lnA ln K e)) else .undef):=rfl
   rw [ee,bleT (show 0+lnA ln K e<=lnA ln K e by omega)]
   refine .cons (.inr ⟨rfl,.view (.inr rfl) fun j hj=>?_,rfl⟩) .nil
   rw [Nat.zero_add]
   show Sims ((bif j.blt (lnA ln K e) then (LA ln L K l e j).c else [T.int .u8 0,.bool false,.nils,.nils]).map (resolve 3 [0,1,2,3,4] (H17 ln L K l e (lnA ln K e)))) (LA ln L K l e j).c
   rw [bltT hj]
   exact .refl _
  ·rw [show (e==y) = false by simpa using q,cond_false]
   have:Nat.blt e (y+1) = Nat.blt e y:=by rw [Bool.eq_iff_iff,Nat.blt_eq,Nat.blt_eq]; omega
   rw [this]
   cases Nat.blt e y <;> exact .refl _
omit hl hL hln hK in
theorem mk5_yes {α:Type} {m:Nat} (hm:m<=100000) (X Y:α):mk5 m X Y = X:=by
 unfold mk5
 have:(decide ((0:Int)<=Int.ofNat m)&&decide (Int.ofNat m<=Int.ofNat m)&&decide (Int.ofNat m * 56<=140737488355328)&&decide (Int.ofNat m<=9223372036854775807)) = true:=by
  simp only [Bool.and_eq_true,decide_eq_true_eq]
  have:Int.ofNat m = (m:Int):=rfl
  omega
 rw [this]; rfl
theorem row5 {y:Nat} (hy:y<6):P20 l L13 [11,50,51,52] (u13 y) (g1 ln L K l [rB5 (lnA ln K) (LA ln L K l) y]) .normal [11,50,51,52] (u13 (y+1)) (g1 ln L K l [rB5 (lnA ln K) (LA ln L K l) (y+1)]):=by
 have hm:lnA ln K y<=1001:=by have:=hln y; unfold lnA; split <;> omega
 have b8:decide (Int.ofNat y<6) = true:=by rw [decide_eq_true_eq]; show (y:Int)<6; omega
 have q8:P20 l (1 :: L13) [11,50,51,52] (u13 y) (g1 ln L K l [rB5 (lnA ln K) (LA ln L K l) y]) .normal [11,50,51,52,53] (u13 y ++ [.bool true]) (g1 ln L K l [rB5 (lnA ln K) (LA ln L K l) y]):=run20 none_ok ((c8 ln L (lnA ln K) (LA ln L K l) l K y).trans (bift b8 rfl))
 have q9:P20 l (1 :: 2 :: L13) [11,50,51,52,53] (u13 y ++ [.bool true]) (g1 ln L K l [rB5 (lnA ln K) (LA ln L K l) y]) .normal [11,50,51,52] (u13 y) (g1 ln L K l [rB5 (lnA ln K) (LA ln L K l) y]):=run20 none_ok (c9t ln L (lnA ln K) (LA ln L K l) l K y)
 have q21:P20 l (2 :: 2 :: 2 :: L13) [11,50,51,52] (u13 y) (g1 ln L K l [rB5 (lnA ln K) (LA ln L K l) (y+1)]) .normal [11,50,51,52] (u13 (y+1)) (g1 ln L K l [rB5 (lnA ln K) (LA ln L K l) (y+1)]):=by
  have e:=c21 ln L (lnA ln K) (LA ln L K l) l K y
  rw [up1 (by omega)] at e
  exact run20 none_ok e
 have mkS:SameBlks (g1 ln L K l [⟨0,1,6,fun e=>[bif e==0+y then .own 5 0 0 (lnA ln K y) (some (lnA ln K y)) else bif e.blt y then lpV (LA ln L K l e) (lnA ln K e) none else .nils],false,false,none⟩,⟨0,4,lnA ln K y,fun x=>[.int .u8 0,.bool false,.nils,.nils],false,false,none⟩]) (H17 ln L K l y 0) :=
  .cons ⟨rfl,rfl,rfl,id,fun _ _=>rfl⟩ (.cons ⟨rfl,rfl,rfl,id,fun _ _=>rfl⟩ (.cons ⟨rfl,rfl,rfl,id,fun _ _=>rfl⟩ (.cons ⟨rfl,rfl,rfl,id,fun _ _=>rfl⟩ (.cons ⟨rfl,rfl,rfl,id,fun e _=>by
   show [bif e==y then T.own 5 0 0 (lnA ln K y) (some (lnA ln K y)) else bif e.blt y then lpV (LA ln L K l e) (lnA ln K e) none else .nils] = [bif e==0+y then T.own 5 0 0 (lnA ln K y) (some (lnA ln K y)) else bif e.blt y then lpV (LA ln L K l e) (lnA ln K e) none else .nils]
   rw [Nat.zero_add]⟩ (.cons ⟨rfl,rfl,rfl,id,fun e _=>by
   show (bif e.blt 0 then (LA ln L K l y e).c else [T.int .u8 0,.bool false,.nils,.nils]) = [T.int .u8 0,.bool false,.nils,.nils]
   rw [show e.blt 0 = false by rw [Bool.eq_false_iff]; intro h; have:=blt_lt h; omega]; rfl⟩ .nil)))))
 have q14:P20 l M13 [11,50,51,52] (u13 y) (g1 ln L K l [rB5 (lnA ln K) (LA ln L K l) y]) .normal [11,50,51,52] (u13 y) (g1 ln L K l [rB5 (lnA ln K) (LA ln L K l) (y+1)]):=by
  have hin:P20 l (2 :: 2 :: 2 :: M13) [11,12,50,51,52,63,64,65] (u17 y (if y = K then .own 3 0 0 (ln K+1) none else lpV (L y) (ln y) none) (lnA ln K y) 0) (H17 ln L K l y 0) .normal [11,50,51,52] (u13 y) (g1 ln L K l [rB5 (lnA ln K) (LA ln L K l) (y+1)]):=by
   have hg:=Pz.count (P:=P05) (G:=G05) (A:=A05) (f:=20) (h0:=h05 l) (p:=0 :: 2 :: 2 :: 2 :: M13) (l:=[11,12,50,51,52,63,64,65]) (l1:=[11,12,50,51,52,63,64,65]) (by kernel_rfl) (fun k=>u17 y (if y = K then .own 3 0 0 (ln K+1) none else lpV (L y) (ln y) none) (lnA ln K y) k) (fun k=>H17 ln L K l y k) (n:=lnA ln K y) (e:=.exit 2) (by simp) (fun k hk=>by
    have bk:decide (Int.ofNat k<Int.ofNat (lnA ln K y)) = true:=by simpa using hk
    have e20:=c20 ln L (lnA ln K) (LA ln L K l) l K y (lnA ln K y) k (if y = K then .own 3 0 0 (ln K+1) none else lpV (L y) (ln y) none) (LA ln L K l y)
    rw [up1 (by omega)] at e20
    exact Pz.seq (by kernel_rfl) (run20 none_ok ((c17 ln L (lnA ln K) (LA ln L K l) l K y (lnA ln K y) k _ (LA ln L K l y)).trans (bift bk rfl))) (Pz.seq (by kernel_rfl) (run20 none_ok (c17t ln L (lnA ln K) (LA ln L K l) l K y (lnA ln K y) k _ (LA ln L K l y))) (Pz.seq (by kernel_rfl) (Pz.blk (id:=3) (e:=.normal) (by kernel_rfl) rfl (elem5 hl hL hln hK hy hk)) (run20 none_ok e20))))
    (Pz.seq (by kernel_rfl) (run20 none_ok ((c17 ln L (lnA ln K) (LA ln L K l) l K y (lnA ln K y) (lnA ln K y) _ (LA ln L K l y)).trans (biff (by simp) rfl))) (Pz.seqX (by kernel_rfl) (by simp) (run20 none_ok (c17f ln L (lnA ln K) (LA ln L K l) l K y (lnA ln K y) (lnA ln K y) _ (LA ln L K l y)))))
   exact Pz.post (Pz.only (Pz.blk (id:=2) (e:=.exit 2) (by kernel_rfl) rfl hg) rfl) frz5
  by_cases q:y = K
  ·subst q
   have em:lnA ln y y = ln y+1:=by unfold lnA; rw [if_pos rfl]
   rw [if_pos rfl] at hin
   have e15:=c15o ln L (lnA ln y) (LA ln L y l) l y y (ln y+1) hy
   rw [mk5_yes (by omega)] at e15
   have e16:=c16o ln L (lnA ln y) (LA ln L y l) l y y (LA ln L y l y)
   unfold H17 at hin mkS
   rw [em] at hin mkS
   exact Pz.seq (by kernel_rfl) (run20 none_ok (c14o ln L (lnA ln y) (LA ln L y l) l y hK)) (Pz.seq (by kernel_rfl) (Pz.post (run20 none_ok e15) fun nt=>.same mkS) (Pz.seq (by kernel_rfl) (run20 none_ok e16) hin))
  ·have em:lnA ln K y = ln y:=by unfold lnA; rw [if_neg q]
   rw [if_neg q] at hin
   have e15:=c15v ln L (lnA ln K) (LA ln L K l) l K y (ln y) (L y) hy
   rw [mk5_yes (by omega)] at e15
   have e16:=c16v ln L (lnA ln K) (LA ln L K l) l K y (ln y) (LA ln L K l y) (L y)
   unfold H17 at hin mkS
   rw [em] at hin mkS
   exact Pz.seq (by kernel_rfl) (run20 none_ok (c14v ln L (lnA ln K) (LA ln L K l) l K y hK hy q)) (Pz.seq (by kernel_rfl) (Pz.post (run20 none_ok e15) fun nt=>.same mkS) (Pz.seq (by kernel_rfl) (run20 none_ok e16) hin))
 exact Pz.seq (by kernel_rfl) q8 (Pz.seq (by kernel_rfl) q9 (Pz.seq (by kernel_rfl) (Pz.blk (id:=1) (e:=.normal) (by kernel_rfl) rfl q14) q21))
end
end Go.Ab

