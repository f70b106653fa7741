/- A part of the proof: nothing is assumed. -/
import Derived.Test.YteoamlekamflbaaP11
import Derived.Test.YteoamlekamflbaaP12
set_option linter.all false
namespace Go.Ab
open Go.Proofs
noncomputable def c42:Code:=match P18.funcs[42]? with | some fn=>fn.body.getD .skip | none=>.skip
def ch42 (k:Nat) (c:Code):Code:=match k with
 | 0=>inB (sq2 c)
 | k+1=>sq2 (ch42 k c)
def pk42 (k:Nat) (c:Code):Code:=sq1 (ch42 k c)
def y42 (C:Nat->Nat->Sti) (ln:Nat->Nat) (h i:Nat):List T:=[.reg [chV C ln h],.own 0 0 0 (i+1) (some (1+h)),.int .i64 0]
theorem g0 (C:Nat->Nat->Sti) (ln:Nat->Nat) (h:Nat):codeL P18 G18 A18 noneO 0 42 [] sq1 [0] [.agg [chV C ln h]] [] [1] =
(
 some ((.normal,[.reg [chV C ln h]],[]))):=by kernel_rfl
theorem g1 (C:Nat->Nat->Sti) (ln:Nat->Nat) (h:Nat) (n:Nat) (p q:List T->T->Prop):codeL P18 G18 A18 (K42 p q 0 n) 0 42 [] (pk42 0) [1] [.reg [chV C ln h]] [] [1] =
(
 bif decF (p [.view 1 h (fun i=>[srV (C i) (ln i)
 none])
 none] (.int .i64 0)) then
 some ((.normal,[.reg [chV C ln h]],[]))
 else
 none):=by kernel_rfl
theorem g2 (C:Nat->Nat->Sti) (ln:Nat->Nat) (h:Nat) (n:Nat) (p q:List T->T->Prop):codeL P18 G18 A18 (K42 p q 0 n) 0 42 [] (pk42 1) [1] [.reg [chV C ln h]] [] [1,5] =
(
 bif decide (0<Int.ofNat h) then
 bif decF (q [.view 5 (ln (0:Nat)) (fun j=>[.int .u8 (C (0:Nat) j).k,.int .u8 (C (0:Nat) j).y,.int .i64 (C (0:Nat) j).a,.int .i64 (C (0:Nat) j).b,.bool (C (0:Nat) j).f])
 none] (.int .i64 (.ofNat n))) then
 bif decide (0<=Int.ofNat n)&&decide (Int.ofNat n<=Int.ofNat n)&&decide (Int.ofNat n * 8<=140737488355328)&&decide (Int.ofNat n<=9223372036854775807) then
 some ((.normal,[.reg [chV C ln h],.own 0 0 0 n (some n)],bk59 (fun j=>(0:Int)) n))
 else none else none else
 none):=by kernel_rfl
theorem g3 (C:Nat->Nat->Sti) (ln:Nat->Nat) (h:Nat) (n:Nat):codeL P18 G18 A18 noneO 0 42 [(6,litS (v42a C ln h n 0) (bk59 (fun _=>0) n) (.exit 0) [.reg [chV C ln h],.own 0 0 0 n (some n)] (bk59 (fun _=>1) n))] (pk42 2) [1,5] [.reg [chV C ln h],.own 0 0 0 n (some n)] (bk59 (fun _=>0) n) [1,5] =
(
 bif weakF (v42a C ln h n (0:Int)) (bk59 (fun j=>(0:Int)) n) (v42a C ln h n (0:Int)) (bk59 (fun j=>(0:Int)) n) then
 some ((.normal,[.reg [chV C ln h],.own 0 0 0 n (some n)],bk59 (fun j=>(1:Int)) n))
 else
 none):=by kernel_rfl
theorem g4 (C:Nat->Nat->Sti) (ln:Nat->Nat) (h:Nat) (n:Nat):codeL P18 G18 A18 noneO 0 42 [] (pk42 3) [1,5] [.reg [chV C ln h],.own 0 0 0 n (some n)] (bk59 (fun _=>1) n) [1,5,7] =
(
 bif decide (1<=IntKind.i64.wrap (1+Int.ofNat h))&&decide (IntKind.i64.wrap (1+Int.ofNat h) * (24:Int)<=(140737488355328:Int))&&decide (IntKind.i64.wrap (1+Int.ofNat h)<=(9223372036854775807:Int)) then
 some ((.normal,[.reg [chV C ln h],.own 0 0 0 n (some n),.own (List.length (bk59 (fun j=>(1:Int)) n)) (0:Nat) (0:Nat) (1:Nat) (some (IntKind.i64.wrap ((1:Int)+Int.ofNat h)).toNat)],bB42 (fun e=>(1:Int)) n :: h14 (IntKind.i64.wrap ((1:Int)+Int.ofNat h)).toNat fun e=>.nils))
 else
 none):=by kernel_rfl
theorem g5 (C:Nat->Nat->Sti) (ln:Nat->Nat) (h:Nat) (n m:Nat):codeL P18 G18 A18 noneO 0 42 [] (pk42 4) [1,5,7] [.reg [chV C ln h],.own 0 0 0 n (some n),.own 1 0 0 1 (some m)] [bB42 (fun _=>1) n,⟨0,1,m,fun _=>[.nils],false,false,none⟩] [1,7] =
(
 bif Nat.blt 0 m&&[T.own 0 0 0 n (some n)].length==(1:Nat)&&true&&true then
 some ((.normal,[.reg [chV C ln h],.own 1 0 0 1 (some m)],bB42 (fun e=>(1:Int)) n :: h14 m fun e =>
 bif e==(0:Nat) then .own 0 0 0 n (some n)
 else .nils))
 else
 none):=by kernel_rfl
theorem g6 (C:Nat->Nat->Sti) (ln:Nat->Nat) (h:Nat) (n m:Nat):codeL P18 G18 A18 noneO 0 42 [] (pk42 5) [1,7] [.reg [chV C ln h],.own 1 0 0 1 (some m)] [bB42 (fun _=>1) n,⟨0,1,m,fun e=>[bif e==0 then .own 0 0 0 n (some n) else .nils],false,false,none⟩] [1,7,8] =
(
 some ((.normal,[.reg [chV C ln h],.own 1 0 0 1 (some m),.int .i64 0],bB42 (fun e=>(1:Int)) n :: h14 m fun e =>
 bif e==(0:Nat) then .own 0 0 0 n (some n)
 else .nils))):=by kernel_rfl
theorem g7 (C:Nat->Nat->Sti) (ln:Nat->Nat) (h i:Nat) (e:Int) (L L2:Nat->Nat->Int) (W W2:Nat->Nat):codeL P18 G18 A18 noneO 0 42 [(14,litS (v42b C ln h 0) [lB42 L W h] (.exit 2) [.own 0 0 0 (i+1) (some (1+h)),.int .i64 e] [lB42 L2 W2 h])] (ch42 6) [1,7,8] (y42 C ln h 0) [lB42 L W h] [2,3] =
(
 bif weakF (v42b C ln h (0:Nat)) (h14 (1+h) fun e=>slV (L e) (W e) (some (W e))) (v42b C ln h (0:Nat)) (h14 (1+h) fun e=>slV (L e) (W e) (some (W e))) then
 bif !decide (e = 0) then
 some ((.ret,[.nils,.int .i64 e],h14 (1+h) fun e=>slV (L2 e) (W2 e) (some (W2 e))))
 else
 some ((.ret,[.own 0 0 0 (i+1) (some (1+h)),.int .i64 0],h14 (1+h) fun e=>slV (L2 e) (W2 e) (some (W2 e))))
 else
 none):=by kernel_rfl
open Go.Proofs
theorem rE_zero {r:Nat->Sti} {n:Nat} (h:rE r n = 0):1<=n/\n<=16/\allV r n = true/\(1<=nR5 r n/\nR5 r n<=16)/\1<=mR5 r n/\mR5 r n<=16:=by
 unfold rE at h
 by_cases h1:16<n
 ·rw [if_pos h1] at h; omega
 rw [if_neg h1] at h
 by_cases h2:n = 0
 ·rw [if_pos h2] at h; omega
 rw [if_neg h2] at h
 by_cases h3:allV r n = true
 ·rw [if_pos h3] at h
  by_cases h4:wOk (nR5 r n) = true/\wOk (mR5 r n) = true
  ·unfold wOk at h4
   simp only [Bool.and_eq_true,decide_eq_true_eq] at h4
   exact ⟨by omega,by omega,h3,h4.1,h4.2⟩
  ·rw [if_neg h4] at h; omega
 ·rw [if_neg h3] at h; omega
theorem rowsE_iff (C:Nat->Nat->Sti) (ln:Nat->Nat):∀ h,rowsE C ln h = 0->∀ i,i<h->rE (C i) (ln i) = 0
 | 0,_=>fun i h=>by omega
 | h+1,q=>by
  unfold rowsE at q
  by_cases q1:rowsE C ln h ≠ 0
  ·rw [if_pos q1] at q; exact absurd q q1
  ·rw [if_neg q1] at q
   have q1:rowsE C ln h = 0:=by omega
   intro i hi
   by_cases e:i = h
   ·rw [e]; exact q
   ·exact rowsE_iff C ln h q1 i (by omega)
structure ChOk (C:Nat->Nat->Sti) (ln:Nat->Nat) (h:Nat):Prop where
 h1:1<=h
 h31:h<=31
 odd:h % 2 = 1
 row:∀ i,i<h->rE (C i) (ln i) = 0
 link:∀ i,i+1<h->nR5 (C (i+1)) (ln (i+1)) = mR5 (C i) (ln i)
theorem chE_zero {C:Nat->Nat->Sti} {ln:Nat->Nat} {h:Nat} (q:chE C ln h = 0):ChOk C ln h:=by
 unfold chE at q
 by_cases h1:31<h
 ·rw [if_pos h1] at q; omega
 rw [if_neg h1] at q
 by_cases h2:h % 2 = 0
 ·rw [if_pos h2] at q; omega
 rw [if_neg h2] at q
 by_cases h3:rowsE C ln h ≠ 0
 ·rw [if_pos h3] at q; exact absurd q h3
 rw [if_neg h3] at q
 by_cases h4:linksB C ln (h - 1) = true
 ·refine ⟨by omega,by omega,by omega,rowsE_iff C ln h (by omega),fun i hi=>?_⟩
  have:=(linksB_iff C ln (h - 1)).1 h4 i (by omega)
  unfold linkB at this
  simpa using this
 ·rw [if_neg h4] at q; omega
theorem ChOk.wd {C:Nat->Nat->Sti} {ln:Nat->Nat} {h:Nat} (ok:ChOk C ln h) (hC:∀ i j,(C i j).Ok):∀ i,i<h->WD C ln i = offN (C i) (ln i)
 | 0,_=>rfl
 | i+1,hi=>by
  have:=ok.link i hi
  have h1:=(offN_eq (C (i+1)) (hC (i+1)) (ln (i+1))).1
  have h2:=(offN_eq (C i) (hC i) (ln i)).2
  show outN (C i) (ln i) = _
  omega
theorem ChOk.out {C:Nat->Nat->Sti} {ln:Nat->Nat} {h:Nat} (ok:ChOk C ln h) (hC:∀ i j,(C i j).Ok) {i:Nat} (hi:i<h):outN (C i) (ln i)<=16/\1<=outN (C i) (ln i)/\offN (C i) (ln i)<=16/\1<=offN (C i) (ln i):=by
 obtain ⟨_,_,_,h3,h4⟩:=rE_zero (ok.row i hi)
 have h1:=offN_eq (C i) (hC i) (ln i)
 omega
theorem ren0_bB {σ:List Nat} {h:Heap} {ix m:Nat} {g:Nat->Int} (hp:posOf σ ix = none) (hc:σ.contains ix = false) (hi:h[ix]? = some (bB42 g m)):ren0 σ h (.own ix 0 0 m (some m)) = slV g m (some m):=by
 unfold bB42 at hi
 simp only [ren0,hp,resolve,hc,cond_false,hi,beq_self_eq_true,Bool.true_and,Option.isNone_none]
 rw [show Nat.ble (0+m) m = true from bleT (by omega)]
 simp only [cond_true,Nat.zero_add]
 rfl
section
variable (C:Nat->Nat->Sti) (ln:Nat->Nat) (h:Nat)
theorem W42_at {i j:Nat} (hj:j<=i):W42 C ln i j = WD C ln j:=by unfold W42; rw [bleT hj]; rfl
theorem W42_ne {i j:Nat} (hj:i<j):W42 C ln i j = 0:=by unfold W42; rw [bleF (by omega)]; rfl
theorem s42 (ok:ChOk C ln h) (hC:∀ i j,(C i j).Ok) (i:Nat) (hi:i<h) (hg:rowEr (C i) (LD C ln i) (ln i) = 0):Step P18 G18 (A18 42) 42 14 1 (v42b C ln h i) [lB42 (LD C ln) (W42 C ln i) h] (v42b C ln h (i+1)) [lB42 (LD C ln) (W42 C ln (i+1)) h]:=by
 obtain ⟨p,hp⟩:=is_val P18 G18 57
 obtain ⟨o1,o2,o3,o4⟩:=ok.out hC hi
 obtain ⟨r1,r2,_,_,_⟩:=rE_zero (ok.row i hi)
 have h31:=ok.h31
 have hg2:∀ k,k<ln i->erK (C i) (LD C ln i) k = 0:=fun k hk=>by
  rcases firstBadB (fun k=>decide (erK (C i) (LD C ln i) k = 0)) (ln i) with q | ⟨I,q1,q2,q3⟩
  ·simpa using q k hk
  ·exfalso
   have:=rowEr_at (C i) (LD C ln i) I (by simpa using q2) (fun j hj=>by simpa using q3 j hj) (ln i) q1
   rw [hg] at this
   have q2:¬ erK (C i) (LD C ln i) I = 0:=by simpa using q2
   exact q2 this.symm
 have hl:=l42c C ln h i (LD C ln i) (LD C ln) (W42 C ln i) hC r2 o1 hg2
 have t1:=rowMakesT (C i) (ln i) none (by omega) (hC i)
 rw [(offN_eq (C i) (hC i) (ln i)).2] at t1
 have ew:W42 C ln i i = offN (C i) (ln i):=by rw [W42_at C ln (Nat.le_refl i),ok.wd hC i hi]
 rw [← ew] at hl
 have eW:∀ j,j ≠ i+1->W42 C ln (i+1) j = W42 C ln i j:=fun j hj=>by
  by_cases q:j<=i
  ·rw [W42_at C ln q,W42_at C ln (by omega)]
  ·rw [W42_ne C ln (by omega),W42_ne C ln (by omega)]
 have em:W42 C ln (i+1) (i+1) = outN (C i) (ln i):=W42_at C ln (Nat.le_refl _)
 have eg:LD C ln (i+1) = conF (C i) (LD C ln i) (ln i):=rfl
 generalize conF (C i) (LD C ln i) (ln i) = g at *
 generalize outN (C i) (ln i) = m at *
 generalize W42 C ln (i+1) = W' at *
 generalize W42 C ln i = W at *
 generalize LD C ln = L at *
 refine Step.mkC (A:=A18) (K:=K42b p m) (m:=0) (told_add none_ok (callF_told hp)) rfl rfl (loops1 hl) [0] (v1:=v42b C ln h (i+1)) (h1:=[⟨0,1,1+h,fun j=>bif Nat.ble (0+(i+1)) j&&Nat.blt j (0+(i+1)+1) then [[T.own 1 0 0 m (some m)]].getD (0+(j - (0+(i+1)))) [] else [slV (L j) (W j) (some (W j))],false,false,none⟩,bB42 g m,⟨0,1,1,fun j=>[[T.own 1 0 0 m (some m)]].getD j [],false,true,none⟩]) ?_ (by kernel_rfl) (v2:=v42b C ln h (i+1)) (by rfl) rfl fun nt=>.same (.cons ⟨rfl,rfl,rfl,id,fun j hj=>?_⟩ .nil)
 ·have ei:IntKind.i64.wrap ((i:Int)+1) = ((i+1:Nat):Int):=by rw [wr64 (by omega) (by omega)]; omega
  rw [j42,ofNatE i,ei]
  rw [Nat.zero_add i]
  refine bift (dT (by rw [ofNatE]; omega)) ?_
  refine bift (by rw [dT (by omega),dT (by rw [ofNatE]; omega)]; rfl) ?_
  refine bift (by rw [dT (by omega),dT (by rw [ofNatE]; omega)]; rfl) ?_
  refine bift (bltT (by omega)) ?_
  refine bift (callF_yes hp t1) ?_
  refine bift (by rw [ofNatE,dT (by omega),dT (by omega),dT (by omega)]; rfl) ?_
  refine bift (weakF_of ⟨rfl,.refl _⟩) ?_
  refine bift (bleT (by omega)) ?_
  refine bift (bleT (by omega)) ?_
  refine bift (bleT (by omega)) ?_
  refine bift (bleT (by omega)) ?_
  rfl
 ·show [slV (L j) (W' j) (some (W' j))] = List.map (ren0 [0] _) (bif Nat.ble (0+(i+1)) j&&Nat.blt j (0+(i+1)+1) then [[T.own 1 0 0 m (some m)]].getD (0+(j - (0+(i+1)))) [] else [slV (L j) (W j) (some (W j))])
  by_cases q:j = i+1
  ·subst q
   rw [Nat.zero_add,bleT (Nat.le_refl _),bltT (by omega),Nat.sub_self]
   show _ = [ren0 [0] _ (T.own 1 0 0 m (some m))]
   rw [ren0_bB (g:=g) rfl rfl rfl,em,eg]
  ·rw [Nat.zero_add,show (Nat.ble (i+1) j&&Nat.blt j (i+1+1)) = false by
    by_cases q2:i+1<=j
    ·rw [bltF (by omega),Bool.and_false]
    ·rw [bleF (by omega),Bool.false_and],cond_false,eW j q]
   rfl
theorem e42 (ok:ChOk C ln h) (hC:∀ i j,(C i j).Ok) (i:Nat) (hi:i<h) (hg:rowEr (C i) (LD C ln i) (ln i) ≠ 0):Last P18 G18 (A18 42) 42 14 1 (v42b C ln h i) [lB42 (LD C ln) (W42 C ln i) h] (.exit 2) [.own 0 0 0 (i+1) (some (1+h)),.int .i64 (rowEr (C i) (LD C ln i) (ln i))] [lB42 (LD C ln) (W42 C ln i) h]:=by
 obtain ⟨p,hp⟩:=is_val P18 G18 57
 obtain ⟨o1,o2,o3,o4⟩:=ok.out hC hi
 obtain ⟨r1,r2,_,_,_⟩:=rE_zero (ok.row i hi)
 have h31:=ok.h31
 obtain ⟨I,q1,q2,q3⟩:∃ I,I<ln i/\erK (C i) (LD C ln i) I ≠ 0/\∀ k,k<I->erK (C i) (LD C ln i) k = 0:=by
  rcases firstBadB (fun k=>decide (erK (C i) (LD C ln i) k = 0)) (ln i) with q | ⟨I,q1,q2,q3⟩
  ·exact absurd (rowEr_zero (C i) (LD C ln i) (ln i) fun k hk=>by simpa using q k hk) hg
  ·exact ⟨I,q1,by simpa using q2,fun j hj=>by simpa using q3 j hj⟩
 rw [rowEr_at (C i) (LD C ln i) I q2 q3 (ln i) q1]
 have hl:=m42c C ln h i (LD C ln i) (LD C ln) (W42 C ln i) hC r2 o1 I q1 q2 q3
 have t1:=rowMakesT (C i) (ln i) none (by omega) (hC i)
 rw [(offN_eq (C i) (hC i) (ln i)).2] at t1
 have ew:W42 C ln i i = offN (C i) (ln i):=by rw [W42_at C ln (Nat.le_refl i),ok.wd hC i hi]
 rw [← ew] at hl
 generalize conF (C i) (LD C ln i) I = g at *
 generalize outN (C i) (ln i) = m at *
 generalize outN (C i) I = o at *
 generalize erK (C i) (LD C ln i) I = e at *
 generalize W42 C ln i = W at *
 generalize LD C ln = L at *
 refine Last.mkC (A:=A18) (K:=K42b p m) (m:=0) (told_add none_ok (callF_told hp)) rfl rfl (loops1 hl) (by simp) [0] (v1:=[.own 0 0 0 (i+1) (some (1+h)),.int .i64 e]) (h1:=[lB42 L W h,bB42 g m]) ?_ (by kernel_rfl) (v2:=[.own 0 0 0 (i+1) (some (1+h)),.int .i64 e]) (by rfl) rfl fun nt=>.same (.cons ⟨rfl,rfl,rfl,id,fun j hj=>rfl⟩ .nil)
 rw [j42e]
 rw [Nat.zero_add i]
 refine bift (dT (by rw [ofNatE,ofNatE]; omega)) ?_
 refine bift (by rw [ofNatE,dT (by omega),dT (by rw [ofNatE]; omega)]; rfl) ?_
 refine bift (by rw [ofNatE,dT (by omega),dT (by rw [ofNatE]; omega)]; rfl) ?_
 refine bift (bltT (by omega)) ?_
 refine bift (callF_yes hp t1) ?_
 refine bift (by rw [ofNatE,dT (by omega),dT (by omega),dT (by omega)]; rfl) ?_
 refine bift (weakF_of ⟨rfl,.refl _⟩) ?_
 rfl
end
theorem in42 (C:Nat->Nat->Sti) (ln:Nat->Nat) (h n:Nat) (hn:n = WD C ln 0) (Gl:Nat->Option (List T)) (prom:List Nat) (nt:Nat) (l:List Nat):WeakTo Gl prom nt l 0 [.reg [chV C ln h],.own 1 0 0 1 (some (1+h)),.int .i64 0] [bB42 (fun _=>1) n,⟨0,1,1+h,fun e=>[bif e==0 then .own 0 0 0 n (some n) else .nils],false,false,none⟩] (y42 C ln h 0) [lB42 (LD C ln) (W42 C ln 0) h]:=by
 refine .trans (.canon [1] (by kernel_rfl)) ?_
 show WeakTo Gl prom nt l 0 (y42 C ln h 0) [⟨0,1,1+h,fun e=>[ren0 [1] [bB42 (fun _=>1) n,⟨0,1,1+h,fun e=>[bif e==0 then .own 0 0 0 n (some n) else .nils],false,false,none⟩] (bif e==0 then .own 0 0 0 n (some n) else .nils)],false,false,none⟩] _ _
 refine .simAll rfl (fun i x y h1 h2=>by rw [h1] at h2; cases h2; exact .refl _) (.cons ⟨rfl,rfl,rfl⟩ (fun h=>by cases h) (fun j hj=>?_) .nil)
 by_cases q:j = 0
 ·subst q
  show SimL [ren0 [1] _ (.own 0 0 0 n (some n))] [slV (LD C ln 0) (W42 C ln 0 0) (some (W42 C ln 0 0))]
  rw [ren0_bB (g:=fun _=>1) rfl rfl rfl,W42_at C ln (Nat.le_refl 0),← hn]
  exact .refl _
 ·show SimL [ren0 [1] _ (bif j==0 then .own 0 0 0 n (some n) else .nils)] [slV (LD C ln j) (W42 C ln 0 j) (some (W42 C ln 0 j))]
  rw [show (j==0) = false by simpa using q,cond_false,W42_ne C ln (by omega)]
  exact .cons (.inr ⟨rfl,.nilv _ _ (.inr rfl),rfl⟩) .nil
theorem b42:Try.f42.body = some c42:=by kernel_rfl
theorem loops_ch42 (c:Code):∀ k,∀ b ∈ loopsOf (ch42 k c),b ∈ loopsOf c
 | 0=>fun b hb=>loops_sq2 _ _ (loops_inB _ _ hb)
 | k+1=>fun b hb=>loops_ch42 c k b (loops_sq2 _ _ hb)
theorem pc42 {K:Orc} (hK:OrcOk P18 G18 K) {lo:List (Nat × (List T->Heap->LT))} (hL:∀ p ∈ lo,LoopOk P18 G18 (A18 42) 42 p.1 p.2) (k:Nat) {l l':List Nat} {vs vs':List T} {h h':Heap} {e:Ex} (hk:codeL P18 G18 A18 K 0 42 lo (pk42 k) l vs h l' = some (e,vs',h')):CodeGoes P18 G18 (A18 42).prom Try.f42.ntmps (pk42 k c42) (mkSt l vs h) e (mkSt l' vs' h') :=
 goes_codeL hm18 hK Try.func42 b42 (Nat.le_of_ble_eq_true (by kernel_rfl)) (by kernel_rfl) hL (pk42 k) rfl (fun b hb=>loops_ch42 _ k b (loops_sq1 _ _ hb)) hk
theorem e42_body:c42 = .seq (sq1 c42) (.scope (ch42 0 c42)):=by kernel_rfl
theorem e42_ch:∀ k,k<6->ch42 k c42 = .seq (pk42 k c42) (ch42 (k+1) c42):=by
 intro k hk
 obtain rfl | rfl | rfl | rfl | rfl | rfl:k = 0 ∨ k = 1 ∨ k = 2 ∨ k = 3 ∨ k = 4 ∨ k = 5:=by omega
 all_goals kernel_rfl
theorem tail42 {k:Nat} (hk:k<6) {s s1 s':St} (h1:CodeGoes P18 G18 (A18 42).prom Try.f42.ntmps (pk42 k c42) s .normal s1) (h2:TailGoes P18 G18 (A18 42).prom Try.f42.ntmps [] (ch42 (k+1) c42) s1 .ret s'):TailGoes P18 G18 (A18 42).prom Try.f42.ntmps [] (ch42 k c42) s .ret s':=by
 rw [e42_ch k hk]
 exact tail_seq h1 h2
theorem from42 (C:Nat->Nat->Sti) (ln:Nat->Nat) (h:Nat) (hC:∀ i j,(C i j).Ok) (hg:chE C ln h = 0) {vs':List T} {h':Heap} (hy:CodeGoes P18 G18 (A18 42).prom Try.f42.ntmps (ch42 6 c42) (mkSt [1,7,8] (y42 C ln h 0) [lB42 (LD C ln) (W42 C ln 0) h]) .ret (mkSt [2,3] vs' h')) {r:T} (hr:resK P18 G18 (A18 42).prom Try.f42 (mkSt [2,3] vs' h') (fun v=>some (give h' v)) = some r):ToldOk P18 G18 42 [.agg [chV C ln h]] r:=by
 have ok:=chE_zero hg
 have h31:=ok.h31
 have h1:=ok.h1
 obtain ⟨p,hp⟩:=is_val P18 G18 55
 obtain ⟨q,hq⟩:=is_val P18 G18 56
 have hln:∀ i,i<h->ln i<=1000:=fun i hi=>by have:=rE_zero (ok.row i hi); omega
 have t1:=checkRowsT C ln h (by omega) hln hC
 rw [hg] at t1
 have t2:=rowNeedsT (C 0) (ln 0) none (hln 0 (by omega)) (hC 0)
 rw [(offN_eq (C 0) (hC 0) (ln 0)).1,show offN (C 0) (ln 0) = WD C ln 0 from rfl] at t2
 have hn16:=(ok.out hC (show 0<h by omega)).2.2.1
 change WD C ln 0<=16 at hn16
 have hl1:=l42a C ln h (WD C ln 0) (by omega)
 have hin:=in42 C ln h (WD C ln 0) rfl
 generalize WD C ln 0 = n at *
 have ei:(IntKind.i64.wrap (1+(h:Int))).toNat = 1+h:=by rw [wr64 (by omega) (by omega)]; omega
 have ew:IntKind.i64.wrap (1+(h:Int)) = ((1+h:Nat):Int):=by rw [wr64 (by omega) (by omega)]; omega
 have hK:OrcOk P18 G18 (K42 p q 0 n):=told_add (told_add none_ok (callF_told hp)) (callF_told hq)
 have a0:CodeGoes P18 G18 (A18 42).prom Try.f42.ntmps (sq1 c42) (mkSt [0] [.agg [chV C ln h]] []) .normal (mkSt [1] [.reg [chV C ln h]] []):=goes_codeL hm18 none_ok Try.func42 b42 (Nat.le_of_ble_eq_true (by kernel_rfl)) (by kernel_rfl) loops0 sq1 rfl (fun b hb=>loops_sq1 _ _ hb) (g0 C ln h)
 have a1:=pc42 hK loops0 0 (l:=[1]) (l':=[1]) (vs:=[.reg [chV C ln h]]) (h:=[]) (vs':=[.reg [chV C ln h]]) (h':=[]) (e:=.normal) (by
  rw [g1]
  exact bift (callF_yes hp t1) rfl)
 have a2:=pc42 hK loops0 1 (l:=[1]) (l':=[1,5]) (vs:=[.reg [chV C ln h]]) (h:=[]) (vs':=[.reg [chV C ln h],.own 0 0 0 n (some n)]) (h':=bk59 (fun _=>0) n) (e:=.normal) (by
  rw [g2]
  refine bift (dT (by rw [ofNatE]; omega)) ?_
  refine bift (callF_yes hq t2) ?_
  refine bift (by rw [ofNatE,dT (by omega),dT (by omega),dT (by omega),dT (by omega)]; rfl) ?_
  rfl)
 have a3:=pc42 (K:=noneO) none_ok (loops1 hl1) 2 (l:=[1,5]) (l':=[1,5]) (vs:=[.reg [chV C ln h],.own 0 0 0 n (some n)]) (h:=bk59 (fun _=>0) n) (vs':=[.reg [chV C ln h],.own 0 0 0 n (some n)]) (h':=bk59 (fun _=>1) n) (e:=.normal) (by
  rw [g3]
  exact bift (weakF_of ⟨rfl,.refl _⟩) rfl)
 have a4:=pc42 (K:=noneO) none_ok loops0 3 (l:=[1,5]) (l':=[1,5,7]) (vs:=[.reg [chV C ln h],.own 0 0 0 n (some n)]) (h:=bk59 (fun _=>1) n) (vs':=[.reg [chV C ln h],.own 0 0 0 n (some n),.own 1 0 0 1 (some (1+h))]) (h':=[bB42 (fun _=>1) n,⟨0,1,1+h,fun _=>[.nils],false,false,none⟩]) (e:=.normal) (by
  rw [g4,ofNatE h,ei,ew]
  exact bift (by rw [dT (by omega),dT (by omega),dT (by omega)]; rfl) rfl)
 have a5:=pc42 (K:=noneO) none_ok loops0 4 (l:=[1,5,7]) (l':=[1,7]) (vs:=[.reg [chV C ln h],.own 0 0 0 n (some n),.own 1 0 0 1 (some (1+h))]) (h:=[bB42 (fun _=>1) n,⟨0,1,1+h,fun _=>[.nils],false,false,none⟩]) (vs':=[.reg [chV C ln h],.own 1 0 0 1 (some (1+h))]) (h':=[bB42 (fun _=>1) n,⟨0,1,1+h,fun e=>[bif e==0 then .own 0 0 0 n (some n) else .nils],false,false,none⟩]) (e:=.normal) (by
  rw [g5]
  exact bift (by rw [bltT (by omega)]; rfl) rfl)
 have a6:=pc42 (K:=noneO) none_ok loops0 5 (l:=[1,7]) (l':=[1,7,8]) (vs:=[.reg [chV C ln h],.own 1 0 0 1 (some (1+h))]) (h:=[bB42 (fun _=>1) n,⟨0,1,1+h,fun e=>[bif e==0 then .own 0 0 0 n (some n) else .nils],false,false,none⟩]) (vs':=[.reg [chV C ln h],.own 1 0 0 1 (some (1+h)),.int .i64 0]) (h':=[bB42 (fun _=>1) n,⟨0,1,1+h,fun e=>[bif e==0 then .own 0 0 0 n (some n) else .nils],false,false,none⟩]) (e:=.normal) (g6 C ln h n (1+h))
 have all:TailGoes P18 G18 (A18 42).prom Try.f42.ntmps [] c42 (mkSt [0] [.agg [chV C ln h]] []) .ret (mkSt [2,3] vs' h'):=by
  rw [e42_body]
  exact tail_seq a0 (tail_scope (tail42 (by omega) a1 (tail42 (by omega) a2 (tail42 (by omega) a3 (tail42 (by omega) a4 (tail42 (by omega) a5 (tail42 (by omega) a6 (tail_weak (hin G18 (A18 42).prom Try.f42.ntmps [1,7,8]) (tail_end hy)))))))))
 exact goes_told hn18 Try.func42 b42 (by kernel_rfl) (tail_goes all) hr
theorem loadsT (C:Nat->Nat->Sti) (ln:Nat->Nat) (h:Nat) (hC:∀ i j,(C i j).Ok) (hg:chE C ln h = 0):ToldOk P18 G18 42 [.agg [chV C ln h]] (if chEr C ln h = 0 then loadsR C ln h else .tup [.nils,.int .i64 (chEr C ln h)]):=by
 have ok:=chE_zero hg
 have key:∀ {i:Nat} {e:Int} {L2:Nat->Nat->Int} {W2:Nat->Nat} {vs':List T} {h':Heap} {r:T},LoopOk P18 G18 (A18 42) 42 14 (litS (v42b C ln h 0) [lB42 (LD C ln) (W42 C ln 0) h] (.exit 2) [.own 0 0 0 (i+1) (some (1+h)),.int .i64 e] [lB42 L2 W2 h]) →
  (bif !decide (e = (0:Int)) then some (Ex.ret,[T.nils,T.int .i64 e],[lB42 L2 W2 h]) else some (Ex.ret,[T.own 0 0 0 (i+1) (some (1+h)),T.int .i64 0],[lB42 L2 W2 h])) = some (.ret,vs',h')->resK P18 G18 (A18 42).prom Try.f42 (mkSt [2,3] vs' h') (fun v=>some (give h' v)) = some r->ToldOk P18 G18 42 [.agg [chV C ln h]] r:=fun {i e L2 W2 vs' h' r} hl hx hr =>
  from42 C ln h hC hg (goes_codeL hm18 none_ok Try.func42 b42 (Nat.le_of_ble_eq_true (by kernel_rfl)) (by kernel_rfl) (loops1 hl) (ch42 6) rfl (fun b hb=>loops_ch42 _ 6 b hb) (by
   rw [g7]
   exact bift (weakF_of ⟨rfl,.refl _⟩) hx)) hr
 rcases firstBadB (fun i=>decide (rowEr (C i) (LD C ln i) (ln i) = 0)) h with hgood | ⟨I,hI,hb,hlt⟩
 ·have hgood:∀ i,i<h->rowEr (C i) (LD C ln i) (ln i) = 0:=fun i hi=>by simpa using hgood i hi
  rw [if_pos (chEr_zero C ln h hgood)]
  have hl2:LoopOk P18 G18 (A18 42) 42 14 (litS (v42b C ln h 0) [lB42 (LD C ln) (W42 C ln 0) h] (.exit 2) [.own 0 0 0 (h+1) (some (1+h)),.int .i64 0] [lB42 (LD C ln) (WD C ln) h]):=by
   refine loop_steps hm18 (by kernel_rfl) (fun i=>v42b C ln h i) (fun i=>[lB42 (LD C ln) (W42 C ln i) h]) (n:=h) (fun i hi=>s42 C ln h ok hC i hi (hgood i hi)) ?_
   refine Last.mk0 (A:=A18) (m:=0) none_ok rfl rfl loops0 (h1:=[lB42 (LD C ln) (W42 C ln h) h]) (by simp) ?_ (.cons ⟨rfl,rfl,rfl,id,fun j hj=>?_⟩ .nil)
   ·exact l42z C ln h (LD C ln) (W42 C ln h)
   ·have hj:j<1+h:=hj
    show [slV (LD C ln j) (WD C ln j) (some (WD C ln j))] = [slV (LD C ln j) (W42 C ln h j) (some (W42 C ln h j))]
    rw [W42_at C ln (by omega)]
  refine key hl2 rfl ?_
  have e:(show List T × Heap->Option T from fun x=>resK P18 G18 (A18 42).prom Try.f42 (mkSt [2,3] x.1 x.2) (fun v=>some (give x.2 v))) ([.own 0 0 0 (h+1) (some (1+h)),.int .i64 0],[lB42 (LD C ln) (WD C ln) h]) = some (.tup [bif Nat.ble (0+(h+1)) (1+h) then .fresh false 1 (1+h - 0) (fun j=>[slV (LD C ln (0+j)) (WD C ln (0+j)) (some (WD C ln (0+j)))]) (h+1) (some (1+h)) else .undef,.int .i64 0]):=by kernel_rfl
  refine e.trans ?_
  unfold loadsR
  simp only [Nat.zero_add,Nat.sub_zero]
  rw [bleT (by omega),Nat.add_comm h 1]
  rfl
 ·have hb:rowEr (C I) (LD C ln I) (ln I) ≠ 0:=by simpa using hb
  have hlt:∀ i,i<I->rowEr (C i) (LD C ln i) (ln i) = 0:=fun i hi=>by simpa using hlt i hi
  rw [chEr_at C ln I hb hlt h hI,if_neg hb]
  have hl2:=loop_steps (P:=P18) (Gl:=G18) (f:=42) (r:=14) hm18 (by kernel_rfl) (an:=A18 42) (fun i=>v42b C ln h i) (fun i=>[lB42 (LD C ln) (W42 C ln i) h]) (n:=I) (fun i hi=>s42 C ln h ok hC i (by omega) (hlt i hi)) (e42 C ln h ok hC I hI hb)
  refine key hl2 (bift (by simp [hb]) rfl) ?_
  kernel_rfl
open Go.Proofs
def chkE (C:Nat->Nat->Sti) (ln:Nat->Nat) (h:Nat):Int:=if chE C ln h ≠ 0 then chE C ln h else chEr C ln h
noncomputable def K25 (p:List T->T->Prop) (r:T):Orc:=noneO.add 42 (callF p fun _=>some r)
theorem chartCheckT (C:Nat->Nat->Sti) (ln:Nat->Nat) (h:Nat) (hh:h<=1000) (hln:∀ i,i<h->ln i<=1000) (hC:∀ i j,(C i j).Ok):ToldOk P18 G18 25 [.agg [chV C ln h]] (.int .i64 (chkE C ln h)):=by
 obtain ⟨p,hp⟩:=is_val P18 G18 42
 have bad:∀ e,ToldOk P18 G18 42 [.agg [chV C ln h]] (.tup [.nils,.int .i64 e])->ToldOk P18 G18 25 [.agg [chV C ln h]] (.int .i64 e):=fun e t1=>by
  refine stepV_told hm18 hn18 (told_add none_ok (callF_told hp)) (K:=K25 p (.tup [.nils,.int .i64 e])) (A:=A18) (m:=0) ?_
  rw [(show stepV P18 G18 A18 (K25 p (.tup [.nils,.int .i64 e])) 0 25 [.agg [chV C ln h]] =
(
 bif decF (p [.agg [.view 1 h (fun i=>[srV (C i) (ln i)
 none])
 none]] (.tup [.nils,.int .i64 e])) then
 some (.int .i64 e)
 else
 none) from by kernel_rfl)]
  exact bift (callF_yes hp t1) rfl
 unfold chkE
 by_cases h1:chE C ln h = 0
 ·rw [if_neg (by omega)]
  have t1:=loadsT C ln h hC h1
  by_cases h2:chEr C ln h = 0
  ·rw [if_pos h2] at t1
   rw [h2]
   unfold loadsR at t1
   generalize LD C ln = L at *
   generalize WD C ln = W at *
   refine stepV_told hm18 hn18 (told_add none_ok (callF_told hp)) (K:=K25 p (.tup [.fresh false 1 (1+h) (fun e=>[slV (L e) (W e) (some (W e))]) (1+h) (some (1+h)),.int .i64 0])) (A:=A18) (m:=0) ?_
   rw [(show stepV P18 G18 A18 (K25 p (.tup [.fresh false 1 (1+h) (fun e=>[slV (L e) (W e) (some (W e))]) (1+h) (some (1+h)),.int .i64 0])) 0 25 [.agg [chV C ln h]] =
(
 bif decF (p [.agg [.view 1 h (fun i=>[srV (C i) (ln i)
 none])
 none]] (.tup [.fresh false (1:Nat) (1+h) (fun e=>[.view 1 (W e) (fun j=>[.int .i64 (L e j)]) (some (W e))]) (1+h) (some (1+h)),.int .i64 0])) then
 some (.int .i64 0)
 else
 none) from by kernel_rfl)]
   exact bift (callF_yes hp t1) rfl
  ·rw [if_neg h2] at t1
   exact bad _ t1
 ·rw [if_pos h1]
  exact bad _ (loadsT_bad C ln h hh hln hC h1)
open Go.Proofs
def b24 (w:Nat->T) (h i n:Nat):Blk:=⟨0,1,h,fun e=>[bif e==i then .own 1 0 0 n (some n) else w e],false,false,none⟩
def w24 (w:Nat->T) (h:Nat):Blk:=⟨0,1,h,fun e=>[w e],false,false,none⟩
def up24 {α:Type} (k:Nat) (x:α) (f:Nat->α) (e:Nat):α:=bif e==0+k then x else f e
theorem up_blt {α:Type} (k:Nat) (f:Nat->α) (z:α):up24 k (f k) (fun e=>bif Nat.blt e k then f e else z) = fun e=>bif Nat.blt e (k+1) then f e else z:=by
 funext e
 unfold up24
 rw [Nat.zero_add]
 by_cases q:e = k
 ·subst q; rw [beq_self_eq_true,cond_true,bltT (by omega),cond_true]
 ·rw [show (e==k) = false by simpa using q,cond_false]
  show (bif Nat.blt e k then f e else z) = _
  by_cases q2:e<k
  ·rw [bltT q2,bltT (by omega)]
  ·rw [bltF (by omega),bltF (by omega)]
end Go.Ab

