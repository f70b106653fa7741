/- A part of the proof: nothing is assumed. -/
import Derived.Test.YteoamlekamflbaaP13
import Derived.Shelf.Strings.Builder1
import Derived.Shelf.Strings.Search2
import Derived.Test.YteoamlekamflbaaProg
import Derived.Test.YteoamlekamflbaaP5
import Derived.Test.YteoamlekamflbaaP8
import Derived.Test.YteoamlekamflbaaP12
import Derived.WalkKit
import Derived.LoopTactic
import Derived.Test.YteoamlekamflbaaP11
set_option linter.all false
namespace Go.Ab
open IntKind(i64 u8)
open Int(ofNat)
open Go.Proofs
def kO(C:Nat->Nat->Sti)(i j:Nat):Bool:=decide ((C i j).k=1)
def kOr(C:Nat->Nat->Sti)(ln:Nat->Nat)(i:Nat):Bool:=Qg (kO C i) (ln i)
def yO(C:Nat->Nat->Sti)(i j:Nat):Int:=(C i j).y
def b22(w:Nat->T)(h i n:Nat):Blk:=⟨0,1,h,fun e=>[bif e==i then .own 1 0 0 n (some n) else w e],false,false,none⟩
def c22(y:Nat->Int)(n:Nat):Blk:=⟨0,1,n,fun e=>[uI (y e)],true,false,none⟩
def v22(C:Nat->Nat->Sti)(ln:Nat->Nat)(h i:Nat):List T:=[.own 0 0 0 h (some h),chV C ln h,iI h,iI i]
def x22(C:Nat->Nat->Sti)(ln:Nat->Nat)(h i:Nat):List T:=[.undef,.undef,.own 0 0 0 h (some h),chV C ln h,iI h,iI i]
def z22(C:Nat->Nat->Sti)(ln:Nat->Nat)(h i:Nat):List T:=[.nils,iI 7,.own 0 0 0 h (some h),chV C ln h,iI h,iI i]
def qjP(C:Nat->Nat->Sti)(ln:Nat->Nat)(h i k:Nat):List T:=[.own 0 0 0 h (some h),iI i,chV C ln h,iI h,iI i,srV (C i) (ln i) none,iI (ln i),iI k]
def wO(C:Nat->Nat->Sti)(ln:Nat->Nat)(i e:Nat):T:=bif Nat.blt e i then qB (yO C e) (ln e) (some (ln e)) else .nils
def kwO(C:Nat->Nat->Sti)(ln:Nat->Nat)(e:Nat):T:=qB (yO C e) (ln e) (some (ln e))
noncomputable def qlE(x:List T->qg->Ex->List T->qg->Prop)(C:Nat->Nat->Sti)(ln:Nat->Nat)(h i:Nat)(w:Nat->T)(y:Nat->Int):List (Nat×(List T->qg->LT)) :=
 [(10,yy x (.ite (kOr C ln i) (.ret (.exit 2) (x22 C ln h i) [b22 w h i (ln i),c22 (yO C i) (ln i)]) (.ret .ret (z22 C ln h i) [b22 w h i (ln i),c22 y (ln i)])))]
noncomputable def K22(p q:List T->T->Prop)(a b:Int):Orc:=(qk.add 25 (qL p fun _=>some (iI a))).add 29 (qL q fun _=>some (iI b))
theorem q22(C:Nat->Nat->Sti)(ln:Nat->Nat)(h k:Nat)(w:Nat->T)(y:Nat->Int):∀i,i<31->qA P18 G18 A18 qk 0 22 [] 10 (qjP C ln h i k) [b22 w h i (ln i),c22 y (ln i)] =
 bif decide ((k:Int)<ln i) then bif decide ((0:Int)<=k)&&decide ((k:Int)<ln i) then bif !decide ((C i k).k=1) then some (.ret,z22 C ln h i,[b22 w h i (ln i),c22 y (ln i)]) else bif decide ((i:Int)<h) then bif Nat.blt i h then bif decide ((0:Int)<=k)&&decide ((k:Int)<ln i) then bif Nat.blt (0+k) (ln i)&&true&&true&&true then
  some (.normal,qjP C ln h i k |>.set 7 (iI (i64.wrap ((k:Int)+1))),[b22 w h i (ln i),c22 (jh k (yO C i k) y) (ln i)])
  else none else none else none else none else none else some (.exit 2,x22 C ln h i,[b22 w h i (ln i),c22 y (ln i)]):=by
 intro i hi;obtain rfl|rfl|rfl|rfl|rfl|rfl|rfl|rfl|rfl|rfl|rfl|rfl|rfl|rfl|rfl|rfl|rfl|rfl|rfl|rfl|rfl|rfl|rfl|rfl|rfl|rfl|rfl|rfl|rfl|rfl|rfl:i=0∨i=1∨i=2∨i=3∨i=4∨i=5∨i=6∨i=7∨i=8∨i=9∨i=10∨i=11∨i=12∨i=13∨i=14∨i=15∨i=16∨i=17∨i=18∨i=19∨i=20∨i=21∨i=22∨i=23∨i=24∨i=25∨i=26∨i=27∨i=28∨i=29∨i=30:=by omega
 all_goals kernel_rfl
theorem i22(C:Nat->Nat->Sti)(ln:Nat->Nat)(h i:Nat)(w:Nat->T)(y:Nat->Int)(x:List T->qg->Ex->List T->qg->Prop):qA P18 G18 A18 qk 0 22 (qlE x C ln h i w y) 6 (v22 C ln h i) [w24 w h] =
( bif decide (ofNat i<ofNat h) then gD (decide (0<=ofNat i)&&decide (ofNat i<ofNat h))<|gD (decide (0<=ofNat (ln i))&&decide (ofNat (ln i)<=ofNat (ln i))&&decide (ofNat (ln i)*(1:Int)<=(140737488355328:Int))&&decide (ofNat (ln i)<=9223372036854775807))<|gD (decide (0<=ofNat i)&&decide (ofNat i<ofNat h))<|gD (((0:Nat)+i).blt h&&[T.own (List.length (h14 h w)) (0:Nat) (0:Nat) (ln i) (some (ln i))].length==(1:Nat)&&true&&true)<|bif Qg (kO C i) (ln i) then gD (qF (x [.own 0 0 0 h (some h),iI (.ofNat i),.view 1 h (fun i=>[srV (C i) (ln i)
 none])
 none,iI (.ofNat h),iI (.ofNat i),srV (C i) (ln i)
 none,iI (.ofNat (ln i)),iI 0] [.mk 0 1 h (fun e=>[bif e==0+i then .own [Blk.mk 0 1 h (fun e=>[w e]) false false
 none].length (0:Nat) (0:Nat) (ln i) (some (ln i))
 else w e]) false false
 none,.mk 0 1 (ln i) (fun x=>[uI 0]) true false
 none] (.exit 2) [.undef,.undef,.own 0 0 0 h (some h),.view 1 h (fun i=>[srV (C i) (ln i)
 none])
 none,iI (.ofNat h),iI (.ofNat i)] [.mk 0 1 h (fun e=>[bif e==i then .own 1 0 0 (ln i) (some (ln i))
 else w e]) false false
 none,.mk 0 1 (ln i) (fun e=>[uI (C i e).y]) true false
 none]))<|zN [.own 0 0 0 h (some h),chV C ln h,iI (.ofNat h),iI (i64.wrap (ofNat i+1))] [b24 w h i (ln i),rbk (ln i) fun e=>(C i e).y] else
 gD (qF (x [.own 0 0 0 h (some h),iI (.ofNat i),.view 1 h (fun i=>[srV (C i) (ln i)
 none])
 none,iI (.ofNat h),iI (.ofNat i),srV (C i) (ln i)
 none,iI (.ofNat (ln i)),iI 0] [.mk 0 1 h (fun e=>[bif e==0+i then .own [Blk.mk 0 1 h (fun e=>[w e]) false false
 none].length (0:Nat) (0:Nat) (ln i) (some (ln i))
 else w e]) false false
 none,.mk 0 1 (ln i) (fun x=>[uI 0]) true false
 none] .ret [.nils,iI 7,.own 0 0 0 h (some h),.view 1 h (fun i=>[srV (C i) (ln i)
 none])
 none,iI (.ofNat h),iI (.ofNat i)] [.mk 0 1 h (fun e=>[bif e==i then .own 1 0 0 (ln i) (some (ln i))
 else w e]) false false
 none,.mk 0 1 (ln i) (fun e=>[uI (y e)]) true false
 none]))<|zR [.nils,iI 7,.own 0 0 0 h (some h)] [b24 w h i (ln i),rbk (ln i) y] else
 zX 0 [.undef,.undef,.own 0 0 0 h (some h)] (h14 h w)):=by kernel_rfl
theorem qmQ{C:Nat->Nat->Sti}{ln:Nat->Nat}{h:Nat}(w:Nat->T){i:Nat}(hi:i<31)(hih:i<h)(hln:ln i<=1000) :
 (Qg (kO C i) (ln i)=true->LoopOk P18 G18 (A18 22) 22 10 (qE (qjP C ln h i 0) [b22 w h i (ln i),c22 (fun _=>0) (ln i)] (.exit 2) (x22 C ln h i) [b22 w h i (ln i),c22 (yO C i) (ln i)])) ∧
 (Qg (kO C i) (ln i)=false->∃e v H,(e = .ret/\v=z22 C ln h i/\∃y,H=[b22 w h i (ln i),c22 y (ln i)])/\LoopOk P18 G18 (A18 22) 22 10 (qE (qjP C ln h i 0) [b22 w h i (ln i),c22 (fun _=>0) (ln i)] e v H)):=by
 refine qcD qv (by kernel_rfl) (fun k=>qjP C ln h i k) (fun k=>[b22 w h i (ln i),c22 (fun e=>bif Nat.blt e k then yO C i e else 0) (ln i)]) (kO C i) (n:=ln i) _ (fun k hk _ hg=>?_) (fun k hk _ hg=>?_) (fun _=>?_)
 ·have hg:(C i k).k=1:=of_decide_eq_true hg;rw[←qha k (yO C i) 0];refine Step.mk0 (A:=A18) (m:=0) qf rfl rfl qh (h1:=[b22 w h i (ln i),c22 (jh k (yO C i k) fun e=>bif Nat.blt e k then yO C i e else 0) (ln i)]) ?_ (.refl _);rw[q22 C ln h k w _ i hi,qeX hk (by omega)];refine BT ?_;refine BT ?_;refine qZ (by simp[hg]) ?_;refine BT ?_;refine BT ?_;refine BT ?_;refine BT ?_;rfl
 ·have hg:¬(C i k).k=1:=of_decide_eq_false hg;refine⟨.ret,_,_,⟨rfl,rfl,(fun e=>bif Nat.blt e k then yO C i e else 0),rfl⟩,?_⟩;refine Last.mk0 (A:=A18) (m:=0) qf rfl rfl qh (h1:=[b22 w h i (ln i),c22 (fun e=>bif Nat.blt e k then yO C i e else 0) (ln i)]) (by simp) ?_ (.refl _);rw[q22 C ln h k w _ i hi];refine BT ?_;refine BT ?_;refine qm (by simp[hg]) ?_;rfl
 ·refine Last.mk0 (A:=A18) (m:=0) qf rfl rfl qh (h1:=[b22 w h i (ln i),c22 (fun e=>bif Nat.blt e (ln i) then yO C i e else 0) (ln i)]) (by simp) ?_ (.cons ⟨rfl,rfl,rfl,id,fun j hj=>rfl⟩ (.cons ⟨rfl,rfl,rfl,id,fun j hj=>?_⟩ .nil))
  ·rw[q22 C ln h (ln i) w _ i hi];refine BF ?_;rfl
  ·show [uI (yO C i j)]=[uI (bif Nat.blt j (ln i) then yO C i j else 0)];rw[Qy (show j<ln i from hj)];rfl
theorem qjQ{σ:List Nat}{h:qg}{ix n:Nat}{y:Nat->Int}(hp:zc σ ix=none)(hc:σ.contains ix=false)(hi:h[ix]?=some (c22 y n)):QN σ h (.own ix 0 0 n (some n))=qB y n (some n):=by
 unfold c22 at hi;simp only[QN,hp,resolve,hc,cond_false,hi,beq_self_eq_true,Bool.true_and,Option.isNone_none];rw[show Nat.ble (0+n) n=true from QZ (by omega)];simp only[cond_true,Nat.zero_add];rfl
theorem qk0{C:Nat->Nat->Sti}{ln:Nat->Nat}{h:Nat}(hh:h<=31)(hln:∀i,i<h->ln i<=1000) :
 (Qg (kOr C ln) h=true->LoopOk P18 G18 (A18 22) 22 6 (qE (v22 C ln h 0) [w24 (fun _=>.nils) h] (.exit 0) [.undef,.undef,.own 0 0 0 h (some h)] [w24 (kwO C ln) h])) ∧
 (Qg (kOr C ln) h=false->∃e v H,(e = .ret/\v=[.nils,iI 7,.own 0 0 0 h (some h)])/\LoopOk P18 G18 (A18 22) 22 6 (qE (v22 C ln h 0) [w24 (fun _=>.nils) h] e v H)):=by
 obtain⟨x,hx⟩:=ZQ P18 G18 (A18 22) 22 10;refine qcD qv (by kernel_rfl) (fun i=>v22 C ln h i) (fun i=>[w24 (wO C ln i) h]) (kOr C ln) (n:=h) _ (fun i hi _ hg=>?_) (fun i hi _ hg=>?_) (fun _=>?_)
 ·have hl:=(qmQ (C:=C) (ln:=ln) (h:=h) (wO C ln i) (by omega) hi (hln i hi)).1 hg;have hren:∀σ hp e,QN σ hp (wO C ln i e)=wO C ln i e:=fun σ hp e=>by unfold wO;cases Nat.blt e i<;>rfl
  have hnew:∀e,e≠i->wO C ln (i+1) e=wO C ln i e:=fun e he=>by
   unfold wO;by_cases q:e<i
   ·rw[Qy q,Qy (by omega)]
   ·rw[Zg (by omega),Zg (by omega)]
  have hat:wO C ln (i+1) i=qB (yO C i) (ln i) (some (ln i)):=by unfold wO;rw[Qy (by omega)];rfl
  have hlni:=hln i hi;clear hln;generalize wO C ln (i+1)=w2 at *
  generalize wO C ln i=w at *
  refine Step.mkC (A:=A18) (m:=0) qf rfl rfl (l:=qlE x C ln h i w fun _=>0) (qK (QS hx _)) [0] (v1:=v22 C ln h (i+1)) (h1:=[b22 w h i (ln i),c22 (yO C i) (ln i)]) ?_ (by kernel_rfl) (v2:=v22 C ln h (i+1)) (by rfl) rfl fun nt=>.same (.cons ⟨rfl,rfl,rfl,id,fun j hj=>?_⟩ .nil)
  ·rw[i22,qn i,qeX hi (by omega),Nat.zero_add];refine BT ?_;refine BT ?_;refine BT ?_;refine BT ?_;refine qm (by rw[Qy hi];rfl) ?_;refine qm hg ?_;refine qm (Qz hx hl) ?_;rfl
  ·show [w2 j]=[QN [0] _ (bif j==i then .own 1 0 0 (ln i) (some (ln i)) else w j)];by_cases q:j=i
   ·subst q;rw[beq_self_eq_true,cond_true,qjQ rfl rfl rfl,hat]
   ·rw[show(j==i)=false by simpa using q,cond_false,hren,hnew j q]
 ·obtain⟨e2,v2,h2,⟨rfl,rfl,y,rfl⟩,hl⟩:=(qmQ (C:=C) (ln:=ln) (h:=h) (wO C ln i) (by omega) hi (hln i hi)).2 hg;have hlni:=hln i hi;clear hln;generalize wO C ln i=w at *
  refine⟨.ret,_,[b22 w h i (ln i),c22 y (ln i)],⟨rfl,rfl⟩,?_⟩;refine Last.mk0 (A:=A18) (m:=0) qf rfl rfl (l:=qlE x C ln h i w y) (qK (QS hx _)) (h1:=[b22 w h i (ln i),c22 y (ln i)]) (by simp) ?_ (.refl _);rw[i22,Nat.zero_add];refine BT ?_;refine BT ?_;refine BT ?_;refine BT ?_;refine qm (by rw[Qy hi];rfl) ?_;refine qZ (by rw[show Qg (kO C i) (ln i)=false from hg];simp) ?_;refine qm (Qz hx hl) ?_;rfl
 ·have hln:True:=trivial;refine Last.mk0 (A:=A18) (m:=0) qf rfl rfl qh (h1:=[w24 (wO C ln h) h]) (by simp) ?_ (.cons ⟨rfl,rfl,rfl,id,fun j hj=>?_⟩ .nil)
  ·generalize wO C ln h=w;rw[(show qA P18 G18 A18 qk 0 22 [] 6 (v22 C ln h h) [w24 w h] =
( bif decide (ofNat h<ofNat h) then gD (decide (0<=ofNat h)&&decide (ofNat h<ofNat h))<|gD (decide (0<=ofNat (ln h))&&decide (ofNat (ln h)<=ofNat (ln h))&&decide (ofNat (ln h)*(1:Int)<=(140737488355328:Int))&&decide (ofNat (ln h)<=9223372036854775807))<|gD (decide (0<=ofNat h)&&decide (ofNat h<ofNat h))<|gD (((0:Nat)+h).blt h&&[T.own (List.length (h14 h w)) (0:Nat) (0:Nat) (ln h) (some (ln h))].length==(1:Nat)&&true&&true) none else
 zX 0 [.undef,.undef,.own 0 0 0 h (some h)] (h14 h w)) from by kernel_rfl)]
   refine BF ?_;rfl
  ·show [kwO C ln j]=[wO C ln h j];unfold wO;rw[Qy (show j<h from hj)];rfl
def ofE(C:Nat->Nat->Sti)(ln:Nat->Nat)(h:Nat):Int:=if qcP C ln h≠0 then qcP C ln h else if Qg (kOr C ln) h=false then 7 else pcE (yO C) ln h
theorem qoD(C:Nat->Nat->Sti)(ln:Nat->Nat)(h:Nat)(hh:h<=1000)(hln:∀i,i<h->ln i<=1000)(hC:∀i j,(C i j).Ok):ToldOk P18 G18 22 [.agg [chV C ln h]] (if ofE C ln h=0 then .tup [pgV (yO C) ln h (fun i=>some (ln i)) (some h),iI 0] else .tup [.nils,iI (ofE C ln h)]):=by
 obtain⟨p,hp⟩:=qD P18 G18 25;obtain⟨q,hq⟩:=qD P18 G18 29;have hK:∀a b,OrcOk P18 G18 (K22 p q a b):=fun a b=>qq (qq qf (qj hp)) (qj hq);have t1:=qaU C ln h hh hln hC;by_cases h1:qcP C ln h≠0
 ·rw[show ofE C ln h=qcP C ln h from if_pos h1,if_neg h1];generalize qcP C ln h=e at *
  refine qP qv q9 (hK e 0) (A:=A18) (m:=0) ?_;rw[(show QU P18 G18 A18 (K22 p q e 0) 0 22 [.agg [chV C ln h]] =
( gD (qF (p [.agg [.view 1 h (fun i=>[srV (C i) (ln i)
 none])
 none]] (iI e)))<|bif !decide (e=0) then some (.tup [.nils,iI e]) else
 gD (decide (0<=ofNat h)&&decide (ofNat h<=ofNat h)&&decide (ofNat h*24<=140737488355328)&&decide (ofNat h<=9223372036854775807)) none) from by kernel_rfl)]
  refine qm (qp hp t1) ?_;refine qm (by simp[h1]) ?_;rfl
 have h1:qcP C ln h=0:=Classical.byContradiction h1;rw[h1] at t1;have h31:h<=31:=by
  have:chE C ln h=0:=by
   unfold qcP at h1;by_cases q:chE C ln h≠0
   ·rw[if_pos q] at h1;exact h1
   ·omega
  exact(qcO this).h31
 cases h2:Qg (kOr C ln) h
 ·obtain⟨_,_,H,⟨rfl,rfl⟩,hl⟩:=(qk0 h31 hln).2 h2;rw[show ofE C ln h=7 from(if_neg (by omega)).trans (by rw[h2];rfl),if_neg (by omega)];refine qJ qv q9 (hK 0 0) (A:=A18) (m:=0) (by kernel_rfl) (qK hl) ?_;rw[(show QB P18 G18 A18 (K22 p q 0 0) 0 22 [(6,qE (v22 C ln h 0) [w24 (fun _=>.nils) h] .ret [.nils,iI 7,.own 0 0 0 h (some h)] H)] [.agg [chV C ln h]] =
( gD (qF (p [.agg [.view 1 h (fun i=>[srV (C i) (ln i)
 none])
 none]] (iI 0)))<|gD (decide (0<=ofNat h)&&decide (ofNat h<=ofNat h)&&decide (ofNat h*24<=140737488355328)&&decide (ofNat h<=9223372036854775807))<|gD (qS (v22 C ln h (nat_lit 0)) (h14 h fun e=>.nils) (v22 C ln h (nat_lit 0)) (h14 h fun e=>.nils))<|some (.tup [.nils,iI 7])) from by kernel_rfl)]
  refine qm (qp hp t1) ?_;refine BT ?_;refine qm (qw ⟨rfl,.refl _⟩) ?_;rfl
 ·rw[show ofE C ln h=pcE (yO C) ln h from(if_neg (by omega)).trans (by rw[h2];rfl)];have hl:=(qk0 h31 hln).1 h2;have t2:=JV (yO C) ln h (fun i=>some (ln i)) (some h) hh hln fun i _ j _=>(hC i j).y;generalize pcE (yO C) ln h=e at *
  by_cases h3:e=0
  ·subst h3;rw[if_pos rfl];refine ToldOk.frz (r:=.tup [.fresh false 1 h (fun i=>[qB (yO C i) (ln i) (some (ln i))]) h (some h),iI 0]) ?_;refine qJ qv q9 (hK 0 0) (A:=A18) (m:=0) (by kernel_rfl) (qK hl) ?_;rw[(show QB P18 G18 A18 (K22 p q 0 0) 0 22 [(6,qE (v22 C ln h 0) [w24 (fun _=>.nils) h] (.exit 0) [.undef,.undef,.own 0 0 0 h (some h)] [w24 (kwO C ln) h])] [.agg [chV C ln h]] =
( gD (qF (p [.agg [.view 1 h (fun i=>[srV (C i) (ln i)
 none])
 none]] (iI 0)))<|gD (decide (0<=ofNat h)&&decide (ofNat h<=ofNat h)&&decide (ofNat h*24<=140737488355328)&&decide (ofNat h<=9223372036854775807))<|gD (qS (v22 C ln h (nat_lit 0)) (h14 h fun e=>.nils) (v22 C ln h (nat_lit 0)) (h14 h fun e=>.nils))<|gD (qF (q [bif ((0:Nat)+h).ble h then .view 1 h (fun j=>[.view 1 (ln (0+j)) (fun j_1=>[uI (C ((0:Nat)+j) j_1).y]) (some (ln (0+j)))]) (some h)
 else .undef] (iI 0)))<|some (.tup [bif ((0:Nat)+h).ble h then .fresh false (1:Nat) (h-0) (fun j=>[kwO C ln (0+j)]) h (some h)
 else .undef,iI 0])) from by kernel_rfl)]
   refine qm (qp hp t1) ?_;refine BT ?_;refine qm (qw ⟨rfl,.refl _⟩) ?_;simp only[Nat.zero_add,Nat.sub_zero];rw[QZ (Nat.le_refl _)];refine qm (qp hq t2) ?_;rfl
  ·rw[if_neg h3];refine qJ qv q9 (hK 0 e) (A:=A18) (m:=0) (by kernel_rfl) (qK hl) ?_;rw[(show QB P18 G18 A18 (K22 p q 0 e) 0 22 [(6,qE (v22 C ln h 0) [w24 (fun _=>.nils) h] (.exit 0) [.undef,.undef,.own 0 0 0 h (some h)] [w24 (kwO C ln) h])] [.agg [chV C ln h]] =
( gD (qF (p [.agg [.view 1 h (fun i=>[srV (C i) (ln i)
 none])
 none]] (iI 0)))<|gD (decide (0<=ofNat h)&&decide (ofNat h<=ofNat h)&&decide (ofNat h*24<=140737488355328)&&decide (ofNat h<=9223372036854775807))<|gD (qS (v22 C ln h (nat_lit 0)) (h14 h fun e=>.nils) (v22 C ln h (nat_lit 0)) (h14 h fun e=>.nils))<|gD (qF (q [bif ((0:Nat)+h).ble h then .view 1 h (fun j=>[.view 1 (ln (0+j)) (fun j_1=>[uI (C ((0:Nat)+j) j_1).y]) (some (ln (0+j)))]) (some h)
 else .undef] (iI e)))<|bif !decide (e=0) then some (.tup [.nils,iI e]) else
 some (.tup [bif ((0:Nat)+h).ble h then .fresh false (1:Nat) (h-0) (fun j=>[kwO C ln (0+j)]) h (some h)
 else .undef,iI 0])) from by kernel_rfl)]
   refine qm (qp hp t1) ?_;refine BT ?_;refine qm (qw ⟨rfl,.refl _⟩) ?_;simp only[Nat.zero_add,Nat.sub_zero];rw[QZ (Nat.le_refl _)];refine qm (qp hq t2) ?_;exact qm (by simp[h3]) rfl
def qhc:FuncId->Ann:=fun f=>match f with
 |36=>⟨[],fun r o=>match r with|4=>bif o then [4] else [0,3,4,5]|_=>[],false⟩
 |f=>A18 f
def JW(s:Nat->Bool):Blk:=⟨0,1,256,fun e=>[.bool (s e)],true,false,none⟩
def v36(r:Nat->Int)(n:Nat)(c:Option Nat)(x:Int)(i:Nat):List T:=[qB r n c,.ptr 0 0 0 0,iI x,iI i]
def sN(r:Nat->Int):Nat->Nat->Bool
 |0=>fun _=>false
 |i+1=>fun e=>bif e==(r i).toNat then true else sN r i e
def cN(r:Nat->Int):Nat->Nat
 |0=>0
 |i+1=>bif sN r i (r i).toNat then cN r i else cN r i+1
def v21(R:Nat->Nat->Int)(ln:Nat->Nat)(h:Nat)(rc:Nat->Option Nat)(c:Option Nat)(i:Nat):List T:=[pgV R ln h rc c,iI i]
def qit(R:Nat->Nat->Int)(ln:Nat->Nat)(h:Nat)(rc:Nat->Option Nat)(c:Option Nat)(i k:Nat):List T:=[pgV R ln h rc c,iI i,iI k]
def pK(R:Nat->Nat->Int)(i k:Nat):Bool:=!(decide (R i k=0) || decide (6<R i k))
def pB2(R:Nat->Nat->Int)(ln:Nat->Nat)(i:Nat):Bool:=!decide (ln i=0)&&Qg (pK R i) (ln i)
def pD2(R:Nat->Nat->Int)(ln:Nat->Nat)(i:Nat):Bool:=decide (cN (R i) (ln i)<=2)
noncomputable def K21(p:List T->T->Prop)(x:Nat):Orc:=qk.add 36 (qL p fun _=>some (iI x))
noncomputable def qkD(x:List T->qg->Ex->List T->qg->Prop)(R:Nat->Nat->Int)(ln:Nat->Nat)(h:Nat)(rc:Nat->Option Nat)(c:Option Nat)(i:Nat):List (Nat×(List T->qg->LT)) :=
 [(16,yy x (.ite (Qg (pK R i) (ln i)) (.ret (.exit 4) [pgV R ln h rc c,.undef,iI i] []) (.ret .ret [pgV R ln h rc c,iI 1,iI i] [])))]
noncomputable def l21(x y z t:List T->qg->Ex->List T->qg->Prop)(R:Nat->Nat->Int)(ln:Nat->Nat)(h:Nat)(rc:Nat->Option Nat)(c:Option Nat):List (Nat×(List T->qg->LT)) :=
 [(4,yy x (.ite (Qg (pA ln) h) (.ret (.exit 0) [pgV R ln h rc c,.undef] []) (.ret .ret [pgV R ln h rc c,iI 3] []))),
  (11,yy y (.ite (Qg (pB2 R ln) h) (.ret (.exit 2) [pgV R ln h rc c,.undef] []) (.ret .ret [pgV R ln h rc c,iI 1] []))),
  (21,yy z (.ite (Qg (pC ln) h) (.ret (.exit 6) [pgV R ln h rc c,.undef] []) (.ret .ret [pgV R ln h rc c,iI 5] []))),
  (26,yy t (.ite (Qg (pD2 R ln) h) (.ret (.exit 8) [.undef] []) (.ret .ret [iI 14] [])))]
theorem i36(r:Nat->Int)(n:Nat)(c:Option Nat)(x i:Nat)(s:Nat->Bool):qA P18 G18 qhc qk 0 36 [] 4 (v36 r n c x i) [JW s] =
( bif decide (ofNat i<ofNat n) then gD (decide (0<=ofNat i)&&decide (ofNat i<ofNat n))<|gD (decide (0<=r i)&&decide (r i<256))<|gD (((0:Nat)+(r i).toNat).blt 256)<|bif s ((0:Nat)+(r i).toNat) then zN [qB r n c,.ptr 0 0 0 0,iI (.ofNat x),iI (i64.wrap (ofNat i+1))] [JW s] else
 gD (decide (0<=ofNat i)&&decide (ofNat i<ofNat n))<|gD (decide (0<=r i)&&decide (r i<256))<|gD (((0:Nat)+(r i).toNat).blt 256&&true&&true&&true)<|zN [qB r n c,.ptr 0 0 0 0,iI (i64.wrap (ofNat x+1)),iI (i64.wrap (ofNat i+1))] [JW fun e =>
 bif e==(0:Nat)+(r i).toNat then true
 else s e] else
 zX 0 [iI (.ofNat x)] [JW s]):=by kernel_rfl
theorem qf9(r:Nat->Int)(n:Nat)(c:Option Nat)(hn:n<=1000)(hr:∀j,j<n->0<=r j/\r j<256):ToldOk P18 G18 36 [qB r n c] (iI (cN r n)):=by
 have hl:LoopOk P18 G18 (qhc 36) 36 4 (qE (v36 r n c 0 0) [JW fun _=>false] (.exit 0) [iI (cN r n)] [JW (sN r n)]):=by
  refine qz qv (by kernel_rfl) (fun i=>v36 r n c (cN r i) i) (fun i=>[JW (sN r i)]) (n:=n) (fun i hi=>?_) ?_
  ·have e1:cN r (i+1)=bif sN r i (r i).toNat then cN r i else cN r i+1:=rfl;have e2:sN r (i+1)=fun e=>bif e==(r i).toNat then true else sN r i e:=rfl;have hb:cN r i<=i:=by
    clear e1 e2
    induction i with
    |zero=>exact Nat.le_refl _
    |succ i ih =>
     have:=ih (by omega);show(bif sN r i (r i).toNat then cN r i else cN r i+1)<=i+1;cases sN r i (r i).toNat
     ·show cN r i+1<=i+1;omega
     ·show cN r i<=i+1;omega
   rw[e1,e2];have h1:=hr i hi;clear e1 e2 hr;generalize cN r i=x at *
   generalize sN r i=s at *
   cases hs:s (r i).toNat
   ·refine Step.mk0 (A:=qhc) (m:=0) qf rfl rfl qh (h1:=[JW fun e=>bif e==(r i).toNat then true else s e]) ?_ (.refl _);rw[i36,up1 (by omega),up1 (by omega),Nat.zero_add,hs]
    (repeat (first|refine BS ?_|refine BF ?_))
    rfl
   ·refine Step.mk0 (A:=qhc) (m:=0) qf rfl rfl qh (h1:=[JW s]) ?_ (.cons ⟨rfl,rfl,rfl,id,fun j hj=>?_⟩ .nil)
    ·rw[i36,up1 (by omega),up1 (by omega),Nat.zero_add,hs]
     (repeat (first|refine BS ?_|refine BF ?_))
     rfl
    ·show [T.bool (bif j==(r i).toNat then true else s j)]=[T.bool (s j)];by_cases q:j=(r i).toNat
     ·rw[q,hs];simp
     ·rw[show(j==(r i).toNat)=false by simpa using q];rfl
  ·refine Last.mk0 (A:=qhc) (m:=0) qf rfl rfl qh (h1:=[JW (sN r n)]) (by simp) ?_ (.refl _);rw[i36]
   (repeat (first|refine BS ?_|refine BF ?_))
   rfl
 generalize cN r n=x at *
 generalize sN r n=s at *
 refine qJ qv q9 qf (A:=qhc) (m:=0) (by kernel_rfl) (qK hl) ?_;rw[(show QB P18 G18 qhc qk 0 36 [(4,qE (v36 r n c 0 0) [JW fun _=>false] (.exit 0) [iI x] [JW s])] [qB r n c] =
( gD (qS (v36 r n c (0:Int) (nat_lit 0)) [JW fun e=>false] (v36 r n c (0:Int) (nat_lit 0)) [JW fun e=>false])<|some (iI (.ofNat x))) from by kernel_rfl)]
 (repeat (first|refine BS ?_|refine BF ?_))
 rfl
theorem qjR(r:Nat->Int):∀n e,sN r n e=true↔∃j,j<n/\(r j).toNat=e
 |0,e=>⟨fun h=>(by cases h),fun ⟨j,h,_⟩=>by omega⟩
 |n+1,e=>by
  have ih:=qjR r n e;show(bif e==(r n).toNat then true else sN r n e)=true↔_;by_cases q:e=(r n).toNat
  ·rw[show(e==(r n).toNat)=true by simpa using q];exact⟨fun _=>⟨n,by omega,q.symm⟩,fun _=>rfl⟩
  ·rw[show(e==(r n).toNat)=false by simpa using q,cond_false,ih];constructor
   ·rintro⟨j,h1,h2⟩;exact⟨j,by omega,h2⟩
   ·rintro⟨j,h1,h2⟩;refine⟨j,?_,h2⟩;by_cases e:j=n
    ·subst e;exact absurd h2.symm q
    ·omega
theorem qdV(p:Int->Bool)(a:Int):∀l:List Int,l.Pairwise (·<·)->(l.filter fun v=>p v || decide (a=v)).length=(l.filter p).length+(if a∈l/\p a=false then 1 else 0)
 |[],_=>rfl
 |v::l,h=>by
  rw[List.pairwise_cons] at h;have ih:=qdV p a l h.2;rw[List.filter_cons,List.filter_cons];by_cases q:a=v
  ·subst q;have hn:¬a∈l:=fun hm=>by have:=h.1 a hm;omega
   rw[if_neg (by simp[hn])] at ih;cases hp:p a
   ·simp[ih]
   ·simp[hp,ih]
  ·have e1:decide (a=v)=false:=by simpa using q
   have e2:(a∈v::l)=(a∈l):=by simp[q]
   simp only[e1,Bool.or_false,e2];cases p v
   ·simpa using ih
   ·rw[if_pos rfl,if_pos rfl,List.length_cons,List.length_cons,ih];omega
theorem qk1(r:Nat->Int):∀n,(∀j,j<n->0<=r j/\r j<256)->cN r n=kK r n
 |0,_=>by
  show 0=kK r 0;unfold kK jz;rw[List.length_eq_zero_iff.2 (List.filter_eq_nil_iff.2 fun a _=>by simp)]
 |n+1,h=>by
  have ih:=qk1 r n fun j hj=>h j (by omega);have hn:=h n (by omega);show(bif sN r n (r n).toNat then cN r n else cN r n+1)=kK r (n+1);unfold kK jz at *
  rw[ih];have e:(fun v=>(List.range (n+1)).any fun j=>decide (r j=v))=fun v=>((List.range n).any fun j=>decide (r j=v)) || decide (r n=v):=by
   funext v;rw[List.range_succ,List.any_append];simp
  rw[e,qdV _ _ _ (by rw[List.pairwise_map];exact List.pairwise_lt_range.imp (fun {a b} h=>by show(a:Int)<(b:Int);omega))];have hm:r n∈(List.range 256).map ofNat:=by
   rw[List.mem_map];exact⟨(r n).toNat,List.mem_range.2 (by omega),by show(((r n).toNat:Nat):Int)=r n;omega⟩
  have hs:sN r n (r n).toNat=(List.range n).any fun j=>decide (r j=r n):=by
   rw[Bool.eq_iff_iff,qjR,List.any_eq_true];constructor
   ·rintro⟨j,h1,h2⟩;have:=h j (by omega);exact⟨j,List.mem_range.2 h1,by rw[decide_eq_true_eq];omega⟩
   ·rintro⟨j,h1,h2⟩;rw[decide_eq_true_eq] at h2;exact⟨j,List.mem_range.1 h1,by rw[h2]⟩
  rw[hs];cases (List.range n).any fun j=>decide (r j=r n)
  ·rw[if_pos ⟨hm,rfl⟩];rfl
  ·rw[if_neg (by simp)];rfl
section
variable (R:Nat->Nat->Int) (ln:Nat->Nat) (h:Nat) (rc:Nat->Option Nat) (c:Option Nat)
theorem qlF(i:Nat):qA P18 G18 A18 qk 0 21 [] 4 (v21 R ln h rc c i) [] =
( bif decide (ofNat i<ofNat h) then gD (decide (0<=ofNat i)&&decide (ofNat i<ofNat h))<|bif decide (16<ofNat (ln i)) then zR (v21 R ln h rc c (nat_lit 3)) [] else
 zN [pgV R ln h rc c,iI (i64.wrap (ofNat i+1))] [] else
 zX 0 [pgV R ln h rc c,.undef] []):=by kernel_rfl
theorem qlG(i k:Nat):qA P18 G18 A18 qk 0 21 [] 16 (qit R ln h rc c i k) [] =
( gD (decide (0<=ofNat i)&&decide (ofNat i<ofNat h))<|bif decide (ofNat k<ofNat (ln i)) then gD (decide (0<=ofNat i)&&decide (ofNat i<ofNat h))<|gD (decide (0<=ofNat k)&&decide (ofNat k<ofNat (ln i)))<|bif decide (R i k=0) then zR (qit R ln h rc c (nat_lit 1) i) [] else
 gD (decide (0<=ofNat i)&&decide (ofNat i<ofNat h))<|gD (decide (0<=ofNat k)&&decide (ofNat k<ofNat (ln i)))<|bif decide ((6:Int)<R i k) then zR (qit R ln h rc c (nat_lit 1) i) [] else
 zN [pgV R ln h rc c,iI (.ofNat i),iI (i64.wrap (ofNat k+1))] [] else
 zX 4 [pgV R ln h rc c,.undef,iI (.ofNat i)] []):=by kernel_rfl
theorem qlH(i:Nat)(x:List T->qg->Ex->List T->qg->Prop):qA P18 G18 A18 qk 0 21 (qkD x R ln h rc c i) 11 (v21 R ln h rc c i) [] =
( bif decide (ofNat i<ofNat h) then gD (decide (0<=ofNat i)&&decide (ofNat i<ofNat h))<|bif decide (ofNat (ln i)=0) then zR (v21 R ln h rc c (nat_lit 1)) [] else
 bif Qg (pK R i) (ln i) then gD (qF (x [.view 1 h (fun i=>[.view 1 (ln i) (fun j=>[uI (R i j)]) (rc i)]) c,iI (.ofNat i),iI 0] [] (.exit 4) [.view 1 h (fun i=>[.view 1 (ln i) (fun j=>[uI (R i j)]) (rc i)]) c,.undef,iI (.ofNat i)] []))<|zN [pgV R ln h rc c,iI (i64.wrap (ofNat i+1))] [] else
 gD (qF (x [.view 1 h (fun i=>[.view 1 (ln i) (fun j=>[uI (R i j)]) (rc i)]) c,iI (.ofNat i),iI 0] [] .ret [.view 1 h (fun i=>[.view 1 (ln i) (fun j=>[uI (R i j)]) (rc i)]) c,iI 1,iI (.ofNat i)] []))<|zR (v21 R ln h rc c (nat_lit 1)) [] else
 zX 2 [pgV R ln h rc c,.undef] []):=by kernel_rfl
theorem qlI(i:Nat):qA P18 G18 A18 qk 0 21 [] 21 (v21 R ln h rc c i) [] =
( bif decide (ofNat i<ofNat h) then gD (decide (0<=ofNat i)&&decide (ofNat i<ofNat h))<|gD (decide (0<ofNat h))<|bif !decide (ofNat (ln i)=ofNat (ln (0:Nat))) then zR (v21 R ln h rc c (nat_lit 5)) [] else
 zN [pgV R ln h rc c,iI (i64.wrap (ofNat i+1))] [] else
 zX 6 [pgV R ln h rc c,.undef] []):=by kernel_rfl
theorem qlJ(i x:Nat)(p:List T->T->Prop):qA P18 G18 A18 (K21 p x) 0 21 [] 26 (v21 R ln h rc c i) [] =
( bif decide (ofNat i<ofNat h) then gD (decide (0<=ofNat i)&&decide (ofNat i<ofNat h))<|gD (qF (p [.view 1 (ln i) (fun j=>[uI (R i j)]) (rc i)] (iI (.ofNat x))))<|bif decide (2<ofNat x) then zR [iI 14] [] else
 zN [pgV R ln h rc c,iI (i64.wrap (ofNat i+1))] [] else
 zX 8 [.undef] []):=by kernel_rfl
theorem k21(x y z t:List T->qg->Ex->List T->qg->Prop):QB P18 G18 A18 qk 0 21 (l21 x y z t R ln h rc c) [pgV R ln h rc c] =
( bif decide (31<ofNat h) then some (iI 3) else
 bif Qg (pA ln) h then gD (qF (x [.view 1 h (fun i=>[.view 1 (ln i) (fun j=>[uI (R i j)]) (rc i)]) c,iI 0] [] (.exit 0) [.view 1 h (fun i=>[.view 1 (ln i) (fun j=>[uI (R i j)]) (rc i)]) c,.undef] []))<|bif decide ((ofNat h).tmod 2=0) then some (iI 1) else
 bif Qg (pB2 R ln) h then gD (qF (y [.view 1 h (fun i=>[.view 1 (ln i) (fun j=>[uI (R i j)]) (rc i)]) c,iI 0] [] (.exit 2) [.view 1 h (fun i=>[.view 1 (ln i) (fun j=>[uI (R i j)]) (rc i)]) c,.undef] []))<|bif Qg (pC ln) h then gD (qF (z [.view 1 h (fun i=>[.view 1 (ln i) (fun j=>[uI (R i j)]) (rc i)]) c,iI 0] [] (.exit 6) [.view 1 h (fun i=>[.view 1 (ln i) (fun j=>[uI (R i j)]) (rc i)]) c,.undef] []))<|bif Qg (pD2 R ln) h then gD (qF (t [.view 1 h (fun i=>[.view 1 (ln i) (fun j=>[uI (R i j)]) (rc i)]) c,iI 0] [] (.exit 8) [.undef] []))<|some (iI 0) else
 gD (qF (t [.view 1 h (fun i=>[.view 1 (ln i) (fun j=>[uI (R i j)]) (rc i)]) c,iI 0] [] .ret [iI 14] []))<|some (iI 14) else
 gD (qF (z [.view 1 h (fun i=>[.view 1 (ln i) (fun j=>[uI (R i j)]) (rc i)]) c,iI 0] [] .ret [.view 1 h (fun i=>[.view 1 (ln i) (fun j=>[uI (R i j)]) (rc i)]) c,iI 5] []))<|some (iI 5) else
 gD (qF (y [.view 1 h (fun i=>[.view 1 (ln i) (fun j=>[uI (R i j)]) (rc i)]) c,iI 0] [] .ret [.view 1 h (fun i=>[.view 1 (ln i) (fun j=>[uI (R i j)]) (rc i)]) c,iI 1] []))<|some (iI 1) else
 gD (qF (x [.view 1 h (fun i=>[.view 1 (ln i) (fun j=>[uI (R i j)]) (rc i)]) c,iI 0] [] .ret [.view 1 h (fun i=>[.view 1 (ln i) (fun j=>[uI (R i j)]) (rc i)]) c,iI 3] []))<|some (iI 3)):=by kernel_rfl
end
section
variable {R:Nat->Nat->Int} {ln:Nat->Nat} {h:Nat} {rc:Nat->Option Nat} {c:Option Nat}
theorem qlK(hh:h<=1000):(Qg (pA ln) h=true->LoopOk P18 G18 (A18 21) 21 4 (qE (v21 R ln h rc c 0) [] (.exit 0) [pgV R ln h rc c,.undef] []))/\(Qg (pA ln) h=false->LoopOk P18 G18 (A18 21) 21 4 (qE (v21 R ln h rc c 0) [] .ret [pgV R ln h rc c,iI 3] [])):=by
 refine zD qv (by kernel_rfl) (fun i=>v21 R ln h rc c i) (fun _=>[]) (pA ln) (n:=h) (fun i hi _ hg=>?_) (fun i hi _ hg=>?_) (fun _=>?_)
 ·have hg:ln i<=16:=of_decide_eq_true hg;refine Step.mk0 (A:=A18) (m:=0) qf rfl rfl qh (h1:=[]) ?_ .nil;rw[qlF,up1 (by omega)]
  (repeat (first|refine BS ?_|refine BF ?_))
  rfl
 ·have hg:¬ln i<=16:=of_decide_eq_false hg;refine Last.mk0 (A:=A18) (m:=0) qf rfl rfl qh (h1:=[]) (by simp) ?_ .nil;rw[qlF]
  (repeat (first|refine BS ?_|refine BF ?_))
  rfl
 ·refine Last.mk0 (A:=A18) (m:=0) qf rfl rfl qh (h1:=[]) (by simp) ?_ .nil;rw[qlF]
  (repeat (first|refine BS ?_|refine BF ?_))
  rfl
theorem qjS{i:Nat}(hi:i<h)(hh:h<=1000)(hln:ln i<=1000):(Qg (pK R i) (ln i)=true->LoopOk P18 G18 (A18 21) 21 16 (qE (qit R ln h rc c i 0) [] (.exit 4) [pgV R ln h rc c,.undef,iI i] []))/\(Qg (pK R i) (ln i)=false->LoopOk P18 G18 (A18 21) 21 16 (qE (qit R ln h rc c i 0) [] .ret [pgV R ln h rc c,iI 1,iI i] [])):=by
 refine zD qv (by kernel_rfl) (fun k=>qit R ln h rc c i k) (fun _=>[]) (pK R i) (n:=ln i) (fun k hk _ hg=>?_) (fun k hk _ hg=>?_) (fun _=>?_)
 ·simp only[pK,Bool.not_eq_true',Bool.or_eq_false_iff,decide_eq_false_iff_not] at hg;refine Step.mk0 (A:=A18) (m:=0) qf rfl rfl qh (h1:=[]) ?_ .nil;rw[qlG,up1 (by omega)]
  (repeat (first|refine BS ?_|refine BF ?_))
  rfl
 ·refine Last.mk0 (A:=A18) (m:=0) qf rfl rfl qh (h1:=[]) (by simp) ?_ .nil;rw[qlG];by_cases q:R i k=0
  ·(repeat (first|refine BS ?_|refine BF ?_))
   rfl
  ·have q2:6<R i k:=by
    simp only[pK,Bool.not_eq_false',Bool.or_eq_true,decide_eq_true_eq] at hg;omega
   (repeat (first|refine BS ?_|refine BF ?_))
   rfl
 ·refine Last.mk0 (A:=A18) (m:=0) qf rfl rfl qh (h1:=[]) (by simp) ?_ .nil;rw[qlG]
  (repeat (first|refine BS ?_|refine BF ?_))
  rfl
theorem qlL(hh:h<=1000)(hln:∀i,i<h->ln i<=1000):(Qg (pB2 R ln) h=true->LoopOk P18 G18 (A18 21) 21 11 (qE (v21 R ln h rc c 0) [] (.exit 2) [pgV R ln h rc c,.undef] []))/\(Qg (pB2 R ln) h=false->LoopOk P18 G18 (A18 21) 21 11 (qE (v21 R ln h rc c 0) [] .ret [pgV R ln h rc c,iI 1] [])):=by
 obtain⟨x,hx⟩:=ZQ P18 G18 (A18 21) 21 16;refine zD qv (by kernel_rfl) (fun i=>v21 R ln h rc c i) (fun _=>[]) (pB2 R ln) (n:=h) (fun i hi _ hg=>?_) (fun i hi _ hg=>?_) (fun _=>?_)
 ·simp only[pB2,Bool.and_eq_true,Bool.not_eq_true',decide_eq_false_iff_not] at hg;obtain⟨g1,g2⟩:=hg;have hl:=(qjS (R:=R) (rc:=rc) (c:=c) hi hh (hln i hi)).1 g2;clear hln;refine Step.mk0 (A:=A18) (m:=0) qf rfl rfl (l:=qkD x R ln h rc c i) (qK (QS hx _)) (h1:=[]) ?_ .nil;rw[qlH,up1 (by omega)]
  (repeat (first|refine BS ?_|refine BF ?_))
  rfl
 ·have hl:=(qjS (R:=R) (rc:=rc) (c:=c) hi hh (hln i hi)).2;clear hln;refine Last.mk0 (A:=A18) (m:=0) qf rfl rfl (l:=qkD x R ln h rc c i) (qK (QS hx _)) (h1:=[]) (by simp) ?_ .nil;rw[qlH];by_cases q:ln i=0
  ·(repeat (first|refine BS ?_|refine BF ?_))
   rfl
  ·have g2:Qg (pK R i) (ln i)=false:=by
    unfold pB2 at hg;rw[dF q] at hg;exact hg
   have hl:=hl g2;refine BS ?_;refine BS ?_;refine BF ?_;rw[g2]
   (repeat (first|refine BS ?_|refine BF ?_))
   rfl
 ·refine Last.mk0 (A:=A18) (m:=0) qf rfl rfl (l:=qkD x R ln h rc c h) (qK (QS hx _)) (h1:=[]) (by simp) ?_ .nil;rw[qlH];clear hln
  (repeat (first|refine BS ?_|refine BF ?_))
  rfl
theorem qlM(hh:h<=1000):(Qg (pC ln) h=true->LoopOk P18 G18 (A18 21) 21 21 (qE (v21 R ln h rc c 0) [] (.exit 6) [pgV R ln h rc c,.undef] []))/\(Qg (pC ln) h=false->LoopOk P18 G18 (A18 21) 21 21 (qE (v21 R ln h rc c 0) [] .ret [pgV R ln h rc c,iI 5] [])):=by
 refine zD qv (by kernel_rfl) (fun i=>v21 R ln h rc c i) (fun _=>[]) (pC ln) (n:=h) (fun i hi _ hg=>?_) (fun i hi _ hg=>?_) (fun _=>?_)
 ·have hg:ln i=ln 0:=of_decide_eq_true hg;refine Step.mk0 (A:=A18) (m:=0) qf rfl rfl qh (h1:=[]) ?_ .nil;rw[qlI,up1 (by omega),hg]
  (repeat (first|refine BS ?_|refine BF ?_))
  rfl
 ·have hg:¬ln i=ln 0:=of_decide_eq_false hg;refine Last.mk0 (A:=A18) (m:=0) qf rfl rfl qh (h1:=[]) (by simp) ?_ .nil;rw[qlI]
  (repeat (first|refine BS ?_|refine BF ?_))
  rfl
 ·refine Last.mk0 (A:=A18) (m:=0) qf rfl rfl qh (h1:=[]) (by simp) ?_ .nil;rw[qlI]
  (repeat (first|refine BS ?_|refine BF ?_))
  rfl
theorem qlN(hh:h<=1000)(hln:∀i,i<h->ln i<=1000)(hR:∀i,i<h->∀j,j<ln i->0<=R i j/\R i j<256):(Qg (pD2 R ln) h=true->LoopOk P18 G18 (A18 21) 21 26 (qE (v21 R ln h rc c 0) [] (.exit 8) [.undef] []))/\(Qg (pD2 R ln) h=false->LoopOk P18 G18 (A18 21) 21 26 (qE (v21 R ln h rc c 0) [] .ret [iI 14] [])):=by
 obtain⟨p,hp⟩:=qD P18 G18 36;have hK:∀x,OrcOk P18 G18 (K21 p x):=fun x=>qq qf (qj hp);refine zD qv (by kernel_rfl) (fun i=>v21 R ln h rc c i) (fun _=>[]) (pD2 R ln) (n:=h) (fun i hi _ hg=>?_) (fun i hi _ hg=>?_) (fun _=>?_)
 ·have hg:cN (R i) (ln i)<=2:=of_decide_eq_true hg;have t:=qf9 (R i) (ln i) (rc i) (hln i hi) (hR i hi);clear hln hR;generalize cN (R i) (ln i)=k at *
  refine Step.mk0 (A:=A18) (m:=0) (hK k) rfl rfl qh (h1:=[]) ?_ .nil;rw[qlJ,up1 (by omega)]
  (repeat (first|refine BS ?_|refine BF ?_))
  rfl
 ·have hg:¬cN (R i) (ln i)<=2:=of_decide_eq_false hg;have t:=qf9 (R i) (ln i) (rc i) (hln i hi) (hR i hi);clear hln hR;generalize cN (R i) (ln i)=k at *
  refine Last.mk0 (A:=A18) (m:=0) (hK k) rfl rfl qh (h1:=[]) (by simp) ?_ .nil;rw[qlJ]
  (repeat (first|refine BS ?_|refine BF ?_))
  rfl
 ·clear hln hR;refine Last.mk0 (A:=A18) (m:=0) (hK 0) rfl rfl qh (h1:=[]) (by simp) ?_ .nil;rw[qlJ]
  (repeat (first|refine BS ?_|refine BF ?_))
  rfl
theorem qe4(r:Nat->Int):∀i j,j<=i->mnF r i<=r j
 |0,j,hj=>by obtain rfl:j=0:=by omega
             exact Int.le_refl _
 |i+1,j,hj=>by
  unfold mnF;by_cases q:r (i+1)<mnF r i
  ·rw[dT q,cond_true];by_cases e:j=i+1
   ·rw[e];omega
   ·have:=qe4 r i j (by omega);omega
  ·rw[dF q,cond_false];by_cases e:j=i+1
   ·rw[e];omega
   ·exact qe4 r i j (by omega)
theorem qe5(r:Nat->Int):∀i j,j<=i->r j<=mxF r i
 |0,j,hj=>by obtain rfl:j=0:=by omega
             exact Int.le_refl _
 |i+1,j,hj=>by
  unfold mxF;by_cases q:mxF r i<r (i+1)
  ·rw[dT q,cond_true];by_cases e:j=i+1
   ·rw[e];omega
   ·have:=qe5 r i j (by omega);omega
  ·rw[dF q,cond_false];by_cases e:j=i+1
   ·rw[e];omega
   ·exact qe5 r i j (by omega)
theorem qlO{i:Nat}(hR:∀j,j<ln i->0<=R i j/\R i j<256):pB2 R ln i=pB R ln i:=by
 unfold pB pB2;by_cases q:ln i=0
 ·rw[dT q];rfl
 rw[dF q,Bool.not_false,Bool.true_and,Bool.false_or,Bool.eq_iff_iff,QD];simp only[pK,Bool.not_eq_true',Bool.or_eq_false_iff,decide_eq_false_iff_not];constructor
 ·intro hk;have g1:=qcp (R i) 1 (ln i-1) fun j hj=>by have:=hk j (by omega);have:=hR j (by omega);omega
  have g2:=qcq (R i) 6 (ln i-1) fun j hj=>by have:=hk j (by omega);omega
  omega
 ·rintro⟨g1,g2⟩ j hj;have h1:=qe4 (R i) (ln i-1) j (by omega);have h2:=qe5 (R i) (ln i-1) j (by omega);omega
theorem ja(hh:h<=1000)(hln:∀i,i<h->ln i<=1000)(hR:∀i,i<h->∀j,j<ln i->0<=R i j/\R i j<256):ToldOk P18 G18 21 [pgV R ln h rc c] (iI (pcE R ln h)):=by
 obtain⟨x,hx⟩:=ZQ P18 G18 (A18 21) 21 4;obtain⟨y,hy⟩:=ZQ P18 G18 (A18 21) 21 11;obtain⟨z,hz⟩:=ZQ P18 G18 (A18 21) 21 21;obtain⟨t,ht⟩:=ZQ P18 G18 (A18 21) 21 26;refine qJ qv q9 qf (A:=A18) (m:=0) (l:=l21 x y z t R ln h rc c) (by kernel_rfl) (zq (QS hx _) (zq (QS hy _) (zq (QS hz _) (qK (QS ht _))))) ?_;have eb:Qg (pB2 R ln) h=Qg (pB R ln) h:=qcC fun i hi=>qlO (hR i hi);have ed:Qg (pD2 R ln) h=Qg (pD R ln) h:=qcC fun i hi=>by unfold pD pD2;rw[qk1 _ _ (hR i hi)]
 have ha:=qlK (R:=R) (ln:=ln) (rc:=rc) (c:=c) hh;have hb:=qlL (R:=R) (ln:=ln) (rc:=rc) (c:=c) hh hln;have hc:=qlM (R:=R) (ln:=ln) (rc:=rc) (c:=c) hh;have hd:=qlN (R:=R) (ln:=ln) (rc:=rc) (c:=c) hh hln hR;rw[k21,KJ];rw[eb] at *
 rw[ed] at *
 clear hln hR eb ed;unfold pcE;have key:decide ((31:Int)<ofNat h)=decide (31<h):=by
  by_cases q:31<h
  ·rw[dT q,dT (by rw[qn];omega)]
  ·rw[dF q,dF (by rw[qn];omega)]
 rw[key];cases decide (31<h)
 ·rw[cond_false,cond_false];cases qa:Qg (pA ln) h
  ·rw[cond_false,cond_false];exact qm (Qz hx (ha.2 qa)) rfl
  ·rw[cond_true,cond_true];refine qm (Qz hx (ha.1 qa)) ?_;cases decide (h%2=0)
   ·rw[cond_false,cond_false];cases qb:Qg (pB R ln) h
    ·rw[cond_false,cond_false];exact qm (Qz hy (hb.2 qb)) rfl
    ·rw[cond_true,cond_true];refine qm (Qz hy (hb.1 qb)) ?_;cases qc:Qg (pC ln) h
     ·rw[cond_false,cond_false];exact qm (Qz hz (hc.2 qc)) rfl
     ·rw[cond_true,cond_true];refine qm (Qz hz (hc.1 qc)) ?_;cases qd:Qg (pD R ln) h
      ·rw[cond_false,cond_false];exact qm (Qz ht (hd.2 qd)) rfl
      ·rw[cond_true,cond_true];exact qm (Qz ht (hd.1 qd)) rfl
   ·rfl
 ·rfl
end
end Go.Ab

namespace Go.Proofs
open Go.Shelf
def Try.lays167_ren:Go.Shelf.Ren:=⟨fun|240=>52|167=>34|276=>65|n=>n,fun|70=>81|72=>83|37=>22|164=>114|75=>85|80=>87|n=>n,fun|n=>n⟩
theorem Try.lays167:Go.Proofs.Lays.n167 Try.prog Try.lays167_ren:={
 mixed:=by kernel_rfl
 f167:=Try.func34.trans (congrArg some (by kernel_rfl))
 f240:=Try.func52.trans (congrArg some (by kernel_rfl))
 f276:=Try.func65.trans (congrArg some (by kernel_rfl))
 t0:=Try.underlying0
 a0:=Try.isAgg0
 z0:=Try.sizeOf0
 v0:=Try.zeroValue0
 t4:=Try.underlying4
 a4:=Try.isAgg4
 z4:=Try.sizeOf4
 v4:=Try.zeroValue4
 t5:=Try.underlying5
 a5:=Try.isAgg5
 z5:=Try.sizeOf5
 v5:=Try.zeroValue5
 t9:=Try.underlying9
 a9:=Try.isAgg9
 z9:=Try.sizeOf9
 v9:=Try.zeroValue9
 t20:=Try.underlying20
 a20:=Try.isAgg20
 z20:=Try.sizeOf20
 v20:=Try.zeroValue20
 t37:=Try.underlying22
 a37:=Try.isAgg22
 z37:=Try.sizeOf22
 v37:=Try.zeroValue22
 t70:=Try.underlying81
 a70:=Try.isAgg81
 z70:=Try.sizeOf81
 v70:=Try.zeroValue81
 t72:=Try.underlying83
 a72:=Try.isAgg83
 z72:=Try.sizeOf83
 v72:=Try.zeroValue83
 t75:=Try.underlying85
 a75:=Try.isAgg85
 z75:=Try.sizeOf85
 v75:=Try.zeroValue85
 t164:=Try.underlying114
 a164:=Try.isAgg114
 z164:=Try.sizeOf114
 v164:=Try.zeroValue114 }
theorem Try.Builder_Extra_167:Builder.Extra Try.prog Try.lays167_ren:={
 sizeBuilder:=by kernel_rfl
 liesBuilder:=by kernel_rfl
 t5:=Try.underlying5
 a5:=Try.isAgg5
 z5:=Try.sizeOf5
 v5:=Try.zeroValue5
 infoByte:=by kernel_rfl
 cellsByte:=by kernel_rfl
 sizeByte:=by kernel_rfl
 neB5:=by decide }
open Go.RowKit in
theorem Try.Builder_WriteByte(B b:Nat)(bs:List Value)(c:Int)(w:World)(h:Lib.IsBuilder 83 5 B b bs w)(hlen:bs.length+1<=140737488355328)(hBw:B<=w.heap.size) :
 Calls Try.prog 34 #[.pointer (some ⟨b,0,none⟩),.int .u8 c] w fun e w'=>e = .returned .nilIface/\(Lib.BuilderAt 83 5 B b (.pointer (some ⟨b,0,none⟩)) (bs++[.int .u8 c]) w'/\Below B w w'):=Any.Builder_WriteByte Try.lays167 Try.Builder_Extra_167 B b bs c w h hlen hBw
def Try.lays169_ren:Go.Shelf.Ren:=⟨fun|169=>35|n=>n,fun|70=>81|9=>9|0=>0|72=>83|37=>22|127=>106|3=>3|5=>5|n=>n,fun|n=>n⟩
theorem Try.lays169:Go.Proofs.Lays.n169 Try.prog Try.lays169_ren:={
 mixed:=by kernel_rfl
 f169:=Try.func35.trans (congrArg some (by kernel_rfl))
 t0:=Try.underlying0
 a0:=Try.isAgg0
 z0:=Try.sizeOf0
 v0:=Try.zeroValue0
 t3:=Try.underlying3
 a3:=Try.isAgg3
 z3:=Try.sizeOf3
 v3:=Try.zeroValue3
 t9:=Try.underlying9
 a9:=Try.isAgg9
 z9:=Try.sizeOf9
 v9:=Try.zeroValue9
 t37:=Try.underlying22
 a37:=Try.isAgg22
 z37:=Try.sizeOf22
 v37:=Try.zeroValue22
 t70:=Try.underlying81
 a70:=Try.isAgg81
 z70:=Try.sizeOf81
 v70:=Try.zeroValue81
 t72:=Try.underlying83
 a72:=Try.isAgg83
 z72:=Try.sizeOf83
 v72:=Try.zeroValue83
 t127:=Try.underlying106
 a127:=Try.isAgg106
 z127:=Try.sizeOf106
 v127:=Try.zeroValue106 }
theorem Try.Builder_Extra_169:Builder.Extra Try.prog Try.lays169_ren:={
 sizeBuilder:=by kernel_rfl
 liesBuilder:=by kernel_rfl
 t5:=Try.underlying5
 a5:=Try.isAgg5
 z5:=Try.sizeOf5
 v5:=Try.zeroValue5
 infoByte:=by kernel_rfl
 cellsByte:=by kernel_rfl
 sizeByte:=by kernel_rfl
 neB5:=by decide }
open Go.RowKit in
theorem Try.Builder_String_any(B b:Nat)(l:List UInt8)(w:World)(h:Lib.IsBuilder 83 5 B b (Lib.byteCells l) w)(hBw:B<=w.heap.size) :
 Calls Try.prog 35 #[.pointer (some ⟨b,0,none⟩)] w fun e w'=>e = .returned (.string ⟨l.toArray⟩)/\Below B w w':=Any.Builder_String_any Try.lays169 Try.Builder_Extra_169 B b l w h hBw
def Try.lays219_ren:Go.Shelf.Ren:=⟨fun|219=>64|217=>72|225=>73|224=>74|267=>75|266=>87|314=>88|n=>n,fun|9=>9|3=>3|4=>4|5=>5|46=>121|146=>137|51=>134|n=>n,fun|1=>0|n=>n⟩
theorem Try.lays219:Go.Proofs.Lays.n219 Try.prog Try.lays219_ren:={
 mixed:=by kernel_rfl
 f217:=Try.func72.trans (congrArg some (by kernel_rfl))
 f219:=Try.func64.trans (congrArg some (by kernel_rfl))
 f224:=Try.func74.trans (congrArg some (by kernel_rfl))
 f225:=Try.func73.trans (congrArg some (by kernel_rfl))
 f266:=Try.func87.trans (congrArg some (by kernel_rfl))
 f267:=Try.func75.trans (congrArg some (by kernel_rfl))
 f314:=Try.func88.trans (congrArg some (by kernel_rfl))
 t3:=Try.underlying3
 a3:=Try.isAgg3
 z3:=Try.sizeOf3
 v3:=Try.zeroValue3
 t4:=Try.underlying4
 a4:=Try.isAgg4
 z4:=Try.sizeOf4
 v4:=Try.zeroValue4
 t5:=Try.underlying5
 a5:=Try.isAgg5
 z5:=Try.sizeOf5
 v5:=Try.zeroValue5
 t9:=Try.underlying9
 a9:=Try.isAgg9
 z9:=Try.sizeOf9
 v9:=Try.zeroValue9
 t46:=Try.underlying121
 a46:=Try.isAgg121
 z46:=Try.sizeOf121
 v46:=Try.zeroValue121
 t51:=Try.underlying134
 a51:=Try.isAgg134
 z51:=Try.sizeOf134
 v51:=Try.zeroValue134
 t146:=Try.underlying137
 a146:=Try.isAgg137
 z146:=Try.sizeOf137
 v146:=Try.zeroValue137
 g1:=by kernel_rfl }
open Go.RowKit Go.Lib in
theorem Try.stringslite_Index_one(s:ByteArray)(c:UInt8)(w:World) :
 Calls Try.prog 64 #[.string s,.string ⟨#[c]⟩] w fun e w'=>e = .returned (.int .i64 (Lib.indexByte s.data.toList c))/\w'=w:=Any.stringslite_Index_one Try.lays219 s c w
end Go.Proofs

namespace Go.Ab
open IntKind(i64 u8)
open Int(ofNat)
open Go.Proofs
theorem qjT{w w':World}{U:Nat->Prop}{r:T}{v:Value}(hU:∀b,U b->b<w.heap.size)(hb:RowKit.Below w.heap.size w w')(hx:RT2 w' w.heap.size U r v []):RV w U r v w' :=
 ⟨⟨hb,Nat.le_refl _⟩,U,[],fun _ h=>h,fun b h=>⟨.inl h,Nat.lt_of_lt_of_le (hU b h) hb.size⟩,.nil,fun b h=>by simp at h,hx⟩
theorem qmR(s:List UInt8):ToldOk P18 G18 64 [.str s,.str [10]] (iI (Lib.indexByte s 10)):=by
 refine⟨⟨Try.f64,Try.func64,by kernel_rfl,by kernel_rfl⟩,fun w U cargs hU hgl ha=>?_⟩;obtain⟨v0,a1,a2⟩:=ha.2 0 _ rfl;obtain⟨v1,a3,a4⟩:=ha.2 1 _ rfl;have hc2:cargs = #[v0,v1]:=by
  have hs:cargs.size=2:=ha.1.symm;refine Array.ext (by simp[hs]) fun k h1 h2=>?_
  match k,h1 with
  |0,_=>simpa [Array.getElem?_eq_getElem (show 0<cargs.size by omega)] using a1
  |1,_=>simpa [Array.getElem?_eq_getElem (show 1<cargs.size by omega)] using a3
  |k+2,h1=>omega
 subst hc2;cases a2 with
 |str _ b hb =>
  cases a4 with
  |str _ b2 hb2 =>
   have e2:b2=⟨#[10]⟩:=by
    cases b2 with
    |mk d =>
     congr 1;exact Array.toList_inj.1 hb2
   subst e2;refine(Try.stringslite_Index_one b 10 w).mono fun e w' h=>?_;obtain⟨h1,h2⟩:=h;subst h2;refine⟨_,h1,qjT hU (.refl _ _) ?_⟩;rw[hb];exact .vi _ _ (.int _ _)
def kS(n:Int)(_:List T):Option T:=some (iI n)
theorem c51(p:List T->T->Prop)(n:Int)(s:List UInt8):QU P18 G18 A18 (qk.add 64 (qL p (kS n))) 0 51 [.str s,.str [10]] =
( gD (qF (p [.str s,.str [(10:UInt8)]] (iI n)))<|bif decide (0<=n) then gD (decide (0<=n)&&decide (n<=ofNat s.length))<|gD (decide (0<=i64.wrap (n+1))&&decide (i64.wrap (n+1)<=ofNat s.length)&&decide (ofNat s.length<=ofNat s.length))<|some (.tup [.str (List.drop (0:Nat) (List.take n.toNat s)),.str (List.drop (i64.wrap (n+(1:Int))).toNat (List.take s.length s)),.bool true]) else
 some (.tup [.str s,.str [],.bool false])):=by kernel_rfl
def ya:List UInt8->List UInt8×List UInt8×Bool
 |[]=>([],[],false)
 |b::l=>if b==10 then([],l,true) else(b::(ya l).1,(ya l).2.1,(ya l).2.2)
theorem kT:∀s:List UInt8,(Lib.indexByte s 10 = -1/\ya s=(s,[],false))∨∃i:Nat,Lib.indexByte s 10=i/\i<s.length/\ya s=(s.take i,s.drop (i+1),true)
 |[]=>.inl ⟨rfl,rfl⟩
 |b::l=>by
  unfold Lib.indexByte ya;by_cases q:(b==10)=true
  ·rw[if_pos q,if_pos q];exact .inr ⟨0,rfl,by simp,rfl⟩
  ·rw[if_neg q,if_neg q];rcases kT l with⟨h1,h2⟩|⟨i,h1,h2,h3⟩
   ·rw[h1,h2];exact .inl ⟨rfl,rfl⟩
   ·rw[h1,h3];refine .inr ⟨i+1,?_,by simp only[List.length_cons];omega,rfl⟩;have:¬((i:Int)==-1)=true:=by
     rw[beq_iff_eq];omega
    rw[if_neg this];rfl
def qhd(s:List UInt8):T:=.tup [.str (ya s).1,.str (ya s).2.1,.bool (ya s).2.2]
theorem qmS(s:List UInt8)(hs:s.length<=1000000):ToldOk P18 G18 51 [.str s,.str [10]] (qhd s):=by
 obtain⟨p,hp⟩:∃p:List T->T->Prop,p=ToldOk P18 G18 64:=⟨_,rfl⟩;have t:=qmR s;rcases kT s with⟨h1,h2⟩|⟨i,h1,h2,h3⟩
 ·rw[h1] at t;refine qP qv q9 (K:=qk.add 64 (qL p (kS (-1)))) (qq qf (qj hp)) (A:=A18) (m:=0) ((c51 p (-1) s).trans ?_);unfold qhd;rw[h2];exact qm (qp hp t) rfl
 ·rw[h1] at t;refine qP qv q9 (K:=qk.add 64 (qL p (kS i))) (qq qf (qj hp)) (A:=A18) (m:=0) ((c51 p i s).trans ?_);unfold qhd;rw[h3,qI (by omega) (by omega)];refine qm (qp hp t) (qm (by simp) (qm (by simp;omega) (qm (by simp;omega) ?_)));rw[List.take_length,List.drop_zero,show((i:Int)+1).toNat=i+1 by omega,show(i:Int).toNat=i from rfl]
theorem c31(p:List T->T->Prop)(a b:List UInt8)(f:Bool)(s:List UInt8):QU P18 G18 A18 (qk.add 51 (qL p (fun _=>some (.tup [.str a,.str b,.bool f])))) 0 31 [.str s,.str [10]] =
( gD (qF (p [.str s,.str [(10:UInt8)]] (.tup [.str a,.str b,.bool f])))<|bif f then some (.tup [.str a,.str b,.bool true]) else
 some (.tup [.str a,.str b,.bool false])):=by kernel_rfl
theorem qk2(s:List UInt8)(hs:s.length<=1000000):ToldOk P18 G18 31 [.str s,.str [10]] (qhd s):=by
 obtain⟨p,hp⟩:∃p:List T->T->Prop,p=ToldOk P18 G18 51:=⟨_,rfl⟩;have t:=qmS s hs;unfold qhd at t ⊢;generalize (ya s).1=a at *
 generalize (ya s).2.1=b at *
 generalize (ya s).2.2=f at *
 refine qP qv q9 (qq qf (qj hp)) (A:=A18) (m:=0) ((c31 p a b f s).trans ?_);refine qm (qp hp t) ?_;cases f<;>rfl
open Go.Proofs Go.RowKit
def Zb(R:Nat->Nat->Nat)(ln:Nat->Nat)(i k:Nat):List UInt8:=(List.range k).map fun j=>UInt8.ofNat (48+R i j)
def ZT(R:Nat->Nat->Nat)(ln:Nat->Nat)(h:Nat):Nat->List UInt8
 |0=>[]
 |r+1=>ZT R ln h r++(Zb R ln (h-1-r) (ln (h-1-r))++[10])
theorem JX(R:Nat->Nat->Nat)(ln:Nat->Nat)(h:Nat)(hln:∀i,ln i<=1000):∀k,(ZT R ln h k).length<=k*1001
 |0=>Nat.le_refl _
 |k+1=>by
  have:=JX R ln h hln k;have:=hln (h-1-k);simp only[ZT,Zb,List.length_append,List.length_map,List.length_range,List.length_cons,List.length_nil];omega
theorem qlP(l:List UInt8):(Lib.byteCells l).length=l.length:=by simp[Lib.byteCells]
theorem qhK(l:List UInt8)(x:UInt8):Lib.byteCells (l++[x])=Lib.byteCells l++[.int .u8 (x.toNat:Int)]:=by simp[Lib.byteCells]
theorem qdW(R:Nat->Nat->Nat)(ln:Nat->Nat)(i k:Nat):Zb R ln i (k+1)=Zb R ln i k++[UInt8.ofNat (48+R i k)]:=by simp[Zb,List.range_succ]
set_option maxRecDepth 100000 in
set_option maxHeartbeats 4000000 in
theorem qiu(R:Nat->Nat->Nat)(ln:Nat->Nat)(h:Nat)(ab ao c:Nat)(hh:h<=1000)(bi oi ci:Nat->Nat)(w:World)
 (h1:∀i,i<h->w.cell? ⟨ab,ao+i,none⟩ = some (.slice (some ⟨bi i,oi i,none⟩) (ln i) (ci i))) (h2:∀i j,i<h->j<ln i->bi i<w.heap.size/\w.cell? ⟨bi i,oi i+j,none⟩ = some (.int .u8 (R i j)))
 (hb:ab<w.heap.size) (hR:∀i j,R i j<=100) (hln:∀i,ln i<=1000)
 (chk:Calls P18 29 #[.slice (some ⟨ab,ao,none⟩) h c] w fun e w'=>e = .returned (.int .i64 0)/\Below w.heap.size w w') :
 Calls P18 20 #[.slice (some ⟨ab,ao,none⟩) h c] w fun e w'=>e = .returned (.string ⟨(ZT R ln h h).toArray⟩)/\Below w.heap.size w w':=by
 go_enter Try.func20,Try.ntmps20
 go_wp2_with (go_at_call 29;refine chk.mono ?_;rintro e w1 ⟨rfl,hB1⟩)
 have keepc:∀wr:World,Below w1.heap.size w1 wr->∀b o v,b<w.heap.size->w.cell? ⟨b,o,none⟩ = some v->wr.cell? ⟨b,o,none⟩ = some v:=fun wr hB2 b o v hlt hv=>by
  rw[←hv];exact World.cell?_of_block ((hB2.block b (Nat.lt_of_lt_of_le hlt hB1.size)).trans (hB1.block b hlt))
 go_loopw [12] (fun i wr=>∃k:Nat,k<=h/\i = .int .i64 k/\Lib.IsBuilder 83 5 w1.heap.size w1.heap.size (Lib.byteCells (ZT R ln h k)) wr/\Below w1.heap.size w1 wr) (fun i _=>h-(intOf i).toNat)
 case atStart=>exact⟨0,Nat.zero_le _,rfl,Lib.fresh_isBuilder 83 5 w1,Below.alloc (.refl _ _) (Nat.le_refl _) _⟩
 case round =>
  obtain⟨k,hk,rfl,hI,hBr⟩:=hrel;by_cases hlt:k<h
  ·have g1:=keepc _ hBr ab _ _ hb (h1 (h-1-k) (by omega));have e1:((h:Int)-1-k).toNat=h-1-k:=by omega
   have b1:(0:Int)<=(h:Int)-1-k:=by omega
   have b2:(h:Int)-1-k<h:=by omega
   go_wp2
   have mh:h-1-k<h:=by omega
   have hlen:=JX R ln h hln k;have hk1:k*1001<=1001000:=by omega
   generalize hm:h-1-k=m at g1 mh ⊢
   go_loopw [24] (fun i wr2=>∃j:Nat,j<=ln m/\i = .int .i64 j/\Lib.IsBuilder 83 5 w1.heap.size w1.heap.size (Lib.byteCells (ZT R ln h k++Zb R ln m j)) wr2/\Below w1.heap.size w1 wr2) (fun i _=>ln m-(intOf i).toNat)
   case atStart=>exact⟨0,Nat.zero_le _,rfl,by simpa [Zb] using hI,hBr⟩
   case round =>
    obtain⟨j,hj,rfl,hI2,hB2⟩:=hrel;have hlm:=hln m;have hrl:(Zb R ln m j).length=j:=by simp[Zb]
    have hcl:(Lib.byteCells (ZT R ln h k++Zb R ln m j)).length+1<=140737488355328:=by
     rw[qlP,List.length_append,hrl];omega
    by_cases hlj:j<ln m
    ·have g2:=keepc _ hB2 (bi m) _ _ (h2 m j mh hlj).1 (h2 m j mh hlj).2;have hr:=hR m j
     go_wp2_with (go_at_call 34;refine(Try.Builder_WriteByte w1.heap.size w1.heap.size _ _ _ hI2 hcl hB2.size).mono ?_;rintro e w3 ⟨rfl,hI3,hB3⟩)
     have hx:((UInt8.ofNat (48+R m j)).toNat:Int)=48+↑(R m j):=by
      have:(UInt8.ofNat (48+R m j)).toNat=48+R m j:=by
       rw[UInt8.toNat_ofNat'];omega
      omega
     refine⟨⟨j+1,by omega,by simp,?_,hB2.trans hB3⟩,by simp[intOf];omega⟩;rw[qdW,←List.append_assoc,qhK,hx];exact .inr hI3
    ·obtain rfl:j=ln m:=by omega
     go_wp2_with (go_at_call 34;refine(Try.Builder_WriteByte w1.heap.size w1.heap.size _ _ _ hI2 hcl hB2.size).mono ?_;rintro e w3 ⟨rfl,hI3,hB3⟩)
     refine⟨⟨k+1,by omega,by simp,?_,hB2.trans hB3⟩,by simp[intOf];omega⟩;rw[show ZT R ln h (k+1)=ZT R ln h k++Zb R ln m (ln m)++[10] by rw[←hm,List.append_assoc];rfl,qhK];exact .inr hI3
  ·obtain rfl:k=h:=by omega
   go_wp2_with (go_at_call 35;refine(Try.Builder_String_any w1.heap.size w1.heap.size _ _ hI hBr.size).mono ?_;rintro e w3 ⟨rfl,hB3⟩)
   go_ret
   exact⟨rfl,hB1.trans ((hBr.trans hB3).mono hB1.size)⟩
def qdg:Value->Nat×Nat×Nat
 |.slice (some a) _ c=>(a.block,a.off,c)
 |_=>(0,0,0)
def zd(R:Nat->Nat->Int)(i j:Nat):Nat:=(R i j).toNat
def qdh(R:Nat->Nat->Int)(ln:Nat->Nat)(h:Nat):List UInt8:=ZT (zd R) ln h h
theorem qk3(R:Nat->Nat->Int)(ln:Nat->Nat)(h:Nat)(rc:Nat->Option Nat)(c:Option Nat)(h0:0<h)(hh:h<=1000)(hln:∀i,ln i<=1000)(hl1:∀i,i<h->0<ln i)(hR:∀i j,0<=R i j/\R i j<=100)(hok:pcE R ln h=0) :
 ToldOk P18 G18 20 [pgV R ln h rc c] (.str (qdh R ln h)):=by
 have t:=JV R ln h rc c hh (fun i _=>hln i) (fun i _ j _=>by have:=hR i j;omega);rw[hok] at t;refine⟨⟨Try.f20,Try.func20,by kernel_rfl,by kernel_rfl⟩,fun w U cargs hU hgl ha=>?_⟩;have tc:=t.calls w U cargs hU hgl ha;obtain⟨v0,a1,a2⟩:=ha.2 0 _ rfl;have hc2:cargs = #[v0]:=by
  have hs:cargs.size=1:=ha.1.symm;refine Array.ext (by simp[hs]) fun k h1 h2=>?_
  match k,h1 with
  |0,_=>simpa [Array.getElem?_eq_getElem (show 0<cargs.size by omega)] using a1
  |k+1,h1=>omega
 subst hc2;unfold pgV at a2;cases a2 with
 |vnil _ _ _ _=>omega
 |view _ _ _ _ a cc vs hs hcap hn hUb hl hc hv =>
  have hsp:=hs (by omega);obtain⟨ab,ao,sp⟩:=a;dsimp only at hsp;subst hsp;have hUb:=hUb h0 (by decide);have row:∀i,i<h->vs i 0 = .slice (some ⟨(qdg (vs i 0)).1,(qdg (vs i 0)).2.1,none⟩) (ln i) (qdg (vs i 0)).2.2/\∀j,j<ln i->(qdg (vs i 0)).1<w.heap.size/\w.cell? ⟨(qdg (vs i 0)).1,(qdg (vs i 0)).2.1+j,none⟩ = some (.int .u8 (zd R i j)):=by
   intro i hi;have hv0:=hv i 0 _ hi rfl;unfold qB at hv0;have hpos:=hl1 i hi;generalize vs i 0=v at hv0;generalize ln i=n0 at hv0 hpos ⊢;cases hv0 with
   |vnil _ _ _ _=>omega
   |view _ _ _ _ a2 c2 vs2 hs2 hcap2 hn2 hU2 hl2 hc2 hv2 =>
    have hsp:=hs2 (by omega);obtain⟨b2,o2,sp⟩:=a2;dsimp only at hsp;subst hsp;refine⟨rfl,fun j hj=>⟨hU _ (hU2 hpos (by decide)),?_⟩⟩;have q1:=(hc2 j 0 _ hj rfl).1;have q2:=hv2 j 0 _ hj rfl;generalize vs2 j 0=u at q1 q2;have hu:u = .int .u8 (R i j):=by cases q2;rfl
    rw[hu] at q1;have e:((zd R i j:Nat):Int)=R i j:=by
     have:=(hR i j).1;unfold zd;omega
    rw[e];simpa [qdg] using q1
  have hw:=qiu (zd R) ln h ab ao cc hh (fun i=>(qdg (vs i 0)).1) (fun i=>(qdg (vs i 0)).2.1) (fun i=>(qdg (vs i 0)).2.2) w
   (fun i hi=>by
    have q:=(hc i 0 _ hi rfl).1;rw[(row i hi).1] at q;simpa using q)
   (fun i j hi hj=>(row i hi).2 j hj) (hU _ hUb) (fun i j=>by have:=hR i j;unfold zd;omega) hln
   (tc.mono fun e w' ⟨v,q1,q2⟩=>by
    obtain⟨⟨hb,_⟩,U',X,_,_,_,_,hrt⟩:=q2;refine⟨?_,hb⟩;rw[q1];congr 1;have hrt:RT0 w' _ U' (.int .i64 0) v X:=hrt;cases hrt with
    |vi _ _ hv=>cases hv;rfl)
  refine hw.mono fun e w' h=>?_;obtain⟨q1,q2⟩:=h;exact⟨_,q1,qjT hU q2 (.vi _ _ (.str _ _ (by simp[qdh])))⟩
def kAg(k:Int)(_:List T):Option T:=some (.tup [.agg [.nils],iI k])
def kI2(a k:Int)(_:List T):Option T:=some (.tup [iI a,iI k])
def kN3(k:Int)(_:List T):Option T:=some (.tup [.nils,iI 0,iI k])
def kW3(W:Nat->Nat->Int)(n h:Nat)(k:Int)(_:List T):Option T:=some (.tup [qR W n h (some n) (some h),iI k,iI 0])
def kC2(R:Nat->Nat->Int)(n h:Nat)(_:List T):Option T:=some (.tup [.agg [.view 1 h (fun i=>[srV (knR R i) n (some n)]) (some h)],iI 0])
def qoE(_:List T):Option T:=some (.str [])
def kTr(_:List T):Option T:=some (.bool true)
theorem qoF(p:List T->T->Prop)(k:Int)(R:Nat->Nat->Int)(ln:Nat->Nat)(h:Nat)(rc:Nat->Option Nat)(c:Option Nat):QU P18 G18 A18 (qk.add 29 (qL p (kS k))) 0 24 [pgV R ln h rc c] =
( gD (qF (p [pgV R ln h rc c] (iI k)))<|bif !decide (k=0) then some (.tup [.agg [.nils],iI k]) else
 gD (decide (0<=ofNat h)&&decide (ofNat h<=ofNat h)&&decide (ofNat h*24<=140737488355328)&&decide (ofNat h<=9223372036854775807)) none):=by kernel_rfl
theorem qoG(p:List T->T->Prop)(k:Int)(R:Nat->Nat->Int)(ln:Nat->Nat)(h:Nat)(rc:Nat->Option Nat)(c:Option Nat):QU P18 G18 A18 (qk.add 29 (qL p (kS k))) 0 18 [pgV R ln h rc c] =
( gD (qF (p [pgV R ln h rc c] (iI k)))<|gD (!decide (k=0))<|some (.tup [iI 0,iI k])):=by kernel_rfl
theorem qmT(p:List T->T->Prop)(k most:Int)(R:Nat->Nat->Int)(ln:Nat->Nat)(h:Nat)(rc:Nat->Option Nat)(c:Option Nat):QU P18 G18 A18 (qk.add 29 (qL p (kS k))) 0 14 [pgV R ln h rc c,iI most] =
( gD (qF (p [pgV R ln h rc c] (iI k)))<|bif !decide (k=0) then some (.tup [.nils,iI 0,iI k]) else
 bif decide (most<1) then some (.tup [.nils,iI 0,iI 1]) else
 bif decide (16<most) then some (.tup [.nils,iI 0,iI 1]) else
 gD (decide (0<=ofNat h)&&decide (ofNat h<=ofNat h)&&decide (ofNat h*24<=140737488355328)&&decide (ofNat h<=9223372036854775807)) none):=by kernel_rfl
theorem qoH(p:List T->T->Prop)(k:Int)(R:Nat->Nat->Int)(ln:Nat->Nat)(h:Nat)(rc:Nat->Option Nat)(c:Option Nat):QU P18 G18 A18 (qk.add 29 (qL p (kS k))) 0 20 [pgV R ln h rc c] =
( gD (qF (p [pgV R ln h rc c] (iI k)))<|gD (!decide (k=0))<|some (.str [])):=by kernel_rfl
theorem qmU(R:Nat->Nat->Int)(ln:Nat->Nat)(h:Nat)(rc:Nat->Option Nat)(c:Option Nat):qy P18 G18 A18 qk 0 43 [] (nav [1]) [0] [pgV R ln h rc c] [] [0] =
( zN [pgV R ln h rc c] []):=by kernel_rfl
theorem qmV(R:Nat->Nat->Int)(ln:Nat->Nat)(h:Nat)(rc:Nat->Option Nat)(c:Option Nat):qy P18 G18 A18 qk 0 43 [] (nav [1,2]) [0] [pgV R ln h rc c] [] [0] =
( bif decide (40<ofNat h) then zR [pgV R ln h rc c] [] else
 zN [pgV R ln h rc c] []):=by kernel_rfl
theorem qmW(R:Nat->Nat->Int)(ln:Nat->Nat)(h:Nat)(rc:Nat->Option Nat)(c:Option Nat):qy P18 G18 A18 qk 0 43 [] (nav [1,1,2,2]) [0] [pgV R ln h rc c] [] [0,3] =
( zN (v21 R ln h rc c (nat_lit 0)) []):=by kernel_rfl
theorem qk4(R:Nat->Nat->Int)(ln:Nat->Nat)(h:Nat)(rc:Nat->Option Nat)(c:Option Nat)(i:Nat):qy P18 G18 A18 qk 0 43 [] (nav [0,0,2,1,2,2]) [0,3] [pgV R ln h rc c,iI i] [] [0,3] =
( bif decide (ofNat i<ofNat h) then gD (decide (0<=ofNat i)&&decide (ofNat i<ofNat h))<|bif decide (40<ofNat (ln i)) then zR (v21 R ln h rc c i) [] else
 zN [pgV R ln h rc c,iI (i64.wrap (ofNat i+1))] [] else
 zX 0 (v21 R ln h rc c i) []):=by kernel_rfl
theorem qmX(p p43 p21 p24 p18 p14 p20 p12:List T->T->Prop)(k most:Int)(R:Nat->Nat->Int)(ln:Nat->Nat)(h:Nat)(rc:Nat->Option Nat)(c:Option Nat):QU P18 G18 A18 ((((((((qk.add 43 (qL p43 (kS 1))).add 21 (qL p21 (kS k))).add 29 (qL p (kS k))).add 24 (qL p24 (kAg k))).add 18 (qL p18 (kI2 0 k))).add 14 (qL p14 (kN3 k))).add 20 (qL p20 qoE)).add 12 (qL p12 kTr)) 0 26 [pgV R ln h rc c,iI most] =
( gD (qF (p43 [pgV R ln h rc c] (iI 1)))<|gD (qF (p21 [pgV R ln h rc c] (iI k)))<|gD (qF (p [pgV R ln h rc c] (iI k)))<|bif !decide (k=k) then some (.bool false) else
 gD (qF (p24 [pgV R ln h rc c] (.tup [.agg [.nils],iI k])))<|gD (qF (p18 [pgV R ln h rc c] (.tup [iI 0,iI k])))<|gD (qF (p14 [pgV R ln h rc c,iI most] (.tup [.nils,iI 0,iI k])))<|gD (!decide (k=0))<|bif decide (k=k) then bif decide (k=k) then bif decide (k=k) then gD (qF (p20 [pgV R ln h rc c] (.str [])))<|gD (qF (p12 [] (.bool true)))<|some (.bool true) else
 some (.bool false) else
 some (.bool false) else
 some (.bool false)):=by kernel_rfl
theorem qmY(p43 p21 p29 p24 p18:List T->T->Prop)(l most:Int)(R:Nat->Nat->Int)(n h:Nat)(rc c:Option Nat):qy P18 G18 A18 qk 0 26 [] (nav [1]) [0,1] [qR R n h rc c,iI most] [] [0,1] =
( zN [qR R n h rc c,iI most] []):=by kernel_rfl
theorem qmZ(p43:List T->T->Prop)(most:Int)(R:Nat->Nat->Int)(n h:Nat)(rc c:Option Nat):qy P18 G18 A18 (qk.add 43 (qL p43 (kS 1))) 0 26 [] (nav [1,2]) [0,1] [qR R n h rc c,iI most] [] [0,1] =
( gD (qF (p43 [qR R n h rc c] (iI 1)))<|zN [qR R n h rc c,iI most] []):=by kernel_rfl
theorem qm0(p21:List T->T->Prop)(most:Int)(R:Nat->Nat->Int)(n h:Nat)(rc c:Option Nat):qy P18 G18 A18 (qk.add 21 (qL p21 (kS 0))) 0 26 [] (nav [1,2,2]) [0,1] [qR R n h rc c,iI most] [] [0,1,5] =
( gD (qF (p21 [qR R n h rc c] (iI 0)))<|zN [qR R n h rc c,iI most,iI 0] []):=by kernel_rfl
theorem qm1(p29:List T->T->Prop)(most:Int)(R:Nat->Nat->Int)(n h:Nat)(rc c:Option Nat):qy P18 G18 A18 (qk.add 29 (qL p29 (kS 0))) 0 26 [] (nav [1,2,2,2]) [0,1,5] [qR R n h rc c,iI most,iI 0] [] [0,1,5] =
( gD (qF (p29 [qR R n h rc c] (iI 0)))<|zN [qR R n h rc c,iI most,iI 0] []):=by kernel_rfl
theorem qm2(p24:List T->T->Prop)(most:Int)(R:Nat->Nat->Int)(n h:Nat)(rc c:Option Nat):qy P18 G18 A18 (qk.add 24 (qL p24 (kC2 R n h))) 0 26 [] (nav [1,2,2,2,2]) [0,1,5] [qR R n h rc c,iI most,iI 0] [] [0,1,5,7] =
( gD (qF (p24 [qR R n h rc c] (.tup [.agg [.view 1 h (fun i=>[qjI R n i]) (some h)],iI 0])))<|zN [qR R n h rc c,iI most,iI 0,iI 0] []):=by kernel_rfl
theorem qm3(p18:List T->T->Prop)(most l:Int)(R:Nat->Nat->Int)(n h:Nat)(rc c:Option Nat):qy P18 G18 A18 (qk.add 18 (qL p18 (kI2 l 0))) 0 26 [] (nav [1,2,2,2,2,2]) [0,1,5,7] [qR R n h rc c,iI most,iI 0,iI 0] [] [0,1,5,7,8,9] =
( gD (qF (p18 [qR R n h rc c] (.tup [iI l,iI 0])))<|zN [qR R n h rc c,iI most,iI 0,iI 0,iI l,iI 0] []):=by kernel_rfl
theorem qm4(p14:List T->T->Prop)(most l k:Int)(R W:Nat->Nat->Int)(n h:Nat)(rc c:Option Nat):qy P18 G18 A18 (qk.add 14 (qL p14 (kW3 W n h k))) 0 26 [] (nav [1,2,2,2,2,2,2]) [0,1,5,7,8,9] [qR R n h rc c,iI most,iI 0,iI 0,iI l,iI 0] [] [0,1,5,7,8,9,10,11,12] =
( gD (qF (p14 [qR R n h rc c,iI most] (.tup [qR W n h (some n) (some h),iI k,iI 0])))<|zN [qR R n h rc c,iI most,iI 0,iI 0,iI l,iI 0,qR W n h (some n) (some h),iI k,iI 0] []):=by kernel_rfl
theorem qm5(p14:List T->T->Prop)(most l:Int)(R:Nat->Nat->Int)(n h:Nat)(rc c:Option Nat):qy P18 G18 A18 (qk.add 14 (qL p14 (kN3 1))) 0 26 [] (nav [1,2,2,2,2,2,2]) [0,1,5,7,8,9] [qR R n h rc c,iI most,iI 0,iI 0,iI l,iI 0] [] [0,1,5,7,8,9,10,11,12] =
( gD (qF (p14 [qR R n h rc c,iI most] (.tup [.nils,iI 0,iI 1])))<|zN [qR R n h rc c,iI most,iI 0,iI 0,iI l,iI 0,.nils,iI 0,iI 1] []):=by kernel_rfl
theorem qm6(x:T)(most l k g:Int)(R:Nat->Nat->Int)(n h:Nat)(rc c:Option Nat):qy P18 G18 A18 qk 0 26 [] (nav [1,2,2,2,2,2,2,2]) [0,1,5,7,8,9,10,11,12] [qR R n h rc c,iI most,iI 0,iI 0,iI l,iI 0,x,iI k,iI g] [] [0,1,7,8,9,12] =
( zN [qR R n h rc c,iI most,iI 0,iI l,iI 0,iI g] []):=by kernel_rfl
theorem qm7(most l g:Int)(R:Nat->Nat->Int)(n h:Nat)(rc c:Option Nat):qy P18 G18 A18 qk 0 26 [] (nav [1,2,2,2,2,2,2,2,2]) [0,1,7,8,9,12] [qR R n h rc c,iI most,iI 0,iI l,iI 0,iI g] [] [0,1,7,8,9,12,13] =
( zN [qR R n h rc c,iI most,iI 0,iI l,iI 0,iI g,iI 0] []):=by kernel_rfl
theorem qm8(most l g s:Int)(R:Nat->Nat->Int)(n h:Nat)(rc c:Option Nat):qy P18 G18 A18 qk 0 26 [] (nav [1,1,2,2,2,2,2,2,2,2,2]) [0,1,7,8,9,12,13] [qR R n h rc c,iI most,iI 0,iI l,iI 0,iI g,iI s] [] [0,1,7,8,9,12,13,14] =
( zN [qR R n h rc c,iI most,iI 0,iI l,iI 0,iI g,iI s,iI 0] []):=by kernel_rfl
theorem qk5(p17:List T->T->Prop)(most l g s v:Int)(i:Nat)(R:Nat->Nat->Int)(n h:Nat)(rc c:Option Nat):qy P18 G18 A18 (qk.add 17 (qL p17 (kS v))) 0 26 [] (nav [0,0,2,1,2,2,2,2,2,2,2,2,2]) [0,1,7,8,9,12,13,14] [qR R n h rc c,iI most,iI 0,iI l,iI 0,iI g,iI s,iI i] [] [0,1,7,8,9,12,13,14] =
( bif decide (ofNat i<ofNat h) then gD (decide (0<=ofNat i)&&decide (ofNat i<ofNat h))<|gD (qF (p17 [qB (R i) n rc] (iI v)))<|zN [qR R n h rc c,iI most,iI 0,iI l,iI 0,iI g,iI (bif decide (s<v) then v
 else s),iI (i64.wrap (ofNat i+1))] [] else
 zX 0 [qR R n h rc c,iI most,iI 0,iI l,iI 0,iI g,iI s,iI (.ofNat i)] []):=by kernel_rfl
theorem qm9(p12:List T->T->Prop)(most l g s:Int):qy P18 G18 A18 (qk.add 12 (qL p12 kTr)) 0 26 [] (nav [2,2,2,2,2,2,2,2,2,2]) [1,7,8,9,12,13] [iI most,iI 0,iI l,iI 0,iI g,iI s] [] [4] =
( bif decide (l=s) then bif decide (g=0) then bif decide (1<=most) then bif decide (most<=16) then bif decide (g=0) then gD (qF (p12 [] (.bool true)))<|zR [.bool true] [] else
 bif decide (g=1) then gD (qF (p12 [] (.bool true)))<|zR [.bool true] [] else
 zR [.bool false] [] else
 zR [.bool false] [] else
 zR [.bool false] [] else
 bif decide (1<=most) then bif decide (most<=16) then zR [.bool false] [] else
 bif decide (g=0) then gD (qF (p12 [] (.bool true)))<|zR [.bool true] [] else
 bif decide (g=1) then gD (qF (p12 [] (.bool true)))<|zR [.bool true] [] else
 zR [.bool false] [] else
 bif decide (g=0) then gD (qF (p12 [] (.bool true)))<|zR [.bool true] [] else
 bif decide (g=1) then gD (qF (p12 [] (.bool true)))<|zR [.bool true] [] else
 zR [.bool false] [] else
 zR [.bool false] []):=by kernel_rfl
theorem kU{y:Int}(h:1<=y/\y<=6):(Y3 y).Ok/\vF (Y3 y)=true/\(Y3 y).n=1/\(Y3 y).m=1:=by
 have ok:(Y3 y).Ok:=⟨by show(0:Int)<=1/\(1:Int)<256;omega,by show 0<=y/\y<256;omega,by show(-9223372036854775808:Int)<=0/\(0:Int)<=9223372036854775807;omega,by show(-9223372036854775808:Int)<=0/\(0:Int)<=9223372036854775807;omega⟩;have hv:vF (Y3 y)=true:=((Y3 y).v_iff ok).2 ⟨by show(1:Int)<=1;omega,by show(1:Int)<=8;omega,h.1,h.2,.inl ⟨by show ¬(1:Int)=8;omega,rfl,rfl,rfl⟩⟩;refine⟨ok,hv,?_,?_⟩
 ·unfold Sti.n;rw[hv];rfl
 ·unfold Sti.m;rw[hv];rfl
theorem qkE(y:Int)(B:Nat->Int)(j:Nat):ldG (Y3 y) B j=1:=by
 unfold ldG;rw[if_neg (by intro q;have:=q.1;simp[Y3] at this),if_neg (by intro q;have:=q.1;simp[Y3] at this)]
theorem qcQ{N:Nat->Int}:∀n,(∀i,i<n->N i=1)->QC N n=(n:Int)
 |0,_=>rfl
 |n+1,h=>by
  unfold QC;rw[qcQ n fun i hi=>h i (by omega),h n (by omega)];omega
section
variable {R:Nat->Nat->Int} {n h:Nat}
theorem qhe{i:Nat}(hR:∀j,j<n->1<=R i j/\R i j<=6):∀k,k<=n->Qr (knR R i) k=k/\Qs (knR R i) k=k
 |0,_=>⟨rfl,rfl⟩
 |k+1,hk=>by
  obtain⟨h1,h2⟩:=qhe hR k (by omega);obtain⟨_,_,h3,h4⟩:=kU (hR k (by omega));have e3:Qr (knR R i) (k+1)=Qr (knR R i) k+(Y3 (R i k)).n.toNat:=rfl;have e4:Qs (knR R i) (k+1)=Qs (knR R i) k+(Y3 (R i k)).m.toNat:=rfl;rw[e3,e4,h1,h2,h3,h4];exact⟨rfl,rfl⟩
theorem qlQ{i:Nat}(hR:∀j,j<n->1<=R i j/\R i j<=6)(h1:1<=n)(h2:n<=16):rE (knR R i) n=0/\nR5 (knR R i) n=n/\mR5 (knR R i) n=n:=by
 have a1:nR5 (knR R i) n=n:=qcQ n fun j hj=>(kU (hR j hj)).2.2.1;have a2:mR5 (knR R i) n=n:=qcQ n fun j hj=>(kU (hR j hj)).2.2.2;refine⟨?_,a1,a2⟩;unfold rE;rw[if_neg (by omega),if_neg (by omega),if_pos ((JT (knR R i) n).2 fun j hj=>(kU (hR j hj)).2.1),a1,a2,if_pos];simp only[wOk,Bool.and_eq_true,decide_eq_true_eq];omega
theorem qjU{i:Nat}(hR:∀j,j<n->1<=R i j/\R i j<=6)(B:Nat->Int):∀k,k<=n->∀j,j<k->Yi (knR R i) B k j=1
 |k+1,hk,j,hj=>by
  obtain⟨_,_,h3,h4⟩:=kU (hR k (by omega));show(bif Nat.ble (Qs (knR R i) k) j&&Nat.blt j (Qs (knR R i) k+(Y3 (R i k)).m.toNat) then ldG (Y3 (R i k)) (fun t=>B (Qr (knR R i) k+t)) (j-Qs (knR R i) k) else Yi (knR R i) B k j)=1;rw[(qhe hR k (by omega)).2,h4];by_cases q:j<k
  ·rw[qa2 q,Bool.false_and,cond_false];exact qjU hR B k (by omega) j q
  ·rw[QZ (by omega),Qy (show j<k+Int.toNat 1 by show j<k+1;omega)];exact qkE (R i k) (fun t=>B (Qr (knR R i) k+t)) (j-k)
theorem qna{i:Nat}(hR:∀j,j<n->1<=R i j/\R i j<=6){B:Nat->Int}(hB:∀j,j<n->B j=1){k:Nat}(hk:k<n):erK (knR R i) B k=0:=by
 obtain⟨_,hv,h3,h4⟩:=kU (hR k hk);have en:(Y3 (R i k)).nN=1:=by unfold Sti.nN;rw[h3];rfl
 show ldE (Y3 (R i k)) (fun j=>B (Qr (knR R i) k+j)) (Y3 (R i k)).nN=0;rw[qkZ hv rfl ((kP _ _).2 fun j hj=>(K7 _ _).2 ?_)]
 ·rw[if_neg (by simp[Y3]),if_neg (by simp[Y3])]
 ·rw[en] at hj;rw[(qhe hR k (by omega)).1,hB (k+j) (by omega)];omega
theorem qnb(hR:∀i,i<h->∀j,j<n->1<=R i j/\R i j<=6):∀i,i<=h->∀j,j<n->LD (knR R) (fun _=>n) i j=1
 |0,_,j,_=>rfl
 |i+1,hi,j,hj=>qjU (hR i (by omega)) _ n (Nat.le_refl _) j hj
theorem qjV(ok:PicOk R n h):qcP (knR R) (fun _=>n) h=0:=by
 have hn:=ok.nm;unfold ZS at hn;have hn1:=ok.n1;have hrow:∀i,i<h->rE (knR R i) n=0/\nR5 (knR R i) n=n/\mR5 (knR R i) n=n:=fun i hi=>qlQ (ok.col i hi) hn1 hn;have e1:chE (knR R) (fun _=>n) h=0:=by
  unfold chE;have:=ok.h1;have:=ok.odd;rw[if_neg (by omega),if_neg (by omega),kM _ _ h fun i hi=>(hrow i hi).1,if_neg (by simp),if_pos ((Yg _ _ _).2 fun i hi=>?_)];unfold qaT;rw[(hrow (i+1) (by omega)).2.1,(hrow i (by omega)).2.2];simp
 unfold qcP;rw[e1,if_neg (by simp)];exact K9 _ _ h fun i hi=>kR _ _ n fun k hk=>qna (ok.col i hi) (qnb ok.col i (by omega)) hk
end
def ckV(R:Nat->Nat->Int)(n h:Nat):T:=.view 1 h (fun i=>[srV (knR R i) n (some n)]) (some h)
def v8(R:Nat->Nat->Int)(n h:Nat)(rc c:Option Nat)(i:Nat):List T:=[qR R n h rc c,.reg [ckV R n h],iI i]
def v8i(R:Nat->Nat->Int)(n h:Nat)(rc c:Option Nat)(i k:Nat):List T:=[qR R n h rc c,.reg [ckV R n h],iI i,iI k]
noncomputable def K8(p13 p24 p25 p22 p16 p12:List T->T->Prop)(R:Nat->Nat->Int)(n h:Nat)(rc c:Option Nat):Orc :=
 (((((qk.add 13 (qL p13 fun _=>some (qR R n h rc c))).add 24 (qL p24 fun _=>some (.tup [.agg [ckV R n h],iI 0]))).add 25 (qL p25 fun _=>some (iI 0))).add 22 (qL p22 fun _=>some (.tup [qR R n h (some n) (some h),iI 0]))).add 16 (qL p16 fun _=>some (iI 0))).add 12 (qL p12 fun _=>some (.bool true))
theorem i8i(R:Nat->Nat->Int)(n h:Nat)(rc c:Option Nat)(i k:Nat):qA P18 G18 A18 qk 0 8 [] 11 (v8i R n h rc c i k) [] =
( gD (decide (0<=ofNat i)&&decide (ofNat i<ofNat h))<|bif decide (ofNat k<ofNat n) then gD (decide (0<=ofNat i)&&decide (ofNat i<ofNat h))<|gD (decide (0<=ofNat k)&&decide (ofNat k<ofNat n))<|gD (decide (0<=ofNat i)&&decide (ofNat i<ofNat h))<|gD (decide (0<=ofNat k)&&decide (ofNat k<ofNat n))<|bif decide (R i k=R i k) then zN [qR R n h rc c,.reg [ckV R n h],iI (.ofNat i),iI (i64.wrap (ofNat k+1))] [] else
 zR (.bool false::v8 R n h rc c i) [] else
 zX 2 (.undef::v8 R n h rc c i) []):=by kernel_rfl
theorem l8i{R:Nat->Nat->Int}{n h:Nat}{rc c:Option Nat}{i:Nat}(hi:i<h)(hh:h<=1000)(hn:n<=1000):LoopOk P18 G18 (A18 8) 8 11 (qE (v8i R n h rc c i 0) [] (.exit 2) (.undef::v8 R n h rc c i) []):=by
 refine qz qv (by kernel_rfl) (fun k=>v8i R n h rc c i k) (fun _=>[]) (n:=n) (fun k hk=>?_) ?_
 ·refine Step.mk0 (A:=A18) (m:=0) qf rfl rfl qh (h1:=[]) ?_ .nil;rw[i8i,qn i,qn k,qeX hk (by omega)]
  (repeat (first|refine BT ?_|refine BG ?_))
  rfl
 ·refine Last.mk0 (A:=A18) (m:=0) qf rfl rfl qh (h1:=[]) (by simp) ?_ .nil;rw[i8i]
  (repeat (first|refine BT ?_|refine BG ?_))
  rfl
theorem i8(R:Nat->Nat->Int)(n h:Nat)(rc c:Option Nat)(i:Nat):qA P18 G18 A18 qk 0 8 [(11,qE (v8i R n h rc c i 0) [] (.exit 2) (.undef::v8 R n h rc c i) [])] 6 (v8 R n h rc c i) [] =
( bif decide (ofNat i<ofNat h) then gD (decide (0<=ofNat i)&&decide (ofNat i<ofNat h))<|gD (decide (0<=ofNat i)&&decide (ofNat i<ofNat h))<|bif !decide (ofNat n=ofNat n) then zR [.bool false,qR R n h rc c,.reg [ckV R n h]] [] else
 gD (qS (v8i R n h rc c i (nat_lit 0)) [] (v8i R n h rc c i (nat_lit 0)) [])<|zN [qR R n h rc c,.reg [ckV R n h],iI (i64.wrap (ofNat i+1))] [] else
 zX 0 [.undef,qR R n h rc c,.reg [ckV R n h]] []):=by kernel_rfl
theorem l8{R:Nat->Nat->Int}{n h:Nat}{rc c:Option Nat}(hh:h<=1000)(hn:n<=1000):LoopOk P18 G18 (A18 8) 8 6 (qE (v8 R n h rc c 0) [] (.exit 0) [.undef,qR R n h rc c,.reg [ckV R n h]] []):=by
 refine qz qv (by kernel_rfl) (fun i=>v8 R n h rc c i) (fun _=>[]) (n:=h) (fun i hi=>?_) ?_
 ·refine Step.mk0 (A:=A18) (m:=0) qf rfl rfl (qK (l8i (R:=R) (rc:=rc) (c:=c) hi hh hn)) (h1:=[]) ?_ .nil;rw[i8,qn i,qeX hi (by omega)];refine BT ?_;refine BT ?_;refine BT ?_;refine BF ?_;refine qm (qw ⟨rfl,.refl _⟩) ?_;rfl
 ·refine Last.mk0 (A:=A18) (m:=0) qf rfl rfl qh (h1:=[]) (by simp) ?_ .nil;rw[(show qA P18 G18 A18 qk 0 8 [] 6 (v8 R n h rc c h) [] =
( bif decide (ofNat h<ofNat h) then gD (decide (0<=ofNat h)&&decide (ofNat h<ofNat h))<|gD (decide (0<=ofNat h)&&decide (ofNat h<ofNat h))<|gD (!decide (ofNat n=ofNat n))<|zR [.bool false,qR R n h rc c,.reg [ckV R n h]] [] else
 zX 0 [.undef,qR R n h rc c,.reg [ckV R n h]] []) from by kernel_rfl)]
  (repeat (first|refine BT ?_|refine BG ?_))
  rfl
theorem qhf{R:Nat->Nat->Int}{n h:Nat}(ok:PicOk R n h):pcE R (fun _=>n) h=0:=by
 have hn:=ok.nm;unfold ZS at hn;have hn1:=ok.n1;have hh:=ok.h1;have hodd:=ok.odd;unfold pcE;have a1:Qg (pA fun _=>n) h=true:=(QD _ _).2 fun i hi=>dT hn;have a2:Qg (pB R fun _=>n) h=true:=(QD _ _).2 fun i hi=>by
  have g1:=qcp (R i) 1 (n-1) fun j hj=>(ok.col i hi j (by omega)).1;have g2:=qcq (R i) 6 (n-1) fun j hj=>(ok.col i hi j (by omega)).2;simp only[pB,Bool.not_eq_true',Bool.or_eq_false_iff,decide_eq_false_iff_not];omega
 have a3:Qg (pC fun _=>n) h=true:=(QD _ _).2 fun i hi=>dT rfl;have a4:Qg (pD R fun _=>n) h=true:=(QD _ _).2 fun i hi=>dT (ok.two i hi);rw[dF (by omega),cond_false,a1,cond_true,dF (by omega),cond_false,a2,cond_true,a3,cond_true,a4,cond_true]
theorem qoI(D:IR)(hD:D.Ok):ToldOk P18 G18 8 [.agg [uI D.wd,D.rows none]] (.bool true):=by
 obtain⟨ok,hr⟩:=D.pic;have t13:=OfT D hD;have t24:=qjK D.r D.w D.n (some D.w) none ok;have hn:=ok.nm;unfold ZS at hn;have hh:=ok.h1;have hC:∀i j,(knR D.r i j).Ok:=fun i j=>(kU (by have:=hr i j;omega)).1;have hs:Sims [.agg [ckV D.r D.w D.n]] [.agg [chV (knR D.r) (fun _=>D.w) D.n]]:=.cons (.agg (.cons (.view (.inr rfl) fun j hj=>.cons (.view (.inr rfl) fun k hk=>.refl _) .nil) .nil)) .nil;have e25:=qjV ok;have t25:=(qaU (knR D.r) (fun _=>D.w) D.n (by omega) (fun _ _=>by omega) hC).sim hs;rw[e25] at t25;have t29:=qcr D.r D.w D.n none none ok;have e22:ofE (knR D.r) (fun _=>D.w) D.n=0:=by
  unfold ofE;rw[e25,if_neg (by simp),if_neg]
  ·exact qhf ok
  ·rw[show Qg (kOr (knR D.r) fun _=>D.w) D.n=true from(QD _ _).2 fun i _=>(QD _ _).2 fun j _=>rfl];simp
 have t22:=(qoD (knR D.r) (fun _=>D.w) D.n (by omega) (fun _ _=>by omega) hC).sim hs;rw[if_pos e22] at t22;change ToldOk P18 G18 22 _ (.tup [qR D.r D.w D.n (some D.w) (some D.n),iI 0]) at t22;have t16:=qcH D.r D.r D.w D.n (some D.w) none (some D.w) (some D.n) (by omega) fun _ _ _ _=>rfl;change ToldOk P18 G18 24 _ (.tup [.agg [ckV D.r D.w D.n],iI 0]) at t24;have hl:=l8 (R:=D.r) (n:=D.w) (h:=D.n) (rc:=some D.w) (c:=none) (by omega) (by omega);obtain⟨p13,hp13⟩:=qD P18 G18 13;obtain⟨p24,hp24⟩:=qD P18 G18 24;obtain⟨p25,hp25⟩:=qD P18 G18 25;obtain⟨p22,hp22⟩:=qD P18 G18 22;obtain⟨p16,hp16⟩:=qD P18 G18 16;obtain⟨p12,hp12⟩:=qD P18 G18 12;clear ok hr e25 e22 hC hs t29;generalize D.r=R at *
 generalize D.w=n at *
 generalize D.n=h at *
 refine qJ qv q9 (K:=K8 p13 p24 p25 p22 p16 p12 R n h (some n) none) (qq (qq (qq (qq (qq (qq qf (qj hp13)) (qj hp24)) (qj hp25)) (qj hp22)) (qj hp16)) (qj hp12)) (A:=A18) (m:=0) (by kernel_rfl) (qK hl) ?_;rw[(show QB P18 G18 A18 (K8 p13 p24 p25 p22 p16 p12 R n h (some n) none) 0 8 [(6,qE (v8 R n h (some n) none 0) [] (.exit 0) [.undef,qR R n h (some n) none,.reg [ckV R n h]] [])] [.agg [uI D.wd,D.rows none]] =
( gD (qF (p13 [.agg [uI D.wd,D.rows
 none]] (.view 1 h (fun i=>[.view 1 n (fun j=>[uI (R i j)]) (some n)])
 none)))<|gD (qF (p24 [.view 1 h (fun i=>[.view 1 n (fun j=>[uI (R i j)]) (some n)])
 none] (.tup [.agg [.view 1 h (fun i=>[.view 5 n (fun j=>[uI 1,uI (R i j),iI 0,iI 0,.bool false]) (some n)]) (some h)],iI 0])))<|gD (qF (p25 [.agg [.view 1 h (fun i=>[.view 5 n (fun j=>[uI 1,uI (R i j),iI 0,iI 0,.bool false]) (some n)]) (some h)]] (iI 0)))<|bif !decide (ofNat h=ofNat h) then some (.bool false) else
 bif !decide (ofNat h=ofNat h) then some (.bool false) else
 gD (qS (v8 R n h (some n)
 none (nat_lit 0)) [] (v8 R n h (some n)
 none (nat_lit 0)) [])<|gD (qF (p22 [.agg [.view 1 h (fun i=>[.view 5 n (fun j=>[uI 1,uI (R i j),iI 0,iI 0,.bool false]) (some n)]) (some h)]] (.tup [.view 1 h (fun i=>[.view 1 n (fun j=>[uI (R i j)]) (some n)]) (some h),iI 0])))<|gD (qF (p16 [.view 1 h (fun i=>[.view 1 n (fun j=>[uI (R i j)]) (some n)])
 none,.view 1 h (fun i=>[.view 1 n (fun j=>[uI (R i j)]) (some n)]) (some h)] (iI 0)))<|gD (qF (p12 [] (.bool true)))<|some (.bool true)) from by kernel_rfl)]
 refine qm (qp hp13 t13) ?_;refine qm (qp hp24 t24) ?_;refine qm (qp hp25 t25) ?_;refine BF ?_;refine BF ?_;refine qm (qw ⟨rfl,.refl _⟩) ?_;refine qm (qp hp22 t22) ?_;refine qm (qp hp16 t16) ?_;refine qm (qp hp12 Yf) ?_;rfl
theorem qjW(R:Nat->Nat->Int)(ln:Nat->Nat)(h:Nat)(rc:Nat->Option Nat)(c:Option Nat)(hh:h<=40)(hl:∀i,i<h->ln i<=40):ToldOk P18 G18 43 [pgV R ln h rc c] (iI 1):=by
 have pl:Pz P18 G18 A18 43 [] [0,2,1,2,2] [0,3] [pgV R ln h rc c,iI (0:Nat)] [] (.exit 0) [0,3] [pgV R ln h rc c,iI (h:Nat)] []:=by
  refine Pz.count (by kernel_rfl) (fun i=>[pgV R ln h rc c,iI (i:Nat)]) (fun _=>[]) (n:=h) (by simp) (fun i hi=>?_) ?_
  ·have hi:i<h:=hi;have q:=qk4 R ln h rc c i;rw[up1 (by omega)] at q;have:=hl i hi;exact Pz.run qv qf (m:=0) (by kernel_rfl) qh (q.trans (qm (by simp;omega) (qm (by simp;omega) (qZ (by simp;omega) rfl))))
  ·exact Pz.run qv qf (m:=0) (by kernel_rfl) qh ((qk4 R ln h rc c h).trans (qZ (by simp) rfl))
 refine Pz.told (A:=A18) (l1:=[2]) (v1:=[iI 1]) (h1:=[]) q9 Try.func43 (by kernel_rfl) (by kernel_rfl) (l:=[0]) rfl
  (Pz.seq (by kernel_rfl) (Pz.run qv qf (m:=0) (by kernel_rfl) qh (qmU R ln h rc c)) (Pz.seq (by kernel_rfl) (Pz.run qv qf (m:=0) (by kernel_rfl) qh ((qmV R ln h rc c).trans (qZ (by simp;omega) rfl)))
   (Pz.seq (by kernel_rfl) (Pz.seq (by kernel_rfl) (Pz.run qv qf (m:=0) (by kernel_rfl) qh (qmW R ln h rc c)) (Pz.blk (id:=0) (e:=.exit 0) (by kernel_rfl) rfl (Pz.only pl (l2:=[]) rfl)))
    (Pz.run qv qf (m:=0) (by kernel_rfl) qh (show qy P18 G18 A18 qk 0 43 [] (nav [2,2,2]) [] [] [] [2]=some (.ret,[iI 1],[]) by kernel_rfl))))) rfl
theorem qhg(R:Nat->Nat->Int)(ln:Nat->Nat)(h:Nat)(rc:Nat->Option Nat)(c:Option Nat)(most:Int)(hh:h<=40)(hl:∀i,i<h->ln i<=40)(hR:∀i,i<h->∀j,j<ln i->0<=R i j/\R i j<256)(he:pcE R ln h≠0):ToldOk P18 G18 26 [pgV R ln h rc c,iI most] (.bool true):=by
 obtain⟨p,hp⟩:=qD P18 G18 29;obtain⟨p43,hp43⟩:=qD P18 G18 43;obtain⟨p21,hp21⟩:=qD P18 G18 21;obtain⟨p24,hp24⟩:=qD P18 G18 24;obtain⟨p18,hp18⟩:=qD P18 G18 18;obtain⟨p14,hp14⟩:=qD P18 G18 14;obtain⟨p20,hp20⟩:=qD P18 G18 20;obtain⟨p12,hp12⟩:=qD P18 G18 12;have t29:=JV R ln h rc c (by omega) (fun i hi=>by have:=hl i hi;omega) hR;have t21:=ja (R:=R) (ln:=ln) (h:=h) (rc:=rc) (c:=c) (by omega) (fun i hi=>by have:=hl i hi;omega) hR;generalize pcE R ln h=k at *
 have hk:(!decide (k=0))=true:=by simpa using he
 have t24:ToldOk P18 G18 24 [pgV R ln h rc c] (.tup [.agg [.nils],iI k]):=qP qv q9 (qq qf (qj hp)) (A:=A18) (m:=0) ((qoF p k R ln h rc c).trans (qm (qp hp t29) (qm hk rfl)));have t18:ToldOk P18 G18 18 [pgV R ln h rc c] (.tup [iI 0,iI k]):=qP qv q9 (qq qf (qj hp)) (A:=A18) (m:=0) ((qoG p k R ln h rc c).trans (qm (qp hp t29) (qm hk rfl)));have t14:ToldOk P18 G18 14 [pgV R ln h rc c,iI most] (.tup [.nils,iI 0,iI k]):=qP qv q9 (qq qf (qj hp)) (A:=A18) (m:=0) ((qmT p k most R ln h rc c).trans (qm (qp hp t29) (qm hk rfl)));have t20:ToldOk P18 G18 20 [pgV R ln h rc c] (.str []):=qP qv q9 (qq qf (qj hp)) (A:=A18) (m:=0) ((qoH p k R ln h rc c).trans (qm (qp hp t29) (qm hk rfl)));have t43:=qjW R ln h rc c hh hl;refine qP qv q9 (qq (qq (qq (qq (qq (qq (qq (qq qf (qj hp43)) (qj hp21)) (qj hp)) (qj hp24)) (qj hp18)) (qj hp14)) (qj hp20)) (qj hp12)) (A:=A18) (m:=0) ((qmX p p43 p21 p24 p18 p14 p20 p12 k most R ln h rc c).trans ?_);have kk:decide (k=k)=true:=by simp
 refine qm (qp hp43 t43) (qm (qp hp21 t21) (qm (qp hp t29) ?_));refine qZ (by simp) (qm (qp hp24 t24) (qm (qp hp18 t18) (qm (qp hp14 t14) (qm hk (qm kk (qm kk (qm kk (qm (qp hp20 t20) (qm (qp hp12 Yf) rfl)))))))))
theorem qlR(R:Nat->Nat->Int)(n h:Nat)(rc c:Option Nat)(most:Int)(ok:PicOk R n h)(hR:∀i j,0<=R i j/\R i j<256):ToldOk P18 G18 26 [qR R n h rc c,iI most] (.bool true):=by
 obtain⟨p29,hp29⟩:=qD P18 G18 29;obtain⟨p43,hp43⟩:=qD P18 G18 43;obtain⟨p21,hp21⟩:=qD P18 G18 21;obtain⟨p24,hp24⟩:=qD P18 G18 24;obtain⟨p18,hp18⟩:=qD P18 G18 18;obtain⟨p14,hp14⟩:=qD P18 G18 14;obtain⟨p17,hp17⟩:=qD P18 G18 17;obtain⟨p12,hp12⟩:=qD P18 G18 12;have hn:=ok.nm;unfold ZS at hn;have hn1:=ok.n1;have hh:=ok.h1;have hok:=qhf ok;have t29:=qcr R n h rc c ok;have t43:ToldOk P18 G18 43 [qR R n h rc c] (iI 1):=qjW R (fun _=>n) h (fun _=>rc) c (by omega) (fun _ _=>by omega);have t21:ToldOk P18 G18 21 [qR R n h rc c] (iI (pcE R (fun _=>n) h)):=ja (R:=R) (ln:=fun _=>n) (h:=h) (rc:=fun _=>rc) (c:=c) (by omega) (fun _ _=>by omega) fun i _ j _=>hR i j;rw[hok] at t21;have t24:=qjK R n h rc c ok;have t18:=qf2 R n h rc c ok;have pA:=Pz.run qv qf (m:=0) (p:=[1]) (A:=A18) (f:=26) (h0:=[]) (by kernel_rfl) qh (qmY p43 p21 p29 p24 p18 0 most R n h rc c);have pB:=Pz.run qv (qq qf (qj hp43)) (m:=0) (p:=[1,2]) (A:=A18) (f:=26) (h0:=[]) (by kernel_rfl) qh ((qmZ p43 most R n h rc c).trans (qm (qp hp43 t43) rfl));have pC:=Pz.run qv (qq qf (qj hp21)) (m:=0) (p:=[1,2,2]) (A:=A18) (f:=26) (h0:=[]) (by kernel_rfl) qh ((qm0 p21 most R n h rc c).trans (qm (qp hp21 t21) rfl));have pD:=Pz.run qv (qq qf (qj hp29)) (m:=0) (p:=[1,2,2,2]) (A:=A18) (f:=26) (h0:=[]) (by kernel_rfl) qh ((qm1 p29 most R n h rc c).trans (qm (qp hp29 t29) rfl));have pE:=Pz.run qv (qq qf (qj hp24)) (m:=0) (p:=[1,2,2,2,2]) (A:=A18) (f:=26) (h0:=[]) (by kernel_rfl) qh ((qm2 p24 most R n h rc c).trans (qm (qp hp24 t24) rfl));have pF:=Pz.run qv (qq qf (qj hp18)) (m:=0) (p:=[1,2,2,2,2,2]) (A:=A18) (f:=26) (h0:=[]) (by kernel_rfl) qh ((qm3 p18 most (lgP R n h) R n h rc c).trans (qm (qp hp18 t18) rfl));have pW:∃x k g,(g=0/\1<=most/\most<=16∨g=1/\¬(1<=most/\most<=16))/\Pz P18 G18 A18 26 [] [1,2,2,2,2,2,2] [0,1,5,7,8,9] [qR R n h rc c,iI most,iI 0,iI 0,iI (lgP R n h),iI 0] [] .normal [0,1,5,7,8,9,10,11,12] [qR R n h rc c,iI most,iI 0,iI 0,iI (lgP R n h),iI 0,x,iI k,iI g] []:=by
  by_cases hm:1<=most/\most<=16
  ·have hN:∀i,i<h->0<=lk (R i) n (csK (R i) n) (kK (R i) n) most n ⟨0,0,false⟩/\lk (R i) n (csK (R i) n) (kK (R i) n) most n ⟨0,0,false⟩<=1001:=fun i hi=>by
    have q:0<=nR (R i) n most/\nR (R i) n most<=n:=qhH (by omega) hn1 (fun j _=>hR i j) (ok.two i hi);unfold nR at q;omega
   have t14:=(qcs R n h rc c most (fun i=>wvL (R i) n (csK (R i) n) (kK (R i) n) most) (fun i=>lk (R i) n (csK (R i) n) (kK (R i) n) most n ⟨0,0,false⟩) ok hm hN (fun i hi=>qcz (R i) n rc most hn1 (by unfold ZS;omega) fun j _=>hR i j)).frz;exact⟨_,_,0,.inl ⟨rfl,hm.1,hm.2⟩,Pz.run qv (qq qf (qj hp14)) (m:=0) (by kernel_rfl) qh ((qm4 p14 most (lgP R n h) _ R (fun i=>wvL (R i) n (csK (R i) n) (kK (R i) n) most) n h rc c).trans (qm (qp hp14 t14) rfl))⟩
  ·have t29':ToldOk P18 G18 29 [pgV R (fun _=>n) h (fun _=>rc) c] (iI 0):=t29;have t14:ToldOk P18 G18 14 [qR R n h rc c,iI most] (.tup [.nils,iI 0,iI 1]):=by
    refine qP qv q9 (qq qf (qj hp29)) (A:=A18) (m:=0) ((qmT p29 0 most R (fun _=>n) h (fun _=>rc) c).trans (qm (qp hp29 t29') (qZ (by simp) ?_)));by_cases h1:most<1
    ·exact qm (by simpa using h1) rfl
    ·exact qZ (by simpa using h1) (qm (by simp;omega) rfl)
   exact⟨.nils,0,1,.inr ⟨rfl,hm⟩,Pz.run qv (qq qf (qj hp14)) (m:=0) (by kernel_rfl) qh ((qm5 p14 most (lgP R n h) R n h rc c).trans (qm (qp hp14 t14) rfl))⟩
 obtain⟨x,k,g,hg,pG⟩:=pW;have pH:=Pz.run qv qf (m:=0) (p:=[1,2,2,2,2,2,2,2]) (A:=A18) (f:=26) (h0:=[]) (by kernel_rfl) qh (qm6 x most (lgP R n h) k g R n h rc c);have pI:=Pz.run qv qf (m:=0) (p:=[1,2,2,2,2,2,2,2,2]) (A:=A18) (f:=26) (h0:=[]) (by kernel_rfl) qh (qm7 most (lgP R n h) g R n h rc c);have pJ:=Pz.run qv qf (m:=0) (p:=[1,1,2,2,2,2,2,2,2,2,2]) (A:=A18) (f:=26) (h0:=[]) (by kernel_rfl) qh (qm8 most (lgP R n h) g 0 R n h rc c);have pl:Pz P18 G18 A18 26 [] [0,2,1,2,2,2,2,2,2,2,2,2] [0,1,7,8,9,12,13,14] [qR R n h rc c,iI most,iI 0,iI (lgP R n h),iI 0,iI g,iI (lgP R n 0),iI (0:Nat)] [] (.exit 0) [0,1,7,8,9,12,13,14] [qR R n h rc c,iI most,iI 0,iI (lgP R n h),iI 0,iI g,iI (lgP R n h),iI (h:Nat)] []:=by
  refine Pz.count (by kernel_rfl) (fun i=>[qR R n h rc c,iI most,iI 0,iI (lgP R n h),iI 0,iI g,iI (lgP R n i),iI (i:Nat)]) (fun _=>[]) (n:=h) (by simp) (fun i hi=>?_) ?_
  ·have hi:i<h:=hi;have t17:=qjw (R i) n rc (by omega) fun j _=>hR i j;have q:=qk5 p17 most (lgP R n h) g (lgP R n i) (qY (R i) n) i R n h rc c;rw[up1 (by omega)] at q;have e:(bif decide (lgP R n i<qY (R i) n) then qY (R i) n else lgP R n i)=lgP R n (i+1):=by
    rw[show lgP R n (i+1)=mx (lgP R n i) (qY (R i) n) from rfl,qcG];by_cases q:lgP R n i<qY (R i) n
    ·rw[if_pos q,decide_eq_true q];rfl
    ·rw[if_neg q,decide_eq_false q];rfl
   rw[e] at q;exact Pz.run qv (qq qf (qj hp17)) (m:=0) (by kernel_rfl) qh (q.trans (qm (by simp;omega) (qm (by simp;omega) (qm (qp hp17 t17) rfl))))
  ·exact Pz.run qv (qq qf (qj hp17)) (m:=0) (by kernel_rfl) qh ((qk5 p17 most (lgP R n h) g (lgP R n h) 0 h R n h rc c).trans (qZ (by simp) rfl))
 have k12:=qm9 p12 most (lgP R n h) g (lgP R n h);have kL:qy P18 G18 A18 (qk.add 12 (qL p12 kTr)) 0 26 [] (nav [2,2,2,2,2,2,2,2,2,2]) [1,7,8,9,12,13] [iI most,iI 0,iI (lgP R n h),iI 0,iI g,iI (lgP R n h)] [] [4]=some (.ret,[.bool true],[]):=by
  refine k12.trans (qm (by simp) ?_);have c12:=qp hp12 Yf;rcases hg with⟨rfl,h1,h2⟩|⟨rfl,h1⟩
  ·exact qm (by simp) (qm (by simpa using h1) (qm (by simpa using h2) (qm (by simp) (qm c12 rfl))))
  ·refine qZ (by simp) ?_;by_cases m1:1<=most
   ·exact qm (by simpa using m1) (qZ (by simp;omega) (qZ (by simp) (qm (by simp) (qm c12 rfl))))
   ·exact qZ (by simpa using m1) (qZ (by simp) (qm (by simp) (qm c12 rfl)))
 have pL:=Pz.run qv (qq qf (qj hp12)) (m:=0) (p:=[2,2,2,2,2,2,2,2,2,2]) (A:=A18) (f:=26) (h0:=[]) (by kernel_rfl) qh kL;exact Pz.told (A:=A18) q9 Try.func26 (by kernel_rfl) (by kernel_rfl) (l:=[0,1]) rfl
  (Pz.seq (by kernel_rfl) pA (Pz.seq (by kernel_rfl) pB (Pz.seq (by kernel_rfl) pC (Pz.seq (by kernel_rfl) pD (Pz.seq (by kernel_rfl) pE (Pz.seq (by kernel_rfl) pF (Pz.seq (by kernel_rfl) pG (Pz.seq (by kernel_rfl) pH (Pz.seq (by kernel_rfl) pI (Pz.seq (by kernel_rfl) (Pz.seq (by kernel_rfl) pJ (Pz.blk (id:=0) (e:=.exit 0) (by kernel_rfl) rfl (Pz.only pl (l2:=[1,7,8,9,12,13]) rfl))) pL)))))))))) rfl
end Go.Ab

