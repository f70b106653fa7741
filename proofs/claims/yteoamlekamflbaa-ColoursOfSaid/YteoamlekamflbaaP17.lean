/- A part of the proof: nothing is assumed. -/
import Derived.Test.YteoamlekamflbaaP15
import Derived.Test.YteoamlekamflbaaP16
import Derived.Test.YteoamlekamflbaaP11
import Derived.Test.YteoamlekamflbaaP4
set_option linter.all false
namespace Go.Ab
open Go.Proofs
def v23a (C:Nat->Nat->Sti) (ln:Nat->Nat) (h:Nat) (i:Nat):List T:=[.reg [chV C ln h],.int .i64 i]
def v23o (C:Nat->Nat->Sti) (ln:Nat->Nat) (h:Nat) (j:Nat):List T:=[.reg [chV C ln h],o41 j,.int .i64 j]
def tb23 (j:Nat):Blk:=⟨0,1,1,fun k=>[[T.own 0 j 0 (j+1) none]].getD k [],false,true,none⟩
noncomputable def K23l (p q:List T->T->Prop) (x y:Int):Orc:=(noneO.add 38 (callF p fun _=>some (.int .i64 x))).add 39 (callF q fun _=>some (.int .i64 y))
noncomputable def l23t (x y z t:List T->Heap->Ex->List T->Heap->Prop) (C:Nat->Nat->Sti) (ln:Nat->Nat) (h:Nat) (b1 b2 b3:Bool) (e1 e3:Int) (j j2:Nat) (B:Nat->Blk) (hp:Heap) (ol:T):List (Nat × (List T->Heap->LT)) :=
 [(6,loopF x (.ite b1 (.ret (.exit 0) [.reg [chV C ln h],.undef,.undef] []) (.ret .ret [.reg [chV C ln h],.nils,.int .i64 e1] []))),
  (12,loopF y (.ite b2 (.ret (.exit 2) [.reg [chV C ln h],.undef,.undef] []) (.ret .ret [.reg [chV C ln h],.nils,.int .i64 14] []))),
  (18,loopF z (.ret (.exit 4) [.reg [chV C ln h],o41 (j+1)] (oh41 (j+1)))),
  (23,loopF t (.ite b3 (.ret (.exit 6) [.undef,.undef,oL (j2+1)] [B (j2+1)]) (.ret .ret [.nils,.int .i64 e3,ol] hp)))]
theorem i23r (C:Nat->Nat->Sti) (ln:Nat->Nat) (h i:Nat) (x:Int) (p:List T->T->Prop):iterR P18 G18 A18 (K38 p 37 x) 0 23 [] 6 (v23a C ln h i) [] =
(
 bif decide (Int.ofNat i<Int.ofNat h) then
 bif decide (0<=Int.ofNat i)&&decide (Int.ofNat i<Int.ofNat h) then
 bif decF (p [srV (C i) (ln i)
 none] (.int .i64 x)) then
 bif !decide (x = 0) then
 some ((.ret,[.reg [chV C ln h],.nils,.int .i64 x],[]))
 else
 some ((.normal,[.reg [chV C ln h],.int .i64 (IntKind.i64.wrap (Int.ofNat i+1))],[]))
 else none else none else
 some ((.exit 0,[.reg [chV C ln h],.undef,.undef],[]))):=by kernel_rfl
theorem i23l (C:Nat->Nat->Sti) (ln:Nat->Nat) (h i:Nat) (x y:Int) (p q:List T->T->Prop):iterR P18 G18 A18 (K23l p q x y) 0 23 [] 12 (v23a C ln h (i+1)) [] =
(
 bif decide (Int.ofNat (i+1)<Int.ofNat h) then
 bif decide (0<=Int.ofNat (i+1))&&decide (Int.ofNat (i+1)<Int.ofNat h) then
 bif decF (p [srV (C (i+1)) (ln (i+1))
 none] (.int .i64 x)) then
 bif decide (0<=IntKind.i64.wrap (Int.ofNat (i+1) - (1:Int)))&&decide (IntKind.i64.wrap (Int.ofNat (i+1) - (1:Int))<Int.ofNat h) then
 bif decF (q [srV (C (IntKind.i64.wrap (Int.ofNat (i+(1:Nat)) - (1:Int))).toNat) (ln (IntKind.i64.wrap (Int.ofNat (i+(1:Nat)) - (1:Int))).toNat)
 none] (.int .i64 y)) then
 bif !decide (x = y) then
 some ((.ret,[.reg [chV C ln h],.nils,.int .i64 14],[]))
 else
 some ((.normal,[.reg [chV C ln h],.int .i64 (IntKind.i64.wrap (Int.ofNat (i+1)+(1:Int)))],[]))
 else none else none else none else none else
 some ((.exit 2,[.reg [chV C ln h],.undef,.undef],[]))):=by kernel_rfl
theorem i23o (C:Nat->Nat->Sti) (ln:Nat->Nat) (h:Nat) (x:Int) (p:List T->T->Prop):iterR P18 G18 A18 (K38 p 38 x) 0 23 [] 18 (v23o C ln h 0) (oh41 0) =
(
 bif decide (0<Int.ofNat h) then
 bif decF (p [srV (C (0:Nat)) (ln (0:Nat))
 none] (.int .i64 x)) then
 bif decide (0<x) then
 some ((.normal,[.reg [chV C ln h],.own 1 0 0 1
 none,.int .i64 1],[.mk 0 1 1 (fun j=>[[T.int .i64 (1:Int)]].getD j []) true true
 none,.mk 0 1 1 (fun j=>[[T.int .i64 (1:Int)]].getD (0+j) []) true false
 none]))
 else
 some ((.exit 4,[.reg [chV C ln h],.nils],[]))
 else none else
 none):=by kernel_rfl
theorem i23p (C:Nat->Nat->Sti) (ln:Nat->Nat) (h j:Nat) (x:Int) (p:List T->T->Prop):iterR P18 G18 A18 (K38 p 38 x) 0 23 [] 18 (v23o C ln h (j+1)) (oh41 (j+1)) =
(
 bif decide (0<Int.ofNat h) then
 bif decF (p [srV (C (0:Nat)) (ln (0:Nat))
 none] (.int .i64 x)) then
 bif decide (Int.ofNat (j+1)<x) then
 bif j==j&&true then
 bif ((0:Nat)+(j+(1:Nat))).ble (j+1) then
 bif ((j+(1:Nat)+(1:Nat)) * (9:Nat)).ble 70368744177664 then
 bif ((0:Nat)+(j+(1:Nat))+(1:Nat)).ble (j+1) then
 some ((.normal,[.reg [chV C ln h],.own 0 j 0 (j+1+(1:Nat))
 none,.int .i64 (IntKind.i64.wrap (Int.ofNat (j+1)+(1:Int)))],[.mk j 1 (j+1) (fun j_1 =>
 bif ((0:Nat)+(j+(1:Nat))).ble j_1&&j_1.blt ((0:Nat)+(j+1)+(1:Nat)) then [[T.int .i64 (1:Int)]].getD ((0:Nat)+(j_1 - ((0:Nat)+(j+1)))) []
 else [.int .i64 1]) true false
 none,.mk 0 1 1 (fun j=>[[T.int .i64 (1:Int)]].getD j []) true true
 none]))
 else
 some ((.normal,[.reg [chV C ln h],pO (j+1),.int .i64 (IntKind.i64.wrap (Int.ofNat (j+1)+(1:Int)))],[.mk (j+1) (1:Nat) (j+1+(1:Nat)) (fun j_1 =>
 bif j_1.blt (j+1) then [.int .i64 1]
 else [[T.int .i64 (1:Int)]].getD ((0:Nat)+(j_1 - (j+1))) []) true false
 none,.mk 0 1 1 (fun j=>[[T.int .i64 (1:Int)]].getD j []) true true
 none]))
 else none else none else none else
 some ((.exit 4,[.reg [chV C ln h],pO j],[ob41 j]))
 else none else
 none):=by kernel_rfl
theorem k23 (x y z t:List T->Heap->Ex->List T->Heap->Prop) (C:Nat->Nat->Sti) (ln:Nat->Nat) (h:Nat) (b1 b2 b3:Bool) (e1 e3:Int) (j j2:Nat) (L:Nat->Nat->Int) (W:Nat->Nat) (hp:Heap) (ol:T):stepT P18 G18 A18 noneO 0 23 (l23t x y z t C ln h b1 b2 b3 e1 e3 j j2 (oB L W) hp ol) [.agg [chV C ln h]] =
(
 bif decide (31<Int.ofNat h) then
 some (.tup [.nils,.int .i64 3])
 else
 bif decide ((Int.ofNat h).tmod 2 = 0) then
 some (.tup [.nils,.int .i64 1])
 else
 bif b1 then
 bif decF (x (v23a C ln h (nat_lit 0)) [] (.exit 0) [.reg [chV C ln h],.undef,.undef] []) then
 bif b2 then
 bif decF (y (v23a C ln h (nat_lit 1)) [] (.exit 2) [.reg [chV C ln h],.undef,.undef] []) then
 bif decF (z [.reg [chV C ln h],.nils,.int .i64 0] [] (.exit 4) [.reg [chV C ln h],pO j] [ob41 j]) then
 bif b3 then
 bif decF (t [.reg [chV C ln h],pO j,.own [ob41 j].length (0:Nat) (0:Nat) (1:Nat) (some 1),.int .i64 0] [ob41 j,tb23 j] (.exit 6) [.undef,.undef,.own 0 j2 0 (j2+2)
 none] [.mk j2 1 (j2+2) (fun e=>[slV (L e) (W e)
 none]) false false
 none]) then
 some (.tup [bif j2==j2&&((0:Nat)+(j2+(2:Nat))).ble (j2+2) then .fresh false (1:Nat) (j2+2 - (0:Nat)) (fun j=>[slV (L (0+j)) (W (0+j))
 none]) (j2+2) none else .undef,.int .i64 0])
 else none else
 bif decF (t [.reg [chV C ln h],pO j,.own [ob41 j].length (0:Nat) (0:Nat) (1:Nat) (some 1),.int .i64 0] [ob41 j,tb23 j] .ret [.nils,.int .i64 e3,ol] hp) then
 some (.tup [.nils,.int .i64 e3])
 else none else none else none else
 bif decF (y (v23a C ln h (nat_lit 1)) [] .ret [.reg [chV C ln h],.nils,.int .i64 14] []) then
 some (.tup [.nils,.int .i64 14])
 else none else none else
 bif decF (x (v23a C ln h (nat_lit 0)) [] .ret [.reg [chV C ln h],.nils,.int .i64 e1] []) then
 some (.tup [.nils,.int .i64 e1])
 else
 none):=by kernel_rfl
section
variable {C:Nat->Nat->Sti} {ln:Nat->Nat} {h:Nat}
theorem rows23 (hC:∀ i j,(C i j).Ok) (hh:h<=1000) (hln:∀ i,i<h->ln i<=1000):(allB (fun i=>decide (rE (C i) (ln i) = 0)) h = true->LoopOk P18 G18 (A18 23) 23 6 (litS (v23a C ln h 0) [] (.exit 0) [.reg [chV C ln h],.undef,.undef] [])) ∧
 (allB (fun i=>decide (rE (C i) (ln i) = 0)) h = false->LoopOk P18 G18 (A18 23) 23 6 (litS (v23a C ln h 0) [] .ret [.reg [chV C ln h],.nils,.int .i64 (rowsE C ln h)] [])):=by
 obtain ⟨p,hp⟩:=is_val P18 G18 37
 have hK:∀ x,OrcOk P18 G18 (K38 p 37 x):=fun x=>told_add none_ok (callF_told hp)
 refine loop_scan hm18 (by kernel_rfl) (fun i=>v23a C ln h i) (fun _=>[]) (fun i=>decide (rE (C i) (ln i) = 0)) (n:=h) (fun i hi _ hg=>?_) (fun i hi hlt hg=>?_) (fun _=>?_)
 ·have hg:rE (C i) (ln i) = 0:=of_decide_eq_true hg
  have t:=refRowT (C i) (ln i) none (hln i hi) (hC i)
  rw [hg] at t
  clear hln hC
  refine Step.mk0 (A:=A18) (m:=0) (hK 0) rfl rfl loops0 (h1:=[]) ?_ .nil
  rw [i23r,up1 (by omega)]
  (repeat (first | refine BS ?_ | refine BF ?_))
  rfl
 ·have hg:¬ rE (C i) (ln i) = 0:=of_decide_eq_false hg
  have t:=refRowT (C i) (ln i) none (hln i hi) (hC i)
  rw [rowsE_at C ln i hg (fun j hj=>of_decide_eq_true (hlt j hj)) h hi]
  clear hln hC hlt
  generalize rE (C i) (ln i) = x at *
  refine Last.mk0 (A:=A18) (m:=0) (hK x) rfl rfl loops0 (h1:=[]) (by simp) ?_ .nil
  rw [i23r]
  (repeat (first | refine BS ?_ | refine BF ?_))
  rfl
 ·refine Last.mk0 (A:=A18) (m:=0) (hK 0) rfl rfl loops0 (h1:=[]) (by simp) ?_ .nil
  rw [i23r]
  clear hln hC
  (repeat (first | refine BS ?_ | refine BF ?_))
  rfl
theorem links23 (hC:∀ i j,(C i j).Ok) (h1:1<=h) (hh:h<=1000) (hln:∀ i,i<h->ln i<=1000):(allB (linkB C ln) (h - 1) = true->LoopOk P18 G18 (A18 23) 23 12 (litS (v23a C ln h 1) [] (.exit 2) [.reg [chV C ln h],.undef,.undef] [])) ∧
 (allB (linkB C ln) (h - 1) = false->LoopOk P18 G18 (A18 23) 23 12 (litS (v23a C ln h 1) [] .ret [.reg [chV C ln h],.nils,.int .i64 14] [])):=by
 obtain ⟨p,hp⟩:=is_val P18 G18 38
 obtain ⟨q,hq⟩:=is_val P18 G18 39
 have hK:∀ x y,OrcOk P18 G18 (K23l p q x y):=fun x y=>told_add (told_add none_ok (callF_told hp)) (callF_told hq)
 have key:∀ i,i+1<h->(IntKind.i64.wrap (Int.ofNat (i+1) - 1)) = Int.ofNat i:=fun i hi=>by rw [wr64 (by show (-9223372036854775808:Int)<=((i+1:Nat):Int) - 1; omega) (by show ((i+1:Nat):Int) - 1<=_; omega)]; show ((i+1:Nat):Int) - 1 = (i:Int); omega
 refine loop_scan hm18 (by kernel_rfl) (fun i=>v23a C ln h (i+1)) (fun _=>[]) (linkB C ln) (n:=h - 1) (fun i hi _ hg=>?_) (fun i hi _ hg=>?_) (fun _=>?_)
 ·have t1:=refRowNeedsT (C (i+1)) (ln (i+1)) none (hln _ (by omega)) (hC _)
  have t2:=refRowMakesT (C i) (ln i) none (hln _ (by omega)) (hC _)
  have hg:nR5 (C (i+1)) (ln (i+1)) = mR5 (C i) (ln i):=of_decide_eq_true hg
  rw [hg] at t1
  clear hln hC hg
  generalize mR5 (C i) (ln i) = y at *
  refine Step.mk0 (A:=A18) (m:=0) (hK y y) rfl rfl loops0 (h1:=[]) ?_ .nil
  rw [i23l,up1 (by omega),key i (by omega),show (Int.ofNat i).toNat = i from rfl]
  clear key
  (repeat (first | refine BS ?_ | refine BF ?_))
  rfl
 ·have t1:=refRowNeedsT (C (i+1)) (ln (i+1)) none (hln _ (by omega)) (hC _)
  have t2:=refRowMakesT (C i) (ln i) none (hln _ (by omega)) (hC _)
  have hg:¬ nR5 (C (i+1)) (ln (i+1)) = mR5 (C i) (ln i):=of_decide_eq_false hg
  clear hln hC
  generalize nR5 (C (i+1)) (ln (i+1)) = x at *
  generalize mR5 (C i) (ln i) = y at *
  refine Last.mk0 (A:=A18) (m:=0) (hK x y) rfl rfl loops0 (h1:=[]) (by simp) ?_ .nil
  rw [i23l,key i (by omega),show (Int.ofNat i).toNat = i from rfl]
  clear key
  (repeat (first | refine BS ?_ | refine BF ?_))
  rfl
 ·refine Last.mk0 (A:=A18) (m:=0) (hK 0 0) rfl rfl loops0 (h1:=[]) (by simp) ?_ .nil
  rw [i23l]
  clear hln hC key
  (repeat (first | refine BS ?_ | refine BF ?_))
  rfl
theorem ones23 (hC:∀ i j,(C i j).Ok) (h1:1<=h) (hln:ln 0<=1000) {j:Nat} (hj:offN (C 0) (ln 0) = j+1):LoopOk P18 G18 (A18 23) 23 18 (litS (v23o C ln h 0) (oh41 0) (.exit 4) [.reg [chV C ln h],o41 (j+1)] (oh41 (j+1))):=by
 obtain ⟨p,hp⟩:=is_val P18 G18 38
 have t:=refRowNeedsT (C 0) (ln 0) none hln (hC 0)
 rw [(offN_eq (C 0) (hC 0) (ln 0)).1,hj] at t
 have hb:((j+1:Nat):Int)<=4000:=by
  have q1:=(offN_eq (C 0) (hC 0) (ln 0)).1
  have q2:=sumN_le (N:=fun j=>(C 0 j).n) (b:=4) (fun i=>(C 0 i).n_bd (hC 0 i)) (ln 0)
  unfold nR5 at q1
  omega
 clear hj hC
 have hK:OrcOk P18 G18 (K38 p 38 ((j+1:Nat):Int)):=told_add none_ok (callF_told hp)
 refine loop_steps hm18 (by kernel_rfl) (fun i=>v23o C ln h i) (fun i=>oh41 i) (n:=j+1) (fun i hi=>?_) ?_
 ·cases i with
  | zero =>
   refine Step.mkC (A:=A18) (m:=0) hK rfl rfl loops0 [1] (v1:=[.reg [chV C ln h],.own 1 0 0 1 none,.int .i64 1]) (h1:=[⟨0,1,1,fun j=>[[T.int .i64 1]].getD j [],true,true,none⟩,⟨0,1,1,fun j=>[[T.int .i64 1]].getD (0+j) [],true,false,none⟩]) ?_ (by kernel_rfl) (v2:=v23o C ln h 1) rfl rfl fun nt=>.same (.cons ⟨rfl,rfl,rfl,id,fun k hk=>(one_get k hk).symm⟩ .nil)
   rw [i23o]
   (repeat (first | refine BS ?_ | refine BF ?_))
   rfl
  | succ i =>
   refine Step.mk (A:=A18) (m:=0) hK rfl rfl loops0 1 (by simp [oh41]) (h1:=[⟨i+1,1,i+1+1,fun k=>bif Nat.blt k (i+1) then [T.int .i64 1] else [[T.int .i64 1]].getD (0+(k - (i+1))) [],true,false,none⟩,⟨0,1,1,fun j=>[[T.int .i64 1]].getD j [],true,true,none⟩]) (vs':=v23o C ln h (i+1+1)) ?_ (by rfl) (.cons ⟨rfl,rfl,rfl,id,fun k hk=>?_⟩ .nil)
   ·rw [i23p,up1 (by omega)]
    (repeat (first | refine BS ?_ | refine BF ?_))
    rfl
   ·show [T.int .i64 1] = bif Nat.blt k (i+1) then [T.int .i64 1] else [[T.int .i64 1]].getD (0+(k - (i+1))) []
    have hk:k<i+2:=hk
    by_cases q:k<i+1
    ·rw [bltT q]; rfl
    ·rw [bltF (by omega),show k - (i+1) = 0 by omega]; rfl
 ·refine Last.mk0 (A:=A18) (m:=0) hK rfl rfl loops0 (h1:=oh41 (j+1)) (by simp) ?_ (.refl _)
  rw [i23p]
  (repeat (first | refine BS ?_ | refine BF ?_))
  rfl
theorem chEr_all:(chEr C ln h = 0) = (allB (fun i=>decide (rowEr (C i) (LD C ln i) (ln i) = 0)) h = true):=by
 rcases first_badB (fun i=>decide (rowEr (C i) (LD C ln i) (ln i) = 0)) h with q | ⟨I,hI,hb,hlt⟩
 ·rw [q,chEr_zero C ln h fun i hi=>of_decide_eq_true ((allB_iff _ _).1 q i hi)]
  simp
 ·rw [(allB_false _ _).2 ⟨I,hI,hb⟩,chEr_at C ln I (of_decide_eq_false hb) (fun i hi=>of_decide_eq_true (hlt i hi)) h hI]
  simpa using of_decide_eq_false hb
theorem base23 (ok:ChOk C ln h) (hC:∀ i j,(C i j).Ok):(chEr C ln h = 0->BaseOk P18 G18 (A18 23) 23 0 23 (litK 0 (v23 C ln h (LD C ln 0) (WD C ln 0) (oL 0) 0) [oB (LD C ln) (WD C ln) 0] (.exit 6) [.undef,.undef,oL h] [oB (LD C ln) (WD C ln) h])) ∧
 (chEr C ln h ≠ 0->∃ ol hp,BaseOk P18 G18 (A18 23) 23 0 23 (litK 0 (v23 C ln h (LD C ln 0) (WD C ln 0) (oL 0) 0) [oB (LD C ln) (WD C ln) 0] .ret [.nils,.int .i64 (chEr C ln h),ol] hp)):=by
 constructor
 ·intro hg
  rw [chEr_all,allB_iff] at hg
  refine base_steps hm18 (by kernel_rfl) (fun i=>v23 C ln h (LD C ln i) (WD C ln i) (oL i) i) (fun i=>[oB (LD C ln) (WD C ln) i]) (n:=h) (fun i hi=>(step23 ok hC hi (of_decide_eq_true (hg i hi))).base) ?_
  obtain ⟨x,hx⟩:=is_loop P18 G18 (A18 23) 23 28
  refine Last.base (Last.mk0 (A:=A18) (m:=0) none_ok rfl rfl (l:=l23b x (z23 C ln h (oL h) h .nils 0) []) (loops1 (loopF_ok hx _)) (h1:=[oB (LD C ln) (WD C ln) h]) (by simp) ?_ (.refl _))
  rw [j23e]
  clear hg ok hC
  refine BF ?_
  rfl
 ·intro hg
  rcases first_badB (fun i=>decide (rowEr (C i) (LD C ln i) (ln i) = 0)) h with q | ⟨I,hI,hb,hlt⟩
  ·rw [← chEr_all] at q; exact absurd q hg
  ·obtain ⟨hp,hl⟩:=end23 ok hC hI (of_decide_eq_false hb)
   rw [← chEr_at C ln I (of_decide_eq_false hb) (fun i hi=>of_decide_eq_true (hlt i hi)) h hI] at hl
   exact ⟨oL I,hp,base_steps hm18 (by kernel_rfl) (fun i=>v23 C ln h (LD C ln i) (WD C ln i) (oL i) i) (fun i=>[oB (LD C ln) (WD C ln) i]) (n:=I) (fun i hi=>(step23 ok hC (by omega) (of_decide_eq_true (hlt i hi))).base) hl.base⟩
theorem linksB_all {n:Nat}:linksB C ln n = allB (linkB C ln) n:=by
 induction n with
 | zero=>rfl
 | succ n ih=>unfold linksB allB; rw [ih]
theorem rowsE_all:(rowsE C ln h = 0) = (allB (fun i=>decide (rE (C i) (ln i) = 0)) h = true):=by
 rcases first_badB (fun i=>decide (rE (C i) (ln i) = 0)) h with q | ⟨I,hI,hb,hlt⟩
 ·rw [q,rowsE_zero C ln h fun i hi=>of_decide_eq_true ((allB_iff _ _).1 q i hi)]
  simp
 ·rw [(allB_false _ _).2 ⟨I,hI,hb⟩,rowsE_at C ln I (of_decide_eq_false hb) (fun i hi=>of_decide_eq_true (hlt i hi)) h hI]
  simpa using of_decide_eq_false hb
end
open Go.Proofs
def lvT (C:Nat->Nat->Sti) (ln:Nat->Nat) (h:Nat):T:=.view 1 (h+1) (fun e=>[slV (LD C ln e) (WD C ln e) none]) none
theorem refChartT (C:Nat->Nat->Sti) (ln:Nat->Nat) (h:Nat) (hh:h<=1000) (hln:∀ i,i<h->ln i<=1000) (hC:∀ i j,(C i j).Ok):ToldOk P18 G18 23 [.agg [chV C ln h]] (if chkE C ln h = 0 then .tup [lvT C ln h,.int .i64 0] else .tup [.nils,.int .i64 (chkE C ln h)]):=by
 obtain ⟨x,hx⟩:=is_base P18 G18 (A18 23) 23 0 6
 obtain ⟨y,hy⟩:=is_base P18 G18 (A18 23) 23 0 12
 obtain ⟨z,hz⟩:=is_base P18 G18 (A18 23) 23 0 18
 obtain ⟨t,ht⟩:=is_base P18 G18 (A18 23) 23 0 23
 have told:∀ b1 b2 b3 e1 e3 j j2 L W hp ol r,stepT P18 G18 A18 noneO 0 23 (l23t x y z t C ln h b1 b2 b3 e1 e3 j j2 (oB L W) hp ol) [.agg [chV C ln h]] = some r->ToldOk P18 G18 23 [.agg [chV C ln h]] r:=fun b1 b2 b3 e1 e3 j j2 L W hp ol r hr =>
  stepT_told hm18 hn18 none_ok (A:=A18) (m:=0) (by kernel_rfl) (basesC (baseF_ok hx _) (basesC (baseF_ok hy _) (basesC (baseF_ok hz _) (bases1 (baseF_ok ht _))))) hr
 have l6:=rows23 (C:=C) (ln:=ln) hC hh hln
 have bad:∀ e,chkE C ln h = e->e ≠ 0->ToldOk P18 G18 23 [.agg [chV C ln h]] (.tup [.nils,.int .i64 e])->ToldOk P18 G18 23 [.agg [chV C ln h]] (if chkE C ln h = 0 then .tup [lvT C ln h,.int .i64 0] else .tup [.nils,.int .i64 (chkE C ln h)]):=fun e he hne t=>by rw [he,if_neg hne]; exact t
 have eC:chkE C ln h = if chE C ln h ≠ 0 then chE C ln h else chEr C ln h:=rfl
 have eh:chE C ln h = if 31<h then 3 else if h % 2 = 0 then 1 else if rowsE C ln h ≠ 0 then rowsE C ln h else if linksB C ln (h - 1) = true then 0 else 14:=rfl
 by_cases h1:31<h
 ·rw [if_pos h1] at eh
  rw [eh,if_pos (by omega)] at eC
  refine bad 3 eC (by omega) (told true true true 0 0 0 0 (fun _ _=>0) (fun _=>0) [] .nils _ ?_)
  rw [k23]
  exact bift (by rw [ofNatE]; exact dT (by omega)) rfl
 rw [if_neg h1] at eh
 by_cases h2:h % 2 = 0
 ·rw [if_pos h2] at eh
  rw [eh,if_pos (by omega)] at eC
  refine bad 1 eC (by omega) (told true true true 0 0 0 0 (fun _ _=>0) (fun _=>0) [] .nils _ ?_)
  rw [k23,tmod_two]
  refine biff (by rw [ofNatE,dF (by omega)]; simp) ?_
  exact bift (dT h2) rfl
 rw [if_neg h2] at eh
 cases q1:allB (fun i=>decide (rE (C i) (ln i) = 0)) h
 ·have hr:¬ rowsE C ln h = 0:=by rw [rowsE_all,q1]; simp
  rw [if_pos hr] at eh
  rw [eh,if_pos hr] at eC
  refine bad _ eC hr (told false true true (rowsE C ln h) 0 0 0 (fun _ _=>0) (fun _=>0) [] .nils _ ?_)
  rw [k23,tmod_two]
  refine biff (by rw [ofNatE,dF (by omega)]; simp) ?_
  refine biff (by rw [dF h2]; simp) ?_
  refine biff (by simp) ?_
  exact bift (baseF_yes hx (LoopOk.lit_base (l6.2 q1))) rfl
 have hr:rowsE C ln h = 0:=by rw [rowsE_all]; exact q1
 rw [if_neg (by omega:¬ rowsE C ln h ≠ 0),linksB_all] at eh
 have l12:=links23 (C:=C) (ln:=ln) hC (by omega:1<=h) hh hln
 cases q2:allB (linkB C ln) (h - 1)
 ·rw [q2] at eh
  rw [eh] at eC
  refine bad 14 eC (by omega) (told true false true 0 0 0 0 (fun _ _=>0) (fun _=>0) [] .nils _ ?_)
  rw [k23,tmod_two]
  refine biff (by rw [ofNatE,dF (by omega)]; simp) ?_
  refine biff (by rw [dF h2]; simp) ?_
  refine bift rfl ?_
  refine bift (baseF_yes hx (LoopOk.lit_base (l6.1 q1))) ?_
  refine biff (by simp) ?_
  exact bift (baseF_yes hy (LoopOk.lit_base (l12.2 q2))) rfl
 rw [q2,if_pos rfl] at eh
 rw [eh,if_neg (by simp)] at eC
 have ok:ChOk C ln h:=chE_zero eh
 have hl0:=hln 0 (by omega)
 obtain ⟨_,_,o3,o4⟩:=ok.out hC (show 0<h by omega)
 obtain ⟨j,hj⟩:∃ j,offN (C 0) (ln 0) = j+1:=⟨offN (C 0) (ln 0) - 1,by omega⟩
 have l18:=ones23 hC (by omega:1<=h) hl0 hj
 obtain ⟨b1,b2⟩:=base23 ok hC
 have hw:weakK 0 [.reg [chV C ln h],o41 (j+1),.own 1 0 0 1 (some 1),.int .i64 0] [ob41 j,tb23 j] (v23 C ln h (LD C ln 0) (WD C ln 0) (oL 0) 0) [oB (LD C ln) (WD C ln) 0] = true:=by
  refine weakK_canon [1] (by kernel_rfl) (h2:=[⟨0,1,1,fun k=>([[T.own 0 j 0 (j+1) none]].getD k []).map (ren0 [1] [ob41 j,tb23 j]),false,true,none⟩]) ?_ rfl ?_
  ·simp only [List.map,ren]
   show [T.reg [chV C ln h],ren0 [1] [ob41 j,tb23 j] (.own 0 j 0 (j+1) none),.own 0 0 0 1 (some 1),.int .i64 0] = _
   rw [ren0_nB (g:=fun _=>1) rfl rfl rfl]
   rw [← hj]
   rfl
  ·refine .cons ⟨rfl,rfl,rfl,id,fun k hk=>?_⟩ .nil
   have hk:k<1:=hk
   obtain rfl:k = 0:=by omega
   show [slV (LD C ln 0) (WD C ln 0) none] = [ren0 [1] [ob41 j,tb23 j] (.own 0 j 0 (j+1) none)]
   rw [ren0_nB (g:=fun _=>1) rfl rfl rfl,← hj]
   rfl
 by_cases q3:chEr C ln h = 0
 ·obtain ⟨k,hk⟩:∃ k,h = k+1:=⟨h - 1,by omega⟩
  have b1:=(b1 q3).less hw
  rw [if_pos (eC.trans q3)]
  have eo:∀ n,n = h->BaseOk P18 G18 (A18 23) 23 0 23 (litK 0 [.reg [chV C ln h],o41 (j+1),.own 1 0 0 1 (some 1),.int .i64 0] [ob41 j,tb23 j] (.exit 6) [.undef,.undef,oL n] [oB (LD C ln) (WD C ln) n]):=fun n hn=>by rw [hn]; exact b1
  have b1:=eo (k+1) hk.symm
  refine ToldOk.frz (r:=.tup [.fresh false 1 (h+1) (fun e=>[slV (LD C ln e) (WD C ln e) none]) (h+1) none,.int .i64 0]) (told true true true 0 0 j k (LD C ln) (WD C ln) [] .nils _ ?_)
  rw [k23,tmod_two]
  refine biff (by rw [ofNatE,dF (by omega)]; simp) ?_
  refine biff (by rw [dF h2]; simp) ?_
  refine bift rfl ?_
  refine bift (baseF_yes hx (LoopOk.lit_base (l6.1 q1))) ?_
  refine bift rfl ?_
  refine bift (baseF_yes hy (LoopOk.lit_base (l12.1 q2))) ?_
  refine bift (baseF_yes hz (LoopOk.lit_base l18)) ?_
  refine bift rfl ?_
  refine bift (baseF_yes ht b1) ?_
  simp only [Nat.zero_add,Nat.sub_zero,beq_self_eq_true,Bool.true_and]
  rw [bleT (Nat.le_refl _),hk]
  rfl
 ·obtain ⟨ol,hp,b2⟩:=b2 q3
  have b2:=b2.less hw
  refine bad _ eC q3 (told true true false 0 (chEr C ln h) j 0 (LD C ln) (WD C ln) hp ol _ ?_)
  rw [k23,tmod_two]
  refine biff (by rw [ofNatE,dF (by omega)]; simp) ?_
  refine biff (by rw [dF h2]; simp) ?_
  refine bift rfl ?_
  refine bift (baseF_yes hx (LoopOk.lit_base (l6.1 q1))) ?_
  refine bift rfl ?_
  refine bift (baseF_yes hy (LoopOk.lit_base (l12.1 q2))) ?_
  refine bift (baseF_yes hz (LoopOk.lit_base l18)) ?_
  refine biff (by simp) ?_
  exact bift (baseF_yes ht b2) rfl
open Go.Proofs
def rwO (L:Nat):Nat->T
 | 0=>.nils
 | k+1=>.own L k 0 (k+1) none
def rwB (y:Nat->Int):Nat->Heap
 | 0=>[]
 | k+1=>[⟨k,1,k+1,fun e=>[.int .u8 (y e)],true,false,none⟩]
def pvO (C:Nat->Nat->Sti) (ln:Nat->Nat) (e:Nat):T:=bif ln e==0 then .nils else rowV (yO C e) (ln e) none
def ppO:Nat->T
 | 0=>.nils
 | i+1=>.own 0 i 0 (i+1) none
def ppB (v:Nat->T):Nat->Heap
 | 0=>[]
 | i+1=>[⟨i,1,i+1,fun e=>[v e],false,false,none⟩]
def v7 (C:Nat->Nat->Sti) (ln:Nat->Nat) (h:Nat) (ot:Int) (i:Nat):List T:=[.reg [chV C ln h],ppO i,.int .i64 ot,.int .i64 i]
def v7i (C:Nat->Nat->Sti) (ln:Nat->Nat) (h:Nat) (p:T) (ot:Int) (i:Nat) (r:T) (k:Nat):List T:=[.reg [chV C ln h],p,.int .i64 ot,.int .i64 i,r,.int .i64 k]
def x7i (C:Nat->Nat->Sti) (ln:Nat->Nat) (h:Nat) (p:T) (ot:Int) (i:Nat) (r:T):List T:=[.reg [chV C ln h],p,.int .i64 ot,.int .i64 i,r]
def otC (C:Nat->Nat->Sti) (i:Nat) (ot:Int):Nat->Int
 | 0=>ot
 | k+1=>bif decide ((C i k).k = 1) then otC C i ot k else 1
def otR (C:Nat->Nat->Sti) (ln:Nat->Nat):Nat->Int
 | 0=>0
 | i+1=>otC C i (otR C ln i) (ln i)
section
variable (C:Nat->Nat->Sti) (ln:Nat->Nat) (h i k:Nat) (ot:Int) (y:Nat->Int) (v:Nat->T)
theorem i7a:iterR P18 G18 A18 noneO 0 7 [] 12 (v7i C ln h .nils ot 0 .nils 0) [] =
(
 bif decide (0<Int.ofNat h) then
 bif decide (0<Int.ofNat (ln (0:Nat))) then
 bif decide (0<Int.ofNat h) then
 bif decide (0<Int.ofNat (ln (0:Nat))) then
 bif !decide ((C (0:Nat) (0:Nat)).k = 1) then
 bif decide (0<Int.ofNat h) then
 bif decide (0<Int.ofNat (ln (0:Nat))) then
 some ((.normal,[.reg [chV C ln h],.nils,.int .i64 1,.int .i64 0,.own [Blk.mk 0 1 1 (fun j=>[[T.int .u8 (C (0:Nat) (0:Nat)).y]].getD j []) true true
 none].length (0:Nat) (0:Nat) (1:Nat)
 none,.int .i64 1],[.mk 0 1 1 (fun j=>[[T.int .u8 (C (0:Nat) (0:Nat)).y]].getD j []) true true
 none,.mk 0 1 1 (fun j=>[[T.int .u8 (C (0:Nat) (0:Nat)).y]].getD (0+j) []) true false
 none]))
 else none else none else
 bif decide (0<Int.ofNat h) then
 bif decide (0<Int.ofNat (ln (0:Nat))) then
 some ((.normal,[.reg [chV C ln h],.nils,.int .i64 ot,.int .i64 0,.own [Blk.mk 0 1 1 (fun j=>[[T.int .u8 (C (0:Nat) (0:Nat)).y]].getD j []) true true
 none].length (0:Nat) (0:Nat) (1:Nat)
 none,.int .i64 1],[.mk 0 1 1 (fun j=>[[T.int .u8 (C (0:Nat) (0:Nat)).y]].getD j []) true true
 none,.mk 0 1 1 (fun j=>[[T.int .u8 (C (0:Nat) (0:Nat)).y]].getD (0+j) []) true false
 none]))
 else none else none else none else none else
 some ((.exit 2,[.reg [chV C ln h],.nils,.int .i64 ot,.int .i64 0,.nils],[]))
 else
 none):=by kernel_rfl
theorem i7b:iterR P18 G18 A18 noneO 0 7 [] 12 (v7i C ln h .nils ot 0 (rwO 0 (k+1)) (k+1)) (rwB y (k+1)) =
(
 bif decide (0<Int.ofNat h) then
 bif decide (Int.ofNat (k+1)<Int.ofNat (ln (0:Nat))) then
 bif decide (0<Int.ofNat h) then
 bif decide (0<=Int.ofNat (k+1))&&decide (Int.ofNat (k+1)<Int.ofNat (ln (0:Nat))) then
 bif !decide ((C (0:Nat) (k+(1:Nat))).k = 1) then
 bif decide (0<Int.ofNat h) then
 bif decide (0<=Int.ofNat (k+1))&&decide (Int.ofNat (k+1)<Int.ofNat (ln (0:Nat))) then
 bif k==k&&true then
 bif ((0:Nat)+(k+(1:Nat))).ble (k+1) then
 bif ((k+(1:Nat)+(1:Nat)) * (2:Nat)).ble 70368744177664 then
 bif ((0:Nat)+(k+(1:Nat))+(1:Nat)).ble (k+1) then
 some ((.normal,[.reg [chV C ln h],.nils,.int .i64 1,.int .i64 0,.own 0 k 0 (k+1+(1:Nat))
 none,.int .i64 (IntKind.i64.wrap (Int.ofNat (k+1)+(1:Int)))],[.mk k 1 (k+1) (fun j =>
 bif ((0:Nat)+(k+(1:Nat))).ble j&&j.blt ((0:Nat)+(k+1)+(1:Nat)) then [[T.int .u8 (C (0:Nat) (k+(1:Nat))).y]].getD ((0:Nat)+(j - ((0:Nat)+(k+1)))) []
 else [.int .u8 (y j)]) true false
 none,.mk 0 1 1 (fun j=>[[T.int .u8 (C (0:Nat) (k+(1:Nat))).y]].getD j []) true true
 none]))
 else
 some ((.normal,[.reg [chV C ln h],.nils,.int .i64 1,.int .i64 0,pO (k+1),.int .i64 (IntKind.i64.wrap (Int.ofNat (k+1)+(1:Int)))],[.mk (k+1) (1:Nat) (k+1+(1:Nat)) (fun j =>
 bif j.blt (k+1) then [.int .u8 (y (0+j))]
 else [[T.int .u8 (C (0:Nat) (k+(1:Nat))).y]].getD ((0:Nat)+(j - (k+1))) []) true false
 none,.mk 0 1 1 (fun j=>[[T.int .u8 (C (0:Nat) (k+(1:Nat))).y]].getD j []) true true
 none]))
 else none else none else none else none else none else
 bif decide (0<Int.ofNat h) then
 bif decide (0<=Int.ofNat (k+1))&&decide (Int.ofNat (k+1)<Int.ofNat (ln (0:Nat))) then
 bif k==k&&true then
 bif ((0:Nat)+(k+(1:Nat))).ble (k+1) then
 bif ((k+(1:Nat)+(1:Nat)) * (2:Nat)).ble 70368744177664 then
 bif ((0:Nat)+(k+(1:Nat))+(1:Nat)).ble (k+1) then
 some ((.normal,[.reg [chV C ln h],.nils,.int .i64 ot,.int .i64 0,.own 0 k 0 (k+1+(1:Nat))
 none,.int .i64 (IntKind.i64.wrap (Int.ofNat (k+1)+(1:Int)))],[.mk k 1 (k+1) (fun j =>
 bif ((0:Nat)+(k+(1:Nat))).ble j&&j.blt ((0:Nat)+(k+1)+(1:Nat)) then [[T.int .u8 (C (0:Nat) (k+(1:Nat))).y]].getD ((0:Nat)+(j - ((0:Nat)+(k+1)))) []
 else [.int .u8 (y j)]) true false
 none,.mk 0 1 1 (fun j=>[[T.int .u8 (C (0:Nat) (k+(1:Nat))).y]].getD j []) true true
 none]))
 else
 some ((.normal,[.reg [chV C ln h],.nils,.int .i64 ot,.int .i64 0,pO (k+1),.int .i64 (IntKind.i64.wrap (Int.ofNat (k+1)+(1:Int)))],[.mk (k+1) (1:Nat) (k+1+(1:Nat)) (fun j =>
 bif j.blt (k+1) then [.int .u8 (y (0+j))]
 else [[T.int .u8 (C (0:Nat) (k+(1:Nat))).y]].getD ((0:Nat)+(j - (k+1))) []) true false
 none,.mk 0 1 1 (fun j=>[[T.int .u8 (C (0:Nat) (k+(1:Nat))).y]].getD j []) true true
 none]))
 else none else none else none else none else none else none else none else
 some ((.exit 2,[.reg [chV C ln h],.nils,.int .i64 ot,.int .i64 0,pO k],[lbk k y]))
 else
 none):=by kernel_rfl
theorem i7c:iterR P18 G18 A18 noneO 0 7 [] 12 (v7i C ln h (ppO (i+1)) ot (i+1) .nils 0) (ppB v (i+1)) =
(
 bif decide (0<=Int.ofNat (i+1))&&decide (Int.ofNat (i+1)<Int.ofNat h) then
 bif decide (0<Int.ofNat (ln (i+1))) then
 bif decide (0<=Int.ofNat (i+1))&&decide (Int.ofNat (i+1)<Int.ofNat h) then
 bif decide (0<Int.ofNat (ln (i+1))) then
 bif !decide ((C (i+(1:Nat)) (0:Nat)).k = 1) then
 bif decide (0<=Int.ofNat (i+1))&&decide (Int.ofNat (i+1)<Int.ofNat h) then
 bif decide (0<Int.ofNat (ln (i+1))) then
 some ((.normal,[.reg [chV C ln h],pO i,.int .i64 1,.int .i64 (.ofNat (i+1)),.own [pbk i v,Blk.mk 0 1 1 (fun j=>[[T.int .u8 (C (i+(1:Nat)) (0:Nat)).y]].getD j []) true true
 none].length (0:Nat) (0:Nat) (1:Nat)
 none,.int .i64 1],[pbk i v,.mk 0 1 1 (fun j=>[[T.int .u8 (C (i+(1:Nat)) (0:Nat)).y]].getD j []) true true
 none,.mk 0 1 1 (fun j=>[[T.int .u8 (C (i+(1:Nat)) (0:Nat)).y]].getD (0+j) []) true false
 none]))
 else none else none else
 bif decide (0<=Int.ofNat (i+1))&&decide (Int.ofNat (i+1)<Int.ofNat h) then
 bif decide (0<Int.ofNat (ln (i+1))) then
 some ((.normal,[.reg [chV C ln h],pO i,.int .i64 ot,.int .i64 (.ofNat (i+1)),.own [pbk i v,Blk.mk 0 1 1 (fun j=>[[T.int .u8 (C (i+(1:Nat)) (0:Nat)).y]].getD j []) true true
 none].length (0:Nat) (0:Nat) (1:Nat)
 none,.int .i64 1],[pbk i v,.mk 0 1 1 (fun j=>[[T.int .u8 (C (i+(1:Nat)) (0:Nat)).y]].getD j []) true true
 none,.mk 0 1 1 (fun j=>[[T.int .u8 (C (i+(1:Nat)) (0:Nat)).y]].getD (0+j) []) true false
 none]))
 else none else none else none else none else
 some ((.exit 2,[.reg [chV C ln h],pO i,.int .i64 ot,.int .i64 (.ofNat (i+1)),.nils],[pbk i v]))
 else
 none):=by kernel_rfl
theorem i7d:iterR P18 G18 A18 noneO 0 7 [] 12 (v7i C ln h (ppO (i+1)) ot (i+1) (rwO 1 (k+1)) (k+1)) (ppB v (i+1) ++ rwB y (k+1)) =
(
 bif decide (0<=Int.ofNat (i+1))&&decide (Int.ofNat (i+1)<Int.ofNat h) then
 bif decide (Int.ofNat (k+1)<Int.ofNat (ln (i+1))) then
 bif decide (0<=Int.ofNat (i+1))&&decide (Int.ofNat (i+1)<Int.ofNat h) then
 bif decide (0<=Int.ofNat (k+1))&&decide (Int.ofNat (k+1)<Int.ofNat (ln (i+1))) then
 bif !decide ((C (i+(1:Nat)) (k+(1:Nat))).k = 1) then
 bif decide (0<=Int.ofNat (i+1))&&decide (Int.ofNat (i+1)<Int.ofNat h) then
 bif decide (0<=Int.ofNat (k+1))&&decide (Int.ofNat (k+1)<Int.ofNat (ln (i+1))) then
 bif k==k&&true then
 bif ((0:Nat)+(k+(1:Nat))).ble (k+1) then
 bif ((k+(1:Nat)+(1:Nat)) * (2:Nat)).ble 70368744177664 then
 bif ((0:Nat)+(k+(1:Nat))+(1:Nat)).ble (k+1) then
 some ((.normal,[.reg [chV C ln h],pO i,.int .i64 1,.int .i64 (.ofNat (i+1)),.own 1 k 0 (k+1+(1:Nat))
 none,.int .i64 (IntKind.i64.wrap (Int.ofNat (k+1)+(1:Int)))],[pbk i v,.mk k 1 (k+1) (fun j =>
 bif ((0:Nat)+(k+(1:Nat))).ble j&&j.blt ((0:Nat)+(k+1)+(1:Nat)) then [[T.int .u8 (C (i+(1:Nat)) (k+(1:Nat))).y]].getD ((0:Nat)+(j - ((0:Nat)+(k+1)))) []
 else [.int .u8 (y j)]) true false
 none,.mk 0 1 1 (fun j=>[[T.int .u8 (C (i+(1:Nat)) (k+(1:Nat))).y]].getD j []) true true
 none]))
 else
 some ((.normal,[.reg [chV C ln h],pO i,.int .i64 1,.int .i64 (.ofNat (i+1)),.own 1 (k+1) (0:Nat) (k+1+(1:Nat))
 none,.int .i64 (IntKind.i64.wrap (Int.ofNat (k+1)+(1:Int)))],[pbk i v,.mk (k+1) (1:Nat) (k+1+(1:Nat)) (fun j =>
 bif j.blt (k+1) then [.int .u8 (y (0+j))]
 else [[T.int .u8 (C (i+(1:Nat)) (k+(1:Nat))).y]].getD ((0:Nat)+(j - (k+1))) []) true false
 none,.mk 0 1 1 (fun j=>[[T.int .u8 (C (i+(1:Nat)) (k+(1:Nat))).y]].getD j []) true true
 none]))
 else none else none else none else none else none else
 bif decide (0<=Int.ofNat (i+1))&&decide (Int.ofNat (i+1)<Int.ofNat h) then
 bif decide (0<=Int.ofNat (k+1))&&decide (Int.ofNat (k+1)<Int.ofNat (ln (i+1))) then
 bif k==k&&true then
 bif ((0:Nat)+(k+(1:Nat))).ble (k+1) then
 bif ((k+(1:Nat)+(1:Nat)) * (2:Nat)).ble 70368744177664 then
 bif ((0:Nat)+(k+(1:Nat))+(1:Nat)).ble (k+1) then
 some ((.normal,[.reg [chV C ln h],pO i,.int .i64 ot,.int .i64 (.ofNat (i+1)),.own 1 k 0 (k+1+(1:Nat))
 none,.int .i64 (IntKind.i64.wrap (Int.ofNat (k+1)+(1:Int)))],[pbk i v,.mk k 1 (k+1) (fun j =>
 bif ((0:Nat)+(k+(1:Nat))).ble j&&j.blt ((0:Nat)+(k+1)+(1:Nat)) then [[T.int .u8 (C (i+(1:Nat)) (k+(1:Nat))).y]].getD ((0:Nat)+(j - ((0:Nat)+(k+1)))) []
 else [.int .u8 (y j)]) true false
 none,.mk 0 1 1 (fun j=>[[T.int .u8 (C (i+(1:Nat)) (k+(1:Nat))).y]].getD j []) true true
 none]))
 else
 some ((.normal,[.reg [chV C ln h],pO i,.int .i64 ot,.int .i64 (.ofNat (i+1)),.own 1 (k+1) (0:Nat) (k+1+(1:Nat))
 none,.int .i64 (IntKind.i64.wrap (Int.ofNat (k+1)+(1:Int)))],[pbk i v,.mk (k+1) (1:Nat) (k+1+(1:Nat)) (fun j =>
 bif j.blt (k+1) then [.int .u8 (y (0+j))]
 else [[T.int .u8 (C (i+(1:Nat)) (k+(1:Nat))).y]].getD ((0:Nat)+(j - (k+1))) []) true false
 none,.mk 0 1 1 (fun j=>[[T.int .u8 (C (i+(1:Nat)) (k+(1:Nat))).y]].getD j []) true true
 none]))
 else none else none else none else none else none else none else none else
 some ((.exit 2,[.reg [chV C ln h],pO i,.int .i64 ot,.int .i64 (.ofNat (i+1)),.own 1 k 0 (k+1)
 none],[pbk i v,lbk k y]))
 else
 none):=by kernel_rfl
end
theorem otC_t {C:Nat->Nat->Sti} {i k:Nat} {ot:Int} (h:(C i k).k = 1):otC C i ot (k+1) = otC C i ot k:=by show (bif decide _ then _ else _) = _; rw [dT h]; rfl
theorem otC_f {C:Nat->Nat->Sti} {i k:Nat} {ot:Int} (h:¬ (C i k).k = 1):otC C i ot (k+1) = 1:=by show (bif decide _ then _ else _) = _; rw [dF h]; rfl
def tmpB (x:T):Blk:=⟨0,1,1,fun j=>[[x]].getD j [],true,true,none⟩
def newB (x:T):Blk:=⟨0,1,1,fun j=>[[x]].getD (0+j) [],true,false,none⟩
def grB (y:Nat->Int) (x:T) (k:Nat):Blk:=⟨k+1,1,k+1+1,fun j=>bif Nat.blt j (k+1) then [.int .u8 (y (0+j))] else [[x]].getD (0+(j - (k+1))) [],true,false,none⟩
theorem newB_same (y:Nat->Int) {k:Nat} (hk:k<1):[T.int .u8 (y k)] = (newB (.int .u8 (y 0))).get k:=by
 obtain rfl:k = 0:=by omega
 rfl
theorem grB_same {y:Nat->Int} {k j:Nat} (hj:j<k+1+1):[T.int .u8 (y j)] = (bif Nat.blt j (k+1) then [T.int .u8 (y (0+j))] else ([[T.int .u8 (y (k+1))]]:List (List T)).getD (0+(j - (k+1))) []):=by
 by_cases q:j<k+1
 ·rw [bltT q,Nat.zero_add]; rfl
 ·obtain rfl:j = k+1:=by omega
  rw [bltF (Nat.le_refl _),Nat.sub_self]; rfl
section
variable {C:Nat->Nat->Sti} {ln:Nat->Nat} {h:Nat}
theorem in7a (hh:h<=1000) (h0:0<h) (hln:ln 0<=1000) (ot:Int):LoopOk P18 G18 (A18 7) 7 12 (litS (v7i C ln h .nils ot 0 .nils 0) [] (.exit 2) (x7i C ln h .nils (otC C 0 ot (ln 0)) 0 (rwO 0 (ln 0))) (rwB (yO C 0) (ln 0))):=by
 have e0:∀ n,n = ln 0->Last P18 G18 (A18 7) 7 12 0 (v7i C ln h .nils (otC C 0 ot n) 0 (rwO 0 n) n) (rwB (yO C 0) n) (.exit 2) (x7i C ln h .nils (otC C 0 ot n) 0 (rwO 0 n)) (rwB (yO C 0) n):=fun n hn=>by
  generalize otC C 0 ot n = a at *
  cases n with
  | zero =>
   refine Last.mk0 (A:=A18) (m:=0) none_ok rfl rfl loops0 (h1:=[]) (by simp) ?_ .nil
   show iterR P18 G18 A18 noneO 0 7 [] 12 (v7i C ln h .nils a 0 .nils 0) [] = _
   rw [i7a]
   refine BS ?_
   refine BF ?_
   rfl
  | succ k =>
   refine Last.mk0 (A:=A18) (m:=0) none_ok rfl rfl loops0 (h1:=rwB (yO C 0) (k+1)) (by simp) ?_ (.refl _)
   rw [i7b]
   refine BS ?_
   refine BF ?_
   rfl
 refine loop_steps hm18 (by kernel_rfl) (fun k=>v7i C ln h .nils (otC C 0 ot k) 0 (rwO 0 k) k) (fun k=>rwB (yO C 0) k) (n:=ln 0) (fun k hk=>?_) (e0 _ rfl)
 clear e0
 cases k with
 | zero =>
  refine Step.mkC (A:=A18) (m:=0) none_ok rfl rfl loops0 [1] (v1:=[.reg [chV C ln h],.nils,.int .i64 (otC C 0 ot 1),.int .i64 0,.own 1 0 0 1 none,.int .i64 1]) (h1:=[tmpB (.int .u8 (C 0 0).y),newB (.int .u8 (C 0 0).y)]) ?_ (by kernel_rfl) (v2:=v7i C ln h .nils (otC C 0 ot 1) 0 (rwO 0 1) 1) rfl rfl fun nt=>.same (.cons ⟨rfl,rfl,rfl,id,fun k hk=>newB_same _ hk⟩ .nil)
  show iterR P18 G18 A18 noneO 0 7 [] 12 (v7i C ln h .nils ot 0 .nils 0) [] = _
  rw [i7a]
  by_cases q:(C 0 0).k = 1
  ·rw [otC_t q]
   (repeat (first | refine BS ?_ | refine BF ?_))
   rfl
  ·rw [otC_f q]
   (repeat (first | refine BS ?_ | refine BF ?_))
   rfl
 | succ k =>
  refine Step.mk (A:=A18) (m:=0) none_ok rfl rfl loops0 1 (Nat.zero_le _) (h1:=[grB (yO C 0) (.int .u8 (C 0 (k+1)).y) k,tmpB (.int .u8 (C 0 (k+1)).y)]) (vs':=v7i C ln h .nils (otC C 0 ot (k+1+1)) 0 (rwO 0 (k+1+1)) (k+1+1)) ?_ (by rfl) (.cons ⟨rfl,rfl,rfl,id,fun j hj=>grB_same hj⟩ .nil)
  rw [i7b,up1 (by omega)]
  by_cases q:(C 0 (k+1)).k = 1
  ·rw [otC_t q]
   (repeat (first | refine BS ?_ | refine BF ?_))
   rfl
  ·rw [otC_f q]
   (repeat (first | refine BS ?_ | refine BF ?_))
   rfl
theorem in7b (hh:h<=1000) {i:Nat} (hi:i+1<h) (hln:ln (i+1)<=1000) (ot:Int) (v:Nat->T) (hv:∀ σ hp e,ren0 σ hp (v e) = v e):LoopOk P18 G18 (A18 7) 7 12 (litS (v7i C ln h (ppO (i+1)) ot (i+1) .nils 0) (ppB v (i+1)) (.exit 2) (x7i C ln h (ppO (i+1)) (otC C (i+1) ot (ln (i+1))) (i+1) (rwO 1 (ln (i+1)))) (ppB v (i+1) ++ rwB (yO C (i+1)) (ln (i+1)))):=by
 have e0:∀ n,n = ln (i+1)->Last P18 G18 (A18 7) 7 12 1 (v7i C ln h (ppO (i+1)) (otC C (i+1) ot n) (i+1) (rwO 1 n) n) (ppB v (i+1) ++ rwB (yO C (i+1)) n) (.exit 2) (x7i C ln h (ppO (i+1)) (otC C (i+1) ot n) (i+1) (rwO 1 n)) (ppB v (i+1) ++ rwB (yO C (i+1)) n):=fun n hn=>by
  generalize otC C (i+1) ot n = a at *
  cases n with
  | zero =>
   refine Last.mk0 (A:=A18) (m:=0) none_ok rfl rfl loops0 (h1:=ppB v (i+1)) (by simp) ?_ (.refl _)
   show iterR P18 G18 A18 noneO 0 7 [] 12 (v7i C ln h (ppO (i+1)) a (i+1) .nils 0) (ppB v (i+1)) = _
   rw [i7c]
   clear hv
   refine BS ?_
   refine BF ?_
   rfl
  | succ k =>
   refine Last.mk0 (A:=A18) (m:=0) none_ok rfl rfl loops0 (h1:=ppB v (i+1) ++ rwB (yO C (i+1)) (k+1)) (by simp) ?_ (.refl _)
   rw [i7d]
   clear hv
   refine BS ?_
   refine BF ?_
   rfl
 refine loop_steps hm18 (by kernel_rfl) (fun k=>v7i C ln h (ppO (i+1)) (otC C (i+1) ot k) (i+1) (rwO 1 k) k) (fun k=>ppB v (i+1) ++ rwB (yO C (i+1)) k) (n:=ln (i+1)) (fun k hk=>?_) (e0 _ rfl)
 clear e0
 cases k with
 | zero =>
  refine Step.mkC (A:=A18) (m:=0) none_ok rfl rfl loops0 [0,2] (v1:=[.reg [chV C ln h],.own 0 i 0 (i+1) none,.int .i64 (otC C (i+1) ot 1),.int .i64 (i+1:Nat),.own 2 0 0 1 none,.int .i64 1]) (h1:=[⟨i,1,i+1,fun e=>[v e],false,false,none⟩,tmpB (.int .u8 (C (i+1) 0).y),newB (.int .u8 (C (i+1) 0).y)]) ?_ (by kernel_rfl) (v2:=v7i C ln h (ppO (i+1)) (otC C (i+1) ot 1) (i+1) (rwO 1 1) 1) rfl rfl fun nt=>.same (.cons ⟨rfl,rfl,rfl,id,fun j hj=>?_⟩ (.cons ⟨rfl,rfl,rfl,id,fun k hk=>newB_same _ hk⟩ .nil))
  ·show iterR P18 G18 A18 noneO 0 7 [] 12 (v7i C ln h (ppO (i+1)) ot (i+1) .nils 0) (ppB v (i+1)) = _
   rw [i7c]
   clear hv
   by_cases q:(C (i+1) 0).k = 1
   ·rw [otC_t q]
    (repeat (first | refine BS ?_ | refine BF ?_))
    rfl
   ·rw [otC_f q]
    (repeat (first | refine BS ?_ | refine BF ?_))
    rfl
  ·show [v j] = [ren0 _ _ (v j)]
   rw [hv]
 | succ k =>
  refine Step.mkC (A:=A18) (m:=0) none_ok rfl rfl loops0 [0,1] (h1:=[⟨i,1,i+1,fun e=>[v e],false,false,none⟩,grB (yO C (i+1)) (.int .u8 (C (i+1) (k+1)).y) k,tmpB (.int .u8 (C (i+1) (k+1)).y)]) (v1:=v7i C ln h (ppO (i+1)) (otC C (i+1) ot (k+1+1)) (i+1) (rwO 1 (k+1+1)) (k+1+1)) ?_ (by kernel_rfl) (v2:=v7i C ln h (ppO (i+1)) (otC C (i+1) ot (k+1+1)) (i+1) (rwO 1 (k+1+1)) (k+1+1)) rfl rfl fun nt=>.same (.cons ⟨rfl,rfl,rfl,id,fun j hj=>?_⟩ (.cons ⟨rfl,rfl,rfl,id,fun j hj=>grB_same hj⟩ .nil))
  ·rw [i7d,up1 (by omega)]
   clear hv
   by_cases q:(C (i+1) (k+1)).k = 1
   ·rw [otC_t q]
    (repeat (first | refine BS ?_ | refine BF ?_))
    rfl
   ·rw [otC_f q]
    (repeat (first | refine BS ?_ | refine BF ?_))
    rfl
  ·show [v j] = [ren0 _ _ (v j)]
   rw [hv]
end
open Go.Proofs
noncomputable def l7i (x:List T->Heap->Ex->List T->Heap->Prop) (C:Nat->Nat->Sti) (ln:Nat->Nat) (h:Nat) (p:T) (ot:Int) (i:Nat) (r:T) (hp:Heap):List (Nat × (List T->Heap->LT)):=[(12,loopF x (.ret (.exit 2) (x7i C ln h p ot i r) hp))]
section
variable (C:Nat->Nat->Sti) (ln:Nat->Nat) (h i k:Nat) (a b:Int) (y:Nat->Int) (v:Nat->T) (x:List T->Heap->Ex->List T->Heap->Prop)
theorem o7a:iterR P18 G18 A18 noneO 0 7 (l7i x C ln h .nils b 0 .nils []) 6 (v7 C ln h a 0) [] =
(
 bif decide (0<Int.ofNat h) then
 bif decide (0<Int.ofNat h) then
 bif decide (40<Int.ofNat (ln (0:Nat))) then
 some ((.ret,[.reg [chV C ln h],.bool true,.nils,.int .i64 a],[]))
 else
 bif decF (x [.reg [chV C ln h],.nils,.int .i64 a,.int .i64 0,.nils,.int .i64 0] [] (.exit 2) [.reg [chV C ln h],.nils,.int .i64 b,.int .i64 0,.nils] []) then
 some ((.normal,[.reg [chV C ln h],.own 1 0 0 1
 none,.int .i64 b,.int .i64 1],[.mk 0 1 1 (fun j=>[[T.nils]].getD j []) false true
 none,.mk 0 1 1 (fun j=>[[T.nils]].getD (0+j) []) false false
 none]))
 else none else none else
 some ((.exit 0,[.reg [chV C ln h],.undef,.nils,.int .i64 a],[]))):=by kernel_rfl
theorem o7b:iterR P18 G18 A18 noneO 0 7 (l7i x C ln h .nils b 0 (rwO 0 (k+1)) (rwB y (k+1))) 6 (v7 C ln h a 0) [] =
(
 bif decide (0<Int.ofNat h) then
 bif decide (0<Int.ofNat h) then
 bif decide (40<Int.ofNat (ln (0:Nat))) then
 some ((.ret,[.reg [chV C ln h],.bool true,.nils,.int .i64 a],[]))
 else
 bif decF (x [.reg [chV C ln h],.nils,.int .i64 a,.int .i64 0,.nils,.int .i64 0] [] (.exit 2) [.reg [chV C ln h],.nils,.int .i64 b,.int .i64 0,pO k] [lbk k y]) then
 some ((.normal,[.reg [chV C ln h],.own [lbk k y,tb23 k].length (0:Nat) (0:Nat) (1:Nat)
 none,.int .i64 b,.int .i64 1],[lbk k y,tb23 k,.mk 0 1 1 (fun j=>[[pO k]].getD (0+j) []) false false
 none]))
 else none else none else
 some ((.exit 0,[.reg [chV C ln h],.undef,.nils,.int .i64 a],[]))):=by kernel_rfl
theorem o7c:iterR P18 G18 A18 noneO 0 7 (l7i x C ln h (ppO (i+1)) b (i+1) .nils (ppB v (i+1))) 6 (v7 C ln h a (i+1)) (ppB v (i+1)) =
(
 bif decide (Int.ofNat (i+1)<Int.ofNat h) then
 bif decide (0<=Int.ofNat (i+1))&&decide (Int.ofNat (i+1)<Int.ofNat h) then
 bif decide (40<Int.ofNat (ln (i+1))) then
 some ((.ret,[.reg [chV C ln h],.bool true,pO i,.int .i64 a],[pbk i v]))
 else
 bif decF (x [.reg [chV C ln h],pO i,.int .i64 a,.int .i64 (.ofNat (i+1)),.nils,.int .i64 0] [pbk i v] (.exit 2) [.reg [chV C ln h],pO i,.int .i64 b,.int .i64 (.ofNat (i+1)),.nils] [pbk i v]) then
 bif i==i&&true then
 bif ((0:Nat)+(i+(1:Nat))).ble (i+1) then
 bif ((i+(1:Nat)+(1:Nat)) * (25:Nat)).ble 70368744177664 then
 bif ((0:Nat)+(i+(1:Nat))+(1:Nat)).ble (i+1) then
 some ((.normal,[.reg [chV C ln h],.own 0 i 0 (i+1+(1:Nat))
 none,.int .i64 b,.int .i64 (IntKind.i64.wrap (Int.ofNat (i+1)+(1:Int)))],[.mk i 1 (i+1) (fun j =>
 bif ((0:Nat)+(i+(1:Nat))).ble j&&j.blt ((0:Nat)+(i+1)+(1:Nat)) then [[T.nils]].getD ((0:Nat)+(j - ((0:Nat)+(i+1)))) []
 else [v j]) false false
 none,.mk 0 1 1 (fun j=>[[T.nils]].getD j []) false true
 none]))
 else
 some ((.normal,[.reg [chV C ln h],pO (i+1),.int .i64 b,.int .i64 (IntKind.i64.wrap (Int.ofNat (i+1)+(1:Int)))],[.mk (i+1) (1:Nat) (i+1+(1:Nat)) (fun j =>
 bif j.blt (i+1) then [v (0+j)]
 else [[T.nils]].getD ((0:Nat)+(j - (i+1))) []) false false
 none,.mk 0 1 1 (fun j=>[[T.nils]].getD j []) false true
 none]))
 else none else none else none else none else none else
 some ((.exit 0,[.reg [chV C ln h],.undef,pO i,.int .i64 a],[pbk i v]))):=by kernel_rfl
theorem o7d:iterR P18 G18 A18 noneO 0 7 (l7i x C ln h (ppO (i+1)) b (i+1) (rwO 1 (k+1)) (ppB v (i+1) ++ rwB y (k+1))) 6 (v7 C ln h a (i+1)) (ppB v (i+1)) =
(
 bif decide (Int.ofNat (i+1)<Int.ofNat h) then
 bif decide (0<=Int.ofNat (i+1))&&decide (Int.ofNat (i+1)<Int.ofNat h) then
 bif decide (40<Int.ofNat (ln (i+1))) then
 some ((.ret,[.reg [chV C ln h],.bool true,pO i,.int .i64 a],[pbk i v]))
 else
 bif decF (x [.reg [chV C ln h],pO i,.int .i64 a,.int .i64 (.ofNat (i+1)),.nils,.int .i64 0] [pbk i v] (.exit 2) [.reg [chV C ln h],pO i,.int .i64 b,.int .i64 (.ofNat (i+1)),.own 1 k 0 (k+1)
 none] [pbk i v,lbk k y]) then
 bif i==i&&true then
 bif ((0:Nat)+(i+(1:Nat))).ble (i+1) then
 bif ((i+(1:Nat)+(1:Nat)) * (25:Nat)).ble 70368744177664 then
 bif ((0:Nat)+(i+(1:Nat))+(1:Nat)).ble (i+1) then
 some ((.normal,[.reg [chV C ln h],.own 0 i 0 (i+1+(1:Nat))
 none,.int .i64 b,.int .i64 (IntKind.i64.wrap (Int.ofNat (i+1)+(1:Int)))],[.mk i 1 (i+1) (fun j =>
 bif ((0:Nat)+(i+(1:Nat))).ble j&&j.blt ((0:Nat)+(i+1)+(1:Nat)) then [[T.own 1 k 0 (k+(1:Nat))
 none]].getD ((0:Nat)+(j - ((0:Nat)+(i+1)))) []
 else [v j]) false false
 none,lbk k y,.mk 0 1 1 (fun j=>[[T.own 1 k 0 (k+(1:Nat))
 none]].getD j []) false true
 none]))
 else
 some ((.normal,[.reg [chV C ln h],pO (i+1),.int .i64 b,.int .i64 (IntKind.i64.wrap (Int.ofNat (i+1)+(1:Int)))],[.mk (i+1) (1:Nat) (i+1+(1:Nat)) (fun j =>
 bif j.blt (i+1) then [v (0+j)]
 else [[T.own 1 k 0 (k+(1:Nat))
 none]].getD ((0:Nat)+(j - (i+1))) []) false false
 none,lbk k y,.mk 0 1 1 (fun j=>[[T.own 1 k 0 (k+(1:Nat))
 none]].getD j []) false true
 none]))
 else none else none else none else none else none else
 some ((.exit 0,[.reg [chV C ln h],.undef,pO i,.int .i64 a],[pbk i v]))):=by kernel_rfl
end
theorem pvO_ren (C:Nat->Nat->Sti) (ln:Nat->Nat) (σ:List Nat) (hp:Heap) (e:Nat):ren0 σ hp (pvO C ln e) = pvO C ln e:=by
 unfold pvO
 cases ln e==0 <;> rfl
def tB (x:T):Blk:=⟨0,1,1,fun j=>[[x]].getD j [],false,true,none⟩
def nwB (x:T):Blk:=⟨0,1,1,fun j=>[[x]].getD (0+j) [],false,false,none⟩
def gB (v:Nat->T) (x:T) (i:Nat):Blk:=⟨i+1,1,i+1+1,fun j=>bif Nat.blt j (i+1) then [v (0+j)] else [[x]].getD (0+(j - (i+1))) [],false,false,none⟩
theorem gB_same {v:Nat->T} {x:T} {i j:Nat} {σ:List Nat} {hp:Heap} (hv:∀ e,ren0 σ hp (v e) = v e) (hx:ren0 σ hp x = v (i+1)) (hj:j<i+1+1):[v j] = ((gB v x i).get j).map (ren0 σ hp):=by
 show [v j] = (bif Nat.blt j (i+1) then [v (0+j)] else ([[x]]:List (List T)).getD (0+(j - (i+1))) []).map (ren0 σ hp)
 by_cases q:j<i+1
 ·rw [bltT q,Nat.zero_add,cond_true,List.map_cons,List.map_nil,hv]
 ·obtain rfl:j = i+1:=by omega
  rw [bltF (Nat.le_refl _),Nat.sub_self]
  show _ = [ren0 σ hp x]
  rw [hx]
section
variable {C:Nat->Nat->Sti} {ln:Nat->Nat} {h:Nat}
theorem step7 (hh:h<=40) {i:Nat} (hi:i<h) (hln:ln i<=40):Step P18 G18 (A18 7) 7 6 0 (v7 C ln h (otR C ln i) i) (ppB (pvO C ln) i) (v7 C ln h (otR C ln (i+1)) (i+1)) (ppB (pvO C ln) (i+1)):=by
 obtain ⟨x,hx⟩:=is_loop P18 G18 (A18 7) 7 12
 have hren:=pvO_ren C ln
 have eo:otR C ln (i+1) = otC C i (otR C ln i) (ln i):=rfl
 have ep:∀ n,ln i = n->pvO C ln i = bif n==0 then .nils else rowV (yO C i) n none:=fun n hn=>by unfold pvO; rw [hn]
 rw [eo]
 generalize otR C ln i = a at *
 cases i with
 | zero =>
  have hl:=in7a (C:=C) (ln:=ln) (by omega:h<=1000) hi (by omega) a
  generalize otC C 0 a (ln 0) = b at *
  have hk:∀ n,n = ln 0->LoopOk P18 G18 (A18 7) 7 12 (litS (v7i C ln h .nils a 0 .nils 0) [] (.exit 2) (x7i C ln h .nils b 0 (rwO 0 n)) (rwB (yO C 0) n)):=fun n hn=>by rw [hn]; exact hl
  clear hl
  generalize pvO C ln = v at *
  cases hn:ln 0 with
  | zero =>
   have hl:=hk 0 hn.symm
   have ep:=ep 0 hn
   refine Step.mkC (A:=A18) (m:=0) none_ok rfl rfl (l:=l7i x C ln h .nils b 0 .nils []) (loops1 (loopF_ok hx _)) [1] (v1:=[.reg [chV C ln h],.own 1 0 0 1 none,.int .i64 b,.int .i64 1]) (h1:=[tB .nils,nwB .nils]) ?_ (by kernel_rfl) (v2:=v7 C ln h b 1) rfl rfl fun nt=>.same (.cons ⟨rfl,rfl,rfl,id,fun j hj=>?_⟩ .nil)
   ·refine (o7a C ln h a b x).trans ?_
    clear hren hk
    refine BS ?_
    refine BS ?_
    refine BF ?_
    refine bift (loopF_yes hx hl) ?_
    rfl
   ·have hj:j<1:=hj
    obtain rfl:j = 0:=by omega
    show [v 0] = [T.nils]
    rw [ep]; rfl
  | succ k =>
   have hl:=hk (k+1) hn.symm
   have ep:=ep (k+1) hn
   refine Step.mkC (A:=A18) (m:=0) none_ok rfl rfl (l:=l7i x C ln h .nils b 0 (rwO 0 (k+1)) (rwB (yO C 0) (k+1))) (loops1 (loopF_ok hx _)) [2] (v1:=[.reg [chV C ln h],.own 2 0 0 1 none,.int .i64 b,.int .i64 1]) (h1:=[lbk k (yO C 0),tB (pO k),nwB (pO k)]) ?_ (by kernel_rfl) (v2:=v7 C ln h b 1) rfl rfl fun nt=>.same (.cons ⟨rfl,rfl,rfl,id,fun j hj=>?_⟩ .nil)
   ·refine (o7b C ln h k a b (yO C 0) x).trans ?_
    clear hren hk
    refine BS ?_
    refine BS ?_
    refine BF ?_
    refine bift (loopF_yes hx hl) ?_
    rfl
   ·have hj:j<1:=hj
    obtain rfl:j = 0:=by omega
    show [v 0] = [ren0 [2] _ (pO k)]
    unfold pO
    rw [ren0_lbk rfl rfl rfl,ep]; rfl
 | succ i =>
  have hl:=in7b (C:=C) (ln:=ln) (by omega:h<=1000) hi (by omega) a (pvO C ln) fun σ hp e=>hren σ hp e
  generalize otC C (i+1) a (ln (i+1)) = b at *
  have hk:∀ n,n = ln (i+1)->LoopOk P18 G18 (A18 7) 7 12 (litS (v7i C ln h (ppO (i+1)) a (i+1) .nils 0) (ppB (pvO C ln) (i+1)) (.exit 2) (x7i C ln h (ppO (i+1)) b (i+1) (rwO 1 n)) (ppB (pvO C ln) (i+1) ++ rwB (yO C (i+1)) n)):=fun n hn=>by rw [hn]; exact hl
  clear hl
  generalize pvO C ln = v at *
  cases hn:ln (i+1) with
  | zero =>
   have hl:=hk 0 hn.symm
   have ep:=ep 0 hn
   refine Step.mkC (A:=A18) (m:=0) none_ok rfl rfl (l:=l7i x C ln h (ppO (i+1)) b (i+1) .nils (ppB v (i+1))) (loops1 (loopF_ok hx _)) [0] (v1:=v7 C ln h b (i+1+1)) (h1:=[gB v .nils i,tB .nils]) ?_ (by kernel_rfl) (v2:=v7 C ln h b (i+1+1)) rfl rfl fun nt=>.same (.cons ⟨rfl,rfl,rfl,id,fun j hj=>gB_same (fun e=>hren _ _ e) ep.symm hj⟩ .nil)
   rw [o7c,up1 (by omega)]
   clear hren hk
   refine BS ?_
   refine BS ?_
   refine BF ?_
   refine bift (loopF_yes hx hl) ?_
   (repeat (first | refine BS ?_ | refine BF ?_))
   rfl
  | succ k =>
   have hl:=hk (k+1) hn.symm
   have ep:=ep (k+1) hn
   refine Step.mkC (A:=A18) (m:=0) none_ok rfl rfl (l:=l7i x C ln h (ppO (i+1)) b (i+1) (rwO 1 (k+1)) (ppB v (i+1) ++ rwB (yO C (i+1)) (k+1))) (loops1 (loopF_ok hx _)) [0] (v1:=v7 C ln h b (i+1+1)) (h1:=[gB v (.own 1 k 0 (k+1) none) i,lbk k (yO C (i+1)),tB (.own 1 k 0 (k+1) none)]) ?_ (by kernel_rfl) (v2:=v7 C ln h b (i+1+1)) rfl rfl fun nt=>.same (.cons ⟨rfl,rfl,rfl,id,fun j hj=>gB_same (fun e=>hren _ _ e) ?_ hj⟩ .nil)
   ·rw [o7d,up1 (by omega)]
    clear hren hk
    refine BS ?_
    refine BS ?_
    refine BF ?_
    refine bift (loopF_yes hx hl) ?_
    (repeat (first | refine BS ?_ | refine BF ?_))
    rfl
   ·rw [ren0_lbk rfl rfl rfl,ep]
    rfl
theorem weakP (v w:Nat->T) (hs:∀ e,SimI (v e) (w e)) (Gl:Nat->Option (List T)) (prom:List Nat) (nt:Nat) (l:List Nat) (vs:List T):∀ n,WeakTo Gl prom nt l 0 vs (ppB v n) vs (ppB w n)
 | 0=>.refl _ _
 | n+1=>.simAll rfl (fun i x y h1 h2=>by rw [h1] at h2; obtain rfl:=Option.some.inj h2; exact .refl _) (.cons ⟨rfl,rfl,rfl⟩ (fun h=>by cases h) (fun j _=>.cons (hs j) .nil) .nil)
def kvO (C:Nat->Nat->Sti) (ln:Nat->Nat) (e:Nat):T:=rowV (yO C e) (ln e) none
theorem pvO_sim (C:Nat->Nat->Sti) (ln:Nat->Nat) (e:Nat):SimI (pvO C ln e) (kvO C ln e):=by
 unfold pvO kvO
 by_cases q:ln e = 0
 ·rw [q]; exact .inr ⟨rfl,.nilv _ _ (.inl rfl),rfl⟩
 ·rw [show (ln e==0) = false by simpa using q]; exact .inl rfl
theorem Last.weak {P:Program} {Gl:Nat->Option (List T)} {an:Ann} {f r k:Nat} {vs v1 v2:List T} {h h1 h2:Heap} {e:Ex} (l:Last P Gl an f r k vs h e v1 h1) (hw:∀ nt,WeakTo Gl an.prom nt (an.live r true) k v1 h1 v2 h2):Last P Gl an f r k vs h e v2 h2:=by
 obtain ⟨he,a,b,c,d⟩:=l
 exact ⟨he,a,b,c,fun nt=>(d nt).trans (hw nt)⟩
theorem scan7 (hh:h<=40):(allB (fun i=>decide (ln i<=40)) h = true->LoopOk P18 G18 (A18 7) 7 6 (litS (v7 C ln h 0 0) [] (.exit 0) [.reg [chV C ln h],.undef,ppO h,.int .i64 (otR C ln h)] (ppB (kvO C ln) h))) ∧
 (allB (fun i=>decide (ln i<=40)) h = false->∃ e v H,(e = .ret/\∃ p a,v = [.reg [chV C ln h],.bool true,p,.int .i64 a])/\LoopOk P18 G18 (A18 7) 7 6 (litS (v7 C ln h 0 0) [] e v H)):=by
 obtain ⟨x,hx⟩:=is_loop P18 G18 (A18 7) 7 12
 refine loop_scanE hm18 (by kernel_rfl) (fun i=>v7 C ln h (otR C ln i) i) (fun i=>ppB (pvO C ln) i) (fun i=>decide (ln i<=40)) (n:=h) _ (fun i hi _ hg=>step7 hh hi (of_decide_eq_true hg)) (fun i hi _ hg=>?_) (fun _=>?_)
 ·have hg:¬ ln i<=40:=of_decide_eq_false hg
  refine ⟨.ret,_,ppB (pvO C ln) i,⟨rfl,ppO i,otR C ln i,rfl⟩,?_⟩
  generalize otR C ln i = a at *
  cases i with
  | zero =>
   refine Last.mk0 (A:=A18) (m:=0) none_ok rfl rfl (l:=l7i x C ln h .nils 0 0 .nils []) (loops1 (loopF_ok hx _)) (h1:=[]) (by simp) ?_ .nil
   refine (o7a C ln h a 0 x).trans ?_
   (repeat (first | refine BS ?_ | refine BF ?_))
   rfl
  | succ i =>
   generalize pvO C ln = v at *
   refine Last.mk0 (A:=A18) (m:=0) none_ok rfl rfl (l:=l7i x C ln h (ppO (i+1)) 0 (i+1) .nils (ppB v (i+1))) (loops1 (loopF_ok hx _)) (h1:=ppB v (i+1)) (by simp) ?_ (.refl _)
   rw [o7c]
   (repeat (first | refine BS ?_ | refine BF ?_))
   rfl
 ·have e0:∀ n,n = h->Last P18 G18 (A18 7) 7 6 0 (v7 C ln h (otR C ln n) n) (ppB (pvO C ln) n) (.exit 0) [.reg [chV C ln h],.undef,ppO n,.int .i64 (otR C ln n)] (ppB (pvO C ln) n):=fun n hn=>by
   generalize otR C ln n = a at *
   cases n with
   | zero =>
    refine Last.mk0 (A:=A18) (m:=0) none_ok rfl rfl (l:=l7i x C ln h .nils 0 0 .nils []) (loops1 (loopF_ok hx _)) (h1:=[]) (by simp) ?_ .nil
    refine (o7a C ln h a 0 x).trans ?_
    refine BF ?_
    rfl
   | succ i =>
    generalize pvO C ln = v at *
    refine Last.mk0 (A:=A18) (m:=0) none_ok rfl rfl (l:=l7i x C ln h (ppO (i+1)) 0 (i+1) .nils (ppB v (i+1))) (loops1 (loopF_ok hx _)) (h1:=ppB v (i+1)) (by simp) ?_ (.refl _)
    rw [o7c]
    refine BF ?_
    rfl
  exact (e0 h rfl).weak fun nt=>weakP _ _ (pvO_sim C ln) _ _ _ _ _ h
theorem otC_all {i:Nat} {ot:Int} (h0:ot = 0 ∨ ot = 1):∀ k,(otC C i ot k = if ot = 0/\allB (kO C i) k = true then 0 else 1)
 | 0=>by
  rcases h0 with rfl | rfl
  ·rfl
  ·rfl
 | k+1=>by
  by_cases q:(C i k).k = 1
  ·rw [otC_t q,otC_all h0 k]
   rw [show allB (kO C i) (k+1) = (allB (kO C i) k&&kO C i k) from rfl,show kO C i k = true from dT q,Bool.and_true]
  ·rw [otC_f q]
   rw [show allB (kO C i) (k+1) = (allB (kO C i) k&&kO C i k) from rfl,show kO C i k = false from dF q,Bool.and_false,if_neg (by simp)]
theorem otR_all:∀ n,otR C ln n = if allB (kOr C ln) n = true then 0 else 1
 | 0=>rfl
 | n+1=>by
  have ih:=otR_all n
  have h0:otR C ln n = 0 ∨ otR C ln n = 1:=by rw [ih]; by_cases q:allB (kOr C ln) n = true <;> simp [q]
  show otC C n (otR C ln n) (ln n) = _
  rw [otC_all h0,ih]
  show _ = if (allB (kOr C ln) n&&allB (kO C n) (ln n)) = true then (0:Int) else 1
  cases allB (kOr C ln) n <;> cases allB (kO C n) (ln n) <;> rfl
end
open Go.Proofs
noncomputable def K7 (p22 p23 p21 p16 p12:List T->T->Prop) (r22 r23:T) (e:Int):Orc :=
 ((((noneO.add 22 (callF p22 fun _=>some r22)).add 23 (callF p23 fun _=>some r23)).add 21 (callF p21 fun _=>some (.int .i64 e))).add 16 (callF p16 fun _=>some (.int .i64 0))).add 12 (callF p12 fun _=>some (.bool true))
noncomputable def l7 (x:List T->Heap->Ex->List T->Heap->Prop) (C:Nat->Nat->Sti) (ln:Nat->Nat) (h:Nat) (p:T) (o:Int) (hp:Heap):List (Nat × (List T->Heap->LT)):=[(6,loopF x (.ret (.exit 0) [.reg [chV C ln h],.undef,p,.int .i64 o] hp))]
noncomputable def l7r (x:List T->Heap->Ex->List T->Heap->Prop) (v:List T) (hp:Heap):List (Nat × (List T->Heap->LT)):=[(6,loopF x (.ret .ret v hp))]
section
variable (C:Nat->Nat->Sti) (ln:Nat->Nat) (h:Nat) (a o e e2:Int) (v:Nat->T) (y:Nat->Nat->Int) (hp:Heap) (p:T) (x:List T->Heap->Ex->List T->Heap->Prop) (p22 p23 p21 p16 p12:List T->T->Prop)
theorem k7r:stepL P18 G18 A18 noneO 0 7 (l7r x [.reg [chV C ln h],.bool true,p,.int .i64 a] hp) [.agg [chV C ln h]] =
(
 bif decide (40<Int.ofNat h) then
 some (.bool true)
 else
 bif decF (x [.reg [chV C ln h],.nils,.int .i64 0,.int .i64 0] [] .ret [.reg [chV C ln h],.bool true,p,.int .i64 a] hp) then
 some (.bool true)
 else
 none):=by kernel_rfl
theorem k7z:stepL P18 G18 A18 (K7 p22 p23 p21 p16 p12 (.tup [.nils,.int .i64 1]) (.tup [.nils,.int .i64 1]) 0) 0 7 (l7 x C ln 0 .nils 0 []) [.agg [chV C ln 0]] =
(
 bif decF (x [.reg [chV C ln (0:Nat)],.nils,.int .i64 0,.int .i64 0] [] (.exit 0) [.reg [chV C ln (0:Nat)],.undef,.nils,.int .i64 0] []) then
 bif decF (p22 [.agg [chV C ln (0:Nat)]] (.tup [.nils,.int .i64 1])) then
 bif decF (p23 [.agg [chV C ln (0:Nat)]] (.tup [.nils,.int .i64 1])) then
 bif decF (p12 [] (.bool true)) then
 some (.bool true)
 else none else none else none else
 none):=by kernel_rfl
theorem k7b:stepL P18 G18 A18 (K7 p22 p23 p21 p16 p12 (.tup [.nils,.int .i64 e2]) (.tup [.nils,.int .i64 e2]) 0) 0 7 (l7 x C ln (h+1) (ppO (h+1)) o (ppB (kvO C ln) (h+1))) [.agg [chV C ln (h+1)]] =
(
 bif decide (40<Int.ofNat (h+1)) then
 some (.bool true)
 else
 bif decF (x [.reg [chV C ln (h+1)],.nils,.int .i64 0,.int .i64 0] [] (.exit 0) [.reg [chV C ln (h+1)],.undef,pO h,.int .i64 o] [pbk h fun e=>kvO C ln e]) then
 bif decF (p22 [.agg [chV C ln (h+1)]] (.tup [.nils,.int .i64 e2])) then
 bif decF (p23 [.agg [chV C ln (h+1)]] (.tup [.nils,.int .i64 e2])) then
 bif decide (e2 = 0) then
 bif decide (o = 1) then
 bif !decide (e2 = 7) then
 some (.bool false)
 else
 bif decF (p12 [] (.bool true)) then
 some (.bool true)
 else none else
 bif decide (e2 = 0) then
 bif decF (p21 [bif h==h&&((0:Nat)+(h+(1:Nat))).ble (h+1) then pgV (fun i j=>(C ((0:Nat)+i) j).y) (fun i=>ln (0+i)) (h+1) (fun i =>
 none) none else .undef] (.int .i64 0)) then
 bif !decide (e2 = 0) then
 some (.bool false)
 else
 bif decF (p16 [bif h==h&&((0:Nat)+(h+(1:Nat))).ble (h+1) then pgV (fun i j=>(C ((0:Nat)+i) j).y) (fun i=>ln (0+i)) (h+1) (fun i =>
 none) none else .undef,.nils] (.int .i64 0)) then
 bif decF (p12 [] (.bool true)) then
 some (.bool true)
 else none else none else none else
 bif !decide (e2 = e2) then
 some (.bool false)
 else
 bif !decide (e2 = 0) then
 bif decF (p12 [] (.bool true)) then
 some (.bool true)
 else none else
 bif decF (p16 [bif h==h&&((0:Nat)+(h+(1:Nat))).ble (h+1) then pgV (fun i j=>(C ((0:Nat)+i) j).y) (fun i=>ln (0+i)) (h+1) (fun i =>
 none) none else .undef,.nils] (.int .i64 0)) then
 bif decF (p12 [] (.bool true)) then
 some (.bool true)
 else none else none else
 bif decide (e2 = 0) then
 bif decF (p21 [bif h==h&&((0:Nat)+(h+(1:Nat))).ble (h+1) then pgV (fun i j=>(C ((0:Nat)+i) j).y) (fun i=>ln (0+i)) (h+1) (fun i =>
 none) none else .undef] (.int .i64 0)) then
 bif !decide (e2 = 0) then
 some (.bool false)
 else
 bif decF (p16 [bif h==h&&((0:Nat)+(h+(1:Nat))).ble (h+1) then pgV (fun i j=>(C ((0:Nat)+i) j).y) (fun i=>ln (0+i)) (h+1) (fun i =>
 none) none else .undef,.nils] (.int .i64 0)) then
 bif decF (p12 [] (.bool true)) then
 some (.bool true)
 else none else none else none else
 bif !decide (e2 = e2) then
 some (.bool false)
 else
 bif !decide (e2 = 0) then
 bif decF (p12 [] (.bool true)) then
 some (.bool true)
 else none else
 bif decF (p16 [bif h==h&&((0:Nat)+(h+(1:Nat))).ble (h+1) then pgV (fun i j=>(C ((0:Nat)+i) j).y) (fun i=>ln (0+i)) (h+1) (fun i =>
 none) none else .undef,.nils] (.int .i64 0)) then
 bif decF (p12 [] (.bool true)) then
 some (.bool true)
 else none else none else none else none else
 none):=by kernel_rfl
theorem k7c:stepL P18 G18 A18 (K7 p22 p23 p21 p16 p12 (.tup [.nils,.int .i64 e2]) (.tup [lvT C ln (h+1),.int .i64 0]) e) 0 7 (l7 x C ln (h+1) (ppO (h+1)) o (ppB (kvO C ln) (h+1))) [.agg [chV C ln (h+1)]] =
(
 bif decide (40<Int.ofNat (h+1)) then
 some (.bool true)
 else
 bif decF (x [.reg [chV C ln (h+1)],.nils,.int .i64 0,.int .i64 0] [] (.exit 0) [.reg [chV C ln (h+1)],.undef,pO h,.int .i64 o] [pbk h fun e=>kvO C ln e]) then
 bif decF (p22 [.agg [chV C ln (h+1)]] (.tup [.nils,.int .i64 e2])) then
 bif decF (p23 [.agg [chV C ln (h+1)]] (.tup [lvT C ln (h+1),.int .i64 0])) then
 bif decide (o = 1) then
 bif !decide (e2 = 7) then
 some (.bool false)
 else
 bif decF (p12 [] (.bool true)) then
 some (.bool true)
 else none else
 bif decF (p21 [bif h==h&&((0:Nat)+(h+(1:Nat))).ble (h+1) then pgV (fun i j=>(C ((0:Nat)+i) j).y) (fun i=>ln (0+i)) (h+1) (fun i =>
 none) none else .undef] (.int .i64 e)) then
 bif !decide (e2 = e) then
 some (.bool false)
 else
 bif !decide (e = 0) then
 bif decF (p12 [] (.bool true)) then
 some (.bool true)
 else none else
 bif decF (p16 [bif h==h&&((0:Nat)+(h+(1:Nat))).ble (h+1) then pgV (fun i j=>(C ((0:Nat)+i) j).y) (fun i=>ln (0+i)) (h+1) (fun i =>
 none) none else .undef,.nils] (.int .i64 0)) then
 bif decF (p12 [] (.bool true)) then
 some (.bool true)
 else none else none else none else none else none else
 none):=by kernel_rfl
theorem k7d:stepL P18 G18 A18 (K7 p22 p23 p21 p16 p12 (.tup [pgV y ln (h+1) (fun i=>some (ln i)) (some (h+1)),.int .i64 0]) (.tup [lvT C ln (h+1),.int .i64 0]) e) 0 7 (l7 x C ln (h+1) (ppO (h+1)) o (ppB (kvO C ln) (h+1))) [.agg [chV C ln (h+1)]] =
(
 bif decide (40<Int.ofNat (h+1)) then
 some (.bool true)
 else
 bif decF (x [.reg [chV C ln (h+1)],.nils,.int .i64 0,.int .i64 0] [] (.exit 0) [.reg [chV C ln (h+1)],.undef,pO h,.int .i64 o] [pbk h fun e=>kvO C ln e]) then
 bif decF (p22 [.agg [chV C ln (h+1)]] (.tup (v21 y ln (h+1) (fun i =>
 some (ln i)) (some (h+1)) (nat_lit 0)))) then
 bif decF (p23 [.agg [chV C ln (h+1)]] (.tup [lvT C ln (h+1),.int .i64 0])) then
 bif decide (o = 1) then
 some (.bool false)
 else
 bif decF (p21 [bif h==h&&((0:Nat)+(h+(1:Nat))).ble (h+1) then pgV (fun i j=>(C ((0:Nat)+i) j).y) (fun i=>ln (0+i)) (h+1) (fun i =>
 none) none else .undef] (.int .i64 e)) then
 bif !decide (0 = e) then
 some (.bool false)
 else
 bif !decide (e = 0) then
 some (.bool false)
 else
 bif decF (p16 [bif h==h&&((0:Nat)+(h+(1:Nat))).ble (h+1) then pgV (fun i j=>(C ((0:Nat)+i) j).y) (fun i=>ln (0+i)) (h+1) (fun i =>
 none) none else .undef,pgV y ln (h+1) (fun i =>
 some (ln i)) (some (h+1))] (.int .i64 0)) then
 bif decF (p12 [] (.bool true)) then
 some (.bool true)
 else none else none else none else none else none else
 none):=by kernel_rfl
end
theorem law7 (C:Nat->Nat->Sti) (ln:Nat->Nat) (h:Nat) (hC:∀ i j,(C i j).Ok):ToldOk P18 G18 7 [.agg [chV C ln h]] (.bool true):=by
 obtain ⟨x,hx⟩:=is_loop P18 G18 (A18 7) 7 6
 by_cases h40:40<h
 ·refine stepL_told hm18 hn18 none_ok (A:=A18) (m:=0) (l:=l7r x [.reg [chV C ln h],.bool true,.nils,.int .i64 0] []) (by kernel_rfl) (loops1 (loopF_ok hx _)) ?_
  rw [k7r]
  clear hC
  refine BS ?_
  rfl
 cases q:allB (fun i=>decide (ln i<=40)) h
 ·obtain ⟨_,_,hp,⟨rfl,p,a,rfl⟩,hl⟩:=(scan7 (C:=C) (by omega:h<=40)).2 q
  refine stepL_told hm18 hn18 none_ok (A:=A18) (m:=0) (l:=l7r x [.reg [chV C ln h],.bool true,p,.int .i64 a] hp) (by kernel_rfl) (loops1 (loopF_ok hx _)) ?_
  rw [k7r]
  clear hC
  refine BF ?_
  refine BS ?_
  rfl
 have hl:=(scan7 (C:=C) (by omega:h<=40)).1 q
 have hln:∀ i,i<h->ln i<=40:=fun i hi=>of_decide_eq_true ((allB_iff _ _).1 q i hi)
 clear q
 obtain ⟨p22,hp22⟩:=is_val P18 G18 22
 obtain ⟨p23,hp23⟩:=is_val P18 G18 23
 obtain ⟨p21,hp21⟩:=is_val P18 G18 21
 obtain ⟨p16,hp16⟩:=is_val P18 G18 16
 obtain ⟨p12,hp12⟩:=is_val P18 G18 12
 have hK:∀ r22 r23 e,OrcOk P18 G18 (K7 p22 p23 p21 p16 p12 r22 r23 e):=fun r22 r23 e=>told_add (told_add (told_add (told_add (told_add none_ok (callF_told hp22)) (callF_told hp23)) (callF_told hp21)) (callF_told hp16)) (callF_told hp12)
 have t22:=ofGT C ln h (by omega) (fun i hi=>by have:=hln i hi; omega) hC
 have t23:=refChartT C ln h (by omega) (fun i hi=>by have:=hln i hi; omega) hC
 have t12:=livesT
 have hy:∀ i j,0<=yO C i j/\yO C i j<256:=fun i j=>(hC i j).y
 cases h with
 | zero =>
  have e1:chkE C ln 0 = 1:=rfl
  have e2:ofE C ln 0 = 1:=rfl
  rw [e2,if_neg (by omega)] at t22
  rw [e1,if_neg (by omega)] at t23
  refine stepL_told hm18 hn18 (hK (.tup [.nils,.int .i64 1]) (.tup [.nils,.int .i64 1]) 0) (A:=A18) (m:=0) (l:=l7 x C ln 0 .nils 0 []) (by kernel_rfl) (loops1 (loopF_ok hx _)) ?_
  rw [k7z]
  clear hC hy
  refine bift (loopF_yes hx hl) ?_
  (repeat (first | refine BS ?_ | refine BF ?_))
  rfl
 | succ h =>
  have t21:=refCheckT (R:=yO C) (ln:=ln) (h:=h+1) (rc:=fun _=>none) (c:=none) (by omega) (fun i hi=>by have:=hln i hi; omega) fun i _ j _=>hy i j
  have t16:=differGT (yO C) (yO C) ln ln (h+1) (h+1) (fun _=>none) (fun i=>some (ln i)) none (some (h+1)) (by omega) (fun i _ j _=>hy i j) fun i _ j _=>hy i j
  rw [(eqP_iff _ _ _ _ _ _).2 ⟨rfl,fun i _=>⟨rfl,fun _ _=>rfl⟩⟩] at t16
  have ep:(bif h==h&&Nat.ble (0+(h+1)) (h+1) then pgV (fun i j=>(C (0+i) j).y) (fun i=>ln (0+i)) (h+1) (fun i=>none) none else T.undef) = pgV (yO C) ln (h+1) (fun _=>none) none:=by
   rw [beq_self_eq_true,bleT (by omega)]
   simp only [Nat.zero_add]
   rfl
  have eo:=otR_all (C:=C) (ln:=ln) (h+1)
  have eE:ofE C ln (h+1) = if chkE C ln (h+1) ≠ 0 then chkE C ln (h+1) else if allB (kOr C ln) (h+1) = false then 7 else pcE (yO C) ln (h+1):=rfl
  clear hy hC hln
  by_cases hc:chkE C ln (h+1) = 0
  ·rw [if_neg (by omega)] at eE
   rw [if_pos hc] at t23
   cases hk:allB (kOr C ln) (h+1)
   ·rw [hk] at eE eo
    have eE:ofE C ln (h+1) = 7:=eE
    have eo:otR C ln (h+1) = 1:=eo
    rw [eE,if_neg (by omega)] at t22
    rw [eo] at hl
    refine stepL_told hm18 hn18 (hK (.tup [.nils,.int .i64 7]) (.tup [lvT C ln (h+1),.int .i64 0]) 0) (A:=A18) (m:=0) (l:=l7 x C ln (h+1) (ppO (h+1)) 1 (ppB (kvO C ln) (h+1))) (by kernel_rfl) (loops1 (loopF_ok hx _)) ?_
    rw [k7c]
    clear t21 t16 ep hc hk eE eo
    refine BF ?_
    refine bift (loopF_yes hx hl) ?_
    (repeat (first | refine BS ?_ | refine BF ?_))
    rfl
   ·rw [hk] at eE eo
    have eE:ofE C ln (h+1) = pcE (yO C) ln (h+1):=eE
    have eo:otR C ln (h+1) = 0:=eo
    rw [eo] at hl
    rw [eE] at t22
    generalize pcE (yO C) ln (h+1) = e at *
    by_cases he:e = 0
    ·subst he
     rw [if_pos rfl] at t22
     refine stepL_told hm18 hn18 (hK (.tup [pgV (yO C) ln (h+1) (fun i=>some (ln i)) (some (h+1)),.int .i64 0]) (.tup [lvT C ln (h+1),.int .i64 0]) 0) (A:=A18) (m:=0) (l:=l7 x C ln (h+1) (ppO (h+1)) 0 (ppB (kvO C ln) (h+1))) (by kernel_rfl) (loops1 (loopF_ok hx _)) ?_
     rw [k7d,ep]
     clear ep hc hk eE eo
     refine BF ?_
     refine bift (loopF_yes hx hl) ?_
     refine bift (callF_yes hp22 t22) ?_
     refine BS ?_
     refine BF ?_
     refine BS ?_
     refine BF ?_
     refine BF ?_
     refine bift (callF_yes hp16 t16) ?_
     (repeat (first | refine BS ?_ | refine BF ?_))
     rfl
    ·rw [if_neg he] at t22
     refine stepL_told hm18 hn18 (hK (.tup [.nils,.int .i64 e]) (.tup [lvT C ln (h+1),.int .i64 0]) e) (A:=A18) (m:=0) (l:=l7 x C ln (h+1) (ppO (h+1)) 0 (ppB (kvO C ln) (h+1))) (by kernel_rfl) (loops1 (loopF_ok hx _)) ?_
     rw [k7c,ep]
     clear ep hc hk eE eo
     refine BF ?_
     refine bift (loopF_yes hx hl) ?_
     (repeat (first | refine BS ?_ | refine BF ?_))
     rfl
  ·rw [if_pos hc] at eE
   rw [eE,if_neg hc] at t22
   rw [if_neg hc] at t23
   generalize chkE C ln (h+1) = e at *
   generalize otR C ln (h+1) = o at *
   refine stepL_told hm18 hn18 (hK (.tup [.nils,.int .i64 e]) (.tup [.nils,.int .i64 e]) 0) (A:=A18) (m:=0) (l:=l7 x C ln (h+1) (ppO (h+1)) o (ppB (kvO C ln) (h+1))) (by kernel_rfl) (loops1 (loopF_ok hx _)) ?_
   rw [k7b]
   clear t21 t16 ep eE eo
   refine BF ?_
   refine bift (loopF_yes hx hl) ?_
   (repeat (first | refine BS ?_ | refine BF ?_))
   rfl
open Go.Proofs
section
variable {Hp:Type}
theorem inv5_18 {ts:List T} {d:DataW Hp} (h:CT P18 5 ts d):∃ a:Int,ts = [.int .u8 a]/\0<=a/\a<256:=by
 obtain ⟨a,rfl,rfl,w⟩:=h.int_inv Try.underlying5
 have w:=wf_u8 w
 exact ⟨a,rfl,by omega,by omega⟩
end
open Go.Proofs
section
variable {Hp:Type}
theorem agg54_18:aggTy P18 54 = true:=by kernel_rfl
theorem cells58_18:P18.cellsOf 58 = 5:=by kernel_rfl
theorem cells55_18:P18.cellsOf 55 = 1:=by kernel_rfl
theorem inv56_18 {ts:List T} {d:DataW Hp} (h:CT P18 56 ts d):∃ a:Int,ts = [.int .u8 a]/\0<=a/\a<256:=by
 obtain ⟨a,rfl,rfl,w⟩:=h.int_inv Try.underlying56
 have w:=wf_u8 w
 exact ⟨a,rfl,by omega,by omega⟩
theorem inv3_18 {ts:List T} {d:DataW Hp} (h:CT P18 3 ts d):∃ a:Int,ts = [.int .i64 a]/\-9223372036854775808<=a/\a<=9223372036854775807:=by
 obtain ⟨a,rfl,rfl,w⟩:=h.int_inv Try.underlying3
 exact ⟨a,rfl,wf_i64 w⟩
theorem sti18 {ts:List T} {d:DataW Hp} (h:CT P18 58 ts d):∃ s:Sti,ts = s.c/\s.Ok:=by
 obtain ⟨parts,ds,rfl,rfl,hs⟩:=CT.struct_inv Try.underlying58 h; clear h; rename _=>h
 change CTs P18 [56,5,3,3,4] parts ds at h
 obtain ⟨p1,_,d1,_,rfl,rfl,h1,h⟩:=h.cons
 obtain ⟨p2,_,d2,_,rfl,rfl,h2,h⟩:=h.cons
 obtain ⟨p3,_,d3,_,rfl,rfl,h3,h⟩:=h.cons
 obtain ⟨p4,_,d4,_,rfl,rfl,h4,h⟩:=h.cons
 obtain ⟨p5,_,d5,_,rfl,rfl,h5,h⟩:=h.cons
 obtain ⟨rfl,rfl⟩:=h.nil
 obtain ⟨k,rfl,k1⟩:=inv56_18 h1
 obtain ⟨y,rfl,y1⟩:=inv5_18 h2
 obtain ⟨a,rfl,a1⟩:=inv3_18 h3
 obtain ⟨b,rfl,b1⟩:=inv3_18 h4
 obtain ⟨f,rfl,_⟩:=h5.bool_inv Try.underlying4
 exact ⟨⟨k,y,a,b,f⟩,rfl,k1,y1,a1,b1⟩
theorem sti0:(⟨1,1,0,0,false⟩:Sti).Ok:=⟨by decide,by decide,by decide,by decide⟩
theorem strow18 {ts:List T} {d:DataW Hp} (h:CT P18 55 ts d):∃ (r:Nat->Sti) (n:Nat),(∀ j,(r j).Ok)/\∃ x,ts = [x]/\Sim x (srV r n none):=by
 rcases h.slice_inv Try.underlying55 (by rw [cells58_18]; omega) with ⟨rfl,rfl⟩ | ⟨n,c,g,elems,spare,rfl,rfl,he,hs,hn,hc,hg⟩
 ·exact ⟨fun _=>⟨1,1,0,0,false⟩,0,fun _=>sti0,_,rfl,.nilv _ _ (.inl rfl)⟩
 ·have key:∀ j,∃ s:Sti,s.Ok/\(j<n->g j = s.c):=fun j=>by
   by_cases hj:j<n
   ·obtain ⟨s,h1,h2⟩:=sti18 (hg j elems[j] (by simp [show j<elems.length by omega]))
    exact ⟨s,h2,fun _=>h1⟩
   ·exact ⟨_,sti0,fun h=>absurd h hj⟩
  refine ⟨fun j=>(key j).choose,n,fun j=>(key j).choose_spec.1,_,rfl,?_⟩
  rw [cells58_18]
  refine .view (.inr rfl) fun j hj=>?_
  rw [(key j).choose_spec.2 hj]
  exact .refl _
theorem stch18 {ts:List T} {d:DataW Hp} (h:CT P18 52 ts d):∃ (C:Nat->Nat->Sti) (ln:Nat->Nat) (m:Nat),(∀ i j,(C i j).Ok)/\∃ x,ts = [x]/\Sim x (chV C ln m):=by
 rcases h.slice_inv Try.underlying52 (by rw [cells55_18]; omega) with ⟨rfl,rfl⟩ | ⟨n,c,g,elems,spare,rfl,rfl,he,hs,hn,hc,hg⟩
 ·exact ⟨fun _ _=>⟨1,1,0,0,false⟩,fun _=>0,0,fun _ _=>sti0,_,rfl,.nilv _ _ (.inl rfl)⟩
 ·have key:∀ j,∃ (r:Nat->Sti) (l:Nat),(∀ k,(r k).Ok)/\(j<n->∃ x,g j = [x]/\Sim x (srV r l none)):=fun j=>by
   by_cases hj:j<n
   ·obtain ⟨r,l,h1,x,h2,h3⟩:=strow18 (hg j elems[j] (by simp [show j<elems.length by omega]))
    exact ⟨r,l,h1,fun _=>⟨x,h2,h3⟩⟩
   ·exact ⟨fun _=>_,0,fun _=>sti0,fun h=>absurd h hj⟩
  refine ⟨fun j=>(key j).choose,fun j=>(key j).choose_spec.choose,n,fun i=>(key i).choose_spec.choose_spec.1,_,rfl,?_⟩
  rw [cells55_18]
  refine .view (.inr rfl) fun j hj=>?_
  obtain ⟨x,h2,h3⟩:=(key j).choose_spec.choose_spec.2 hj
  rw [h2]
  exact .cons h3 .nil
theorem inv54_18 {ts:List T} {d:DataW Hp} (h:CT P18 54 ts d):∃ (C:Nat->Nat->Sti) (ln:Nat->Nat) (m:Nat),(∀ i j,(C i j).Ok)/\Sim (topT P18 54 ts) (.agg [chV C ln m]):=by
 obtain ⟨parts,ds,rfl,rfl,hs⟩:=CT.struct_inv Try.underlying54 h; clear h; rename _=>h
 change CTs P18 [52] parts ds at h
 obtain ⟨p1,_,d1,_,rfl,rfl,h1,h⟩:=h.cons
 obtain ⟨rfl,rfl⟩:=h.nil
 obtain ⟨C,ln,m,a1,x,rfl,a2⟩:=stch18 h1
 refine ⟨C,ln,m,a1,?_⟩
 rw [show topT P18 54 ([[x]].flatten) = .agg [x] by simp [topT,agg54_18]]
 exact .agg (.cons a2 .nil)
end
end Go.Ab

