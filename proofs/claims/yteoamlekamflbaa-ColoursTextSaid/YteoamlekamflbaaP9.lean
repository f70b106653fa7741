/- A part of the proof: nothing is assumed. -/
import Derived.Test.YteoamlekamflbaaP5
import Derived.Test.YteoamlekamflbaaP8
import Derived.Test.YteoamlekamflbaaP6
import GoSem.Step
set_option linter.all false
namespace Go.Ab
open Go.Proofs
def rowV (r:Nat->Int) (n:Nat) (c:Option Nat):T:=.view 1 n (fun j=>[.int .u8 (r j)]) c
def srch (r:Nat->Int) (y:Int):Nat->Nat->Nat
 | 0,j=>j
 | m+1,j=>if r j = y then j else srch r y m (j+1)
def nearF (r:Nat->Int) (n i:Nat) (e:Int):Int:=if srch r e (n - i) i<n then (srch r e (n - i) i:Int)+1 else 0
def nxtF (r:Nat->Int) (n i:Nat):Int:=nearF r n (i+1) (r i) - 1
def v44 (l:Nat) (r:Nat->Int) (n:Nat) (c:Option Nat) (i:Int):List T:=[.yld l,.vp [rowV r n c],.ptr 0 0 0 0,.own 1 0 0 n (some n),.int .i64 i]
def h44 (n:Nat) (near nx:Nat->Int):Heap:=[⟨0,1,256,fun e=>[.int .i64 (near e)],true,false,none⟩,⟨0,1,n,fun e=>[.int .i64 (nx e)],true,false,none⟩]
def nearS (r:Nat->Int) (n i:Nat) (e:Nat):Int:=nearF r n i e
def nxS (r:Nat->Int) (n i:Nat) (e:Nat):Int:=if i<=e then nxtF r n e else 0
theorem srch_ge (r:Nat->Int) (y:Int):∀ m j,j<=srch r y m j/\srch r y m j<=j+m:=by
 intro m
 induction m with
 | zero=>intro j; exact ⟨Nat.le_refl _,Nat.le_refl _⟩
 | succ m ih =>
  intro j
  have:=ih (j+1)
  unfold srch
  split
  ·omega
  ·omega
theorem nearF_bd (r:Nat->Int) (n i:Nat) (e:Int) (hi:i<=n):0<=nearF r n i e/\nearF r n i e<=n:=by
 have:=srch_ge r e (n - i) i
 unfold nearF
 split <;> omega
theorem nearF_step (r:Nat->Int) (n i:Nat) (e:Int) (hi:i<n):nearF r n i e = if r i = e then (i:Int)+1 else nearF r n (i+1) e:=by
 unfold nearF
 rw [show n - i = (n - (i+1))+1 by omega,srch]
 by_cases q:r i = e
 ·rw [if_pos q,if_pos hi,if_pos q]
 ·rw [if_neg q,if_neg q]
theorem nearF_end (r:Nat->Int) (n:Nat) (e:Int):nearF r n n e = 0:=by
 unfold nearF
 rw [Nat.sub_self]
 unfold srch
 rw [if_neg (Nat.lt_irrefl _)]
theorem h44_same {n:Nat} {a b a2 b2:Nat->Int} (h1:∀ j,j<256->a j = a2 j) (h2:∀ j,j<n->b j = b2 j):SameBlks (h44 n a b) (h44 n a2 b2) :=
 .cons ⟨rfl,rfl,rfl,id,fun j hj=>by show [T.int .i64 (a2 j)] = [.int .i64 (a j)]; rw [h1 j hj]⟩ (.cons ⟨rfl,rfl,rfl,id,fun j hj=>by show [T.int .i64 (b2 j)] = [.int .i64 (b j)]; rw [h2 j hj]⟩ .nil)
theorem l44a (l:Nat) (r:Nat->Int) (n:Nat) (c:Option Nat) (hn:n<=1000) (hr:∀ j,j<n->0<=r j/\r j<256) :
 LoopOk P18 G18 (A18 44) 44 3 (litS (v44 l r n c ((n:Int) - 1)) (h44 n (nearS r n n) (nxS r n n)) (.exit 0) [.yld l,.vp [rowV r n c],.own 1 0 0 n (some n)] (h44 n (nearS r n 0) (nxS r n 0))):=by
 rw [show (n:Int) - 1 = (n:Int) - 1 - ((0:Nat):Int) by omega]
 refine loop_steps hm18 (by kernel_rfl) (fun k=>v44 l r n c ((n:Int) - 1 - k)) (fun k=>h44 n (nearS r n (n - k)) (nxS r n (n - k))) (n:=n) (fun k hk=>?_) ?_
 ·obtain ⟨i,rfl⟩:∃ i,n = i+1+k:=⟨n - 1 - k,by omega⟩
  rw [show ((i+1+k:Nat):Int) - 1 - (k:Int) = (i:Int) by omega,show ((i+1+k:Nat):Int) - 1 - ((k+1:Nat):Int) = (i:Int) - 1 by omega,show i+1+k - k = i+1 by omega,show i+1+k - (k+1) = i by omega]
  generalize hn':i+1+k = n at *
  have hi:i<n:=by omega
  have h1:=hr i hi
  have hnb:=nearF_bd r n (i+1) (r i) (by omega)
  have e1:((r i).toNat:Int) = r i:=by omega
  have hnb2:nearS r n (i+1) (r i).toNat = nearF r n (i+1) (r i):=by unfold nearS; rw [e1]
  refine Step.mk0 (A:=A18) (m:=0) none_ok rfl rfl loops0 (h1:=h44 n (fun e=>bif e==(r i).toNat then (i:Int)+1 else nearS r n (i+1) e) (fun e=>bif e==i then nearF r n (i+1) (r i) - 1 else nxS r n (i+1) e)) ?_ (h44_same (fun j hj=>?_) fun j hj=>?_)
  ·generalize nearS r n (i+1) = near at *
   generalize nxS r n (i+1) = nx at *
   refine Eq.trans (show iterR P18 G18 A18 noneO 0 44 [] 3 (v44 l r n c i) (h44 n near nx) =
(
 bif decide (0<=Int.ofNat i)&&decide (Int.ofNat i<Int.ofNat n) then
 bif decide (0<=r i)&&decide (r i<256) then
 bif ((0:Nat)+(r i).toNat).blt 256 then
 bif decide (0<=Int.ofNat i)&&decide (Int.ofNat i<Int.ofNat n) then
 bif ((0:Nat)+i).blt n&&[T.int .i64 (IntKind.i64.wrap (near ((0:Nat)+(r i).toNat) - (1:Int)))].length==(1:Nat)&&true&&true then
 bif decide (0<=Int.ofNat i)&&decide (Int.ofNat i<Int.ofNat n) then
 bif decide (0<=r i)&&decide (r i<256) then
 bif ((0:Nat)+(r i).toNat).blt 256&&[T.int .i64 (IntKind.i64.wrap (Int.ofNat i+(1:Int)))].length==(1:Nat)&&true&&true then
 some ((.normal,[T.yld l,.vp [rowV r n c],.ptr 0 0 0 0,.own 1 0 0 n (some n),.int .i64 (IntKind.i64.wrap (Int.ofNat i - 1))],[.mk 0 1 256 (fun e=>[.int .i64 (bif e==(0:Nat)+(r i).toNat then IntKind.i64.wrap (Int.ofNat i+1)
 else near e)]) true false
 none,.mk 0 1 n (fun e=>[.int .i64 (bif e==0+i then IntKind.i64.wrap (near ((0:Nat)+(r i).toNat) - (1:Int))
 else nx e)]) true false
 none]))
 else none else none else none else none else none else none else none else
 none) from by kernel_rfl) ?_
   rw [Nat.zero_add,Nat.zero_add,hnb2]
   (repeat (first | refine BT ?_ | refine BG ?_))
   rw [ofNatE,wr64 (x:=(i:Int) - 1) (by omega) (by omega),wr64 (x:=(i:Int)+1) (by omega) (by omega),wr64 (x:=nearF r n (i+1) (r i) - 1) (by omega) (by omega)]
   rfl
  ·have hs:=nearF_step r n i j hi
   show _ = nearS r n i j
   unfold nearS
   rw [hs]
   by_cases q:j = (r i).toNat
   ·subst q
    rw [beq_self_eq_true,cond_true,if_pos e1.symm]
   ·rw [show (j==(r i).toNat) = false by simpa using q,cond_false,if_neg (by omega)]
  ·show _ = nxS r n i j
   unfold nxS
   by_cases q:j = i
   ·subst q
    rw [beq_self_eq_true,cond_true,if_pos (Nat.le_refl _)]; rfl
   ·rw [show (j==i) = false by simpa using q,cond_false]
    by_cases q2:i+1<=j
    ·rw [if_pos q2,if_pos (by omega)]
    ·rw [if_neg q2,if_neg (by omega)]
 ·rw [show (n:Int) - 1 - (n:Int) = -1 by omega,Nat.sub_self]
  refine Last.mk0 (A:=A18) (m:=0) none_ok rfl rfl loops0 (h1:=h44 n (nearS r n 0) (nxS r n 0)) (by simp) ?_ (.refl _)
  generalize nearS r n 0 = near
  generalize nxS r n 0 = nx
  refine Eq.trans (show iterR P18 G18 A18 noneO 0 44 [] 3 (v44 l r n c (-1)) (h44 n near nx) =
(
 some ((.exit 0,[T.yld l,.vp [rowV r n c],.own 1 0 0 n (some n)],[.mk 0 1 256 (fun e=>[.int .i64 (near e)]) true false
 none,.mk 0 1 n (fun e=>[.int .i64 (nx e)]) true false
 none]))) from by kernel_rfl) ?_
  first | rfl | (simp (disch:=omega) only [wr64,wr8,wr16,wr32,ofNatE,Nat.zero_add,bleT,bltT,dT,dF,Bool.true_and,Bool.and_true,Bool.and_self,cond_true,cond_false,Nat.sub_zero,beq_self_eq_true]; done) | (simp (disch:=omega) only [wr64,wr8,wr16,wr32,ofNatE,Nat.zero_add,bleT,bltT,dT,dF,Bool.true_and,Bool.and_true,Bool.and_self,cond_true,cond_false,Nat.sub_zero,beq_self_eq_true]; rfl)
open Go.Proofs
def fl (r:Nat->Int) (n m:Nat):List Nat:=(List.range m).filter fun k=>decide ((k:Int)+1<nxtF r n k)
def fcells (r:Nat->Int) (n k:Nat):List T:=[.int .u8 (r k),.int .i64 ((k:Int)+1),.int .i64 (nxtF r n k - k - 1)]
def vs44 (l:Nat) (r:Nat->Int) (n:Nat) (c:Option Nat) (k:Int):List T:=[.yld l,.vp [rowV r n c],.own 1 0 0 n (some n),.int .i64 n,.int .i64 k]
theorem fl_succ (r:Nat->Int) (n k:Nat):fl r n (k+1) = if (k:Int)+1<nxtF r n k then fl r n k ++ [k] else fl r n k:=by
 unfold fl
 rw [List.range_succ,List.filter_append]
 by_cases h:(k:Int)+1<nxtF r n k
 ·rw [if_pos h]; simp [h]
 ·rw [if_neg h]; simp [h]
theorem fl_get (r:Nat->Int) (n:Nat) {k m:Nat} (h:k<m) (hk:(k:Int)+1<nxtF r n k):(fl r n m).getD (fl r n k).length 0 = k/\(fl r n k).length<(fl r n m).length:=by
 have key:∀ n2,k<n2->(fl r n n2)[(fl r n k).length]? = some k:=by
  intro n2
  induction n2 with
  | zero=>intro h; omega
  | succ n2 ih =>
   intro hn
   rw [fl_succ]
   rcases Nat.lt_or_ge k n2 with q | q
   ·have:=ih q
    split
    ·rw [List.getElem?_append_left (lt_of_get this)]; exact this
    ·exact this
   ·obtain rfl:k = n2:=by omega
    rw [if_pos hk,List.getElem?_append_right (Nat.le_refl _),Nat.sub_self]; rfl
 have:=key m h
 exact ⟨by rw [List.getD_eq_getElem?_getD,this]; rfl,lt_of_get this⟩
theorem seq44 (r:Nat->Int) (n:Nat) (c:Option Nat) (hn:n<=1000) (hr:∀ j,j<n->0<=r j/\r j<256):SeqTold P18 G18 44 [.vp [rowV r n c]] (fl r n n).length (fun i=>[.agg (fcells r n ((fl r n n).getD i 0))]):=by
 have h44a:=fun l=>l44a l r n c hn hr
 have hnb:∀ k,k<n->-1<=nxtF r n k/\nxtF r n k<n:=fun k hk=>by
  have:=nearF_bd r n (k+1) (r k) (by omega)
  unfold nxtF; omega
 have hnx:∀ k,nxS r n 0 k = nxtF r n k:=fun k=>by unfold nxS; rw [if_pos (Nat.zero_le _)]
 generalize nearS r n 0 = near at h44a
 have hnear0:nearS r n n = fun _=>0:=by funext e; unfold nearS; rw [nearF_end]
 have hnx0:SameBlks (h44 n (nearS r n n) (fun _=>0)) (h44 n (nearS r n n) (nxS r n n)):=h44_same (fun _ _=>rfl) fun j hj=>by unfold nxS; rw [if_neg (by omega)]
 rw [hnear0] at h44a hnx0
 generalize nxS r n 0 = nx at h44a hnx
 generalize nxS r n n = nx0 at h44a hnx0
 refine seq_told (prom:=[]) Try.func44 rfl (by kernel_rfl) (by kernel_rfl) (by decide +kernel) (Nat.le_of_ble_eq_true (by kernel_rfl)) fun l R J Jx hJ hJx hy X g w W hi=>?_
 refine wpIn_seq ?_
 refine It.exk (m:=0) (l:=[0,1]) (vs:=[.yld l,.vp [rowV r n c]]) (h:=[]) (l':=[0,1,3]) (vs':=[.yld l,.vp [rowV r n c],.ptr 0 0 0 0]) (h':=[⟨0,1,256,fun _=>[.int .i64 0],true,false,none⟩]) (e:=.normal) hm18 none_ok (by decide +kernel) (by kernel_rfl) (by kernel_rfl) (hJ 0) (hi.only _) fun X1 g1 a1 W1 hi1=>?_
 refine wpIn_seq ?_
 refine It.exk (m:=0) (l:=[0,1,3]) (vs:=[.yld l,.vp [rowV r n c],.ptr 0 0 0 0]) (l':=[0,1,3,4]) (vs':=[.yld l,.vp [rowV r n c],.ptr 0 0 0 0,.own 1 0 0 n (some n)]) (h':=h44 n (fun _=>0) (fun _=>0)) (e:=.normal) hm18 none_ok (by decide +kernel) ?_ (by kernel_rfl) (hJ 0) hi1 fun X2 g2 a2 W2 hi2=>?_
 ·refine Eq.trans (b:=bif decide ((0:Int)<=Int.ofNat n)&&decide (Int.ofNat n<=Int.ofNat n)&&decide (Int.ofNat n * (8:Int)<=(140737488355328:Int))&&decide (Int.ofNat n<=(9223372036854775807:Int)) then some (.normal,[.yld l,.vp [rowV r n c],.ptr 0 0 0 0,.own 1 0 0 n (some n)],h44 n (fun _=>0) (fun _=>0)) else none) (by kernel_rfl) ?_
  exact BT rfl
 refine wpIn_seq ?_
 refine It.exl' (A:=A18) (m:=0) (f:=44) hm18 none_ok Try.func44 rfl (Nat.le_of_ble_eq_true (by kernel_rfl)) (by kernel_rfl) (loops1 (h44a l)) (fun c=>sq1 (sq2 (sq2 c))) (by kernel_rfl) (fun b hb=>loops_sq2 _ _ (loops_sq2 _ _ (loops_sq1 _ _ hb))) (by kernel_rfl) (l:=[0,1,3,4]) (l':=[0,1,4]) (vs:=[.yld l,.vp [rowV r n c],.ptr 0 0 0 0,.own 1 0 0 n (some n)]) (h:=h44 n (fun _=>0) (fun _=>0))
  (vs':=[.yld l,.vp [rowV r n c],.own 1 0 0 n (some n)]) (h':=h44 n near nx) (e:=.normal) ?_ (by kernel_rfl) (hJ 0) hi2 fun X3 g3 a3 W3 hi3=>?_
 ·refine Eq.trans (show codeL P18 G18 A18 noneO 0 44 [(3,litS (v44 l r n c ((n:Int) - 1)) (h44 n (fun _=>0) nx0) (.exit 0) [.yld l,.vp [rowV r n c],.own 1 0 0 n (some n)] (h44 n near nx))] (fun c=>sq1 (sq2 (sq2 c))) [0,1,3,4] [.yld l,.vp [rowV r n c],.ptr 0 0 0 0,.own 1 0 0 n (some n)] (h44 n (fun _=>0) (fun _=>0)) [0,1,4] =
(
 bif weakF (v44 l r n c (IntKind.i64.wrap (Int.ofNat n - 1))) (h44 n (fun e=>(0:Int)) fun e=>(0:Int)) (v44 l r n c (Int.ofNat n - 1)) (h44 n (fun e=>(0:Int)) nx0) then
 some ((.normal,[T.yld l,.vp [rowV r n c],.own 1 0 0 n (some n)],h44 n near nx))
 else
 none) from by kernel_rfl) ?_
  rw [ofNatE,wr64 (x:=(n:Int) - 1) (by omega) (by omega)]
  exact bift (weakF_of ⟨rfl,hnx0⟩) rfl
 refine wpIn_seq ?_
 refine It.exk (m:=0) (l:=[0,1,4]) (vs:=[.yld l,.vp [rowV r n c],.own 1 0 0 n (some n)]) (l':=[0,1,35,36,37]) (vs':=vs44 l r n c 0) (h:=h44 n near nx) (h':=h44 n near nx) (e:=.normal) hm18 none_ok (by decide +kernel) (by kernel_rfl) (by kernel_rfl) (hJ 0) hi3 fun X4 g4 a4 W4 hi4=>?_
 refine wpIn_block ?_
 refine wpIn_loop_num (fun m a' W=>∃ (k:Nat) (X:Nat->Prop) (g:Gh),k<=n/\m = n - k/\It G18 [] Try.f44.ntmps R (J (fl r n k).length) X g (mkSt [0,1,35,36,37] (vs44 l r n c k) (h44 n near nx)) a' W) (fun m a' W hI=>?_) n a4 W4 ⟨0,X4,g4,by omega,by omega,hi4⟩
 obtain ⟨k,X5,g5,hkn,rfl,hi5⟩:=hI
 refine wpIn_seq ?_
 by_cases hlt:(k:Int)<(n:Int)
 ·have hkl:k<n:=by omega
  refine It.exk (m:=0) (l:=[0,1,35,36,37]) (vs:=vs44 l r n c k) (h:=h44 n near nx) (l':=[0,1,35,36,37,38]) (vs':=vs44 l r n c k ++ [.bool true]) (h':=h44 n near nx) (e:=.normal) hm18 none_ok (by decide +kernel) (Eq.trans (b:=bif decide ((k:Int)<n) then some (.normal,vs44 l r n c k ++ [.bool true],h44 n near nx) else some (.normal,vs44 l r n c k ++ [.bool false],h44 n near nx)) (by kernel_rfl) (by rw [decide_eq_true hlt]; rfl)) (by kernel_rfl) (hJ _) hi5 fun X6 g6 a6 W6 hi6=>?_
  refine wpIn_seq ?_
  refine It.exk (m:=0) (l:=[0,1,35,36,37,38]) (vs:=vs44 l r n c k ++ [.bool true]) (h:=h44 n near nx) (l':=[0,1,35,36,37]) (vs':=vs44 l r n c k) (h':=h44 n near nx) (e:=.normal) hm18 none_ok (by decide +kernel) (by kernel_rfl) (by kernel_rfl) (hJ _) hi6 fun X7 g7 a7 W7 hi7=>?_
  refine wpIn_seq ?_
  refine wpIn_block ?_
  refine wpIn_seq ?_
  refine It.exk (m:=0) (l:=[0,1,35,36,37]) (vs:=vs44 l r n c k) (h:=h44 n near nx) (l':=[0,1,6,7,35,36,37]) (vs':=[.yld l,.vp [rowV r n c],.int .i64 k,.int .i64 (nx k),.own 1 0 0 n (some n),.int .i64 n,.int .i64 k]) (h':=h44 n near nx) (e:=.normal) hm18 none_ok (by decide +kernel) ?_ (by kernel_rfl) (hJ _) hi7 fun X8 g8 a8 W8 hi8=>?_
  ·refine Eq.trans (b:=bif decide ((0:Int)<=Int.ofNat k)&&decide (Int.ofNat k<Int.ofNat n) then bif ((0:Nat)+k).blt n then some (.normal,[.yld l,.vp [rowV r n c],.int .i64 k,.int .i64 (nx (0+k)),.own 1 0 0 n (some n),.int .i64 n,.int .i64 k],h44 n near nx) else none else none) (by kernel_rfl) ?_
   rw [Nat.zero_add]
   (repeat (first | refine BT ?_ | refine BG ?_))
   rfl
  refine wpIn_seq ?_
  have hb:=hnb k hkl
  rw [← hnx k] at hb
  have ew1:IntKind.i64.wrap ((k:Int)+1) = (k:Int)+1:=wr64 (by omega) (by omega)
  have ew2:IntKind.i64.wrap (IntKind.i64.wrap (nx k - (k:Int)) - 1) = nx k - k - 1:=by rw [wr64 (x:=nx k - (k:Int)) (by omega) (by omega),wr64 (by omega) (by omega)]
  by_cases hab:(k:Int)+1<nx k
  ·have hab2:=hab
   rw [hnx k] at hab2
   obtain ⟨hget,hlen⟩:=fl_get r n (m:=n) hkl hab2
   refine It.yield (k:=17) (l:=[0,1,6,7,35,36,37]) (l':=[0,1,35,36,37,61]) (vs:=[.yld l,.vp [rowV r n c],.int .i64 k,.int .i64 (nx k),.own 1 0 0 n (some n),.int .i64 n,.int .i64 k]) (h:=h44 n near nx) (hT:=h44 n near nx) (hF:=h44 n near nx)
    (vsT:=vs44 l r n c k ++ [.bool false]) (vsF:=vs44 l r n c k ++ [.bool true]) none_ok (l0:=l) (xs:=[.agg (fcells r n k)]) ?_ ?_ (hJ _) (hJ ((fl r n k).length+1)) (hJx (fl r n k).length) hi8 (fun X W args hj hp=>hy (fl r n k).length X W args hlen hj (by rw [hget]; exact hp)) (fun X9 g9 a9 W9 hi9=>?_) (fun X9 g9 a9 W9 hi9=>?_)
   ·refine Eq.trans (b:=bif decide (IntKind.i64.wrap ((k:Int)+1)<nx k) then bif decide ((0:Int)<=(k:Int))&&decide ((k:Int)<n) then some (l,[.agg [.int .u8 (r k),.int .i64 (IntKind.i64.wrap ((k:Int)+1)),.int .i64 (IntKind.i64.wrap (IntKind.i64.wrap (nx k - (k:Int)) - 1))]],(vs44 l r n c k ++ [.bool false],h44 n near nx),(vs44 l r n c k ++ [.bool true],h44 n near nx)) else none else none) (by kernel_rfl) ?_
    rw [ew1,ew2]
    (repeat (first | refine BT ?_ | refine BG ?_))
    unfold fcells
    rw [← hnx k]
   ·rfl
   ·refine It.exk (m:=0) (l:=[0,1,35,36,37,61]) (vs:=vs44 l r n c k ++ [.bool false]) (h:=h44 n near nx) (l':=[0,1,35,36,37]) (vs':=vs44 l r n c k) (h':=h44 n near nx) (e:=.normal) hm18 none_ok (by decide +kernel) (by kernel_rfl) (by kernel_rfl) (hJ _) hi9 fun X10 g10 a10 W10 hi10=>?_
    refine It.exk (m:=0) (l:=[0,1,35,36,37]) (vs:=vs44 l r n c k) (h:=h44 n near nx) (l':=[0,1,35,36,37]) (vs':=vs44 l r n c (IntKind.i64.wrap ((k:Int)+1))) (h':=h44 n near nx) (e:=.normal) hm18 none_ok (by decide +kernel) (by kernel_rfl) (by kernel_rfl) (hJ _) hi10 fun X11 g11 a11 W11 hi11=>?_
    rw [ew1] at hi11
    have e1:(fl r n k).length+1 = (fl r n (k+1)).length:=by rw [fl_succ,if_pos hab2]; simp
    rw [e1] at hi11
    exact ⟨n - (k+1),by omega,k+1,X11,g11,by omega,rfl,hi11⟩
   ·refine It.exk (m:=0) (l:=[0,1,35,36,37,61]) (vs:=vs44 l r n c k ++ [.bool true]) (h:=h44 n near nx) (l':=[]) (vs':=[]) (h':=h44 n near nx) (e:=.ret) hm18 none_ok (by decide +kernel) (by kernel_rfl) (by kernel_rfl) (hJx _) hi9 fun X10 g10 a10 W10 hi10=>?_
    exact ⟨.inr rfl,X10,g10,_,.inr ⟨_,hlen,hi10⟩⟩
  ·refine It.exk (m:=0) (l:=[0,1,6,7,35,36,37]) (vs:=[.yld l,.vp [rowV r n c],.int .i64 k,.int .i64 (nx k),.own 1 0 0 n (some n),.int .i64 n,.int .i64 k]) (h:=h44 n near nx) (l':=[0,1,35,36,37,61]) (vs':=vs44 l r n c k ++ [.bool false]) (h':=h44 n near nx) (e:=.normal) hm18 none_ok (by decide +kernel) (Eq.trans (b:=bif decide (IntKind.i64.wrap ((k:Int)+1)<nx k) then bif decide ((0:Int)<=(k:Int))&&decide ((k:Int)<n) then none else none else some (.normal,vs44 l r n c k ++ [.bool false],h44 n near nx)) (by kernel_rfl) ?_) (by kernel_rfl) (hJ _) hi8 fun X9 g9 a9 W9 hi9=>?_
   ·rw [ew1,dF hab]; rfl
   ·refine It.exk (m:=0) (l:=[0,1,35,36,37,61]) (vs:=vs44 l r n c k ++ [.bool false]) (h:=h44 n near nx) (l':=[0,1,35,36,37]) (vs':=vs44 l r n c k) (h':=h44 n near nx) (e:=.normal) hm18 none_ok (by decide +kernel) (by kernel_rfl) (by kernel_rfl) (hJ _) hi9 fun X10 g10 a10 W10 hi10=>?_
    refine It.exk (m:=0) (l:=[0,1,35,36,37]) (vs:=vs44 l r n c k) (h:=h44 n near nx) (l':=[0,1,35,36,37]) (vs':=vs44 l r n c (IntKind.i64.wrap ((k:Int)+1))) (h':=h44 n near nx) (e:=.normal) hm18 none_ok (by decide +kernel) (by kernel_rfl) (by kernel_rfl) (hJ _) hi10 fun X11 g11 a11 W11 hi11=>?_
    rw [ew1] at hi11
    have e1:fl r n k = fl r n (k+1):=by rw [fl_succ,if_neg (by rw [← hnx k]; exact hab)]
    rw [e1] at hi11
    exact ⟨n - (k+1),by omega,k+1,X11,g11,by omega,rfl,hi11⟩
 ·obtain rfl:k = n:=by omega
  refine It.exk (m:=0) (l:=[0,1,35,36,37]) (vs:=vs44 l r k c k) (h:=h44 k near nx) (l':=[38]) (vs':=[.bool false]) (h':=h44 k near nx) (e:=.normal) hm18 none_ok (by decide +kernel) (Eq.trans (b:=bif decide ((k:Int)<(k:Int)) then some (.normal,[.bool true],h44 k near nx) else some (.normal,[.bool false],h44 k near nx)) (by kernel_rfl) (by rw [decide_eq_false hlt]; rfl)) (by kernel_rfl) (hJ _) hi5 fun X6 g6 a6 W6 hi6=>?_
  refine wpIn_seq ?_
  refine It.exk (m:=0) (l:=[38]) (vs:=[.bool false]) (h:=h44 k near nx) (l':=[]) (vs':=[]) (h':=h44 k near nx) (e:=.exit 2) hm18 none_ok (by decide +kernel) (by kernel_rfl) (by kernel_rfl) (hJ _) hi6 fun X7 g7 a7 W7 hi7=>?_
  exact ⟨.inl rfl,X7,g7,_,.inl hi7⟩
open Go.Proofs
def A18r:FuncId->Ann:=fun f=>match f with
 | 10=>⟨[4],fun r o=>match r with | 3=>bif o then [3] else [3,6] | _=>[],false⟩
 | f=>A18 f
def h10z:Heap:=[⟨0,1,1,fun _=>[.nils],false,false,none⟩]
def h10 (g:Nat->List T) (ver m:Nat):Heap:=[⟨0,1,1,fun _=>[.own 1 ver 0 m none],false,false,none⟩,⟨ver,3,m,g,true,false,none⟩]
def v10 (r:Nat->Int) (n:Nat) (c:Option Nat):List T:=[.ptr 0 0 0 0,.fn 44 [.vp [rowV r n c]]]
noncomputable def K10 (p:List T->Prop) (r:T):Orc:=(noneO.inl P18 G18 A18 noneO 0 28).add 27 (callP p r)
def flG (r:Nat->Int) (n j:Nat):List T:=fcells r n ((fl r n n).getD j 0)
def st10 (r:Nat->Int) (n:Nat):Nat->Heap
 | 0=>h10z
 | i+1=>h10 (flG r n) i (i+1)
theorem eachT (r:Nat->Int) (n:Nat) (c:Option Nat):ToldOk P18 G18 27 [rowV r n c] (.fn 44 [.vp [rowV r n c]]):=by
 refine stepV_told hm18 hn18 none_ok (K:=noneO) (A:=A18) (m:=0) ?_
 refine Eq.trans (show stepV P18 G18 A18 noneO 0 27 [rowV r n c] =
(
 some (.fn (44:Nat) [.vp [rowV r n c]])) from by kernel_rfl) ?_
 rfl
theorem fl_len (r:Nat->Int) (n m:Nat):(fl r n m).length<=m:=by
 unfold fl
 have:=List.length_filter_le (fun k:Nat=>decide ((k:Int)+1<nxtF r n k)) (List.range m)
 rw [List.length_range] at this
 exact this
theorem l10 (r:Nat->Int) (n:Nat) (c:Option Nat) (hn:n<=1000) (hr:∀ j,j<n->0<=r j/\r j<256):LoopOk P18 G18 (A18r 10) 10 3 (litS (v10 r n c) h10z .normal [.ptr 0 0 0 0] (st10 r n (fl r n n).length)):=by
 have:=range_lit (P:=P18) (Gl:=G18) (f:=10) (r:=3) (t:=6) (np:=1) (an:=A18r 10) hm18 (by kernel_rfl) (vs:=v10 r n c) rfl (gf:=44) (caps:=[.vp [rowV r n c]]) rfl (seq44 r n c hn hr) (by kernel_rfl) (fun i hi=>rfl)
  (st10 r n) rfl (n:=(fl r n n).length) (Nat.le_refl _) (e1:=.normal) (h1:=st10 r n (fl r n n).length) (vo:=[.ptr 0 0 0 0]) rfl (fun i hi=>?_) (.inl ⟨rfl,rfl,rfl⟩)
 ·exact this
 ·refine ⟨A18r,noneO,0,[],none_ok,rfl,rfl,loops0,?_⟩
  have hl:=fl_len r n n
  cases i with
  | zero =>
   have hg0:flG r n 0 = fcells r n ((fl r n n).getD 0 0):=rfl
   unfold fcells at hg0 ⊢
   generalize r ((fl r n n).getD 0 0) = a at *
   generalize (((fl r n n).getD 0 0:Nat):Int)+1 = b at *
   generalize nxtF r n ((fl r n n).getD 0 0) - ((fl r n n).getD 0 0:Nat) - 1 = d at *
   refine ⟨_,(show rangeR P18 G18 A18r noneO 0 10 [] 3 (v10 r n c) [.agg [.int .u8 a,.int .i64 b,.int .i64 d]] h10z =
(
 some ((.normal,[.mk 0 1 1 (fun e=>[bif e==(0:Nat) then .own [Blk.mk 0 1 1 (fun x=>[T.nils]) false false
 none,Blk.mk 0 3 1 (fun j=>[[T.int .u8 a,T.int .i64 b,T.int .i64 d]].getD j []) true true
 none].length (0:Nat) (0:Nat) (1:Nat) none else .nils]) false false
 none,.mk 0 3 1 (fun j=>[[T.int .u8 a,T.int .i64 b,T.int .i64 d]].getD j []) true true
 none,.mk 0 3 1 (fun j=>[[T.int .u8 a,T.int .i64 b,T.int .i64 d]].getD (0+j) []) true false
 none]))) from by kernel_rfl),fun nt=>?_⟩
   refine WeakTo.canonS [0,2] (by kernel_rfl) (by rfl) rfl ?_
   refine .cons ⟨rfl,rfl,rfl,id,fun j hj=>?_⟩ (.cons ⟨rfl,rfl,rfl,id,fun j hj=>?_⟩ .nil)
   ·obtain rfl:j = 0:=by have:j<1:=hj; omega
    rfl
   ·obtain rfl:j = 0:=by have:j<1:=hj; omega
    exact hg0
  | succ i =>
   have hg0:flG r n (i+1) = fcells r n ((fl r n n).getD (i+1) 0):=rfl
   unfold fcells at hg0 ⊢
   generalize r ((fl r n n).getD (i+1) 0) = a at *
   generalize (((fl r n n).getD (i+1) 0:Nat):Int)+1 = b at *
   generalize nxtF r n ((fl r n n).getD (i+1) 0) - ((fl r n n).getD (i+1) 0:Nat) - 1 = d at *
   show ∃ h',rangeR P18 G18 A18r noneO 0 10 [] 3 (v10 r n c) [.agg [.int .u8 a,.int .i64 b,.int .i64 d]] (h10 (flG r n) i (i+1)) = some (.normal,h')/\_
   generalize hgg:flG r n = g at *
   rw [(show rangeR P18 G18 A18r noneO 0 10 [] 3 (v10 r n c) [.agg [.int .u8 a,.int .i64 b,.int .i64 d]] (h10 g i (i+1)) =
(
 bif i==i&&true then
 bif ((0:Nat)+(i+(1:Nat))).ble (i+1) then
 bif ((i+(1:Nat)+(1:Nat)) * (25:Nat)).ble 70368744177664 then
 bif ((0:Nat)+(i+(1:Nat))+(1:Nat)).ble (i+1) then
 some ((.normal,[.mk 0 1 1 (fun e=>[bif e==(0:Nat) then .own 1 i 0 (i+1+(1:Nat)) none else .own 1 i 0 (i+1)
 none]) false false
 none,.mk i 3 (i+1) (fun j =>
 bif ((0:Nat)+(i+(1:Nat))).ble j&&j.blt ((0:Nat)+(i+1)+(1:Nat)) then [[T.int .u8 a,T.int .i64 b,T.int .i64 d]].getD ((0:Nat)+(j - ((0:Nat)+(i+1)))) []
 else g j) true false
 none,.mk 0 3 1 (fun j=>[[T.int .u8 a,T.int .i64 b,T.int .i64 d]].getD j []) true true
 none]))
 else
 some ((.normal,[.mk 0 1 1 (fun e=>[bif e==(0:Nat) then .own 1 (i+1) (0:Nat) (i+1+(1:Nat)) none else .own 1 i 0 (i+1)
 none]) false false
 none,.mk (i+1) (3:Nat) (i+1+(1:Nat)) (fun j =>
 bif j.blt (i+1) then g (0+j)
 else [[T.int .u8 a,T.int .i64 b,T.int .i64 d]].getD ((0:Nat)+(j - (i+1))) []) true false
 none,.mk 0 3 1 (fun j=>[[T.int .u8 a,T.int .i64 b,T.int .i64 d]].getD j []) true true
 none]))
 else none else none else
 none) from by kernel_rfl)]
   have hi2:i+1<n:=by omega
   refine exTr2 (by first | assumption | omega | (simp (disch:=omega) only [numsE,List.length_cons,List.length_nil,Nat.reduceAdd]; done) | (simp (disch:=omega) only [numsE,List.length_cons,List.length_nil,Nat.reduceAdd]; omega)) ?_
   refine exTr2 (by first | assumption | omega | (simp (disch:=omega) only [numsE,List.length_cons,List.length_nil,Nat.reduceAdd]; done) | (simp (disch:=omega) only [numsE,List.length_cons,List.length_nil,Nat.reduceAdd]; omega)) ?_
   refine exTr2 (by first | assumption | omega | (simp (disch:=omega) only [numsE,List.length_cons,List.length_nil,Nat.reduceAdd]; done) | (simp (disch:=omega) only [numsE,List.length_cons,List.length_nil,Nat.reduceAdd]; omega)) ?_
   refine exFa2 (by first | assumption | (simp (disch:=omega) only [numsE,List.length_cons,List.length_nil,Nat.reduceAdd]; done) | (simp (disch:=omega) only [numsE,List.length_cons,List.length_nil,Nat.reduceAdd]; omega) | (simp; done) | fail) ?_
   refine ⟨_,rfl,fun nt=>?_⟩
   refine WeakTo.canonS [0,1] (by kernel_rfl) (by rfl) rfl ?_
   refine .cons ⟨rfl,rfl,rfl,id,fun j hj=>?_⟩ (.cons ⟨rfl,rfl,rfl,id,fun j hj=>?_⟩ .nil)
   ·obtain rfl:j = 0:=by have:j<1:=hj; omega
    rfl
   ·have hj2:j<i+2:=hj
    show flG r n j = bif Nat.blt j (i+1) then g (0+j) else [[T.int .u8 a,.int .i64 b,.int .i64 d]].getD (0+(j - (i+1))) []
    rw [hgg]
    by_cases q:j<i+1
    ·rw [bltT q,cond_true,Nat.zero_add]
    ·obtain rfl:j = i+1:=by omega
     rw [bltF (by omega),cond_false,hg0,Nat.sub_self]
     rfl
theorem floatsT (r:Nat->Int) (n:Nat) (c:Option Nat) (hn:n<=1000) (hr:∀ j,j<n->0<=r j/\r j<256):ToldOk P18 G18 10 [rowV r n c] (.new (.view 3 (fl r n n).length (flG r n) (some (fl r n n).length))):=by
 have hl:=l10 r n c hn hr
 have hb:=fl_len r n n
 obtain ⟨p,hp⟩:=told_pred P18 G18 27 (.fn 44 [.vp [rowV r n c]])
 have hK:OrcOk P18 G18 (K10 p (.fn 44 [.vp [rowV r n c]])):=told_add (told_inl hm18 hn18 none_ok none_ok) (callP_told (told_predT hp))
 have y:=pred_yes hp (eachT r n c)
 generalize (fl r n n).length = m at *
 cases m with
 | zero =>
  refine ToldOk.resTo (r:=.nils) ?_ (.niln 3 (flG r n) (some 0) (.inr rfl))
  refine stepL_told hm18 hn18 hK (A:=A18r) (m:=0) (by kernel_rfl) (loops1 hl) ?_
  refine Eq.trans (show stepL P18 G18 A18r (K10 p (.fn 44 [.vp [rowV r n c]])) 0 10 [(3,litS (v10 r n c) h10z .normal [.ptr 0 0 0 0] h10z)] [rowV r n c] =
(
 bif propF p [rowV r n c] then
 bif weakF (v10 r n c) [.mk 0 1 1 (fun x=>[.nils]) false false
 none] (v10 r n c) [.mk 0 1 1 (fun x=>[.nils]) false false
 none] then
 some (.nils)
 else none else
 none) from by kernel_rfl) ?_
  refine bift y ?_
  refine bift (weakF_of ⟨rfl,.refl _⟩) ?_
  rfl
 | succ m =>
  replace hl:LoopOk P18 G18 (A18r 10) 10 3 (litS (v10 r n c) h10z .normal [.ptr 0 0 0 0] (h10 (flG r n) m (m+1))):=hl
  generalize flG r n = g at *
  refine ToldOk.frz (r:=.fresh true 3 (m+1) g (m+1) (some (m+1))) ?_
  refine stepL_told hm18 hn18 hK (A:=A18r) (m:=0) (by kernel_rfl) (loops1 hl) ?_
  refine Eq.trans (show stepL P18 G18 A18r (K10 p (.fn 44 [.vp [rowV r n c]])) 0 10 [(3,litS (v10 r n c) h10z .normal [.ptr 0 0 0 0] (h10 g m (m+1)))] [rowV r n c] =
(
 bif propF p [rowV r n c] then
 bif weakF (v10 r n c) [.mk 0 1 1 (fun x=>[.nils]) false false
 none] (v10 r n c) [.mk 0 1 1 (fun x=>[.nils]) false false
 none] then
 bif m==m&&true then
 bif m==m&&true then
 bif m==m&&true then
 bif decide (0<=Int.ofNat (m+1))&&decide (Int.ofNat (m+1)<=Int.ofNat (m+1))&&decide (Int.ofNat (m+1)<=Int.ofNat (m+1 - (0:Nat))) then
 some (bif m==m&&((0:Nat)+(m+(1:Nat) - (0:Nat))).ble (m+1) then .fresh true (3:Nat) (m+1 - (0:Nat)) (fun j=>g (0+j)) (m+1 - (0:Nat)) (some (m+1 - (0:Nat)))
 else .undef)
 else none else none else none else none else none else
 none) from by kernel_rfl) ?_
  refine bift y ?_
  refine bift (weakF_of ⟨rfl,.refl _⟩) ?_
  rw [beq_self_eq_true,Bool.true_and]
  (repeat (first | refine BT ?_ | refine BG ?_))
  rw [Nat.sub_zero,Nat.zero_add,bleT (Nat.le_refl _)]
  simp only [Nat.zero_add]
  rfl
open Go.Proofs
open Go.Proofs
def plc (a c k:Int) (b:Bool):List T:=[.int .i64 a,.int .u8 c,.int .i64 k,.bool b]
def nK (k c d:Int):Int:=bif decide (k = 0) then 1 else bif decide (c = d) then k+1 else 1
def nI (k c d:Int) (b:Bool):Bool:=bif decide (k = 0) then false else bif decide (c = d) then b else true
def nO (k c d:Int) (b:Bool) (m:Int):Bool:=bif decide (k = 0) then true else bif decide (c = d) then true else bif b then decide (k<=m) else true
def chg (a c:Int):Int:=bif decide (a = c) then 0 else 1
def nextS:List T->Tree
 | [.agg [.int .i64 a,.int .u8 c,.int .i64 k,.bool b],.int .u8 d,.int .i64 m]=>.ite (decide (0<=a)&&(decide (a<=1000000)&&(decide (0<=k)&&decide (k<=1000000)))) (.ret (.tup [.agg [.int .i64 (a+1),.int .u8 d,.int .i64 (nK k c d),.bool (nI k c d b)],.bool (nO k c d b m)])) .none
 | _=>.none
def chgS:List T->Tree
 | [.int .u8 a,.int .u8 c]=>.ret (.int .i64 (chg a c))
 | _=>.none
noncomputable def K63:Orc:=(noneO.add 49 nextS).add 50 chgS
theorem nextT {args:List T} {r:T} (h:(nextS args).run some = some r):ToldOk P18 G18 49 args r:=by
 unfold nextS at h
 split at h
 ·rename_i a c k b d m
  simp only [Tree.run] at h
  obtain ⟨h1,h⟩:=(bif_none h)
  obtain rfl:=Option.some.inj h
  simp only [Bool.and_eq_true,decide_eq_true_eq] at h1
  refine stepV_told hm18 hn18 none_ok (K:=noneO) (A:=A18) (m:=0) ?_
  refine Eq.trans (show stepV P18 G18 A18 noneO 0 49 [.agg (plc a c k b),.int .u8 d,.int .i64 m] =
(
 bif decide (k = 0) then
 some (.tup [.agg (plc (IntKind.i64.wrap (a+1)) d (1:Int) false),.bool true])
 else
 bif decide (c = d) then
 bif b then
 some (.tup [.agg (plc (IntKind.i64.wrap (a+1)) d (IntKind.i64.wrap (k+1)) true),.bool true])
 else
 some (.tup [.agg (plc (IntKind.i64.wrap (a+1)) d (IntKind.i64.wrap (k+1)) false),.bool true])
 else
 bif b then
 bif decide (k<=m) then
 some (.tup [.agg (plc (IntKind.i64.wrap (a+1)) d (1:Int) true),.bool true])
 else
 some (.tup [.agg (plc (IntKind.i64.wrap (a+1)) d (1:Int) true),.bool false])
 else
 some (.tup [.agg (plc (IntKind.i64.wrap (a+1)) d (1:Int) true),.bool true])) from by kernel_rfl) ?_
  rw [wr64 (x:=a+1) (by omega) (by omega),wr64 (x:=k+1) (by omega) (by omega)]
  unfold nK nI nO
  by_cases q1:k = 0
  ·rw [dT q1]; rfl
  ·rw [dF q1]
   by_cases q2:c = d
   ·rw [dT q2]; cases b <;> rfl
   ·rw [dF q2]
    cases b
    ·rfl
    ·by_cases q3:k<=m
     ·rw [dT q3]; rfl
     ·rw [dF q3]; rfl
 ·cases h
theorem chgT {args:List T} {r:T} (h:(chgS args).run some = some r):ToldOk P18 G18 50 args r:=by
 unfold chgS at h
 split at h
 ·rename_i a c
  obtain rfl:=Option.some.inj h
  refine stepV_told hm18 hn18 none_ok (K:=noneO) (A:=A18) (m:=0) ?_
  refine Eq.trans (show stepV P18 G18 A18 noneO 0 50 [.int .u8 a,.int .u8 c] =
(
 bif !decide (a = c) then
 some (.int .i64 1)
 else
 some (.int .i64 0)) from by kernel_rfl) ?_
  unfold chg
  by_cases q:a = c
  ·rw [dT q]; rfl
  ·rw [dF q]; rfl
 ·cases h
theorem ok63:OrcOk P18 G18 K63:=told_add (told_add none_ok fun _ _=>nextT) fun _ _=>chgT
open Go.Proofs
def ks18:KS:=.row [some .i64,some .u8,some .i64,none]
def mD (has:List Int->Bool) (val:List Int->Int) (born:List Int->Nat) (cl:Nat) (la:Option (List Int × Nat)):MapD:=⟨ks18,.i64,has,val,born,cl,la⟩
def bx (x:T):Blk:=⟨0,1,1,fun _=>[x],false,false,none⟩
def h63 (r:Nat->Int) (n:Nat) (c:Option Nat) (cs:Nat->Int) (k:Nat) (cc:Option Nat) (most:Int) (ver:Nat) (md:MapD):Heap:=[bx (rowV r n c),bx (rowV cs k cc),bx (.int .i64 most),mapBlk ver md,bx (.mp 3 ver)]
def v63 (cs:Nat->Int) (k:Nat) (cc:Option Nat) (a col run:Int) (b:Bool) (best i:Int):List T:=[.ptr 0 0 0 0,.ptr 4 0 0 0,.ptr 2 0 0 0,.reg (plc a col run b),.int .i64 best,rowV cs k cc,.int .i64 k,.int .i64 i]
def b2i (b:Bool):Int:=bif b then 1 else 0
def tryF (r:Nat->Int) (most:Int) (val:List Int->Int) (a:Nat) (col run:Int) (b:Bool) (d:Int):Int:=val [(a:Int)+1,d,nK run col d,b2i (nI run col d b)]+chg (r a) d
def bestF (r:Nat->Int) (n:Nat) (cs:Nat->Int) (most:Int) (val:List Int->Int) (a:Nat) (col run:Int) (b:Bool):Nat->Int
 | 0=>(n:Int)+1
 | i+1=>bif nO run col (cs i) b most then (bif decide (tryF r most val a col run b (cs i)<bestF r n cs most val a col run b i) then tryF r most val a col run b (cs i) else bestF r n cs most val a col run b i) else bestF r n cs most val a col run b i
def fillZ (r:Nat->Int) (n:Nat) (cs:Nat->Int) (k:Nat) (most:Int) (val:List Int->Int) (a:Nat) (col run:Int) (b:Bool):Int:=if a = n then 0 else bestF r n cs most val a col run b k
structure MOk (n:Nat) (m:MapD):Prop where
 ks:m.ks = ks18
 q:m.q = .i64
 val:∀ l,0<=m.val l/\m.val l<=(n:Int)+1
theorem chg_bd (a c:Int):0<=chg a c/\chg a c<=1:=by unfold chg; cases decide (a = c) <;> simp
theorem bestF_bd (r:Nat->Int) (n:Nat) (cs:Nat->Int) (most:Int) (val:List Int->Int) (a:Nat) (col run:Int) (b:Bool) (hv:∀ l,0<=val l/\val l<=(n:Int)+1):∀ i,0<=bestF r n cs most val a col run b i/\bestF r n cs most val a col run b i<=(n:Int)+1:=by
 intro i
 induction i with
 | zero=>unfold bestF; omega
 | succ i ih =>
  unfold bestF
  have h1:0<=tryF r most val a col run b (cs i):=by
   unfold tryF
   have:=chg_bd (r a) (cs i)
   have:=hv [(a:Int)+1,cs i,nK run col (cs i),b2i (nI run col (cs i) b)]
   omega
  cases nO run col (cs i) b most
  ·exact ih
  ·rw [cond_true]
   by_cases q:tryF r most val a col run b (cs i)<bestF r n cs most val a col run b i
   ·rw [dT q,cond_true]; omega
   ·rw [dF q,cond_false]; exact ih
theorem l63 (r:Nat->Int) (n:Nat) (c:Option Nat) (cs:Nat->Int) (k:Nat) (cc:Option Nat) (most:Int) (ver:Nat) (has:List Int->Bool) (val:List Int->Int) (born:List Int->Nat) (cl:Nat) (la:Option (List Int × Nat)) (col run:Int) (b:Bool) (a:Nat)
 (hn:n<=1000) (hk:k<=1000) (ha:a<n) (hrun:0<=run/\run<=1000000) (hv:∀ l,0<=val l/\val l<=(n:Int)+1) :
 LoopOk P18 G18 (A18 63) 63 5 (litS (v63 cs k cc a col run b (n+1) 0) (h63 r n c cs k cc most ver (mD has val born cl la)) (.exit 0) [.ptr 4 0 0 0,.reg (plc a col run b),.int .i64 (bestF r n cs most val a col run b k)] (h63 r n c cs k cc most ver (mD has val born cl la))):=by
 refine loop_steps hm18 (by kernel_rfl) (fun i=>v63 cs k cc a col run b (bestF r n cs most val a col run b i) i) (fun _=>h63 r n c cs k cc most ver (mD has val born cl la)) (n:=k) (fun i hi=>?_) ?_
 ·refine Step.mk0 (A:=A18) (m:=0) ok63 rfl rfl loops0 (h1:=h63 r n c cs k cc most ver (mD has val born cl la)) ?_ (.refl _)
  have hbd:=bestF_bd r n cs most val a col run b hv i
  have hc:=chg_bd (r a) (cs i)
  have hv2:=hv [(a:Int)+1,cs i,nK run col (cs i),b2i (nI run col (cs i) b)]
  have hw:IntKind.i64.wrap (val [(a:Int)+1,cs i,nK run col (cs i),b2i (nI run col (cs i) b)]+chg (r a) (cs i)) = tryF r most val a col run b (cs i):=by unfold tryF; exact wr64 (by omega) (by omega)
  have hw2:IntKind.i64.wrap ((i:Int)+1) = ((i+1:Nat):Int):=by rw [wr64 (by omega) (by omega)]; omega
  have hb1:bestF r n cs most val a col run b (i+1) = bif nO run col (cs i) b most then (bif decide (tryF r most val a col run b (cs i)<bestF r n cs most val a col run b i) then tryF r most val a col run b (cs i) else bestF r n cs most val a col run b i) else bestF r n cs most val a col run b i:=rfl
  rw [hb1]
  generalize bestF r n cs most val a col run b i = best at *
  refine Eq.trans (show iterR P18 G18 A18 K63 0 63 [] 5 (v63 cs k cc a col run b best i) (h63 r n c cs k cc most ver (mD has val born cl la)) =
(
 bif decide (Int.ofNat i<Int.ofNat k) then
 bif decide (0<=Int.ofNat i)&&decide (Int.ofNat i<Int.ofNat k) then
 bif decide (0<=Int.ofNat a)&&(decide (Int.ofNat a<=1000000)&&(decide (0<=run)&&decide (run<=1000000))) then
 bif
 bif decide (run = 0) then true
 else
 bif decide (col = cs i) then true
 else
 bif b then decide (run<=most)
 else true then
 bif ver==ver then
 bif decide (0<=Int.ofNat a)&&decide (Int.ofNat a<Int.ofNat n) then
 some ((.normal,v63 cs k cc (Int.ofNat a) col run b (bif decide (IntKind.i64.wrap (val [Int.ofNat a+1,cs i,
 bif decide (run = 0) then (1:Int)
 else
 bif decide (col = cs i) then run+1
 else (1:Int),
 bif
 bif decide (run = 0) then false
 else
 bif decide (col = cs i) then b
 else true then (1:Int)
 else (0:Int)] +
 bif decide (r a = cs i) then (0:Int)
 else (1:Int))<best) then IntKind.i64.wrap (val [Int.ofNat a+1,cs i,
 bif decide (run = 0) then (1:Int)
 else
 bif decide (col = cs i) then run+1
 else (1:Int),
 bif
 bif decide (run = 0) then false
 else
 bif decide (col = cs i) then b
 else true then (1:Int)
 else (0:Int)] +
 bif decide (r a = cs i) then (0:Int)
 else (1:Int))
 else best) (IntKind.i64.wrap (Int.ofNat i+1)),h63 r n c cs k cc most ver (MapD.mk (KS.row [some IntKind.i64,some IntKind.u8,some IntKind.i64,
 none]) IntKind.i64 has val born cl la)))
 else none else none else
 some ((.normal,v63 cs k cc (Int.ofNat a) col run b best (IntKind.i64.wrap (Int.ofNat i+1)),h63 r n c cs k cc most ver (MapD.mk (KS.row [some IntKind.i64,some IntKind.u8,some IntKind.i64,
 none]) IntKind.i64 has val born cl la)))
 else none else none else
 some ((.exit 0,[.ptr 4 0 0 0,.reg (plc (Int.ofNat a) col run b),.int .i64 best],h63 r n c cs k cc most ver (MapD.mk (KS.row [some IntKind.i64,some IntKind.u8,some IntKind.i64,
 none]) IntKind.i64 has val born cl la)))) from by kernel_rfl) ?_
  refine BT ?_
  refine BT ?_
  refine BT ?_
  change (bif nO run col (cs i) b most then _ else _) = _
  cases nO run col (cs i) b most
  ·rw [cond_false,ofNatE i,hw2]; rfl
  ·rw [cond_true,beq_self_eq_true,cond_true]
   refine BT ?_
   rw [ofNatE i,hw2]
   change some (Ex.normal,[T.ptr 0 0 0 0,.ptr 4 0 0 0,.ptr 2 0 0 0,.reg (plc a col run b),.int .i64 (bif decide (IntKind.i64.wrap (val [(a:Int)+1,cs i,nK run col (cs i),b2i (nI run col (cs i) b)]+chg (r a) (cs i))<best) then IntKind.i64.wrap (val [(a:Int)+1,cs i,nK run col (cs i),b2i (nI run col (cs i) b)]+chg (r a) (cs i)) else best),rowV cs k cc,.int .i64 k,.int .i64 ((i+1:Nat):Int)],h63 r n c cs k cc most ver (mD has val born cl la)) = _
   rw [hw]
   rfl
 ·refine Last.mk0 (A:=A18) (m:=0) ok63 rfl rfl loops0 (h1:=h63 r n c cs k cc most ver (mD has val born cl la)) (by simp) ?_ (.refl _)
  generalize bestF r n cs most val a col run b k = best
  refine Eq.trans (show iterR P18 G18 A18 K63 0 63 [] 5 (v63 cs k cc a col run b best (k:Nat)) (h63 r n c cs k cc most ver (mD has val born cl la)) =
(
 bif decide (Int.ofNat k<Int.ofNat k) then
 bif decide (0<=Int.ofNat k)&&decide (Int.ofNat k<Int.ofNat k) then
 bif decide (0<=Int.ofNat a)&&(decide (Int.ofNat a<=1000000)&&(decide (0<=run)&&decide (run<=1000000))) then
 bif
 bif decide (run = 0) then true
 else
 bif decide (col = cs k) then true
 else
 bif b then decide (run<=most)
 else true then
 bif ver==ver then
 bif decide (0<=Int.ofNat a)&&decide (Int.ofNat a<Int.ofNat n) then
 some ((.normal,v63 cs k cc (Int.ofNat a) col run b (bif decide (IntKind.i64.wrap (val [Int.ofNat a+1,cs k,
 bif decide (run = 0) then (1:Int)
 else
 bif decide (col = cs k) then run+1
 else (1:Int),
 bif
 bif decide (run = 0) then false
 else
 bif decide (col = cs k) then b
 else true then (1:Int)
 else (0:Int)] +
 bif decide (r a = cs k) then (0:Int)
 else (1:Int))<best) then IntKind.i64.wrap (val [Int.ofNat a+1,cs k,
 bif decide (run = 0) then (1:Int)
 else
 bif decide (col = cs k) then run+1
 else (1:Int),
 bif
 bif decide (run = 0) then false
 else
 bif decide (col = cs k) then b
 else true then (1:Int)
 else (0:Int)] +
 bif decide (r a = cs k) then (0:Int)
 else (1:Int))
 else best) (IntKind.i64.wrap (Int.ofNat k+1)),h63 r n c cs k cc most ver (MapD.mk (KS.row [some IntKind.i64,some IntKind.u8,some IntKind.i64,
 none]) IntKind.i64 has val born cl la)))
 else none else none else
 some ((.normal,v63 cs k cc (Int.ofNat a) col run b best (IntKind.i64.wrap (Int.ofNat k+1)),h63 r n c cs k cc most ver (MapD.mk (KS.row [some IntKind.i64,some IntKind.u8,some IntKind.i64,
 none]) IntKind.i64 has val born cl la)))
 else none else none else
 some ((.exit 0,[.ptr 4 0 0 0,.reg (plc (Int.ofNat a) col run b),.int .i64 best],h63 r n c cs k cc most ver (MapD.mk (KS.row [some IntKind.i64,some IntKind.u8,some IntKind.i64,
 none]) IntKind.i64 has val born cl la)))) from by kernel_rfl) ?_
  (repeat (first | refine BT ?_ | refine BG ?_))
  rfl
theorem fillT (r:Nat->Int) (n:Nat) (c:Option Nat) (cs:Nat->Int) (k:Nat) (cc:Option Nat) (most:Int) (ver:Nat) (m:MapD) (col run:Int) (b:Bool) (a:Nat)
 (hn:n<=1000) (hk:k<=1000) (ha:a<=n) (hrun:0<=run/\run<=1000000) (hm:MOk n m) :
 ToldRef P18 G18 63 [.agg (plc a col run b),.ptr 0 0 0 0,.ptr 4 0 0 0,.ptr 1 0 0 0,.ptr 2 0 0 0] (h63 r n c cs k cc most ver m) (.tup []) (h63 r n c cs k cc most ver (m.put [a,col,run,b2i b] (fillZ r n cs k most m.val a col run b))):=by
 obtain ⟨h1,h2,hv⟩:=hm
 obtain ⟨ks,q,has,val,born,cl,la⟩:=m
 dsimp only at h1 h2 hv
 subst h1 h2
 have hw:IntKind.i64.wrap ((n:Int)+1) = (n:Int)+1:=wr64 (by omega) (by omega)
 by_cases q:a = n
 ·subst q
  refine stepR_told hm18 hn18 ok63 (A:=A18) (m:=0) (by kernel_rfl) (l:=[]) loops0 ?_
  refine Eq.trans (show stepR P18 G18 A18 K63 0 63 [] [.agg (plc a col run b),.ptr 0 0 0 0,.ptr 4 0 0 0,.ptr 1 0 0 0,.ptr 2 0 0 0] (h63 r a c cs k cc most ver (mD has val born cl la)) =
(
 bif decide (Int.ofNat a = Int.ofNat a) then
 bif ver==ver then
 some ((.tup [],h63 r a c cs k cc most ver (MapD.mk (KS.row [some IntKind.i64,some IntKind.u8,some IntKind.i64,
 none]) IntKind.i64 (fun l=>keq l [↑a,col,run,
 bif b then (1:Int)
 else (0:Int)] || has l) (fun l =>
 bif keq l [↑a,col,run,
 bif b then (1:Int)
 else (0:Int)] then (0:Int)
 else val l) (fun l =>
 bif keq l [↑a,col,run,
 bif b then (1:Int)
 else (0:Int)] then
 bif has [Int.ofNat a,col,run,
 bif b then (1:Int)
 else (0:Int)] then born [Int.ofNat a,col,run,
 bif b then (1:Int)
 else (0:Int)]
 else cl
 else born l) (bif has [Int.ofNat a,col,run,
 bif b then (1:Int)
 else (0:Int)] then cl
 else cl+1)
 none)))
 else none else
 none) from by kernel_rfl) ?_
  unfold fillZ
  rw [if_pos rfl,dT rfl,cond_true,beq_self_eq_true,cond_true]
  rfl
 ·have hl:=l63 r n c cs k cc most ver has val born cl la col run b a hn hk (by omega) hrun hv
  unfold fillZ
  rw [if_neg q]
  generalize bestF r n cs most val a col run b k = best at *
  refine stepR_told hm18 hn18 ok63 (A:=A18) (m:=0) (by kernel_rfl) (loops1 hl) ?_
  refine Eq.trans (show stepR P18 G18 A18 K63 0 63 [(5,litS (v63 cs k cc a col run b (n+1) 0) (h63 r n c cs k cc most ver (mD has val born cl la)) (.exit 0) [.ptr 4 0 0 0,.reg (plc a col run b),.int .i64 best] (h63 r n c cs k cc most ver (mD has val born cl la)))] [.agg (plc a col run b),.ptr 0 0 0 0,.ptr 4 0 0 0,.ptr 1 0 0 0,.ptr 2 0 0 0] (h63 r n c cs k cc most ver (mD has val born cl la)) =
(
 bif decide (Int.ofNat a = Int.ofNat n) then
 bif ver==ver then
 some ((.tup [],h63 r n c cs k cc most ver (MapD.mk (KS.row [some IntKind.i64,some IntKind.u8,some IntKind.i64,
 none]) IntKind.i64 (fun l=>keq l [↑a,col,run,
 bif b then (1:Int)
 else (0:Int)] || has l) (fun l =>
 bif keq l [↑a,col,run,
 bif b then (1:Int)
 else (0:Int)] then (0:Int)
 else val l) (fun l =>
 bif keq l [↑a,col,run,
 bif b then (1:Int)
 else (0:Int)] then
 bif has [Int.ofNat a,col,run,
 bif b then (1:Int)
 else (0:Int)] then born [Int.ofNat a,col,run,
 bif b then (1:Int)
 else (0:Int)]
 else cl
 else born l) (bif has [Int.ofNat a,col,run,
 bif b then (1:Int)
 else (0:Int)] then cl
 else cl+1)
 none)))
 else none else
 bif weakF (v63 cs k cc (Int.ofNat a) col run b (IntKind.i64.wrap (Int.ofNat n+1)) (0:Int)) (h63 r n c cs k cc most ver (MapD.mk (KS.row [some IntKind.i64,some IntKind.u8,some IntKind.i64,
 none]) IntKind.i64 has val born cl la)) (v63 cs k cc (Int.ofNat a) col run b (Int.ofNat n+1) (0:Int)) (h63 r n c cs k cc most ver (MapD.mk (KS.row [some IntKind.i64,some IntKind.u8,some IntKind.i64,
 none]) IntKind.i64 has val born cl la)) then
 bif ver==ver then
 some ((.tup [],h63 r n c cs k cc most ver (MapD.mk (KS.row [some IntKind.i64,some IntKind.u8,some IntKind.i64,
 none]) IntKind.i64 (fun l=>keq l [↑a,col,run,
 bif b then (1:Int)
 else (0:Int)] || has l) (fun l =>
 bif keq l [↑a,col,run,
 bif b then (1:Int)
 else (0:Int)] then best
 else val l) (fun l =>
 bif keq l [↑a,col,run,
 bif b then (1:Int)
 else (0:Int)] then
 bif has [Int.ofNat a,col,run,
 bif b then (1:Int)
 else (0:Int)] then born [Int.ofNat a,col,run,
 bif b then (1:Int)
 else (0:Int)]
 else cl
 else born l) (bif has [Int.ofNat a,col,run,
 bif b then (1:Int)
 else (0:Int)] then cl
 else cl+1)
 none)))
 else none else
 none) from by kernel_rfl) ?_
  rw [dF (show ¬ (Int.ofNat a = Int.ofNat n) by rw [ofNatE,ofNatE]; omega),cond_false,ofNatE n,hw]
  refine bift (weakF_of ⟨rfl,.refl _⟩) ?_
  rw [beq_self_eq_true,cond_true]
  rfl
open Go.Proofs
def F63 (u:Int->Int->Int->Bool->MapD->MapD):List T->Heap->Option (T × Heap)
 | .agg [.int _ a,.int _ c,.int _ k,.bool b] :: _,[b0,b1,b2,⟨v,_,_,_,_,_,some m⟩,b4]=>some (.tup [],[b0,b1,b2,mapBlk v (u a c k b m),b4])
 | _,_=>none
noncomputable def K48 (p:List T->Heap->T->Heap->Prop) (u:Int->Int->Int->Bool->MapD->MapD):Orc:=noneO.addRef 63 (refF p (F63 u))
def f48:T:=.fn 63 [.ptr 0 0 0 0,.ptr 4 0 0 0,.ptr 1 0 0 0,.ptr 2 0 0 0]
def v48 (cs:Nat->Int) (k:Nat) (cc:Option Nat) (a j i:Int):List T:=[.ptr 1 0 0 0,.ptr 4 0 0 0,f48,.int .i64 a,.int .i64 j,rowV cs k cc,.int .i64 k,.int .i64 i]
def v48j (a j:Int):List T:=[.ptr 1 0 0 0,.ptr 4 0 0 0,f48,.int .i64 a,.int .i64 j]
def v48a (a:Int):List T:=[.ptr 1 0 0 0,.ptr 4 0 0 0,f48,.int .i64 a]
def fillM (r:Nat->Int) (n:Nat) (cs:Nat->Int) (k:Nat) (most:Int) (a c j:Int) (b:Bool) (m:MapD):MapD:=m.put [a,c,j,b2i b] (fillZ r n cs k most m.val a.toNat c j b)
section
variable (u:Int->Int->Int->Bool->MapD->MapD) (cs:Nat->Int) (k:Nat)
def fold1 (a j:Nat) (m:MapD):Nat->MapD
 | 0=>m
 | i+1=>u a (cs i) j true (u a (cs i) j false (fold1 a j m i))
def fold2 (a:Nat) (m:MapD):Nat->MapD
 | 0=>m
 | j+1=>fold1 u cs a (j+1) (fold2 a m j) k
def fold3 (n:Nat):Nat->MapD
 | 0=>.made ks18 .i64
 | i+1=>fold2 u cs k (n - i) (fold3 n i) (n - i)
end
theorem fillZ_bd (r:Nat->Int) (n:Nat) (cs:Nat->Int) (k:Nat) (most:Int) (val:List Int->Int) (a:Nat) (col run:Int) (b:Bool) (hv:∀ l,0<=val l/\val l<=(n:Int)+1):0<=fillZ r n cs k most val a col run b/\fillZ r n cs k most val a col run b<=(n:Int)+1:=by
 have:=bestF_bd r n cs most val a col run b hv k
 unfold fillZ
 split <;> omega
theorem MOk.fill {r:Nat->Int} {n:Nat} {cs:Nat->Int} {k:Nat} {most:Int} {m:MapD} (h:MOk n m) (a c j:Int) (b:Bool):MOk n (fillM r n cs k most a c j b m):=by
 refine ⟨h.ks,h.q,fun l=>?_⟩
 show 0<=(bif keq l [a,c,j,b2i b] then fillZ r n cs k most m.val a.toNat c j b else m.val l)/\(bif keq l [a,c,j,b2i b] then fillZ r n cs k most m.val a.toNat c j b else m.val l)<=(n:Int)+1
 cases keq l [a,c,j,b2i b]
 ·exact h.val l
 ·exact fillZ_bd r n cs k most m.val a.toNat c j b h.val
section
variable {r:Nat->Int} {n:Nat} {c:Option Nat} {cs:Nat->Int} {k:Nat} {cc:Option Nat} {most:Int} {p:List T->Heap->T->Heap->Prop}
theorem MOk.f1 {m:MapD} (h:MOk n m) (a j:Nat):∀ i,MOk n (fold1 (fillM r n cs k most) cs a j m i)
 | 0=>h
 | i+1=>(((h.f1 a j i).fill _ _ _ _).fill _ _ _ _)
theorem MOk.f2 {m:MapD} (h:MOk n m) (a:Nat):∀ j,MOk n (fold2 (fillM r n cs k most) cs k a m j)
 | 0=>h
 | j+1=>(h.f2 a j).f1 a (j+1) k
theorem MOk.f3:∀ i,MOk n (fold3 (fillM r n cs k most) cs k n i)
 | 0=>⟨rfl,rfl,fun l=>by show (0:Int)<=0/\(0:Int)<=_; omega⟩
 | i+1=>(MOk.f3 i).f2 (n - i) (n - i)
theorem yes63 (hp:p = ToldRef P18 G18 63) {ver:Nat} {m:MapD} (hn:n<=1000) (hk:k<=1000) (hm:MOk n m) (a j:Nat) (col:Int) (b:Bool) (ha:a<=n) (hj:j<=1000000) :
 decF (p [.agg (plc a col j b),.ptr 0 0 0 0,.ptr 4 0 0 0,.ptr 1 0 0 0,.ptr 2 0 0 0] (h63 r n c cs k cc most ver m) (.tup []) (h63 r n c cs k cc most ver (fillM r n cs k most a col j b m))) = true :=
 refF_yes hp (fillT r n c cs k cc most ver m col j b a hn hk ha ⟨by omega,by omega⟩ hm)
theorem l48c (hp:p = ToldRef P18 G18 63) {m:MapD} (hn:n<=1000) (hk:k<=1000) (hm:MOk n m) (a j:Nat) (ha:a<=n) (hj:j<=n) :
 LoopOk P18 G18 (A18 48) 48 10 (litS (v48 cs k cc a j 0) (h63 r n c cs k cc most 0 m) (.exit 4) (v48j a j) (h63 r n c cs k cc most 0 (fold1 (fillM r n cs k most) cs a j m k))):=by
 have okK:∀ u,OrcOk P18 G18 (K48 p u):=fun u=>told_addRef none_ok (refF_told hp)
 refine loop_steps hm18 (by kernel_rfl) (fun i=>v48 cs k cc a j i) (fun i=>h63 r n c cs k cc most 0 (fold1 (fillM r n cs k most) cs a j m i)) (n:=k) (fun i hi=>?_) ?_
 ·have h1:=hm.f1 (r:=r) (cs:=cs) (k:=k) (most:=most) a j i
  have y1:=yes63 (c:=c) (cc:=cc) (ver:=0) (cs:=cs) (r:=r) (most:=most) hp hn hk h1 a j (cs i) false ha (by omega)
  have y2:=yes63 (c:=c) (cc:=cc) (ver:=0) (cs:=cs) (r:=r) (most:=most) hp hn hk (MOk.fill (r:=r) (cs:=cs) (k:=k) (most:=most) h1 a (cs i) j false) a j (cs i) true ha (by omega)
  show Step P18 G18 (A18 48) 48 10 _ _ _ _ (h63 r n c cs k cc most 0 (fillM r n cs k most a (cs i) j true (fillM r n cs k most a (cs i) j false (fold1 (fillM r n cs k most) cs a j m i))))
  generalize fold1 (fillM r n cs k most) cs a j m i = mm at *
  generalize fillM r n cs k most = u at *
  refine Step.mk0 (A:=A18) (K:=K48 p u) (m:=0) (okK u) rfl rfl loops0 (h1:=h63 r n c cs k cc most 0 (u a (cs i) j true (u a (cs i) j false mm))) ?_ (.refl _)
  refine Eq.trans (show iterR P18 G18 A18 (K48 p u) 0 48 [] 10 (v48 cs k cc a j i) (h63 r n c cs k cc most 0 mm) =
(
 bif decide (Int.ofNat i<Int.ofNat k) then
 bif decide (0<=Int.ofNat i)&&decide (Int.ofNat i<Int.ofNat k) then
 bif decF (p [.agg (plc (Int.ofNat a) (cs i) (Int.ofNat j) false),.ptr 0 0 0 0,.ptr 4 0 0 0,.ptr 1 0 0 0,.ptr 2 0 0 0] (h63 r n c cs k cc most (0:Nat) mm) (.tup []) (h63 r n c cs k cc most (0:Nat) (u (Int.ofNat a) (cs i) (Int.ofNat j) false mm))) then
 bif decF (p [.agg (plc (Int.ofNat a) (cs i) (Int.ofNat j) true),.ptr 0 0 0 0,.ptr 4 0 0 0,.ptr 1 0 0 0,.ptr 2 0 0 0] (h63 r n c cs k cc most (0:Nat) (u (Int.ofNat a) (cs i) (Int.ofNat j) false mm)) (.tup []) (h63 r n c cs k cc most (0:Nat) (u (Int.ofNat a) (cs i) (Int.ofNat j) true (u (Int.ofNat a) (cs i) (Int.ofNat j) false mm)))) then
 some ((.normal,v48 cs k cc (Int.ofNat a) (Int.ofNat j) (IntKind.i64.wrap (Int.ofNat i+1)),h63 r n c cs k cc most (0:Nat) (u (Int.ofNat a) (cs i) (Int.ofNat j) true (u (Int.ofNat a) (cs i) (Int.ofNat j) false mm))))
 else none else none else none else
 some ((.exit 4,v48j (Int.ofNat a) (Int.ofNat j),h63 r n c cs k cc most (0:Nat) mm))) from by kernel_rfl) ?_
  refine BT ?_
  refine BT ?_
  refine bift y1 ?_
  refine bift y2 ?_
  rw [ofNatE i,wr64 (x:=(i:Int)+1) (by omega) (by omega)]
  rfl
 ·generalize fold1 (fillM r n cs k most) cs a j m k = mm at *
  refine Last.mk0 (A:=A18) (K:=noneO) (m:=0) none_ok rfl rfl loops0 (h1:=h63 r n c cs k cc most 0 mm) (by simp) ?_ (.refl _)
  refine Eq.trans (show iterR P18 G18 A18 noneO 0 48 [] 10 (v48 cs k cc a j (k:Nat)) (h63 r n c cs k cc most 0 mm) =
(
 bif decide (Int.ofNat k<Int.ofNat k) then
 bif decide (0<=Int.ofNat k)&&decide (Int.ofNat k<Int.ofNat k) then none else none else
 some ((.exit 4,v48j (Int.ofNat a) (Int.ofNat j),h63 r n c cs k cc most (0:Nat) mm))) from by kernel_rfl) ?_
  (repeat (first | refine BT ?_ | refine BG ?_))
  rfl
theorem l48j (hp:p = ToldRef P18 G18 63) {m:MapD} (hn:n<=1000) (hk:k<=1000) (hm:MOk n m) (a:Nat) (ha:a<=n) :
 LoopOk P18 G18 (A18 48) 48 7 (litS (v48j a 1) (h63 r n c cs k cc most 0 m) (.exit 2) (v48a a) (h63 r n c cs k cc most 0 (fold2 (fillM r n cs k most) cs k a m a))):=by
 refine loop_steps hm18 (by kernel_rfl) (fun j=>v48j a ((j:Nat)+1)) (fun j=>h63 r n c cs k cc most 0 (fold2 (fillM r n cs k most) cs k a m j)) (n:=a) (fun j hj=>?_) ?_
 ·have h1:=hm.f2 (r:=r) (cs:=cs) (k:=k) (most:=most) a j
  have hl:=l48c (c:=c) (cc:=cc) (cs:=cs) (r:=r) (most:=most) hp hn hk h1 a (j+1) ha (by omega)
  show Step P18 G18 (A18 48) 48 7 _ _ _ _ (h63 r n c cs k cc most 0 (fold1 (fillM r n cs k most) cs a (j+1) (fold2 (fillM r n cs k most) cs k a m j) k))
  generalize fold2 (fillM r n cs k most) cs k a m j = mm at *
  generalize fold1 (fillM r n cs k most) cs a (j+1) mm k = m2 at *
  refine Step.mk0 (A:=A18) (K:=noneO) (m:=0) none_ok rfl rfl (loops1 hl) (h1:=h63 r n c cs k cc most 0 m2) ?_ (.refl _)
  refine Eq.trans (show iterR P18 G18 A18 noneO 0 48 [(10,litS (v48 cs k cc a (j+1:Nat) 0) (h63 r n c cs k cc most 0 mm) (.exit 4) (v48j a (j+1:Nat)) (h63 r n c cs k cc most 0 m2))] 7 (v48j a ((j:Nat)+1)) (h63 r n c cs k cc most 0 mm) =
(
 bif decide (Int.ofNat j+1<=Int.ofNat a) then
 bif weakF (v48 cs k cc (Int.ofNat a) (Int.ofNat j+1) (0:Int)) (h63 r n c cs k cc most (0:Nat) mm) (v48 cs k cc (Int.ofNat a) (Int.ofNat (j+1)) (0:Int)) (h63 r n c cs k cc most (0:Nat) mm) then
 some ((.normal,v48j (Int.ofNat a) (IntKind.i64.wrap (Int.ofNat (j+1)+(1:Int))),h63 r n c cs k cc most (0:Nat) m2))
 else none else
 some ((.exit 2,v48a (Int.ofNat a),h63 r n c cs k cc most (0:Nat) mm))) from by kernel_rfl) ?_
  refine BT ?_
  refine bift (weakF_of ⟨rfl,.refl _⟩) ?_
  rw [ofNatE (j+1),wr64 (x:=((j+1:Nat):Int)+1) (by omega) (by omega)]
  rfl
 ·generalize fold2 (fillM r n cs k most) cs k a m a = mm at *
  refine Last.mk0 (A:=A18) (K:=noneO) (m:=0) none_ok rfl rfl loops0 (h1:=h63 r n c cs k cc most 0 mm) (by simp) ?_ (.refl _)
  refine Eq.trans (show iterR P18 G18 A18 noneO 0 48 [] 7 (v48j a ((a:Nat)+1)) (h63 r n c cs k cc most 0 mm) =
(
 bif decide (Int.ofNat a+1<=Int.ofNat a) then none else
 some ((.exit 2,v48a (Int.ofNat a),h63 r n c cs k cc most (0:Nat) mm))) from by kernel_rfl) ?_
  (repeat (first | refine BT ?_ | refine BG ?_))
  rfl
theorem l48a (hp:p = ToldRef P18 G18 63) (hn:n<=1000) (hk:k<=1000) :
 LoopOk P18 G18 (A18 48) 48 4 (litS (v48a n) (h63 r n c cs k cc most 0 (.made ks18 .i64)) (.exit 0) [.ptr 4 0 0 0,f48] (h63 r n c cs k cc most 0 (fold3 (fillM r n cs k most) cs k n n))):=by
 rw [show ((n:Nat):Int) = (n:Int) - ((0:Nat):Int) by omega]
 refine loop_steps hm18 (by kernel_rfl) (fun i=>v48a ((n:Int) - (i:Nat))) (fun i=>h63 r n c cs k cc most 0 (fold3 (fillM r n cs k most) cs k n i)) (n:=n) (fun i hi=>?_) ?_
 ·have h1:=MOk.f3 (r:=r) (n:=n) (cs:=cs) (k:=k) (most:=most) i
  have hl:=l48j (c:=c) (cc:=cc) (cs:=cs) (r:=r) (most:=most) hp hn hk h1 (n - i) (by omega)
  show Step P18 G18 (A18 48) 48 4 _ _ _ _ (h63 r n c cs k cc most 0 (fold2 (fillM r n cs k most) cs k (n - i) (fold3 (fillM r n cs k most) cs k n i) (n - i)))
  generalize fold3 (fillM r n cs k most) cs k n i = mm at *
  generalize fold2 (fillM r n cs k most) cs k (n - i) mm (n - i) = m2 at *
  obtain ⟨a,ha⟩:∃ a,n - i = a+1:=⟨n - i - 1,by omega⟩
  rw [ha] at hl
  rw [show (n:Int) - (i:Nat) = ((a+1:Nat):Int) by omega,show (n:Int) - ((i+1:Nat):Int) = (a:Int) by omega]
  refine Step.mk0 (A:=A18) (K:=noneO) (m:=0) none_ok rfl rfl (loops1 hl) (h1:=h63 r n c cs k cc most 0 m2) ?_ (.refl _)
  refine Eq.trans (show iterR P18 G18 A18 noneO 0 48 [(7,litS (v48j (a+1:Nat) 1) (h63 r n c cs k cc most 0 mm) (.exit 2) (v48a (a+1:Nat)) (h63 r n c cs k cc most 0 m2))] 4 (v48a (a+1:Nat)) (h63 r n c cs k cc most 0 mm) =
(
 bif decide (0<Int.ofNat (a+1)) then
 bif weakF (v48j (Int.ofNat (a+1)) (1:Int)) (h63 r n c cs k cc most (0:Nat) mm) (v48j (Int.ofNat (a+1)) (1:Int)) (h63 r n c cs k cc most (0:Nat) mm) then
 some ((.normal,v48a (IntKind.i64.wrap (Int.ofNat (a+1) - (1:Int))),h63 r n c cs k cc most (0:Nat) m2))
 else none else
 some ((.exit 0,[.ptr 4 0 0 0,.fn (63:Nat) [.ptr 0 0 0 0,.ptr 4 0 0 0,.ptr 1 0 0 0,.ptr 2 0 0 0]],h63 r n c cs k cc most (0:Nat) mm))) from by kernel_rfl) ?_
  (repeat (first | refine BT ?_ | refine BG ?_))
  refine bift (weakF_of ⟨rfl,.refl _⟩) ?_
  rw [ofNatE (a+1),wr64 (x:=((a+1:Nat):Int) - 1) (by omega) (by omega),show ((a+1:Nat):Int) - 1 = (a:Int) by omega]
  try rfl
 ·rw [show (n:Int) - (n:Nat) = 0 by omega]
  generalize fold3 (fillM r n cs k most) cs k n n = mm at *
  refine Last.mk0 (A:=A18) (K:=noneO) (m:=0) none_ok rfl rfl loops0 (h1:=h63 r n c cs k cc most 0 mm) (by simp) ?_ (.refl _)
  refine Eq.trans (show iterR P18 G18 A18 noneO 0 48 [] 4 (v48a 0) (h63 r n c cs k cc most 0 mm) =
(
 some ((.exit 0,[.ptr 4 0 0 0,.fn (63:Nat) [.ptr 0 0 0 0,.ptr 4 0 0 0,.ptr 1 0 0 0,.ptr 2 0 0 0]],h63 r n c cs k cc most (0:Nat) mm))) from by kernel_rfl) ?_
  rfl
end
def leastM (r:Nat->Int) (n:Nat) (cs:Nat->Int) (k:Nat) (most:Int):MapD:=fillM r n cs k most 0 0 0 false (fold3 (fillM r n cs k most) cs k n n)
theorem changesT (r:Nat->Int) (n:Nat) (c:Option Nat) (cs:Nat->Int) (k:Nat) (cc:Option Nat) (most:Int) (hn:n<=1000) (hk:k<=1000):ToldOk P18 G18 48 [rowV r n c,rowV cs k cc,.int .i64 most] (.freshm (leastM r n cs k most)):=by
 obtain ⟨p,hp⟩:=is_ref P18 G18 63
 have okK:∀ u,OrcOk P18 G18 (K48 p u):=fun u=>told_addRef none_ok (refF_told hp)
 have hl:=l48a (r:=r) (n:=n) (c:=c) (cs:=cs) (k:=k) (cc:=cc) (most:=most) hp hn hk
 have h1:=MOk.f3 (r:=r) (n:=n) (cs:=cs) (k:=k) (most:=most) n
 have y1:=yes63 (c:=c) (cc:=cc) (ver:=0) (cs:=cs) (r:=r) (most:=most) hp hn hk h1 0 0 0 false (by omega) (by omega)
 unfold leastM
 generalize fold3 (fillM r n cs k most) cs k n n = mm at *
 generalize fillM r n cs k most = u at *
 refine stepL_told hm18 hn18 (okK u) (A:=A18) (m:=0) (by kernel_rfl) (loops1 hl) ?_
 refine Eq.trans (show stepL P18 G18 A18 (K48 p u) 0 48 [(4,litS (v48a n) (h63 r n c cs k cc most 0 (.made ks18 .i64)) (.exit 0) [.ptr 4 0 0 0,f48] (h63 r n c cs k cc most 0 mm))] [rowV r n c,rowV cs k cc,.int .i64 most] =
(
 bif weakF (v48a (Int.ofNat n)) [.mk 0 [rowV r n c].length (1:Nat) (fun x=>[rowV r n c]) false false
 none,.mk 0 [rowV cs k cc].length (1:Nat) (fun x=>[rowV cs k cc]) false false
 none,.mk 0 [T.int .i64 most].length (1:Nat) (fun x=>[.int .i64 most]) true false
 none,.mk 0 0 0 (fun x=>[]) false false (some (MapD.mk (KS.row [some IntKind.i64,some IntKind.u8,some IntKind.i64,
 none]) IntKind.i64 (fun x=>false) (fun x=>(0:Int)) (fun x=>(0:Nat)) (0:Nat)
 none)),.mk 0 1 1 (fun e=>[bif e==(0:Nat) then T.mp [Blk.mk 0 [rowV r n c].length (1:Nat) (fun x=>[rowV r n c]) false false
 none,Blk.mk 0 [rowV cs k cc].length (1:Nat) (fun x=>[rowV cs k cc]) false false
 none,Blk.mk 0 [T.int .i64 most].length (1:Nat) (fun x=>[T.int .i64 most]) true false
 none].length (0:Nat)
 else T.nilm]) false false
 none] (v48a (Int.ofNat n)) (h63 r n c cs k cc most (0:Nat) (MapD.mk (KS.row [some IntKind.i64,some IntKind.u8,some IntKind.i64,
 none]) IntKind.i64 (fun x=>false) (fun x=>(0:Int)) (fun x=>(0:Nat)) (0:Nat)
 none)) then
 bif decF (p [.agg (plc (0:Int) (0:Int) (0:Int) false),.ptr 0 0 0 0,.ptr 4 0 0 0,.ptr 1 0 0 0,.ptr 2 0 0 0] (h63 r n c cs k cc most (0:Nat) mm) (.tup []) (h63 r n c cs k cc most (0:Nat) (u (0:Int) (0:Int) (0:Int) false mm))) then
 some (T.freshm (u (0:Int) (0:Int) (0:Int) false mm))
 else none else
 none) from by kernel_rfl) ?_
 refine bift (weakF_of ⟨rfl,.cons ⟨rfl,rfl,rfl,fun h=>h,fun _ _=>rfl⟩ (.cons ⟨rfl,rfl,rfl,fun h=>h,fun _ _=>rfl⟩ (.cons ⟨rfl,rfl,rfl,fun _=>rfl,fun _ _=>rfl⟩ (.cons ⟨rfl,rfl,rfl,fun h=>h,fun _ _=>rfl⟩ (.cons ⟨rfl,rfl,rfl,fun h=>h,fun j hj=>?_⟩ .nil))))⟩) ?_
 ·obtain rfl:=one_of hj
  rfl
 refine bift y1 ?_
 rfl
open Go.Proofs
structure PS where
 c:Int
 run:Int
 inn:Bool
def PS.nx (s:PS) (d:Int):PS:=⟨d,nK s.run s.c d,nI s.run s.c d s.inn⟩
def PS.ok (s:PS) (most d:Int):Bool:=nO s.run s.c d s.inn most
def PS.key (s:PS) (a:Int):List Int:=[a,s.c,s.run,b2i s.inn]
def PS.cells (s:PS) (a:Int):List T:=plc a s.c s.run s.inn
def fnd (t:Nat->Bool):Nat->Nat->Nat
 | 0,j=>j
 | m+1,j=>if t j = true then j else fnd t m (j+1)
def tst (r:Nat->Int) (most:Int) (val:List Int->Int) (i:Nat) (s:PS) (d:Int):Bool:=s.ok most d&&decide (val ((s.nx d).key ((i:Int)+1))+chg (r i) d = val (s.key i))
section
variable (r:Nat->Int) (cs:Nat->Int) (k:Nat) (most:Int) (val:List Int->Int)
def psC (i:Nat) (s:PS):Nat:=fnd (fun j=>tst r most val i s (cs j)) k 0
def psT:Nat->PS
 | 0=>⟨0,0,false⟩
 | i+1=>(psT i).nx (cs (psC r cs k most val i (psT i)))
def wvn (i:Nat):Int:=(psT r cs k most val (i+1)).c
end
def h30 (m:MapD) (n:Nat) (w:Nat->Int):Heap:=[mapBlk 0 m,⟨0,1,n,fun j=>[.int .u8 (w j)],true,false,none⟩]
def v30 (r:Nat->Int) (n:Nat) (c:Option Nat) (cs:Nat->Int) (k:Nat) (cc:Option Nat) (most:Int) (s:PS) (a i:Int):List T:=[.int .i64 most,rowV cs k cc,.mp 0 0,.own 1 0 0 n (some n),.reg (s.cells a),rowV r n c,.int .i64 n,.int .i64 i]
def v30c (r:Nat->Int) (n:Nat) (c:Option Nat) (cs:Nat->Int) (k:Nat) (cc:Option Nat) (most:Int) (s:PS) (a i j:Int) (old:Int):List T:=[.int .i64 most,rowV cs k cc,.mp 0 0,.own 1 0 0 n (some n),.reg (s.cells a),.int .i64 i,.int .u8 old,rowV r n c,.int .i64 n,.int .i64 i,rowV cs k cc,.int .i64 k,.int .i64 j]
noncomputable def K30 (p47 p48:List T->T->Prop) (cl:T) (m:MapD):Orc:=(K63.add 47 (callF p47 fun _=>some cl)).add 48 (callF p48 fun _=>some (.freshm m))
theorem fnd_ge (t:Nat->Bool):∀ m j,j<=fnd t m j/\fnd t m j<=j+m:=by
 intro m
 induction m with
 | zero=>intro j; exact ⟨Nat.le_refl _,Nat.le_refl _⟩
 | succ m ih =>
  intro j
  have:=ih (j+1)
  rw [fnd]
  split <;> omega
theorem fnd_ne (t:Nat->Bool):∀ m j i,j<=i->i<fnd t m j->t i = false:=by
 intro m
 induction m with
 | zero=>intro j i h1 h2; simp only [fnd] at h2; omega
 | succ m ih =>
  intro j i h1 h2
  rw [fnd] at h2
  by_cases q:t j = true
  ·rw [if_pos q] at h2; omega
  ·rw [if_neg q] at h2
   rcases Nat.lt_or_ge j i with h3 | h3
   ·exact ih (j+1) i (by omega) h2
   ·obtain rfl:j = i:=by omega
    simpa using q
theorem fnd_eq (t:Nat->Bool):∀ m j,fnd t m j<j+m->t (fnd t m j) = true:=by
 intro m
 induction m with
 | zero=>intro j h; simp only [fnd] at h; omega
 | succ m ih =>
  intro j h
  rw [fnd] at h ⊢
  by_cases q:t j = true
  ·rw [if_pos q]; exact q
  ·rw [if_neg q] at h ⊢
   exact ih (j+1) (by omega)
theorem nK_bd (k c d:Int) (h:0<=k):0<=nK k c d/\nK k c d<=k+1:=by
 unfold nK
 cases decide (k = 0) <;> cases decide (c = d) <;> simp <;> omega
section
variable {r:Nat->Int} {n:Nat} {c:Option Nat} {cs:Nat->Int} {k:Nat} {cc:Option Nat} {most:Int} {m:MapD}
theorem psT_bd (val:List Int->Int):∀ i,0<=(psT r cs k most val i).run/\(psT r cs k most val i).run<=i
 | 0=>by show (0:Int)<=0/\(0:Int)<=((0:Nat):Int); omega
 | i+1=>by
  have h:=psT_bd val i
  have:=nK_bd (psT r cs k most val i).run (psT r cs k most val i).c (cs (psC r cs k most val i (psT r cs k most val i))) h.1
  show 0<=nK _ _ _/\nK _ _ _<=((i+1:Nat):Int)
  omega
theorem l30c (hn:n<=1000) (hk:k<=1000) (hm:MOk n m) (s:PS) (i:Nat) (w:Nat->Int) (hi:i<n) (hs:0<=s.run/\s.run<=i) (hf:psC r cs k most m.val i s<k) :
 LoopOk P18 G18 (A18 30) 30 9 (litS (v30c r n c cs k cc most s i i 0 (r i)) (h30 m n w) (.exit 2) (v30 r n c cs k cc most (s.nx (cs (psC r cs k most m.val i s))) ((i:Int)+1) i) (h30 m n fun e=>bif e==i then cs (psC r cs k most m.val i s) else w e)):=by
 obtain ⟨h1,h2,hv⟩:=hm
 obtain ⟨ks,q,has,val,born,cl,la⟩:=m
 dsimp only at h1 h2 hv
 subst h1 h2
 have ht1:=fnd_ne (fun j=>tst r most val i s (cs j)) k 0
 have ht2:=fnd_eq (fun j=>tst r most val i s (cs j)) k 0
 change psC r cs k most val i s<k at hf
 unfold psC at hf
 unfold psC
 dsimp only
 generalize fnd (fun j=>tst r most val i s (cs j)) k 0 = J at *
 have e0:∀ j,(bif nO s.run s.c (cs j) s.inn most then bif decide (val [(i:Int)+1,cs j,nK s.run s.c (cs j),b2i (nI s.run s.c (cs j) s.inn)]+chg (r i) (cs j) = val [(i:Int),s.c,s.run,b2i s.inn]) then true else false else false) = tst r most val i s (cs j):=fun j=>by
  unfold tst PS.ok PS.key PS.nx
  dsimp only
  cases nO s.run s.c (cs j) s.inn most <;> simp
 have hw:∀ j,IntKind.i64.wrap (val [(i:Int)+1,cs j,nK s.run s.c (cs j),b2i (nI s.run s.c (cs j) s.inn)]+chg (r i) (cs j)) = val [(i:Int)+1,cs j,nK s.run s.c (cs j),b2i (nI s.run s.c (cs j) s.inn)]+chg (r i) (cs j):=fun j=>by
  have:=hv [(i:Int)+1,cs j,nK s.run s.c (cs j),b2i (nI s.run s.c (cs j) s.inn)]
  have:=chg_bd (r i) (cs j)
  exact wr64 (by omega) (by omega)
 refine loop_steps hm18 (by kernel_rfl) (fun j=>v30c r n c cs k cc most s i i j (r i)) (fun _=>h30 (mD has val born cl la) n w) (n:=J) (fun j hj=>?_) ?_
 ·have ht:=ht1 j (by omega) hj
  rw [← e0 j] at ht
  have hwj:=hw j
  clear ht1 ht2 e0 hw
  refine Step.mk0 (A:=A18) (m:=0) ok63 rfl rfl loops0 (h1:=h30 (mD has val born cl la) n w) ?_ (.refl _)
  generalize r i = old at *
  refine Eq.trans (show iterR P18 G18 A18 K63 0 30 [] 9 (v30c r n c cs k cc most s i i j old) (h30 (mD has val born cl la) n w) =
(
 bif decide (Int.ofNat j<Int.ofNat k) then
 bif decide (0<=Int.ofNat j)&&decide (Int.ofNat j<Int.ofNat k) then
 bif decide (0<=Int.ofNat i)&&(decide (Int.ofNat i<=1000000)&&(decide (0<=s.run)&&decide (s.run<=1000000))) then
 bif
 bif decide (s.run = 0) then true
 else
 bif decide (s.c = cs j) then true
 else
 bif s.inn then decide (s.run<=most)
 else true then
 bif decide (IntKind.i64.wrap (val [Int.ofNat i+1,cs j,
 bif decide (s.run = 0) then (1:Int)
 else
 bif decide (s.c = cs j) then s.run+1
 else (1:Int),
 bif
 bif decide (s.run = 0) then false
 else
 bif decide (s.c = cs j) then s.inn
 else true then (1:Int)
 else (0:Int)] +
 bif decide (old = cs j) then (0:Int)
 else (1:Int)) = val [Int.ofNat i,s.c,s.run,
 bif s.inn then (1:Int)
 else (0:Int)]) then
 bif decide (0<=Int.ofNat i)&&decide (Int.ofNat i<Int.ofNat n) then
 bif ((0:Nat)+i).blt n&&[T.int .u8 (cs j)].length==(1:Nat)&&true&&true then
 some ((.exit 2,[.int .i64 most,rowV cs k cc,T.mp (0:Nat) (0:Nat),.own 1 0 0 n (some n),.reg (plc (Int.ofNat i+1) (cs j) (bif decide (s.run = 0) then (1:Int)
 else
 bif decide (s.c = cs j) then s.run+1
 else (1:Int)) (bif decide (s.run = 0) then false
 else
 bif decide (s.c = cs j) then s.inn
 else true)),rowV r n c,.int .i64 (.ofNat n),.int .i64 (.ofNat i)],h30 (MapD.mk (KS.row [some IntKind.i64,some IntKind.u8,some IntKind.i64,
 none]) IntKind.i64 has val born cl la) n fun j_1 =>
 bif j_1==0+i then cs j
 else w j_1))
 else none else none else
 some ((.normal,v30c r n c cs k cc most s (Int.ofNat i) (Int.ofNat i) (IntKind.i64.wrap (Int.ofNat j+1)) old,h30 (MapD.mk (KS.row [some IntKind.i64,some IntKind.u8,some IntKind.i64,
 none]) IntKind.i64 has val born cl la) n w))
 else
 some ((.normal,v30c r n c cs k cc most s (Int.ofNat i) (Int.ofNat i) (IntKind.i64.wrap (Int.ofNat j+1)) old,h30 (MapD.mk (KS.row [some IntKind.i64,some IntKind.u8,some IntKind.i64,
 none]) IntKind.i64 has val born cl la) n w))
 else none else none else
 some ((.exit 2,v30 r n c cs k cc most s (Int.ofNat i) (Int.ofNat i),h30 (MapD.mk (KS.row [some IntKind.i64,some IntKind.u8,some IntKind.i64,
 none]) IntKind.i64 has val born cl la) n w))) from by kernel_rfl) ?_
  refine BT ?_
  refine BT ?_
  refine BT ?_
  rw [ofNatE j,wr64 (x:=(j:Int)+1) (by omega) (by omega)]
  change (bif nO s.run s.c (cs j) s.inn most then (bif decide (IntKind.i64.wrap (val [(i:Int)+1,cs j,nK s.run s.c (cs j),b2i (nI s.run s.c (cs j) s.inn)]+chg old (cs j)) = val [(i:Int),s.c,s.run,b2i s.inn]) then _ else _) else _) = _
  rw [hwj]
  cases q1:nO s.run s.c (cs j) s.inn most
  ·rfl
  ·rw [q1,cond_true] at ht
   rw [cond_true]
   cases q:decide (val [(i:Int)+1,cs j,nK s.run s.c (cs j),b2i (nI s.run s.c (cs j) s.inn)]+chg old (cs j) = val [(i:Int),s.c,s.run,b2i s.inn])
   ·rfl
   ·rw [q] at ht; cases ht
 ·have ht:=ht2 (by omega)
  rw [← e0 J] at ht
  have hwj:=hw J
  clear ht1 ht2 e0 hw
  refine Last.mk0 (A:=A18) (m:=0) ok63 rfl rfl loops0 (h1:=h30 (mD has val born cl la) n fun e=>bif e==0+i then cs J else w e) (by simp) ?_ (by rw [Nat.zero_add]; exact .refl _)
  generalize r i = old at *
  refine Eq.trans (show iterR P18 G18 A18 K63 0 30 [] 9 (v30c r n c cs k cc most s i i J old) (h30 (mD has val born cl la) n w) =
(
 bif decide (Int.ofNat J<Int.ofNat k) then
 bif decide (0<=Int.ofNat J)&&decide (Int.ofNat J<Int.ofNat k) then
 bif decide (0<=Int.ofNat i)&&(decide (Int.ofNat i<=1000000)&&(decide (0<=s.run)&&decide (s.run<=1000000))) then
 bif
 bif decide (s.run = 0) then true
 else
 bif decide (s.c = cs J) then true
 else
 bif s.inn then decide (s.run<=most)
 else true then
 bif decide (IntKind.i64.wrap (val [Int.ofNat i+1,cs J,
 bif decide (s.run = 0) then (1:Int)
 else
 bif decide (s.c = cs J) then s.run+1
 else (1:Int),
 bif
 bif decide (s.run = 0) then false
 else
 bif decide (s.c = cs J) then s.inn
 else true then (1:Int)
 else (0:Int)] +
 bif decide (old = cs J) then (0:Int)
 else (1:Int)) = val [Int.ofNat i,s.c,s.run,
 bif s.inn then (1:Int)
 else (0:Int)]) then
 bif decide (0<=Int.ofNat i)&&decide (Int.ofNat i<Int.ofNat n) then
 bif ((0:Nat)+i).blt n&&[T.int .u8 (cs J)].length==(1:Nat)&&true&&true then
 some ((.exit 2,[.int .i64 most,rowV cs k cc,T.mp (0:Nat) (0:Nat),.own 1 0 0 n (some n),.reg (plc (Int.ofNat i+1) (cs J) (bif decide (s.run = 0) then (1:Int)
 else
 bif decide (s.c = cs J) then s.run+1
 else (1:Int)) (bif decide (s.run = 0) then false
 else
 bif decide (s.c = cs J) then s.inn
 else true)),rowV r n c,.int .i64 (.ofNat n),.int .i64 (.ofNat i)],h30 (MapD.mk (KS.row [some IntKind.i64,some IntKind.u8,some IntKind.i64,
 none]) IntKind.i64 has val born cl la) n fun j =>
 bif j==0+i then cs J
 else w j))
 else none else none else
 some ((.normal,v30c r n c cs k cc most s (Int.ofNat i) (Int.ofNat i) (IntKind.i64.wrap (Int.ofNat J+1)) old,h30 (MapD.mk (KS.row [some IntKind.i64,some IntKind.u8,some IntKind.i64,
 none]) IntKind.i64 has val born cl la) n w))
 else
 some ((.normal,v30c r n c cs k cc most s (Int.ofNat i) (Int.ofNat i) (IntKind.i64.wrap (Int.ofNat J+1)) old,h30 (MapD.mk (KS.row [some IntKind.i64,some IntKind.u8,some IntKind.i64,
 none]) IntKind.i64 has val born cl la) n w))
 else none else none else
 some ((.exit 2,v30 r n c cs k cc most s (Int.ofNat i) (Int.ofNat i),h30 (MapD.mk (KS.row [some IntKind.i64,some IntKind.u8,some IntKind.i64,
 none]) IntKind.i64 has val born cl la) n w))) from by kernel_rfl) ?_
  refine BT ?_
  refine BT ?_
  refine BT ?_
  change (bif nO s.run s.c (cs J) s.inn most then (bif decide (IntKind.i64.wrap (val [(i:Int)+1,cs J,nK s.run s.c (cs J),b2i (nI s.run s.c (cs J) s.inn)]+chg old (cs J)) = val [(i:Int),s.c,s.run,b2i s.inn]) then _ else _) else _) = _
  rw [hwj]
  cases q1:nO s.run s.c (cs J) s.inn most
  ·rw [q1] at ht; cases ht
  ·rw [q1,cond_true] at ht
   rw [cond_true]
   cases q:decide (val [(i:Int)+1,cs J,nK s.run s.c (cs J),b2i (nI s.run s.c (cs J) s.inn)]+chg old (cs J) = val [(i:Int),s.c,s.run,b2i s.inn])
   ·rw [q] at ht; cases ht
   ·rw [cond_true]
    refine BT ?_
    refine BT ?_
    rfl
theorem l30 (hn:n<=1000) (hk:k<=1000) (hm:MOk n m) (hf:∀ i,i<n->psC r cs k most m.val i (psT r cs k most m.val i)<k) :
 LoopOk P18 G18 (A18 30) 30 6 (litS (v30 r n c cs k cc most ⟨0,0,false⟩ 0 0) (h30 m n fun _=>0) (.exit 0) [.mp 0 0,.own 1 0 0 n (some n)] (h30 m n fun j=>bif Nat.blt j n then wvn r cs k most m.val j else 0)):=by
 refine loop_steps hm18 (by kernel_rfl) (fun i=>v30 r n c cs k cc most (psT r cs k most m.val i) (i:Nat) (i:Nat)) (fun i=>h30 m n fun j=>bif Nat.blt j i then wvn r cs k most m.val j else 0) (n:=n) (fun i hi=>?_) ?_
 ·have hs:=psT_bd (r:=r) (cs:=cs) (k:=k) (most:=most) m.val i
  have hl:=l30c (c:=c) (cc:=cc) (r:=r) (cs:=cs) (most:=most) hn hk hm (psT r cs k most m.val i) i (fun j=>bif Nat.blt j i then wvn r cs k most m.val j else 0) hi hs (hf i hi)
  have e1:psT r cs k most m.val (i+1) = (psT r cs k most m.val i).nx (cs (psC r cs k most m.val i (psT r cs k most m.val i))):=rfl
  have e2:wvn r cs k most m.val i = cs (psC r cs k most m.val i (psT r cs k most m.val i)):=rfl
  have hw:(fun j=>bif Nat.blt j (i+1) then wvn r cs k most m.val j else 0) = fun e=>bif e==i then cs (psC r cs k most m.val i (psT r cs k most m.val i)) else bif Nat.blt e i then wvn r cs k most m.val e else 0:=by
   funext e
   by_cases q:e = i
   ·subst q; rw [beq_self_eq_true,cond_true,bltT (by omega),cond_true,e2]
   ·rw [show (e==i) = false by simpa using q,cond_false]
    by_cases q2:e<i
    ·rw [bltT q2,bltT (by omega)]
    ·rw [bltF (by omega),bltF (by omega)]
  rw [e1,hw]
  generalize (psT r cs k most m.val i).nx (cs (psC r cs k most m.val i (psT r cs k most m.val i))) = s2 at *
  generalize psT r cs k most m.val i = s at *
  generalize (fun e=>bif e==i then cs (psC r cs k most m.val i s) else bif Nat.blt e i then wvn r cs k most m.val e else 0) = w2 at *
  generalize (fun j=>bif Nat.blt j i then wvn r cs k most m.val j else 0) = w at *
  have hL:(h30 m n (fun _=>0)).length = 2:=rfl
  refine Step.mk0 (A:=A18) (m:=0) none_ok rfl rfl (loops1 hl) (h1:=h30 m n w2) ?_ (.refl _)
  refine Eq.trans (show iterR P18 G18 A18 noneO 0 30 [(9,litS (v30c r n c cs k cc most s i i 0 (r i)) (h30 m n w) (.exit 2) (v30 r n c cs k cc most s2 ((i:Int)+1) i) (h30 m n w2))] 6 (v30 r n c cs k cc most s (i:Nat) (i:Nat)) (h30 m n w) =
(
 bif decide (Int.ofNat i<Int.ofNat n) then
 bif decide (0<=Int.ofNat i)&&decide (Int.ofNat i<Int.ofNat n) then
 bif weakF (v30c r n c cs k cc most s (Int.ofNat i) (Int.ofNat i) (0:Int) (r i)) (h30 m n w) (v30c r n c cs k cc most s (Int.ofNat i) (Int.ofNat i) (0:Int) (r i)) (h30 m n w) then
 some ((.normal,v30 r n c cs k cc most s2 (Int.ofNat i+1) (IntKind.i64.wrap (Int.ofNat i+1)),h30 m n w2))
 else none else none else
 some ((.exit 0,[T.mp (0:Nat) (0:Nat),.own 1 0 0 n (some n)],h30 m n w))) from by kernel_rfl) ?_
  (repeat (first | refine BT ?_ | refine BG ?_))
  refine bift (weakF_of ⟨rfl,.refl _⟩) ?_
  rw [ofNatE i,wr64 (x:=(i:Int)+1) (by omega) (by omega)]
  rfl
 ·generalize psT r cs k most m.val n = s at *
  generalize (fun j=>bif Nat.blt j n then wvn r cs k most m.val j else 0) = w at *
  refine Last.mk0 (A:=A18) (m:=0) none_ok rfl rfl loops0 (h1:=h30 m n w) (by simp) ?_ (.refl _)
  refine Eq.trans (show iterR P18 G18 A18 noneO 0 30 [] 6 (v30 r n c cs k cc most s (n:Nat) (n:Nat)) (h30 m n w) =
(
 bif decide (Int.ofNat n<Int.ofNat n) then
 bif decide (0<=Int.ofNat n)&&decide (Int.ofNat n<Int.ofNat n) then none else none else
 some ((.exit 0,[T.mp (0:Nat) (0:Nat),.own 1 0 0 n (some n)],h30 m n w))) from by kernel_rfl) ?_
  (repeat (first | refine BT ?_ | refine BG ?_))
  rfl
end
theorem weave1T (r:Nat->Int) (n:Nat) (c:Option Nat) (cs:Nat->Int) (k:Nat) (cc:Option Nat) (most:Int) (hn:n<=1000) (hk:k<=1000) (h47:ToldOk P18 G18 47 [rowV r n c] (.new (rowV cs k cc)))
 (hf:∀ i,i<n->psC r cs k most (leastM r n cs k most).val i (psT r cs k most (leastM r n cs k most).val i)<k) :
 ToldOk P18 G18 30 [rowV r n c,.int .i64 most] (.tup [.fresh true 1 n (fun j=>[.int .u8 (wvn r cs k most (leastM r n cs k most).val j)]) n (some n),.int .i64 ((leastM r n cs k most).val [0,0,0,0])]):=by
 obtain ⟨p47,hp47⟩:=is_val P18 G18 47
 obtain ⟨p48,hp48⟩:=is_val P18 G18 48
 have h48:=changesT r n c cs k cc most hn hk
 have hm:MOk n (leastM r n cs k most):=(MOk.f3 n).fill _ _ _ _
 have hl:=l30 (c:=c) (cc:=cc) hn hk hm hf
 have hK:OrcOk P18 G18 (K30 p47 p48 (.new (rowV cs k cc)) (leastM r n cs k most)):=told_add (told_add ok63 (callF_told hp47)) (callF_told hp48)
 have y1:=callF_yes hp47 h47
 have y2:=callF_yes hp48 h48
 clear hf
 generalize leastM r n cs k most = m at *
 obtain ⟨h1,h2,hv⟩:=hm
 generalize wvn r cs k most m.val = wv at *
 obtain ⟨ks,q,has,val,born,cl,la⟩:=m
 dsimp only at h1 h2 hv
 subst h1 h2
 refine ToldOk.tupTo (l:=[.fresh true 1 n (fun j=>[.int .u8 (bif Nat.blt j n then wv j else 0)]) n (some n),.int .i64 (val [0,0,0,0])]) ?_ (.cons (.fresh (Nat.le_refl _) (Nat.le_refl _) (fun _ h=>by cases h; exact Nat.le_refl _) fun j hj=>by rw [bltT hj,cond_true]) (.cons (.refl _) .nil))
 refine stepL_told hm18 hn18 hK (A:=A18) (m:=0) (by kernel_rfl) (loops1 hl) ?_
 refine Eq.trans (show stepL P18 G18 A18 (K30 p47 p48 (.new (rowV cs k cc)) (mD has val born cl la)) 0 30 [(6,litS (v30 r n c cs k cc most ⟨0,0,false⟩ 0 0) (h30 (mD has val born cl la) n fun _=>0) (.exit 0) [.mp 0 0,.own 1 0 0 n (some n)] (h30 (mD has val born cl la) n fun j=>bif Nat.blt j n then wv j else 0))] [rowV r n c,.int .i64 most] =
(
 bif decF (p47 [rowV r n c] (rowV cs k cc).new) then
 bif decF (p48 [rowV r n c,rowV cs k cc,.int .i64 most] (T.freshm (MapD.mk (KS.row [some IntKind.i64,some IntKind.u8,some IntKind.i64,
 none]) IntKind.i64 has val born cl la))) then
 bif decide (0<=Int.ofNat n)&&decide (Int.ofNat n<=Int.ofNat n)&&decide (Int.ofNat n * 1<=140737488355328)&&decide (Int.ofNat n<=9223372036854775807) then
 bif weakF [.int .i64 most,rowV cs k cc,T.mp (0:Nat) (0:Nat),.own [Blk.mk 0 0 0 (fun x=>[]) false false (some (MapD.mk (KS.row [some IntKind.i64,some IntKind.u8,some IntKind.i64,
 none]) IntKind.i64 has val born cl la))].length (0:Nat) (0:Nat) n (some n),.reg (plc (0:Int) (0:Int) (0:Int) false),rowV r n c,.int .i64 (.ofNat n),.int .i64 0] (h30 (MapD.mk (KS.row [some IntKind.i64,some IntKind.u8,some IntKind.i64,
 none]) IntKind.i64 has val born cl la) n fun j=>(0:Int)) [.int .i64 most,rowV cs k cc,T.mp (0:Nat) (0:Nat),.own 1 0 0 n (some n),.reg (plc (0:Int) (0:Int) (0:Int) false),rowV r n c,.int .i64 (.ofNat n),.int .i64 0] (h30 (MapD.mk (KS.row [some IntKind.i64,some IntKind.u8,some IntKind.i64,
 none]) IntKind.i64 has val born cl la) n fun j=>(0:Int)) then
 some (.tup [bif ((0:Nat)+n).ble n then .fresh true (1:Nat) (n - 0) (fun j=>[.int .u8 (bif ((0:Nat)+j).blt n then wv (0+j)
 else (0:Int))]) n (some n)
 else .undef,.int .i64 (val [(0:Int),(0:Int),(0:Int),(0:Int)])])
 else none else none else none else
 none) from by kernel_rfl) ?_
 refine bift y1 ?_
 refine bift y2 ?_
 refine BT ?_
 refine bift (weakF_of ⟨rfl,.refl _⟩) ?_
 simp only [Nat.zero_add,Nat.sub_zero,bleT (Nat.le_refl _),cond_true]
open Go.Proofs
def nanS:List T->Tree
 | [.int .u8 _]=>.ret (.bool false)
 | _=>.none
def lessS:List T->Tree
 | [.int .u8 x,.int .u8 y]=>.ret (.bool (decide (x<y)))
 | _=>.none
noncomputable def K94:Orc:=noneO.add 94 nanS
noncomputable def K82:Orc:=noneO.add 82 lessS
def ub (ver n:Nat) (y:Nat->Int):Blk:=⟨ver,1,n,fun j=>[.int .u8 (y j)],true,false,none⟩
theorem nanT {args:List T} {r:T} (h:(nanS args).run some = some r):ToldOk P18 G18 94 args r:=by
 unfold nanS at h
 split at h
 ·obtain rfl:=Option.some.inj h
  rename_i x
  refine stepV_told hm18 hn18 none_ok (K:=noneO) (A:=A18) (m:=0) ?_
  rw [(show stepV P18 G18 A18 noneO 0 94 [.int .u8 x] =
(
 bif !decide (x = x) then
 some (.bool true)
 else
 some (.bool false)) from by kernel_rfl)]
  rw [dT rfl]; rfl
 ·cases h
theorem ok94:OrcOk P18 G18 K94:=told_add none_ok fun _ _=>nanT
theorem lessT {args:List T} {r:T} (h:(lessS args).run some = some r):ToldOk P18 G18 82 args r:=by
 unfold lessS at h
 split at h
 ·obtain rfl:=Option.some.inj h
  rename_i x y
  refine stepV_told hm18 hn18 ok94 (A:=A18) (m:=0) ?_
  rw [(show stepV P18 G18 A18 K94 0 82 [.int .u8 x,.int .u8 y] =
(
 bif decide (x<y) then
 some (.bool true)
 else
 some (.bool false)) from by kernel_rfl)]
  first | rfl | (cases decide (x<y) <;> rfl)
 ·cases h
theorem ok82:OrcOk P18 G18 K82:=told_add none_ok fun _ _=>lessT
def v62 (n k:Nat):List T:=[.own 0 0 0 n none,.int .i64 k]
def v62b (n k i0 m:Nat):List T:=[.own 0 0 0 n none,.int .i64 k,.own 0 0 i0 (n - i0) none,.int .i64 m]
def Mem (y:Nat->Int) (a b:Nat) (v:Int):Prop:=∃ j,a<=j/\j<b/\y j = v
structure Pr (y z:Nat->Int) (a b:Nat):Prop where
 mem:∀ v,Mem z a b v ↔ Mem y a b v
 out:∀ j,j<a ∨ b<=j->z j = y j
theorem Pr.refl (y:Nat->Int) (a b:Nat):Pr y y a b:=⟨fun _=>Iff.rfl,fun _ _=>rfl⟩
theorem Pr.trans {x y z:Nat->Int} {a b:Nat} (h1:Pr x y a b) (h2:Pr y z a b):Pr x z a b :=
 ⟨fun v=>(h2.mem v).trans (h1.mem v),fun j hj=>(h2.out j hj).trans (h1.out j hj)⟩
theorem Pr.swap (y:Nat->Int) {a b i j:Nat} (hi:a<=i/\i<b) (hj:a<=j/\j<b):Pr y (fun e=>if e = i then y j else if e = j then y i else y e) a b:=by
 refine ⟨fun v=>⟨fun ⟨e,h1,h2,h3⟩=>?_,fun ⟨e,h1,h2,h3⟩=>?_⟩,fun e he=>?_⟩
 ·dsimp only at h3
  by_cases q:e = i
  ·rw [if_pos q] at h3; exact ⟨j,hj.1,hj.2,h3⟩
  ·rw [if_neg q] at h3
   by_cases q2:e = j
   ·rw [if_pos q2] at h3; exact ⟨i,hi.1,hi.2,h3⟩
   ·rw [if_neg q2] at h3; exact ⟨e,h1,h2,h3⟩
 ·by_cases q:e = i
  ·refine ⟨j,hj.1,hj.2,?_⟩
   try dsimp only
   by_cases q2:j = i
   ·rw [if_pos q2,q2,← q]; exact h3
   ·rw [if_neg q2,if_pos rfl,← q]; exact h3
  ·by_cases q2:e = j
   ·refine ⟨i,hi.1,hi.2,?_⟩
    try dsimp only
    rw [if_pos rfl,← q2]; exact h3
   ·refine ⟨e,h1,h2,?_⟩
    try dsimp only
    rw [if_neg q,if_neg q2]; exact h3
 ·try dsimp only
  rw [if_neg (by omega),if_neg (by omega)]
theorem Pr.wider {y z:Nat->Int} {a b c d:Nat} (h:Pr y z c d) (h1:a<=c) (h2:d<=b):Pr y z a b:=by
 refine ⟨fun v=>⟨fun ⟨e,q1,q2,q3⟩=>?_,fun ⟨e,q1,q2,q3⟩=>?_⟩,fun e he=>h.out e (by omega)⟩
 ·by_cases q:c<=e/\e<d
  ·obtain ⟨e',r1,r2,r3⟩:=(h.mem v).1 ⟨e,q.1,q.2,q3⟩
   exact ⟨e',by omega,by omega,r3⟩
  ·exact ⟨e,q1,q2,by rw [← h.out e (by omega)]; exact q3⟩
 ·by_cases q:c<=e/\e<d
  ·obtain ⟨e',r1,r2,r3⟩:=(h.mem v).2 ⟨e,q.1,q.2,q3⟩
   exact ⟨e',by omega,by omega,r3⟩
  ·exact ⟨e,q1,q2,by rw [h.out e (by omega)]; exact q3⟩
def Asc (y:Nat->Int) (a b:Nat):Prop:=∀ p q,a<=p->p<q->q<b->y p<=y q
structure Ins (x y:Nat->Int) (a b i j:Nat):Prop where
 pr:Pr x y a b
 lo:a<=j
 hi:j<=i
 lt:i<b
 rest:∀ p q,a<=p->p<q->q<=i->p ≠ j->q ≠ j->y p<=y q
 up:∀ q,j<q->q<=i->y j<=y q
theorem Ins.start {x y:Nat->Int} {a b i:Nat} (hp:Pr x y a b) (h1:a<=i) (h2:i<b) (hs:Asc y a i):Ins x y a b i i :=
 ⟨hp,h1,Nat.le_refl _,h2,fun p q h3 h4 h5 h6 h7=>hs p q h3 h4 (by omega),fun q h3 h4=>by omega⟩
theorem Ins.step {x y:Nat->Int} {a b i j:Nat} (h:Ins x y a b i (j+1)) (ha:a<=j) (hlt:y (j+1)<y j):Ins x (fun e=>if e = j then y (j+1) else if e = j+1 then y j else y e) a b i j:=by
 have hi:=h.hi
 have hl:=h.lt
 refine ⟨h.pr.trans (Pr.swap y (i:=j) (j:=j+1) ⟨ha,by omega⟩ ⟨by omega,by omega⟩),ha,by omega,hl,fun p q h3 h4 h5 h6 h7=>?_,fun q h3 h4=>?_⟩
 ·try dsimp only
  rw [if_neg h6,if_neg h7]
  by_cases q1:p = j+1
  ·rw [if_pos q1,if_neg (by omega)]
   exact h.rest j q ha (by omega) h5 (by omega) (by omega)
  ·rw [if_neg q1]
   by_cases q2:q = j+1
   ·rw [if_pos q2]; exact h.rest p j h3 (by omega) (by omega) (by omega) (by omega)
   ·rw [if_neg q2]; exact h.rest p q h3 h4 h5 (by omega) (by omega)
 ·try dsimp only
  rw [if_pos rfl,if_neg (by omega)]
  by_cases q2:q = j+1
  ·rw [if_pos q2]; omega
  ·rw [if_neg q2]; exact h.up q (by omega) h4
theorem Ins.last {x y:Nat->Int} {a b i j:Nat} (h:Ins x y a b i j) (hl:j = a ∨ ∃ k,j = k+1/\y k<=y j):Asc y a (i+1):=by
 intro p q h1 h2 h3
 have hlo:=h.lo
 by_cases q1:p = j
 ·subst q1; exact h.up q h2 (by omega)
 ·by_cases q2:q = j
  ·rcases hl with hl | ⟨k,hk,hl⟩
   ·omega
   ·rw [q2]
    by_cases q3:p = k
    ·rw [q3]; exact hl
    ·exact Int.le_trans (h.rest p k h1 (by omega) (by have:=h.hi; omega) q1 (by omega)) hl
  ·exact h.rest p q h1 h2 (by omega) q1 q2
def SAsc (z:Nat->Int) (k:Nat):Prop:=∀ p q,p<q->q<k->z p<z q
structure Cmp (y z:Nat->Int) (n k m:Nat):Prop where
 k1:1<=k
 km:k<=m
 mn:m<=n
 asc:SAsc z k
 mem:∀ v,Mem z 0 k v ↔ Mem y 0 m v
 last:z (k - 1) = y (m - 1)
 keep:∀ j,m<=j->z j = y j
 at1:z (m - 1) = y (m - 1)
theorem Cmp.start (y:Nat->Int) {n:Nat} (hn:1<=n):Cmp y y n 1 1 :=
 ⟨Nat.le_refl _,Nat.le_refl _,hn,fun p q h1 h2=>by omega,fun _=>Iff.rfl,rfl,fun _ _=>rfl,rfl⟩
theorem mem_succ {y:Nat->Int} {m:Nat} {v:Int}:Mem y 0 (m+1) v ↔ Mem y 0 m v ∨ y m = v:=by
 constructor
 ·rintro ⟨j,h1,h2,h3⟩
  by_cases q:j = m
  ·subst q; exact .inr h3
  ·exact .inl ⟨j,h1,by omega,h3⟩
 ·rintro (⟨j,h1,h2,h3⟩ | h)
  ·exact ⟨j,h1,by omega,h3⟩
  ·exact ⟨m,Nat.zero_le _,by omega,h⟩
theorem mem_congr {y z:Nat->Int} {a b:Nat} {v:Int} (h:∀ j,a<=j->j<b->z j = y j):Mem z a b v ↔ Mem y a b v:=by
 constructor
 ·rintro ⟨j,h1,h2,h3⟩; exact ⟨j,h1,h2,by rw [← h j h1 h2]; exact h3⟩
 ·rintro ⟨j,h1,h2,h3⟩; exact ⟨j,h1,h2,by rw [h j h1 h2]; exact h3⟩
theorem Cmp.same {y z:Nat->Int} {n k m:Nat} (h:Cmp y z n k m) (hm:m<n) (he:y m = y (m - 1)):Cmp y z n k (m+1):=by
 have h1:=h.k1
 have h2:=h.km
 refine ⟨h1,by omega,hm,h.asc,fun v=>?_,?_,fun j hj=>h.keep j (by omega),?_⟩
 ·rw [h.mem,mem_succ]
  constructor
  ·exact .inl
  ·rintro (q | q)
   ·exact q
   ·exact ⟨m - 1,Nat.zero_le _,by omega,by rw [← he]; exact q⟩
 ·rw [h.last,Nat.add_sub_cancel,he]
 ·rw [Nat.add_sub_cancel]; exact h.keep m (Nat.le_refl _)
theorem Cmp.new {y z:Nat->Int} {n k m:Nat} (h:Cmp y z n k m) (hs:Asc y 0 n) (hm:m<n) (he:y m ≠ y (m - 1)):Cmp y (fun e=>if e = k then z m else z e) n (k+1) (m+1):=by
 have h1:=h.k1
 have h2:=h.km
 have hz:z m = y m:=h.keep m (Nat.le_refl _)
 have hlt:z (k - 1)<z m:=by
  rw [h.last,hz]
  have:=hs (m - 1) m (Nat.zero_le _) (by omega) hm
  omega
 refine ⟨by omega,by omega,hm,fun p q h3 h4=>?_,fun v=>?_,?_,fun j hj=>?_,?_⟩
 ·try dsimp only
  rw [if_neg (by omega:¬ p = k)]
  by_cases q1:q = k
  ·rw [if_pos q1]
   by_cases q2:p = k - 1
   ·rw [q2]; exact hlt
   ·exact Int.lt_trans (h.asc p (k - 1) (by omega) (by omega)) hlt
  ·rw [if_neg q1]; exact h.asc p q h3 (by omega)
 ·rw [mem_succ,mem_succ,← h.mem,mem_congr (y:=z) (z:=fun e=>if e = k then z m else z e) (fun j _ hj=>if_neg (by omega))]
  try dsimp only
  rw [if_pos rfl,hz]
 ·try dsimp only
  rw [if_pos (by omega),Nat.add_sub_cancel,hz]
 ·try dsimp only
  rw [if_neg (by omega)]; exact h.keep j (by omega)
 ·try dsimp only
  rw [Nat.add_sub_cancel]
  by_cases q:m = k
  ·rw [if_pos q,hz]
  ·rw [if_neg q,hz]
theorem Cmp.pre {y:Nat->Int} {n k:Nat} (h:Cmp y y n k k) (hs:Asc y 0 n) (hk:k<n) (he:y k ≠ y (k - 1)):Cmp y y n (k+1) (k+1):=by
 have h2:=h.new hs hk he
 have e:(fun e=>if e = k then y k else y e) = y:=by
  funext e
  by_cases q:e = k
  ·rw [if_pos q,q]
  ·rw [if_neg q]
 rw [e] at h2
 exact h2
theorem SAsc.unique:∀ {k l:Nat} {z w:Nat->Int},SAsc z k->SAsc w l->(∀ v,Mem z 0 k v ↔ Mem w 0 l v)->k = l/\∀ j,j<k->z j = w j:=by
 intro k
 induction k with
 | zero =>
  intro l z w _ _ h
  refine ⟨?_,fun j hj=>by omega⟩
  rcases Nat.eq_zero_or_pos l with q | q
  ·exact q.symm
  ·obtain ⟨j,h1,h2,_⟩:=(h (w 0)).2 ⟨0,Nat.le_refl _,q,rfl⟩
   omega
 | succ k ih =>
  intro l z w hz hw h
  rcases Nat.eq_zero_or_pos l with q | q
  ·subst q
   obtain ⟨j,h1,h2,_⟩:=(h (z 0)).1 ⟨0,Nat.le_refl _,by omega,rfl⟩
   omega
  ·obtain ⟨l,rfl⟩:∃ i,l = i+1:=⟨l - 1,by omega⟩
   have e:z k = w l:=by
    obtain ⟨j,_,h2,h3⟩:=(h (z k)).1 ⟨k,Nat.zero_le _,by omega,rfl⟩
    obtain ⟨j',_,h2',h3'⟩:=(h (w l)).2 ⟨l,Nat.zero_le _,by omega,rfl⟩
    have a1:z k<=w l:=by
     rw [← h3]
     rcases Nat.lt_or_ge j l with q | q
     ·exact Int.le_of_lt (hw j l q (by omega))
     ·rw [show j = l by omega]; exact Int.le_refl _
    have a2:w l<=z k:=by
     rw [← h3']
     rcases Nat.lt_or_ge j' k with q | q
     ·exact Int.le_of_lt (hz j' k q (by omega))
     ·rw [show j' = k by omega]; exact Int.le_refl _
    omega
   have key:k = l/\∀ j,j<k->z j = w j:=by
    refine ih (fun p q h1 h2=>hz p q h1 (by omega)) (fun p q h1 h2=>hw p q h1 (by omega)) fun v=>⟨?_,?_⟩
    ·rintro ⟨j,h1,h2,h3⟩
     have:=hz j k h2 (by omega)
     obtain ⟨j',g1,g2,g3⟩:=(h v).1 ⟨j,h1,by omega,h3⟩
     refine ⟨j',g1,?_,g3⟩
     rcases Nat.lt_or_ge j' l with q | q
     ·exact q
     ·rw [show j' = l by omega] at g3; omega
    ·rintro ⟨j,h1,h2,h3⟩
     have:=hw j l h2 (by omega)
     obtain ⟨j',g1,g2,g3⟩:=(h v).2 ⟨j,h1,by omega,h3⟩
     refine ⟨j',g1,?_,g3⟩
     rcases Nat.lt_or_ge j' k with q | q
     ·exact q
     ·rw [show j' = k by omega] at g3; omega
   refine ⟨by omega,fun j hj=>?_⟩
   rcases Nat.lt_or_ge j k with q | q
   ·exact key.2 j q
   ·rw [show j = k by omega,e,key.1]
open Go.Proofs
def v76a (n a b:Nat) (i:Int):List T:=[.own 0 0 0 n none,.int .i64 a,.int .i64 b,.int .i64 i]
def v76j (n a b:Nat) (i j:Int):List T:=[.own 0 0 0 n none,.int .i64 a,.int .i64 b,.int .i64 i,.int .i64 j]
theorem ub_congr {n:Nat} {y z:Nat->Int} (h:∀ j,z j = y j):SameBlks [ub 0 n y] [ub 0 n z] :=
 .cons ⟨rfl,rfl,rfl,id,fun j hj=>by show [T.int .u8 (z j)] = [.int .u8 (y j)]; rw [h j]⟩ .nil
theorem l76j (n a b:Nat) (x y:Nat->Int) (i:Nat) (hn:n<=1000) (hb:b<=n) (hi:a<=i) (hi2:i<b) (hp:Pr x y a b) (hs:Asc y a i) :
 ∃ z,(Pr x z a b/\Asc z a (i+1))/\LoopOk P18 G18 (A18 76) 76 4 (litS (v76j n a b i i) [ub 0 n y] (.exit 2) (v76a n a b i) [ub 0 n z]):=by
 refine Exists.elim (loop_exists (P:=P18) (Gl:=G18) (f:=76) (r:=4) (an:=A18 76) (k:=1) hm18 (by kernel_rfl)
  (fun m vs h=>∃ j y',m = j/\vs = v76j n a b i j/\h = [ub 0 n y']/\Ins x y' a b i j)
  (fun e vs1 h1=>∃ z,e = .exit 2/\vs1 = v76a n a b i/\h1 = [ub 0 n z]/\(Pr x z a b/\Asc z a (i+1)))
  (fun m vs h ⟨j,y',hm,hv,hh,hI⟩=>?_) (n:=i) (vs:=v76j n a b i i) (h:=[ub 0 n y]) rfl ⟨i,y,rfl,rfl,rfl,Ins.start hp hi hi2 hs⟩) ?_
 ·subst hm hv hh
  have h2:=hI.lo
  have h3:=hI.hi
  rcases Nat.lt_or_ge a m with q | q
  ·obtain ⟨j,rfl⟩:∃ j,m = j+1:=⟨m - 1,by omega⟩
   have ej:IntKind.i64.wrap (((j+1:Nat):Int) - 1) = (j:Int):=by rw [wr64 (by omega) (by omega)]; omega
   by_cases q2:y' (j+1)<y' j
   ·refine .inl ⟨j,_,_,Nat.lt_succ_self _,?_,⟨j,_,rfl,rfl,rfl,hI.step (by omega) q2⟩⟩
    refine Step.mk0 (A:=A18) (m:=0) ok82 rfl rfl loops0 (h1:=[ub 0 n fun e=>bif e==0+j then y' (0+(j+1)) else bif e==0+(j+1) then y' (0+j) else y' e]) ?_ (ub_congr fun e=>?_)
    ·refine Eq.trans (show iterR P18 G18 A18 K82 0 76 [] 4 (v76j n a b i (j+1:Nat)) [ub 0 n y'] =
(
 bif decide (Int.ofNat a<Int.ofNat (j+1)) then
 bif decide (0<=Int.ofNat (j+1))&&decide (Int.ofNat (j+1)<Int.ofNat n) then
 bif ((0:Nat)+(j+(1:Nat))).blt n then
 bif decide (0<=IntKind.i64.wrap (Int.ofNat (j+1) - (1:Int)))&&decide (IntKind.i64.wrap (Int.ofNat (j+1) - (1:Int))<Int.ofNat n) then
 bif ((0:Nat)+(IntKind.i64.wrap (Int.ofNat (j+(1:Nat)) - (1:Int))).toNat).blt n then
 bif decide (y' ((0:Nat)+(j+1))<y' ((0:Nat)+(IntKind.i64.wrap (Int.ofNat (j+(1:Nat)) - (1:Int))).toNat)) then
 bif decide (0<=IntKind.i64.wrap (Int.ofNat (j+1) - (1:Int)))&&decide (IntKind.i64.wrap (Int.ofNat (j+1) - (1:Int))<Int.ofNat n) then
 bif ((0:Nat)+(IntKind.i64.wrap (Int.ofNat (j+(1:Nat)) - (1:Int))).toNat).blt n then
 bif decide (0<=Int.ofNat (j+1))&&decide (Int.ofNat (j+1)<Int.ofNat n) then
 bif ((0:Nat)+(j+(1:Nat))).blt n then
 bif decide (0<=Int.ofNat (j+1))&&decide (Int.ofNat (j+1)<Int.ofNat n) then
 bif ((0:Nat)+(j+(1:Nat))).blt n&&[T.int .u8 (y' ((0:Nat)+(IntKind.i64.wrap (Int.ofNat (j+(1:Nat)) - (1:Int))).toNat))].length==(1:Nat)&&true&&true then
 bif decide (0<=IntKind.i64.wrap (Int.ofNat (j+1) - (1:Int)))&&decide (IntKind.i64.wrap (Int.ofNat (j+1) - (1:Int))<Int.ofNat n) then
 bif ((0:Nat)+(IntKind.i64.wrap (Int.ofNat (j+(1:Nat)) - (1:Int))).toNat).blt n&&[T.int .u8 (y' ((0:Nat)+(j+(1:Nat))))].length==(1:Nat)&&true&&true then
 some ((.normal,v76j n a b (Int.ofNat i) (IntKind.i64.wrap (Int.ofNat (j+1) - (1:Int))),[ub (0:Nat) n fun j_1 =>
 bif j_1==(0:Nat)+(IntKind.i64.wrap (Int.ofNat (j+(1:Nat)) - (1:Int))).toNat then y' ((0:Nat)+(j+1))
 else
 bif j_1==(0:Nat)+(j+1) then y' ((0:Nat)+(IntKind.i64.wrap (Int.ofNat (j+(1:Nat)) - (1:Int))).toNat)
 else y' j_1]))
 else none else none else none else none else none else none else none else none else
 some ((.exit 2,v76a n a b (Int.ofNat i),[ub (0:Nat) n y']))
 else none else none else none else none else
 some ((.exit 2,v76a n a b (Int.ofNat i),[ub (0:Nat) n y']))) from by kernel_rfl) ?_
     rw [ofNatE (j+1),ej,toNatE]
     (repeat (first | refine BT ?_ | refine BG ?_))
     rfl
    ·rw [Nat.zero_add,Nat.zero_add]
     by_cases q3:e = j
     ·subst q3; rw [if_pos rfl,beq_self_eq_true,cond_true]
     ·rw [if_neg q3,show (e==j) = false by simpa using q3,cond_false]
      by_cases q4:e = j+1
      ·subst q4; rw [if_pos rfl,beq_self_eq_true,cond_true]
      ·rw [if_neg q4,show (e==j+1) = false by simpa using q4,cond_false]
   ·refine .inr ⟨_,_,_,?_,y',rfl,rfl,rfl,hI.pr,hI.last (.inr ⟨j,rfl,by omega⟩)⟩
    refine Last.mk0 (A:=A18) (m:=0) ok82 rfl rfl loops0 (h1:=[ub 0 n y']) (by simp) ?_ (.refl _)
    refine Eq.trans (show iterR P18 G18 A18 K82 0 76 [] 4 (v76j n a b i (j+1:Nat)) [ub 0 n y'] =
(
 bif decide (Int.ofNat a<Int.ofNat (j+1)) then
 bif decide (0<=Int.ofNat (j+1))&&decide (Int.ofNat (j+1)<Int.ofNat n) then
 bif ((0:Nat)+(j+(1:Nat))).blt n then
 bif decide (0<=IntKind.i64.wrap (Int.ofNat (j+1) - (1:Int)))&&decide (IntKind.i64.wrap (Int.ofNat (j+1) - (1:Int))<Int.ofNat n) then
 bif ((0:Nat)+(IntKind.i64.wrap (Int.ofNat (j+(1:Nat)) - (1:Int))).toNat).blt n then
 bif decide (y' ((0:Nat)+(j+1))<y' ((0:Nat)+(IntKind.i64.wrap (Int.ofNat (j+(1:Nat)) - (1:Int))).toNat)) then
 bif decide (0<=IntKind.i64.wrap (Int.ofNat (j+1) - (1:Int)))&&decide (IntKind.i64.wrap (Int.ofNat (j+1) - (1:Int))<Int.ofNat n) then
 bif ((0:Nat)+(IntKind.i64.wrap (Int.ofNat (j+(1:Nat)) - (1:Int))).toNat).blt n then
 bif decide (0<=Int.ofNat (j+1))&&decide (Int.ofNat (j+1)<Int.ofNat n) then
 bif ((0:Nat)+(j+(1:Nat))).blt n then
 bif decide (0<=Int.ofNat (j+1))&&decide (Int.ofNat (j+1)<Int.ofNat n) then
 bif ((0:Nat)+(j+(1:Nat))).blt n&&[T.int .u8 (y' ((0:Nat)+(IntKind.i64.wrap (Int.ofNat (j+(1:Nat)) - (1:Int))).toNat))].length==(1:Nat)&&true&&true then
 bif decide (0<=IntKind.i64.wrap (Int.ofNat (j+1) - (1:Int)))&&decide (IntKind.i64.wrap (Int.ofNat (j+1) - (1:Int))<Int.ofNat n) then
 bif ((0:Nat)+(IntKind.i64.wrap (Int.ofNat (j+(1:Nat)) - (1:Int))).toNat).blt n&&[T.int .u8 (y' ((0:Nat)+(j+(1:Nat))))].length==(1:Nat)&&true&&true then
 some ((.normal,v76j n a b (Int.ofNat i) (IntKind.i64.wrap (Int.ofNat (j+1) - (1:Int))),[ub (0:Nat) n fun j_1 =>
 bif j_1==(0:Nat)+(IntKind.i64.wrap (Int.ofNat (j+(1:Nat)) - (1:Int))).toNat then y' ((0:Nat)+(j+1))
 else
 bif j_1==(0:Nat)+(j+1) then y' ((0:Nat)+(IntKind.i64.wrap (Int.ofNat (j+(1:Nat)) - (1:Int))).toNat)
 else y' j_1]))
 else none else none else none else none else none else none else none else none else
 some ((.exit 2,v76a n a b (Int.ofNat i),[ub (0:Nat) n y']))
 else none else none else none else none else
 some ((.exit 2,v76a n a b (Int.ofNat i),[ub (0:Nat) n y']))) from by kernel_rfl) ?_
    rw [ofNatE (j+1),ej,toNatE]
    (repeat (first | refine BT ?_ | refine BG ?_))
    rfl
  ·obtain rfl:m = a:=by omega
   refine .inr ⟨_,_,_,?_,y',rfl,rfl,rfl,hI.pr,hI.last (.inl rfl)⟩
   refine Last.mk0 (A:=A18) (m:=0) ok82 rfl rfl loops0 (h1:=[ub 0 n y']) (by simp) ?_ (.refl _)
   refine Eq.trans (show iterR P18 G18 A18 K82 0 76 [] 4 (v76j n m b i m) [ub 0 n y'] =
(
 bif decide (Int.ofNat m<Int.ofNat m) then
 bif decide (0<=Int.ofNat m)&&decide (Int.ofNat m<Int.ofNat n) then
 bif ((0:Nat)+m).blt n then
 bif decide (0<=IntKind.i64.wrap (Int.ofNat m - 1))&&decide (IntKind.i64.wrap (Int.ofNat m - 1)<Int.ofNat n) then
 bif ((0:Nat)+(IntKind.i64.wrap (Int.ofNat m - (1:Int))).toNat).blt n then
 bif decide (y' (0+m)<y' ((0:Nat)+(IntKind.i64.wrap (Int.ofNat m - (1:Int))).toNat)) then
 bif decide (0<=IntKind.i64.wrap (Int.ofNat m - 1))&&decide (IntKind.i64.wrap (Int.ofNat m - 1)<Int.ofNat n) then
 bif ((0:Nat)+(IntKind.i64.wrap (Int.ofNat m - (1:Int))).toNat).blt n then
 bif decide (0<=Int.ofNat m)&&decide (Int.ofNat m<Int.ofNat n) then
 bif ((0:Nat)+m).blt n then
 bif decide (0<=Int.ofNat m)&&decide (Int.ofNat m<Int.ofNat n) then
 bif ((0:Nat)+m).blt n&&[T.int .u8 (y' ((0:Nat)+(IntKind.i64.wrap (Int.ofNat m - (1:Int))).toNat))].length==(1:Nat)&&true&&true then
 bif decide (0<=IntKind.i64.wrap (Int.ofNat m - 1))&&decide (IntKind.i64.wrap (Int.ofNat m - 1)<Int.ofNat n) then
 bif ((0:Nat)+(IntKind.i64.wrap (Int.ofNat m - (1:Int))).toNat).blt n&&[T.int .u8 (y' ((0:Nat)+m))].length==(1:Nat)&&true&&true then
 some ((.normal,v76j n m b (Int.ofNat i) (IntKind.i64.wrap (Int.ofNat m - 1)),[ub (0:Nat) n fun j =>
 bif j==(0:Nat)+(IntKind.i64.wrap (Int.ofNat m - (1:Int))).toNat then y' (0+m)
 else
 bif j==0+m then y' ((0:Nat)+(IntKind.i64.wrap (Int.ofNat m - (1:Int))).toNat)
 else y' j]))
 else none else none else none else none else none else none else none else none else
 some ((.exit 2,v76a n m b (Int.ofNat i),[ub (0:Nat) n y']))
 else none else none else none else none else
 some ((.exit 2,v76a n m b (Int.ofNat i),[ub (0:Nat) n y']))) from by kernel_rfl) ?_
   (repeat (first | refine BT ?_ | refine BG ?_))
   rfl
 ·rintro e ⟨vs1,h1,⟨z,rfl,rfl,rfl,hz⟩,hl⟩
  exact ⟨z,hz,hl⟩
theorem l76 (n a b:Nat) (x:Nat->Int) (hn:n<=1000) (hb:b<=n) (hab:a<=b) :
 ∃ z,(Pr x z a b/\Asc z a b)/\LoopOk P18 G18 (A18 76) 76 1 (litS (v76a n a b (a+1:Nat)) [ub 0 n x] (.exit 0) [] [ub 0 n z]):=by
 refine Exists.elim (loop_exists (P:=P18) (Gl:=G18) (f:=76) (r:=1) (an:=A18 76) (k:=1) hm18 (by kernel_rfl)
  (fun m vs h=>∃ i y,m = b - i/\a<i/\vs = v76a n a b i/\h = [ub 0 n y]/\Pr x y a b/\Asc y a (min i b))
  (fun e vs1 h1=>∃ z,e = .exit 0/\vs1 = []/\h1 = [ub 0 n z]/\(Pr x z a b/\Asc z a b))
  (fun m vs h ⟨i,y,hm,hai,hv,hh,hI⟩=>?_) (n:=b - (a+1)) (vs:=v76a n a b (a+1:Nat)) (h:=[ub 0 n x]) rfl ⟨a+1,x,rfl,by omega,rfl,rfl,.refl _ _ _,fun p q _ _ _=>by omega⟩) ?_
 ·subst hm hv hh
  rcases Nat.lt_or_ge i b with q | q
  ·rw [Nat.min_eq_left (by omega)] at hI
   obtain ⟨z,hz,hl⟩:=l76j n a b x y i hn hb (by omega) q hI.1 hI.2
   refine .inl ⟨b - (i+1),_,_,by omega,?_,⟨i+1,z,rfl,by omega,rfl,rfl,hz.1,by rw [Nat.min_eq_left (by omega)]; exact hz.2⟩⟩
   refine Step.mk0 (A:=A18) (m:=0) none_ok rfl rfl (loops1 hl) (h1:=[ub 0 n z]) ?_ (.refl _)
   refine Eq.trans (show iterR P18 G18 A18 noneO 0 76 [(4,litS (v76j n a b i i) [ub 0 n y] (.exit 2) (v76a n a b i) [ub 0 n z])] 1 (v76a n a b i) [ub 0 n y] =
(
 bif decide (Int.ofNat i<Int.ofNat b) then
 bif weakF (v76j n a b (Int.ofNat i) (Int.ofNat i)) [ub (0:Nat) n y] (v76j n a b (Int.ofNat i) (Int.ofNat i)) [ub (0:Nat) n y] then
 some ((.normal,v76a n a b (IntKind.i64.wrap (Int.ofNat i+1)),[ub (0:Nat) n z]))
 else none else
 some ((.exit 0,[],[ub (0:Nat) n y]))) from by kernel_rfl) ?_
   (repeat (first | refine BT ?_ | refine BG ?_))
   refine bift (weakF_of ⟨rfl,.refl _⟩) ?_
   rw [ofNatE i,wr64 (x:=(i:Int)+1) (by omega) (by omega)]
   rfl
  ·rw [Nat.min_eq_right q] at hI
   refine .inr ⟨_,_,_,?_,y,rfl,rfl,rfl,hI⟩
   refine Last.mk0 (A:=A18) (m:=0) none_ok rfl rfl loops0 (h1:=[ub 0 n y]) (by simp) ?_ (.refl _)
   refine Eq.trans (show iterR P18 G18 A18 noneO 0 76 [] 1 (v76a n a b i) [ub 0 n y] =
(
 bif decide (Int.ofNat i<Int.ofNat b) then none else
 some ((.exit 0,[],[ub (0:Nat) n y]))) from by kernel_rfl) ?_
   (repeat (first | refine BT ?_ | refine BG ?_))
   rfl
 ·rintro e ⟨vs1,h1,⟨z,rfl,rfl,rfl,hz⟩,hl⟩
  exact ⟨z,hz,hl⟩
theorem insT (n a b:Nat) (x:Nat->Int) (hn:n<=1000) (hb:b<=n) (hab:a<=b) :
 ∃ z,(Pr x z a b/\Asc z a b)/\ToldRef P18 G18 76 [.own 0 0 0 n none,.int .i64 a,.int .i64 b] [ub 0 n x] (.tup []) [ub 0 n z]:=by
 obtain ⟨z,hz,hl⟩:=l76 n a b x hn hb hab
 refine ⟨z,hz,?_⟩
 refine stepR_told hm18 hn18 none_ok (A:=A18) (m:=0) (by kernel_rfl) (loops1 hl) ?_
 refine Eq.trans (show stepR P18 G18 A18 noneO 0 76 [(1,litS (v76a n a b (a+1:Nat)) [ub 0 n x] (.exit 0) [] [ub 0 n z])] [.own 0 0 0 n none,.int .i64 a,.int .i64 b] [ub 0 n x] =
(
 bif weakF (v76a n a b (IntKind.i64.wrap (Int.ofNat a+1))) [ub (0:Nat) n x] (v76a n a b (Int.ofNat (a+1))) [ub (0:Nat) n x] then
 some ((.tup [],[ub (0:Nat) n z]))
 else
 none) from by kernel_rfl) ?_
 rw [ofNatE a,wr64 (x:=(a:Int)+1) (by omega) (by omega)]
 refine bift (weakF_of ⟨rfl,.refl _⟩) ?_
 rfl
open Go.Proofs
noncomputable def K70 (p:List T->Heap->T->Heap->Prop) (n:Nat) (z:Nat->Int):Orc:=noneO.addRef 76 (refF p fun _ _=>some (.tup [],[ub 0 n z]))
noncomputable def K86:Orc:=noneO.inl P18 G18 A18 noneO 0 86
noncomputable def K61 (p71:List T->T->Prop) (lim:Int) (p:List T->Heap->T->Heap->Prop) (n:Nat) (z:Nat->Int):Orc:=(noneO.add 71 (callF p71 fun _=>some (.int .i64 lim))).addRef 70 (refF p fun _ _=>some (.tup [],[ub 0 n z]))
theorem wru64 {x:Int} (h1:0<=x) (h2:x<=1000000):IntKind.u64.wrap x = x:=by
 simp only [IntKind.wrap,IntKind.signed,IntKind.bits]
 simp
 omega
theorem lenK (n lim:Nat) (h1:lim<=10) (h2:12<n->n<=lim+12) (h:stepV P18 G18 A18 K86 0 71 [.int .u64 n] = some (.int .i64 (lim:Nat))):∃ l:Nat,l<=10/\(12<n->n<=l+12)/\ToldOk P18 G18 71 [.int .u64 n] (.int .i64 (l:Nat)):=⟨lim,h1,h2,stepV_told hm18 hn18 (told_inl hm18 hn18 none_ok none_ok) h⟩
theorem lenT (n:Nat) (hn:n<=16):∃ lim:Nat,lim<=10/\(12<n->n<=lim+12)/\ToldOk P18 G18 71 [.int .u64 n] (.int .i64 (lim:Nat)):=by
 obtain h | h:n<=8 ∨ 9<=n:=by omega
 ·obtain rfl | rfl | rfl | rfl | rfl | rfl | rfl | rfl | rfl:n = 0 ∨ n = 1 ∨ n = 2 ∨ n = 3 ∨ n = 4 ∨ n = 5 ∨ n = 6 ∨ n = 7 ∨ n = 8:=by omega
  ·exact lenK 0 0 (by omega) (by omega) (by kernel_rfl)
  ·exact lenK 1 1 (by omega) (by omega) (by kernel_rfl)
  ·exact lenK 2 2 (by omega) (by omega) (by kernel_rfl)
  ·exact lenK 3 2 (by omega) (by omega) (by kernel_rfl)
  ·exact lenK 4 3 (by omega) (by omega) (by kernel_rfl)
  ·exact lenK 5 3 (by omega) (by omega) (by kernel_rfl)
  ·exact lenK 6 3 (by omega) (by omega) (by kernel_rfl)
  ·exact lenK 7 3 (by omega) (by omega) (by kernel_rfl)
  ·exact lenK 8 4 (by omega) (by omega) (by kernel_rfl)
 ·obtain rfl | rfl | rfl | rfl | rfl | rfl | rfl | rfl:n = 9 ∨ n = 10 ∨ n = 11 ∨ n = 12 ∨ n = 13 ∨ n = 14 ∨ n = 15 ∨ n = 16:=by omega
  ·exact lenK 9 4 (by omega) (by omega) (by kernel_rfl)
  ·exact lenK 10 4 (by omega) (by omega) (by kernel_rfl)
  ·exact lenK 11 4 (by omega) (by omega) (by kernel_rfl)
  ·exact lenK 12 4 (by omega) (by omega) (by kernel_rfl)
  ·exact lenK 13 4 (by omega) (by omega) (by kernel_rfl)
  ·exact lenK 14 4 (by omega) (by omega) (by kernel_rfl)
  ·exact lenK 15 4 (by omega) (by omega) (by kernel_rfl)
  ·exact lenK 16 5 (by omega) (by omega) (by kernel_rfl)
open Go.Proofs
structure CompOk (y z:Nat->Int) (n k:Nat):Prop where
 k1:1<=k
 kn:k<=n
 asc:SAsc z k
 mem:∀ v,Mem z 0 k v ↔ Mem y 0 n v
theorem Cmp.ok {y z:Nat->Int} {n k:Nat} (h:Cmp y z n k n):CompOk y z n k:=⟨h.k1,h.km,h.asc,h.mem⟩
theorem CompOk.congr {y z w:Nat->Int} {n k:Nat} (h:CompOk y z n k) (he:∀ j,j<k->w j = z j):CompOk y w n k :=
 ⟨h.k1,h.kn,fun p q h1 h2=>by rw [he p (by omega),he q h2]; exact h.asc p q h1 h2,fun v=>(mem_congr (fun j _ hj=>he j hj)).trans (h.mem v)⟩
theorem l62b (n i0:Nat) (y:Nat->Int) (hn:n<=1000) (hi:i0<n) (hs:Asc y 0 n) (hc:Cmp y y n i0 (i0+1)) :
 ∃ z k,CompOk y z n k/\LoopOk P18 G18 (A18 62) 62 9 (litS (v62b n i0 i0 1) [ub 0 n y] (.exit 2) (v62 n k) [ub 0 n z]):=by
 refine Exists.elim (loop_exists (P:=P18) (Gl:=G18) (f:=62) (r:=9) (an:=A18 62) (k:=1) hm18 (by kernel_rfl)
  (fun s vs h=>∃ m k z,s = n - (i0+(m+1))/\vs = v62b n k i0 (m+1)/\h = [ub 0 n z]/\Cmp y z n k (i0+(m+1)))
  (fun e vs1 h1=>∃ z k,e = .exit 2/\vs1 = v62 n k/\h1 = [ub 0 n z]/\CompOk y z n k)
  (fun s vs h ⟨m,k,z,hm,hv,hh,hI⟩=>?_) (n:=n - (i0+(0+1))) (vs:=v62b n i0 i0 1) (h:=[ub 0 n y]) rfl ⟨0,i0,y,rfl,rfl,rfl,hc⟩) ?_
 ·subst hm hv hh
  have h1:=hI.km
  have h2:=hI.mn
  have h3:=hI.keep (i0+(m+1)) (Nat.le_refl _)
  have h4:=hI.at1
  rw [show i0+(m+1) - 1 = i0+m by omega] at h4
  have ej:IntKind.i64.wrap (((m+1:Nat):Int) - 1) = (m:Int):=by rw [wr64 (by omega) (by omega)]; omega
  have ej2:IntKind.i64.wrap (((m+1:Nat):Int)+1) = ((m+1:Nat):Int)+1:=wr64 (by omega) (by omega)
  have ek:IntKind.i64.wrap ((k:Int)+1) = ((k+1:Nat):Int):=by rw [wr64 (by omega) (by omega)]; omega
  rcases Nat.lt_or_ge (i0+(m+1)) n with q | q
  ·by_cases q2:z (i0+(m+1)) = z (i0+m)
   ·refine .inl ⟨n - (i0+(m+1+1)),_,_,by omega,?_,⟨m+1,k,z,rfl,rfl,rfl,hI.same q (by rw [show i0+(m+1) - 1 = i0+m by omega,← h3,← h4]; exact q2)⟩⟩
    refine Step.mk0 (A:=A18) (m:=0) none_ok rfl rfl loops0 (h1:=[ub 0 n z]) ?_ (.refl _)
    refine Eq.trans (show iterR P18 G18 A18 noneO 0 62 [] 9 (v62b n k i0 (m+1)) [ub 0 n z] =
(
 bif decide (Int.ofNat (m+1)<Int.ofNat (n - i0)) then
 bif decide (0<=Int.ofNat (m+1))&&decide (Int.ofNat (m+1)<Int.ofNat (n - i0)) then
 bif (i0+(m+(1:Nat))).blt n then
 bif decide (0<=IntKind.i64.wrap (Int.ofNat (m+1) - (1:Int)))&&decide (IntKind.i64.wrap (Int.ofNat (m+1) - (1:Int))<Int.ofNat (n - i0)) then
 bif (i0+(IntKind.i64.wrap (Int.ofNat (m+(1:Nat)) - (1:Int))).toNat).blt n then
 bif !decide (z (i0+(m+1)) = z (i0+(IntKind.i64.wrap (Int.ofNat (m+(1:Nat)) - (1:Int))).toNat)) then
 bif decide (0<=Int.ofNat (m+1))&&decide (Int.ofNat (m+1)<Int.ofNat (n - i0)) then
 bif (i0+(m+(1:Nat))).blt n then
 bif decide (0<=Int.ofNat k)&&decide (Int.ofNat k<Int.ofNat n) then
 bif ((0:Nat)+k).blt n&&[T.int .u8 (z (i0+(m+(1:Nat))))].length==(1:Nat)&&true&&true then
 some ((.normal,[.own 0 0 0 n
 none,.int .i64 (IntKind.i64.wrap (Int.ofNat k+1)),.own 0 0 i0 (n - i0)
 none,.int .i64 (IntKind.i64.wrap (Int.ofNat (m+1)+(1:Int)))],[.mk 0 1 n (fun e=>[.int .u8 (bif e==0+k then z (i0+(m+1))
 else z e)]) true false
 none]))
 else none else none else none else none else
 some ((.normal,[.own 0 0 0 n
 none,.int .i64 (.ofNat k),.own 0 0 i0 (n - i0)
 none,.int .i64 (IntKind.i64.wrap (Int.ofNat (m+1)+(1:Int)))],[.mk 0 1 n (fun j=>[.int .u8 (z j)]) true false
 none]))
 else none else none else none else none else
 some ((.exit 2,[.own 0 0 0 n
 none,.int .i64 (.ofNat k)],[.mk 0 1 n (fun j=>[.int .u8 (z j)]) true false
 none]))) from by kernel_rfl) ?_
    rw [ofNatE (m+1),ej,ej2,toNatE]
    (repeat (first | refine BT ?_ | refine BG ?_))
    first | rfl | (refine biff (by simp [q2]) ?_; rfl)
   ·refine .inl ⟨n - (i0+(m+1+1)),_,_,by omega,?_,⟨m+1,k+1,_,rfl,rfl,rfl,hI.new hs q (by rw [show i0+(m+1) - 1 = i0+m by omega,← h3,← h4]; exact q2)⟩⟩
    refine Step.mk0 (A:=A18) (m:=0) none_ok rfl rfl loops0 (h1:=[ub 0 n fun e=>bif e==0+k then z (i0+(m+1)) else z e]) ?_ (ub_congr fun e=>?_)
    ·refine Eq.trans (show iterR P18 G18 A18 noneO 0 62 [] 9 (v62b n k i0 (m+1)) [ub 0 n z] =
(
 bif decide (Int.ofNat (m+1)<Int.ofNat (n - i0)) then
 bif decide (0<=Int.ofNat (m+1))&&decide (Int.ofNat (m+1)<Int.ofNat (n - i0)) then
 bif (i0+(m+(1:Nat))).blt n then
 bif decide (0<=IntKind.i64.wrap (Int.ofNat (m+1) - (1:Int)))&&decide (IntKind.i64.wrap (Int.ofNat (m+1) - (1:Int))<Int.ofNat (n - i0)) then
 bif (i0+(IntKind.i64.wrap (Int.ofNat (m+(1:Nat)) - (1:Int))).toNat).blt n then
 bif !decide (z (i0+(m+1)) = z (i0+(IntKind.i64.wrap (Int.ofNat (m+(1:Nat)) - (1:Int))).toNat)) then
 bif decide (0<=Int.ofNat (m+1))&&decide (Int.ofNat (m+1)<Int.ofNat (n - i0)) then
 bif (i0+(m+(1:Nat))).blt n then
 bif decide (0<=Int.ofNat k)&&decide (Int.ofNat k<Int.ofNat n) then
 bif ((0:Nat)+k).blt n&&[T.int .u8 (z (i0+(m+(1:Nat))))].length==(1:Nat)&&true&&true then
 some ((.normal,[.own 0 0 0 n
 none,.int .i64 (IntKind.i64.wrap (Int.ofNat k+1)),.own 0 0 i0 (n - i0)
 none,.int .i64 (IntKind.i64.wrap (Int.ofNat (m+1)+(1:Int)))],[.mk 0 1 n (fun e=>[.int .u8 (bif e==0+k then z (i0+(m+1))
 else z e)]) true false
 none]))
 else none else none else none else none else
 some ((.normal,[.own 0 0 0 n
 none,.int .i64 (.ofNat k),.own 0 0 i0 (n - i0)
 none,.int .i64 (IntKind.i64.wrap (Int.ofNat (m+1)+(1:Int)))],[.mk 0 1 n (fun j=>[.int .u8 (z j)]) true false
 none]))
 else none else none else none else none else
 some ((.exit 2,[.own 0 0 0 n
 none,.int .i64 (.ofNat k)],[.mk 0 1 n (fun j=>[.int .u8 (z j)]) true false
 none]))) from by kernel_rfl) ?_
     rw [ofNatE (m+1),ej,ej2,toNatE,ofNatE k,ek]
     (repeat (first | refine BT ?_ | refine BG ?_))
     rfl
    ·rw [Nat.zero_add]
     by_cases q3:e = k
     ·rw [if_pos q3,show (e==k) = true by simpa using q3,cond_true]
     ·rw [if_neg q3,show (e==k) = false by simpa using q3,cond_false]
  ·have e:i0+(m+1) = n:=by omega
   rw [e] at hI
   refine .inr ⟨_,_,_,?_,z,k,rfl,rfl,rfl,hI.ok⟩
   refine Last.mk0 (A:=A18) (m:=0) none_ok rfl rfl loops0 (h1:=[ub 0 n z]) (by simp) ?_ (.refl _)
   refine Eq.trans (show iterR P18 G18 A18 noneO 0 62 [] 9 (v62b n k i0 (m+1)) [ub 0 n z] =
(
 bif decide (Int.ofNat (m+1)<Int.ofNat (n - i0)) then
 bif decide (0<=Int.ofNat (m+1))&&decide (Int.ofNat (m+1)<Int.ofNat (n - i0)) then
 bif (i0+(m+(1:Nat))).blt n then
 bif decide (0<=IntKind.i64.wrap (Int.ofNat (m+1) - (1:Int)))&&decide (IntKind.i64.wrap (Int.ofNat (m+1) - (1:Int))<Int.ofNat (n - i0)) then
 bif (i0+(IntKind.i64.wrap (Int.ofNat (m+(1:Nat)) - (1:Int))).toNat).blt n then
 bif !decide (z (i0+(m+1)) = z (i0+(IntKind.i64.wrap (Int.ofNat (m+(1:Nat)) - (1:Int))).toNat)) then
 bif decide (0<=Int.ofNat (m+1))&&decide (Int.ofNat (m+1)<Int.ofNat (n - i0)) then
 bif (i0+(m+(1:Nat))).blt n then
 bif decide (0<=Int.ofNat k)&&decide (Int.ofNat k<Int.ofNat n) then
 bif ((0:Nat)+k).blt n&&[T.int .u8 (z (i0+(m+(1:Nat))))].length==(1:Nat)&&true&&true then
 some ((.normal,[.own 0 0 0 n
 none,.int .i64 (IntKind.i64.wrap (Int.ofNat k+1)),.own 0 0 i0 (n - i0)
 none,.int .i64 (IntKind.i64.wrap (Int.ofNat (m+1)+(1:Int)))],[.mk 0 1 n (fun e=>[.int .u8 (bif e==0+k then z (i0+(m+1))
 else z e)]) true false
 none]))
 else none else none else none else none else
 some ((.normal,[.own 0 0 0 n
 none,.int .i64 (.ofNat k),.own 0 0 i0 (n - i0)
 none,.int .i64 (IntKind.i64.wrap (Int.ofNat (m+1)+(1:Int)))],[.mk 0 1 n (fun j=>[.int .u8 (z j)]) true false
 none]))
 else none else none else none else none else
 some ((.exit 2,[.own 0 0 0 n
 none,.int .i64 (.ofNat k)],[.mk 0 1 n (fun j=>[.int .u8 (z j)]) true false
 none]))) from by kernel_rfl) ?_
   (repeat (first | refine BT ?_ | refine BG ?_))
   rfl
 ·rintro e ⟨vs1,h1,⟨z,k,rfl,rfl,rfl,hz⟩,hl⟩
  exact ⟨z,k,hz,hl⟩
theorem l62 (n:Nat) (y:Nat->Int) (hn:n<=1000) (h1:1<=n) (hs:Asc y 0 n) :
 ∃ e r z k,(e = .ret/\r = .own 0 0 0 k none ∨ e = .exit 0/\r = .undef/\k = n)/\CompOk y z n k/\LoopOk P18 G18 (A18 62) 62 4 (litS (v62 n 1) [ub 0 n y] e [.own 0 0 0 n none,r] [ub 0 n z]):=by
 refine Exists.elim (loop_exists (P:=P18) (Gl:=G18) (f:=62) (r:=4) (an:=A18 62) (k:=1) hm18 (by kernel_rfl)
  (fun s vs h=>∃ k,s = n - (k+1)/\vs = v62 n (k+1)/\h = [ub 0 n y]/\Cmp y y n (k+1) (k+1))
  (fun e vs1 h1=>∃ r z k,(e = .ret/\r = .own 0 0 0 k none ∨ e = .exit 0/\r = .undef/\k = n)/\vs1 = [.own 0 0 0 n none,r]/\h1 = [ub 0 n z]/\CompOk y z n k)
  (fun s vs h ⟨k,hm,hv,hh,hI⟩=>?_) (n:=n - (0+1)) (vs:=v62 n 1) (h:=[ub 0 n y]) rfl ⟨0,rfl,rfl,rfl,Cmp.start y h1⟩) ?_
 ·subst hm hv hh
  have ej:IntKind.i64.wrap (((k+1:Nat):Int) - 1) = (k:Int):=by rw [wr64 (by have:=hI.mn; omega) (by have:=hI.mn; omega)]; omega
  have ej2:IntKind.i64.wrap (((k+1:Nat):Int)+1) = ((k+1:Nat):Int)+1:=wr64 (by omega) (by have:=hI.mn; omega)
  rcases Nat.lt_or_ge (k+1) n with q | q
  ·by_cases q2:y (k+1) = y k
   ·obtain ⟨z,j,hz,hl⟩:=l62b n (k+1) y hn q hs (hI.same q q2)
    have hj:=hz.kn
    have hj1:=hz.k1
    refine .inr ⟨_,_,_,?_,_,(fun i=>bif Nat.ble (0+j) i&&Nat.blt i (0+j+(n - j)) then 0 else z i),j,.inl ⟨rfl,rfl⟩,rfl,rfl,hz.congr fun i hi=>?_⟩
    ·refine Last.mk0 (A:=A18) (m:=0) none_ok rfl rfl (loops1 hl) (h1:=[⟨0,1,n,fun i=>bif Nat.ble (0+j) i&&Nat.blt i (0+j+(n - j)) then [.int .u8 0] else [.int .u8 (z i)],true,false,none⟩]) (by simp) ?_ (.cons ⟨rfl,rfl,rfl,id,fun i hi=>?_⟩ .nil)
     ·refine Eq.trans (show iterR P18 G18 A18 noneO 0 62 [(9,litS (v62b n (k+1:Nat) (k+1) 1) [ub 0 n y] (.exit 2) (v62 n j) [ub 0 n z])] 4 (v62 n (k+1)) [ub 0 n y] =
(
 bif decide (Int.ofNat (k+1)<Int.ofNat n) then
 bif decide (0<=Int.ofNat (k+1))&&decide (Int.ofNat (k+1)<Int.ofNat n) then
 bif ((0:Nat)+(k+(1:Nat))).blt n then
 bif decide (0<=IntKind.i64.wrap (Int.ofNat (k+1) - (1:Int)))&&decide (IntKind.i64.wrap (Int.ofNat (k+1) - (1:Int))<Int.ofNat n) then
 bif ((0:Nat)+(IntKind.i64.wrap (Int.ofNat (k+(1:Nat)) - (1:Int))).toNat).blt n then
 bif decide (y ((0:Nat)+(k+1)) = y ((0:Nat)+(IntKind.i64.wrap (Int.ofNat (k+(1:Nat)) - (1:Int))).toNat)) then
 bif decide (0<=Int.ofNat (k+1))&&decide (Int.ofNat (k+1)<=Int.ofNat n)&&decide (Int.ofNat n<=Int.ofNat (n - 0)) then
 bif weakF [.own 0 0 0 n
 none,.int .i64 (.ofNat (k+1)),.own 0 0 ((0:Nat)+(k+1)) (n - (k+1))
 none,.int .i64 1] [.mk 0 1 n (fun j=>[.int .u8 (y j)]) true false
 none] [.own 0 0 0 n
 none,.int .i64 (.ofNat (k+1)),.own 0 0 (k+1) (n - (k+1))
 none,.int .i64 1] [.mk 0 1 n (fun j=>[.int .u8 (y j)]) true false
 none] then
 bif decide (0<=Int.ofNat j)&&decide (Int.ofNat j<=Int.ofNat n)&&decide (Int.ofNat n<=Int.ofNat (n - 0)) then
 bif ((0:Nat)+j+(n - j)).ble n then
 bif decide (0<=Int.ofNat j)&&decide (Int.ofNat j<=Int.ofNat (n - 0)) then
 some ((.ret,[.own 0 0 0 n
 none,.own 0 0 0 (j - 0)
 none],[.mk 0 1 n (fun j_1 =>
 bif ((0:Nat)+j).ble j_1&&j_1.blt (0+j+(n - j)) then [.int .u8 0]
 else [.int .u8 (z j_1)]) true false
 none]))
 else none else none else none else none else none else
 some ((.normal,[.own 0 0 0 n
 none,.int .i64 (IntKind.i64.wrap (Int.ofNat (k+1)+(1:Int)))],[.mk 0 1 n (fun j=>[.int .u8 (y j)]) true false
 none]))
 else none else none else none else none else
 some ((.exit 0,[.own 0 0 0 n
 none,.undef],[.mk 0 1 n (fun j=>[.int .u8 (y j)]) true false
 none]))) from by kernel_rfl) ?_
      rw [ofNatE (k+1),ej,toNatE]
      clear hz hs hI
      (repeat (first | refine BT ?_ | refine BG ?_))
      refine bift (weakF_of ⟨by rw [Nat.zero_add],.refl _⟩) ?_
      (repeat (first | refine BT ?_ | refine BG ?_))
      rfl
     ·show [T.int .u8 (bif Nat.ble (0+j) i&&Nat.blt i (0+j+(n - j)) then 0 else z i)] = bif Nat.ble (0+j) i&&Nat.blt i (0+j+(n - j)) then [.int .u8 0] else [.int .u8 (z i)]
      cases Nat.ble (0+j) i&&Nat.blt i (0+j+(n - j)) <;> rfl
    ·show (bif Nat.ble (0+j) i&&Nat.blt i (0+j+(n - j)) then 0 else z i) = z i
     rw [bleF (by omega)]
     rfl
   ·refine .inl ⟨n - (k+1+1),_,_,by omega,?_,⟨k+1,rfl,rfl,rfl,hI.pre hs q q2⟩⟩
    refine Step.mk0 (A:=A18) (m:=0) none_ok rfl rfl loops0 (h1:=[ub 0 n y]) ?_ (.refl _)
    refine Eq.trans (show iterR P18 G18 A18 noneO 0 62 [] 4 (v62 n (k+1)) [ub 0 n y] =
(
 bif decide (Int.ofNat (k+1)<Int.ofNat n) then
 bif decide (0<=Int.ofNat (k+1))&&decide (Int.ofNat (k+1)<Int.ofNat n) then
 bif ((0:Nat)+(k+(1:Nat))).blt n then
 bif decide (0<=IntKind.i64.wrap (Int.ofNat (k+1) - (1:Int)))&&decide (IntKind.i64.wrap (Int.ofNat (k+1) - (1:Int))<Int.ofNat n) then
 bif ((0:Nat)+(IntKind.i64.wrap (Int.ofNat (k+(1:Nat)) - (1:Int))).toNat).blt n then
 bif decide (y ((0:Nat)+(k+1)) = y ((0:Nat)+(IntKind.i64.wrap (Int.ofNat (k+(1:Nat)) - (1:Int))).toNat)) then
 bif decide (0<=Int.ofNat (k+1))&&decide (Int.ofNat (k+1)<=Int.ofNat n)&&decide (Int.ofNat n<=Int.ofNat (n - 0)) then none else none else
 some ((.normal,[.own 0 0 0 n
 none,.int .i64 (IntKind.i64.wrap (Int.ofNat (k+1)+(1:Int)))],[.mk 0 1 n (fun j=>[.int .u8 (y j)]) true false
 none]))
 else none else none else none else none else
 some ((.exit 0,[.own 0 0 0 n
 none,.undef],[.mk 0 1 n (fun j=>[.int .u8 (y j)]) true false
 none]))) from by kernel_rfl) ?_
    rw [ofNatE (k+1),ej,ej2,toNatE]
    clear hs hI
    (repeat (first | refine BT ?_ | refine BG ?_))
    rfl
  ·have hmn:=hI.mn
   have e:k+1 = n:=by omega
   rw [e] at hI
   refine .inr ⟨_,_,_,?_,_,y,n,.inr ⟨rfl,rfl,rfl⟩,rfl,rfl,hI.ok⟩
   clear hs hI
   refine Last.mk0 (A:=A18) (m:=0) none_ok rfl rfl loops0 (h1:=[ub 0 n y]) (by simp) ?_ (.refl _)
   refine Eq.trans (show iterR P18 G18 A18 noneO 0 62 [] 4 (v62 n (k+1)) [ub 0 n y] =
(
 bif decide (Int.ofNat (k+1)<Int.ofNat n) then
 bif decide (0<=Int.ofNat (k+1))&&decide (Int.ofNat (k+1)<Int.ofNat n) then
 bif ((0:Nat)+(k+(1:Nat))).blt n then
 bif decide (0<=IntKind.i64.wrap (Int.ofNat (k+1) - (1:Int)))&&decide (IntKind.i64.wrap (Int.ofNat (k+1) - (1:Int))<Int.ofNat n) then
 bif ((0:Nat)+(IntKind.i64.wrap (Int.ofNat (k+(1:Nat)) - (1:Int))).toNat).blt n then
 bif decide (y ((0:Nat)+(k+1)) = y ((0:Nat)+(IntKind.i64.wrap (Int.ofNat (k+(1:Nat)) - (1:Int))).toNat)) then
 bif decide (0<=Int.ofNat (k+1))&&decide (Int.ofNat (k+1)<=Int.ofNat n)&&decide (Int.ofNat n<=Int.ofNat (n - 0)) then none else none else
 some ((.normal,[.own 0 0 0 n
 none,.int .i64 (IntKind.i64.wrap (Int.ofNat (k+1)+(1:Int)))],[.mk 0 1 n (fun j=>[.int .u8 (y j)]) true false
 none]))
 else none else none else none else none else
 some ((.exit 0,[.own 0 0 0 n
 none,.undef],[.mk 0 1 n (fun j=>[.int .u8 (y j)]) true false
 none]))) from by kernel_rfl) ?_
   (repeat (first | refine BT ?_ | refine BG ?_))
   rfl
 ·rintro e ⟨vs1,h1,⟨r,z,k,he,rfl,rfl,hz⟩,hl⟩
  exact ⟨e,r,z,k,he,hz,hl⟩
theorem compT (n:Nat) (y:Nat->Int) (hn:n<=1000) (h1:1<=n) (hs:Asc y 0 n) :
 ∃ z k,CompOk y z n k/\ToldRef P18 G18 62 [.own 0 0 0 n none] [ub 0 n y] (.own 0 0 0 k none) [ub 0 n z]:=by
 obtain ⟨e,r,z,k,he,hz,hl⟩:=l62 n y hn h1 hs
 have hk:=hz.kn
 rcases Nat.lt_or_ge n 2 with q | q
 ·obtain rfl:n = 1:=by omega
  refine ⟨y,1,⟨Nat.le_refl _,Nat.le_refl _,fun p q h1 h2=>by omega,fun _=>Iff.rfl⟩,?_⟩
  refine stepR_told hm18 hn18 none_ok (A:=A18) (m:=0) (by kernel_rfl) (l:=[]) loops0 ?_
  refine Eq.trans (show stepR P18 G18 A18 noneO 0 62 [] [.own 0 0 0 1 none] [ub 0 1 y] =
(
 some ((.own 0 0 0 1
 none,[.mk 0 1 1 (fun j=>[.int .u8 (y j)]) true false
 none]))) from by kernel_rfl) ?_
  rfl
 ·refine ⟨z,k,hz,?_⟩
  rcases he with ⟨rfl,rfl⟩ | ⟨rfl,rfl,rfl⟩
  ·refine stepR_told hm18 hn18 none_ok (A:=A18) (m:=0) (by kernel_rfl) (loops1 hl) ?_
   refine Eq.trans (show stepR P18 G18 A18 noneO 0 62 [(4,litS (v62 n 1) [ub 0 n y] .ret [.own 0 0 0 n none,.own 0 0 0 k none] [ub 0 n z])] [.own 0 0 0 n none] [ub 0 n y] =
(
 bif decide (Int.ofNat n<2) then
 some ((.own 0 0 0 n
 none,[.mk 0 1 n (fun j=>[.int .u8 (y j)]) true false
 none]))
 else
 bif weakF [.own 0 0 0 n
 none,.int .i64 1] [.mk 0 1 n (fun j=>[.int .u8 (y j)]) true false
 none] [.own 0 0 0 n
 none,.int .i64 1] [.mk 0 1 n (fun j=>[.int .u8 (y j)]) true false
 none] then
 some ((.own 0 0 0 k
 none,[.mk 0 1 n (fun j=>[.int .u8 (z j)]) true false
 none]))
 else
 none) from by kernel_rfl) ?_
   (repeat (first | refine BT ?_ | refine BG ?_))
   refine bift (weakF_of ⟨rfl,.refl _⟩) ?_
   rfl
  ·refine stepR_told hm18 hn18 none_ok (A:=A18) (m:=0) (by kernel_rfl) (loops1 hl) ?_
   refine Eq.trans (show stepR P18 G18 A18 noneO 0 62 [(4,litS (v62 k 1) [ub 0 k y] (.exit 0) [.own 0 0 0 k none,.undef] [ub 0 k z])] [.own 0 0 0 k none] [ub 0 k y] =
(
 bif decide (Int.ofNat k<2) then
 some ((.own 0 0 0 k
 none,[.mk 0 1 k (fun j=>[.int .u8 (y j)]) true false
 none]))
 else
 bif weakF [.own 0 0 0 k
 none,.int .i64 1] [.mk 0 1 k (fun j=>[.int .u8 (y j)]) true false
 none] [.own 0 0 0 k
 none,.int .i64 1] [.mk 0 1 k (fun j=>[.int .u8 (y j)]) true false
 none] then
 some ((.own 0 0 0 k
 none,[.mk 0 1 k (fun j=>[.int .u8 (z j)]) true false
 none]))
 else
 none) from by kernel_rfl) ?_
   (repeat (first | refine BT ?_ | refine BG ?_))
   refine bift (weakF_of ⟨rfl,.refl _⟩) ?_
   rfl
def Out (y:Nat->Int) (n a b:Nat):Prop:=∀ p q,p<q->q<n->(p<a ∨ b<=p ∨ q<a ∨ b<=q)->y p<=y q
theorem Out.start (y:Nat->Int) (n:Nat):Out y n 0 n:=fun p q h1 h2 h=>by omega
theorem Pr.inside {y z:Nat->Int} {a b:Nat} (h:Pr y z a b) {p:Nat} (h1:a<=p) (h2:p<b):∃ e,a<=e/\e<b/\y e = z p:=(h.mem (z p)).1 ⟨p,h1,h2,rfl⟩
theorem Out.move {y z:Nat->Int} {n a b:Nat} (h:Out y n a b) (hp:Pr y z a b) (hb:b<=n):Out z n a b:=by
 intro p q h1 h2 h3
 by_cases hpi:a<=p/\p<b
 ·by_cases hqi:a<=q/\q<b
  ·omega
  ·rw [hp.out q (by omega)]
   obtain ⟨e,e1,e2,e3⟩:=hp.inside hpi.1 hpi.2
   rw [← e3]
   exact h e q (by omega) h2 (by omega)
 ·rw [hp.out p (by omega)]
  by_cases hqi:a<=q/\q<b
  ·obtain ⟨e,e1,e2,e3⟩:=hp.inside hqi.1 hqi.2
   rw [← e3]
   exact h p e (by omega) (by omega) (by omega)
  ·rw [hp.out q (by omega)]
   exact h p q h1 h2 (by omega)
theorem Out.asc {y:Nat->Int} {n a b:Nat} (h:Out y n a b) (hs:Asc y a b):Asc y 0 n:=by
 intro p q h1 h2 h3
 by_cases hh:a<=p/\q<b
 ·exact hs p q hh.1 h2 hh.2
 ·exact h p q h2 h3 (by omega)
theorem Out.right {y:Nat->Int} {n a b m:Nat} (h:Out y n a b) (hm:a<=m) (hb:m<=b) (hs:∀ p q,a<=p->p<q->q<b->p<m->y p<=y q):Out y n m b:=by
 intro p q h1 h2 h3
 by_cases hh:a<=p/\q<b
 ·exact hs p q hh.1 h1 hh.2 (by omega)
 ·exact h p q h1 h2 (by omega)
theorem Out.left {y:Nat->Int} {n a b m:Nat} (h:Out y n a b) (hm:a<=m) (hb:m<=b) (hs:∀ p q,a<=p->p<q->q<b->m<=q->y p<=y q):Out y n a m:=by
 intro p q h1 h2 h3
 by_cases hh:a<=p/\q<b
 ·exact hs p q hh.1 h1 hh.2 (by omega)
 ·exact h p q h1 h2 (by omega)
structure Parted (y:Nat->Int) (a b m:Nat):Prop where
 lo:a<=m
 hi:m<b
 left:∀ p,a<=p->p<m->y p<y m
 right:∀ p,m<p->p<b->y m<=y p
theorem Parted.le {y:Nat->Int} {a b m:Nat} (h:Parted y a b m) {p q:Nat} (h1:a<=p) (h2:p<q) (h3:q<b) (h4:p<=m) (h5:m<=q):y p<=y q:=by
 have a1:y p<=y m:=by
  by_cases e:p = m
  ·rw [e]; exact Int.le_refl _
  ·exact Int.le_of_lt (h.left p h1 (by omega))
 have a2:y m<=y q:=by
  by_cases e:q = m
  ·rw [e]; exact Int.le_refl _
  ·exact h.right q (by omega) h3
 exact Int.le_trans a1 a2
theorem Parted.goRight {y z:Nat->Int} {n a b m:Nat} (h:Parted y a b m) (ho:Out y n a b) (hp:Pr y z a m) (hs:Asc z a m) (hb:b<=n):Out z n (m+1) b:=by
 have hlo:=h.lo
 have hhi:=h.hi
 have ho2:=ho.move (hp.wider (Nat.le_refl _) (by omega)) hb
 refine ho2.right (by omega) (by omega) fun p q h1 h2 h3 h4=>?_
 by_cases hq:q<m
 ·exact hs p q h1 h2 hq
 ·rw [hp.out q (by omega)]
  by_cases hpm:p<m
  ·obtain ⟨e,e1,e2,e3⟩:=hp.inside h1 hpm
   rw [← e3]
   exact h.le e1 (by omega) h3 (by omega) (by omega)
  ·rw [hp.out p (by omega)]
   exact h.le h1 h2 h3 (by omega) (by omega)
theorem Parted.goLeft {y z:Nat->Int} {n a b m:Nat} (h:Parted y a b m) (ho:Out y n a b) (hp:Pr y z (m+1) b) (hs:Asc z (m+1) b) (hb:b<=n):Out z n a m:=by
 have hlo:=h.lo
 have hhi:=h.hi
 have ho2:=ho.move (hp.wider (by omega) (Nat.le_refl _)) hb
 refine ho2.left (by omega) (by omega) fun p q h1 h2 h3 h4=>?_
 by_cases hq:m<p
 ·exact hs p q (by omega) h2 h3
 ·rw [hp.out p (by omega)]
  by_cases hqm:m<q
  ·obtain ⟨e,e1,e2,e3⟩:=hp.inside (p:=q) (by omega) h3
   rw [← e3]
   exact h.le h1 (by omega) e2 (by omega) (by omega)
  ·rw [hp.out q (by omega)]
   exact h.le h1 h2 h3 (by omega) (by omega)
theorem Out.equal {y:Nat->Int} {n a b m:Nat} (ho:Out y n a b) (hm:a<=m) (hb:m<=b) (hall:∀ p q,a<=p->p<m->a<=q->q<b->y p<=y q):Out y n m b :=
 ho.right hm hb fun p q h1 h2 h3 h4=>hall p q h1 h4 (by omega) h3
open Go.Proofs
def v80 (n:Nat) (i j:Int):List T:=[.own 0 0 0 n none,.int .i64 i,.int .i64 j]
def v81 (n a b:Nat) (i t:Int):List T:=[.own 0 0 0 n none,.int .i64 a,.int .i64 b,.int .i64 i,.int .i64 t]
noncomputable def K79:Orc:=(K82.inl P18 G18 A18 K82 0 95).inl P18 G18 A18 (K82.inl P18 G18 A18 K82 0 95) 0 93
theorem revT (n a b:Nat) (x:Nat->Int) (hn:n<=1000) (hb:b<=n) (hab:a<b) :
 ∃ z,Pr x z a b/\ToldRef P18 G18 80 [.own 0 0 0 n none,.int .i64 a,.int .i64 b] [ub 0 n x] (.tup []) [ub 0 n z]:=by
 have hl:∃ z,Pr x z a b/\LoopOk P18 G18 (A18 80) 80 2 (litS (v80 n a (b - 1:Nat)) [ub 0 n x] (.exit 0) [] [ub 0 n z]):=by
  refine Exists.elim (loop_exists (P:=P18) (Gl:=G18) (f:=80) (r:=2) (an:=A18 80) (k:=1) hm18 (by kernel_rfl)
   (fun m vs h=>∃ (i j:Nat) (y:Nat->Int),m = j+1 - i/\a<=i/\j<b/\vs = v80 n i j/\h = [ub 0 n y]/\Pr x y a b)
   (fun e vs1 h1=>∃ z,e = .exit 0/\vs1 = []/\h1 = [ub 0 n z]/\Pr x z a b)
   (fun m vs h ⟨i,j,y,hm,h1,h2,hv,hh,hI⟩=>?_) (n:=b - 1+1 - a) (vs:=v80 n a (b - 1:Nat)) (h:=[ub 0 n x]) rfl ⟨a,b - 1,x,rfl,Nat.le_refl _,by omega,rfl,rfl,.refl _ _ _⟩) ?_
  ·subst hm hv hh
   by_cases q:i<j
   ·have ei:IntKind.i64.wrap ((i:Int)+1) = ((i+1:Nat):Int):=by rw [wr64 (by omega) (by omega)]; omega
    have ej:IntKind.i64.wrap ((j:Int) - 1) = ((j - 1:Nat):Int):=by rw [wr64 (by omega) (by omega)]; omega
    refine .inl ⟨j - 1+1 - (i+1),_,_,by omega,?_,⟨i+1,j - 1,_,rfl,by omega,by omega,rfl,rfl,hI.trans (Pr.swap y (i:=j) (j:=i) ⟨by omega,h2⟩ ⟨h1,by omega⟩)⟩⟩
    refine Step.mk0 (A:=A18) (m:=0) none_ok rfl rfl loops0 (h1:=[ub 0 n fun e=>bif e==0+j then y (0+i) else bif e==0+i then y (0+j) else y e]) ?_ (ub_congr fun e=>?_)
    ·rw [(show iterR P18 G18 A18 noneO 0 80 [] 2 (v80 n i j) [ub 0 n y] =
(
 bif decide (Int.ofNat i<Int.ofNat j) then
 bif decide (0<=Int.ofNat j)&&decide (Int.ofNat j<Int.ofNat n) then
 bif ((0:Nat)+j).blt n then
 bif decide (0<=Int.ofNat i)&&decide (Int.ofNat i<Int.ofNat n) then
 bif ((0:Nat)+i).blt n then
 bif decide (0<=Int.ofNat i)&&decide (Int.ofNat i<Int.ofNat n) then
 bif ((0:Nat)+i).blt n&&[T.int .u8 (y ((0:Nat)+j))].length==(1:Nat)&&true&&true then
 bif decide (0<=Int.ofNat j)&&decide (Int.ofNat j<Int.ofNat n) then
 bif ((0:Nat)+j).blt n&&[T.int .u8 (y ((0:Nat)+i))].length==(1:Nat)&&true&&true then
 some ((.normal,v80 n (IntKind.i64.wrap (Int.ofNat i+1)) (IntKind.i64.wrap (Int.ofNat j - 1)),[ub (0:Nat) n fun j_1 =>
 bif j_1==0+j then y (0+i)
 else
 bif j_1==0+i then y (0+j)
 else y j_1]))
 else none else none else none else none else none else none else none else none else
 some ((.exit 0,[],[ub (0:Nat) n y]))) from by kernel_rfl)]
     rw [ofNatE i,ofNatE j,ei,ej]
     clear hI
     (repeat (first | refine BT ?_ | refine BG ?_))
     rfl
    ·rw [Nat.zero_add,Nat.zero_add]
     by_cases q3:e = j
     ·rw [if_pos q3,show (e==j) = true by simpa using q3,cond_true]
     ·rw [if_neg q3,show (e==j) = false by simpa using q3,cond_false]
      by_cases q4:e = i
      ·rw [if_pos q4,show (e==i) = true by simpa using q4,cond_true]
      ·rw [if_neg q4,show (e==i) = false by simpa using q4,cond_false]
   ·refine .inr ⟨_,_,_,?_,y,rfl,rfl,rfl,hI⟩
    refine Last.mk0 (A:=A18) (m:=0) none_ok rfl rfl loops0 (h1:=[ub 0 n y]) (by simp) ?_ (.refl _)
    rw [(show iterR P18 G18 A18 noneO 0 80 [] 2 (v80 n i j) [ub 0 n y] =
(
 bif decide (Int.ofNat i<Int.ofNat j) then
 bif decide (0<=Int.ofNat j)&&decide (Int.ofNat j<Int.ofNat n) then
 bif ((0:Nat)+j).blt n then
 bif decide (0<=Int.ofNat i)&&decide (Int.ofNat i<Int.ofNat n) then
 bif ((0:Nat)+i).blt n then
 bif decide (0<=Int.ofNat i)&&decide (Int.ofNat i<Int.ofNat n) then
 bif ((0:Nat)+i).blt n&&[T.int .u8 (y ((0:Nat)+j))].length==(1:Nat)&&true&&true then
 bif decide (0<=Int.ofNat j)&&decide (Int.ofNat j<Int.ofNat n) then
 bif ((0:Nat)+j).blt n&&[T.int .u8 (y ((0:Nat)+i))].length==(1:Nat)&&true&&true then
 some ((.normal,v80 n (IntKind.i64.wrap (Int.ofNat i+1)) (IntKind.i64.wrap (Int.ofNat j - 1)),[ub (0:Nat) n fun j_1 =>
 bif j_1==0+j then y (0+i)
 else
 bif j_1==0+i then y (0+j)
 else y j_1]))
 else none else none else none else none else none else none else none else none else
 some ((.exit 0,[],[ub (0:Nat) n y]))) from by kernel_rfl)]
    clear hI
    (repeat (first | refine BT ?_ | refine BG ?_))
    rfl
  ·rintro e ⟨vs1,h1,⟨z,rfl,rfl,rfl,hz⟩,hl⟩
   exact ⟨z,hz,hl⟩
 obtain ⟨z,hz,hl⟩:=hl
 refine ⟨z,hz,?_⟩
 refine stepR_told hm18 hn18 none_ok (A:=A18) (m:=0) (by kernel_rfl) (loops1 hl) ?_
 rw [(show stepR P18 G18 A18 noneO 0 80 [(2,litS (v80 n a (b - 1:Nat)) [ub 0 n x] (.exit 0) [] [ub 0 n z])] [.own 0 0 0 n none,.int .i64 a,.int .i64 b] [ub 0 n x] =
(
 bif weakF (v80 n (Int.ofNat a) (IntKind.i64.wrap (Int.ofNat b - 1))) [ub (0:Nat) n x] (v80 n (Int.ofNat a) (Int.ofNat (b - 1))) [ub (0:Nat) n x] then
 some ((.tup [],[ub (0:Nat) n z]))
 else
 none) from by kernel_rfl)]
 rw [ofNatE b,show IntKind.i64.wrap ((b:Int) - 1) = ((b - 1:Nat):Int) by rw [wr64 (by omega) (by omega)]; omega]
 exact bift (weakF_of ⟨rfl,.refl _⟩) rfl
theorem pinsT (n a b:Nat) (x:Nat->Int) (hn:n<=1000) (hb:b<=n) (hab:a<b) (h50:b - a<50) :
 ∃ r:Bool,(r = true->Asc x a b)/\ToldRef P18 G18 81 [.own 0 0 0 n none,.int .i64 a,.int .i64 b] [ub 0 n x] (.bool r) [ub 0 n x]:=by
 have hl:∃ j:Nat,a<j/\j<=b/\Asc x a j/\LoopOk P18 G18 (A18 81) 81 5 (litS (v81 n a b (a+1:Nat) 0) [ub 0 n x] (.exit 2) (v81 n a b j 0) [ub 0 n x]):=by
  refine Exists.elim (loop_exists (P:=P18) (Gl:=G18) (f:=81) (r:=5) (an:=A18 81) (k:=1) hm18 (by kernel_rfl)
   (fun m vs h=>∃ i:Nat,m = b - (i+1)/\a<=i/\i+1<=b/\vs = v81 n a b (i+1:Nat) 0/\h = [ub 0 n x]/\Asc x a (i+1))
   (fun e vs1 h1=>∃ j:Nat,e = .exit 2/\vs1 = v81 n a b j 0/\h1 = [ub 0 n x]/\a<j/\j<=b/\Asc x a j)
   (fun m vs h ⟨i,hm,h1,h2,hv,hh,hI⟩=>?_) (n:=b - (a+1)) (vs:=v81 n a b (a+1:Nat) 0) (h:=[ub 0 n x]) rfl ⟨a,rfl,Nat.le_refl _,by omega,rfl,rfl,fun p q _ _ _=>by omega⟩) ?_
  ·subst hm hv hh
   have ei:IntKind.i64.wrap (((i+1:Nat):Int)+1) = ((i+1+1:Nat):Int):=by rw [wr64 (by omega) (by omega)]; omega
   have ej:IntKind.i64.wrap (((i+1:Nat):Int) - 1) = (i:Int):=by rw [wr64 (by omega) (by omega)]; omega
   by_cases q:i+1<b
   ·by_cases q2:x (i+1)<x i
    ·refine .inr ⟨_,_,_,?_,i+1,rfl,rfl,rfl,by omega,by omega,hI⟩
     refine Last.mk0 (A:=A18) (m:=0) ok82 rfl rfl loops0 (h1:=[ub 0 n x]) (by simp) ?_ (.refl _)
     rw [(show iterR P18 G18 A18 K82 0 81 [] 5 (v81 n a b (i+1:Nat) 0) [ub 0 n x] =
(
 bif decide (Int.ofNat (i+1)<Int.ofNat b) then
 bif decide (0<=Int.ofNat (i+1))&&decide (Int.ofNat (i+1)<Int.ofNat n) then
 bif ((0:Nat)+(i+(1:Nat))).blt n then
 bif decide (0<=IntKind.i64.wrap (Int.ofNat (i+1) - (1:Int)))&&decide (IntKind.i64.wrap (Int.ofNat (i+1) - (1:Int))<Int.ofNat n) then
 bif ((0:Nat)+(IntKind.i64.wrap (Int.ofNat (i+(1:Nat)) - (1:Int))).toNat).blt n then
 bif decide (x ((0:Nat)+(i+1))<x ((0:Nat)+(IntKind.i64.wrap (Int.ofNat (i+(1:Nat)) - (1:Int))).toNat)) then
 some ((.exit 2,v81 n a b (Int.ofNat (i+1)) (0:Int),[ub (0:Nat) n x]))
 else
 some ((.normal,v81 n a b (IntKind.i64.wrap (Int.ofNat (i+1)+(1:Int))) (0:Int),[ub (0:Nat) n x]))
 else none else none else none else none else
 some ((.exit 2,v81 n a b (Int.ofNat (i+1)) (0:Int),[ub (0:Nat) n x]))) from by kernel_rfl)]
     rw [ofNatE (i+1),ei,ej,toNatE]
     clear hI
     (repeat (first | refine BT ?_ | refine BG ?_))
     rfl
    ·refine .inl ⟨b - (i+1+1),_,_,by omega,?_,⟨i+1,rfl,by omega,by omega,rfl,rfl,fun p q' g1 g2 g3=>?_⟩⟩
     ·refine Step.mk0 (A:=A18) (m:=0) ok82 rfl rfl loops0 (h1:=[ub 0 n x]) ?_ (.refl _)
      rw [(show iterR P18 G18 A18 K82 0 81 [] 5 (v81 n a b (i+1:Nat) 0) [ub 0 n x] =
(
 bif decide (Int.ofNat (i+1)<Int.ofNat b) then
 bif decide (0<=Int.ofNat (i+1))&&decide (Int.ofNat (i+1)<Int.ofNat n) then
 bif ((0:Nat)+(i+(1:Nat))).blt n then
 bif decide (0<=IntKind.i64.wrap (Int.ofNat (i+1) - (1:Int)))&&decide (IntKind.i64.wrap (Int.ofNat (i+1) - (1:Int))<Int.ofNat n) then
 bif ((0:Nat)+(IntKind.i64.wrap (Int.ofNat (i+(1:Nat)) - (1:Int))).toNat).blt n then
 bif decide (x ((0:Nat)+(i+1))<x ((0:Nat)+(IntKind.i64.wrap (Int.ofNat (i+(1:Nat)) - (1:Int))).toNat)) then
 some ((.exit 2,v81 n a b (Int.ofNat (i+1)) (0:Int),[ub (0:Nat) n x]))
 else
 some ((.normal,v81 n a b (IntKind.i64.wrap (Int.ofNat (i+1)+(1:Int))) (0:Int),[ub (0:Nat) n x]))
 else none else none else none else none else
 some ((.exit 2,v81 n a b (Int.ofNat (i+1)) (0:Int),[ub (0:Nat) n x]))) from by kernel_rfl)]
      rw [ofNatE (i+1),ei,ej,toNatE]
      clear hI
      (repeat (first | refine BT ?_ | refine BG ?_))
      rfl
     ·by_cases e:q' = i+1
      ·rw [e]
       by_cases e2:p = i
       ·rw [e2]; omega
       ·have:=hI p i g1 (by omega) (by omega)
        omega
      ·exact hI p q' g1 g2 (by omega)
   ·refine .inr ⟨_,_,_,?_,i+1,rfl,rfl,rfl,by omega,by omega,hI⟩
    refine Last.mk0 (A:=A18) (m:=0) ok82 rfl rfl loops0 (h1:=[ub 0 n x]) (by simp) ?_ (.refl _)
    rw [(show iterR P18 G18 A18 K82 0 81 [] 5 (v81 n a b (i+1:Nat) 0) [ub 0 n x] =
(
 bif decide (Int.ofNat (i+1)<Int.ofNat b) then
 bif decide (0<=Int.ofNat (i+1))&&decide (Int.ofNat (i+1)<Int.ofNat n) then
 bif ((0:Nat)+(i+(1:Nat))).blt n then
 bif decide (0<=IntKind.i64.wrap (Int.ofNat (i+1) - (1:Int)))&&decide (IntKind.i64.wrap (Int.ofNat (i+1) - (1:Int))<Int.ofNat n) then
 bif ((0:Nat)+(IntKind.i64.wrap (Int.ofNat (i+(1:Nat)) - (1:Int))).toNat).blt n then
 bif decide (x ((0:Nat)+(i+1))<x ((0:Nat)+(IntKind.i64.wrap (Int.ofNat (i+(1:Nat)) - (1:Int))).toNat)) then
 some ((.exit 2,v81 n a b (Int.ofNat (i+1)) (0:Int),[ub (0:Nat) n x]))
 else
 some ((.normal,v81 n a b (IntKind.i64.wrap (Int.ofNat (i+1)+(1:Int))) (0:Int),[ub (0:Nat) n x]))
 else none else none else none else none else
 some ((.exit 2,v81 n a b (Int.ofNat (i+1)) (0:Int),[ub (0:Nat) n x]))) from by kernel_rfl)]
    clear hI
    (repeat (first | refine BT ?_ | refine BG ?_))
    rfl
  ·rintro e ⟨vs1,h1,⟨j,rfl,rfl,rfl,g1,g2,g3⟩,hl⟩
   exact ⟨j,g1,g2,g3,hl⟩
 obtain ⟨j,g1,g2,g3,hl⟩:=hl
 have hl3:LoopOk P18 G18 (A18 81) 81 3 (litS (v81 n a b (a+1:Nat) 0) [ub 0 n x] .ret [.bool (decide (j = b))] [ub 0 n x]):=by
  refine loop_steps hm18 (by kernel_rfl) (fun _=>v81 n a b (a+1:Nat) 0) (fun _=>[ub 0 n x]) (n:=0) (fun i hi=>by omega) ?_
  refine Last.mk0 (A:=A18) (m:=0) ok82 rfl rfl (loops1 hl) (h1:=[ub 0 n x]) (by simp) ?_ (.refl _)
  rw [(show iterR P18 G18 A18 K82 0 81 [(5,litS (v81 n a b (a+1:Nat) 0) [ub 0 n x] (.exit 2) (v81 n a b j 0) [ub 0 n x])] 3 (v81 n a b (a+1:Nat) 0) [ub 0 n x] =
(
 bif weakF (v81 n a b (Int.ofNat (a+1)) (0:Int)) [ub (0:Nat) n x] (v81 n a b (Int.ofNat (a+1)) (0:Int)) [ub (0:Nat) n x] then
 bif decide (Int.ofNat j = Int.ofNat b) then
 some ((.ret,[.bool true],[ub (0:Nat) n x]))
 else
 bif decide (IntKind.i64.wrap (Int.ofNat b - Int.ofNat a)<(50:Int)) then
 some ((.ret,[.bool false],[ub (0:Nat) n x]))
 else
 bif decide (0<=IntKind.i64.wrap (Int.ofNat j - 1))&&decide (IntKind.i64.wrap (Int.ofNat j - 1)<Int.ofNat n) then
 bif ((0:Nat)+(IntKind.i64.wrap (Int.ofNat j - (1:Int))).toNat).blt n then
 bif decide (0<=Int.ofNat j)&&decide (Int.ofNat j<Int.ofNat n) then
 bif ((0:Nat)+j).blt n then
 bif decide (0<=Int.ofNat j)&&decide (Int.ofNat j<Int.ofNat n) then
 bif ((0:Nat)+j).blt n&&[T.int .u8 (x ((0:Nat)+(IntKind.i64.wrap (Int.ofNat j - (1:Int))).toNat))].length==(1:Nat)&&true&&true then
 bif decide (0<=IntKind.i64.wrap (Int.ofNat j - 1))&&decide (IntKind.i64.wrap (Int.ofNat j - 1)<Int.ofNat n) then
 bif ((0:Nat)+(IntKind.i64.wrap (Int.ofNat j - (1:Int))).toNat).blt n&&[T.int .u8 (x ((0:Nat)+j))].length==(1:Nat)&&true&&true then
 bif decide (2<=IntKind.i64.wrap (Int.ofNat j - Int.ofNat a)) then none else
 bif decide (2<=IntKind.i64.wrap (Int.ofNat b - Int.ofNat j)) then none else
 some ((.normal,v81 n a b (Int.ofNat j) (1:Int),[ub (0:Nat) n fun j_1 =>
 bif j_1==(0:Nat)+(IntKind.i64.wrap (Int.ofNat j - (1:Int))).toNat then x (0+j)
 else
 bif j_1==0+j then x ((0:Nat)+(IntKind.i64.wrap (Int.ofNat j - (1:Int))).toNat)
 else x j_1]))
 else none else none else none else none else none else none else none else none else
 none) from by kernel_rfl)]
  refine bift (weakF_of ⟨rfl,.refl _⟩) ?_
  by_cases q:j = b
  ·rw [decide_eq_true q]
   refine BT ?_
   rfl
  ·rw [decide_eq_false q]
   refine BF ?_
   rw [ofNatE b,ofNatE a,wr64 (x:=(b:Int) - a) (by omega) (by omega)]
   refine BT ?_
   rfl
 refine ⟨decide (j = b),fun h=>by rw [decide_eq_true_eq] at h; rw [← h]; exact g3,?_⟩
 generalize decide (j = b) = r at *
 refine stepR_told hm18 hn18 none_ok (A:=A18) (m:=0) (by kernel_rfl) (loops1 hl3) ?_
 rw [(show stepR P18 G18 A18 noneO 0 81 [(3,litS (v81 n a b (a+1:Nat) 0) [ub 0 n x] .ret [.bool r] [ub 0 n x])] [.own 0 0 0 n none,.int .i64 a,.int .i64 b] [ub 0 n x] =
(
 bif weakF (v81 n a b (IntKind.i64.wrap (Int.ofNat a+1)) (0:Int)) [ub (0:Nat) n x] (v81 n a b (Int.ofNat (a+1)) (0:Int)) [ub (0:Nat) n x] then
 some ((.bool r,[ub (0:Nat) n x]))
 else
 none) from by kernel_rfl)]
 rw [ofNatE a,show IntKind.i64.wrap ((a:Int)+1) = ((a+1:Nat):Int) by rw [wr64 (by omega) (by omega)]; omega]
 exact bift (weakF_of ⟨rfl,.refl _⟩) rfl
theorem ok79:OrcOk P18 G18 K79:=told_inl hm18 hn18 (told_inl hm18 hn18 ok82 ok82) (told_inl hm18 hn18 ok82 ok82)
def sw (s:Int):Blk:=⟨0,1,1,fun _=>[.int .i64 s],true,false,none⟩
open Go.Proofs
set_option maxRecDepth 100000 in
set_option maxHeartbeats 1000000 in
theorem pivT (n a b:Nat) (x:Nat->Int) (hn:n<=1000) (hb:b<=n) (h8:a+8<=b) (h50:b<a+50) :
 ∃ (p:Nat) (hint:Int) (B:Blk),(a<=p/\p<b)/\ToldRef P18 G18 79 [.own 0 0 0 n none,.int .i64 a,.int .i64 b] [ub 0 n x] (.tup [.int .i64 p,.int .i64 hint]) [ub 0 n x,B]:=by
 obtain ⟨L,hL⟩:∃ L:Nat,b - a = L:=⟨_,rfl⟩
 obtain ⟨q,hq⟩:∃ q:Nat,L / 4 = q:=⟨_,rfl⟩
 have eL:IntKind.i64.wrap (Int.ofNat b - Int.ofNat a) = (L:Int):=by rw [ofNatE,ofNatE,wr64 (by omega) (by omega)]; omega
 have eq0:(L:Int).tdiv 4 = (q:Int):=by rw [← hq]; rfl
 have eq:IntKind.i64.wrap (q:Int) = (q:Int):=wr64 (by omega) (by omega)
 have e1:IntKind.i64.wrap ((q:Int) * 1) = (q:Int):=by rw [wr64 (by omega) (by omega)]; omega
 have e2:IntKind.i64.wrap ((q:Int) * 2) = ((2 * q:Nat):Int):=by rw [wr64 (by omega) (by omega)]; omega
 have e3:IntKind.i64.wrap ((q:Int) * 3) = ((3 * q:Nat):Int):=by rw [wr64 (by omega) (by omega)]; omega
 have p1:IntKind.i64.wrap (Int.ofNat a+(q:Int)) = ((a+q:Nat):Int):=by rw [ofNatE,wr64 (by omega) (by omega)]; omega
 have p2:IntKind.i64.wrap (Int.ofNat a+((2 * q:Nat):Int)) = ((a+2 * q:Nat):Int):=by rw [ofNatE,wr64 (by omega) (by omega)]; omega
 have p3:IntKind.i64.wrap (Int.ofNat a+((3 * q:Nat):Int)) = ((a+3 * q:Nat):Int):=by rw [ofNatE,wr64 (by omega) (by omega)]; omega
 refine by_tree (show stepR P18 G18 A18 K79 0 79 [] [.own 0 0 0 n none,.int .i64 a,.int .i64 b] [ub 0 n x] =
(
 bif decide (8<=IntKind.i64.wrap (Int.ofNat b - Int.ofNat a)) then
 bif decide (50<=IntKind.i64.wrap (Int.ofNat b - Int.ofNat a)) then none else
 bif decide (0<=IntKind.i64.wrap (Int.ofNat a+IntKind.i64.wrap (IntKind.i64.wrap ((IntKind.i64.wrap (Int.ofNat b - Int.ofNat a)).tdiv 4) * (2:Int))))&&decide (IntKind.i64.wrap (Int.ofNat a+IntKind.i64.wrap (IntKind.i64.wrap ((IntKind.i64.wrap (Int.ofNat b - Int.ofNat a)).tdiv 4) * (2:Int)))<Int.ofNat n) then
 bif ((0:Nat)+(IntKind.i64.wrap (Int.ofNat a+IntKind.i64.wrap (IntKind.i64.wrap ((IntKind.i64.wrap (Int.ofNat b - Int.ofNat a)).tdiv (4:Int)) * (2:Int)))).toNat).blt n then
 bif decide (0<=IntKind.i64.wrap (Int.ofNat a+IntKind.i64.wrap (IntKind.i64.wrap ((IntKind.i64.wrap (Int.ofNat b - Int.ofNat a)).tdiv 4) * (1:Int))))&&decide (IntKind.i64.wrap (Int.ofNat a+IntKind.i64.wrap (IntKind.i64.wrap ((IntKind.i64.wrap (Int.ofNat b - Int.ofNat a)).tdiv 4) * (1:Int)))<Int.ofNat n) then
 bif ((0:Nat)+(IntKind.i64.wrap (Int.ofNat a+IntKind.i64.wrap (IntKind.i64.wrap ((IntKind.i64.wrap (Int.ofNat b - Int.ofNat a)).tdiv (4:Int)) * (1:Int)))).toNat).blt n then
 bif decide (x ((0:Nat)+(IntKind.i64.wrap (Int.ofNat a+IntKind.i64.wrap (IntKind.i64.wrap ((IntKind.i64.wrap (Int.ofNat b - Int.ofNat a)).tdiv (4:Int)) * (2:Int)))).toNat)<x ((0:Nat)+(IntKind.i64.wrap (Int.ofNat a+IntKind.i64.wrap (IntKind.i64.wrap ((IntKind.i64.wrap (Int.ofNat b - Int.ofNat a)).tdiv (4:Int)) * (1:Int)))).toNat)) then
 bif decide (0<=IntKind.i64.wrap (Int.ofNat a+IntKind.i64.wrap (IntKind.i64.wrap ((IntKind.i64.wrap (Int.ofNat b - Int.ofNat a)).tdiv 4) * (3:Int))))&&decide (IntKind.i64.wrap (Int.ofNat a+IntKind.i64.wrap (IntKind.i64.wrap ((IntKind.i64.wrap (Int.ofNat b - Int.ofNat a)).tdiv 4) * (3:Int)))<Int.ofNat n) then
 bif ((0:Nat)+(IntKind.i64.wrap (Int.ofNat a+IntKind.i64.wrap (IntKind.i64.wrap ((IntKind.i64.wrap (Int.ofNat b - Int.ofNat a)).tdiv (4:Int)) * (3:Int)))).toNat).blt n then
 bif decide (0<=IntKind.i64.wrap (Int.ofNat a+IntKind.i64.wrap (IntKind.i64.wrap ((IntKind.i64.wrap (Int.ofNat b - Int.ofNat a)).tdiv 4) * (1:Int))))&&decide (IntKind.i64.wrap (Int.ofNat a+IntKind.i64.wrap (IntKind.i64.wrap ((IntKind.i64.wrap (Int.ofNat b - Int.ofNat a)).tdiv 4) * (1:Int)))<Int.ofNat n) then
 bif ((0:Nat)+(IntKind.i64.wrap (Int.ofNat a+IntKind.i64.wrap (IntKind.i64.wrap ((IntKind.i64.wrap (Int.ofNat b - Int.ofNat a)).tdiv (4:Int)) * (1:Int)))).toNat).blt n then
 bif decide (x ((0:Nat)+(IntKind.i64.wrap (Int.ofNat a+IntKind.i64.wrap (IntKind.i64.wrap ((IntKind.i64.wrap (Int.ofNat b - Int.ofNat a)).tdiv (4:Int)) * (3:Int)))).toNat)<x ((0:Nat)+(IntKind.i64.wrap (Int.ofNat a+IntKind.i64.wrap (IntKind.i64.wrap ((IntKind.i64.wrap (Int.ofNat b - Int.ofNat a)).tdiv (4:Int)) * (1:Int)))).toNat)) then
 bif decide (0<=IntKind.i64.wrap (Int.ofNat a+IntKind.i64.wrap (IntKind.i64.wrap ((IntKind.i64.wrap (Int.ofNat b - Int.ofNat a)).tdiv 4) * (3:Int))))&&decide (IntKind.i64.wrap (Int.ofNat a+IntKind.i64.wrap (IntKind.i64.wrap ((IntKind.i64.wrap (Int.ofNat b - Int.ofNat a)).tdiv 4) * (3:Int)))<Int.ofNat n) then
 bif ((0:Nat)+(IntKind.i64.wrap (Int.ofNat a+IntKind.i64.wrap (IntKind.i64.wrap ((IntKind.i64.wrap (Int.ofNat b - Int.ofNat a)).tdiv (4:Int)) * (3:Int)))).toNat).blt n then
 bif decide (0<=IntKind.i64.wrap (Int.ofNat a+IntKind.i64.wrap (IntKind.i64.wrap ((IntKind.i64.wrap (Int.ofNat b - Int.ofNat a)).tdiv 4) * (2:Int))))&&decide (IntKind.i64.wrap (Int.ofNat a+IntKind.i64.wrap (IntKind.i64.wrap ((IntKind.i64.wrap (Int.ofNat b - Int.ofNat a)).tdiv 4) * (2:Int)))<Int.ofNat n) then
 bif ((0:Nat)+(IntKind.i64.wrap (Int.ofNat a+IntKind.i64.wrap (IntKind.i64.wrap ((IntKind.i64.wrap (Int.ofNat b - Int.ofNat a)).tdiv (4:Int)) * (2:Int)))).toNat).blt n then
 bif decide (x ((0:Nat)+(IntKind.i64.wrap (Int.ofNat a+IntKind.i64.wrap (IntKind.i64.wrap ((IntKind.i64.wrap (Int.ofNat b - Int.ofNat a)).tdiv (4:Int)) * (3:Int)))).toNat)<x ((0:Nat)+(IntKind.i64.wrap (Int.ofNat a+IntKind.i64.wrap (IntKind.i64.wrap ((IntKind.i64.wrap (Int.ofNat b - Int.ofNat a)).tdiv (4:Int)) * (2:Int)))).toNat)) then
 some ((.tup [.int .i64 (IntKind.i64.wrap (Int.ofNat a+IntKind.i64.wrap (IntKind.i64.wrap ((IntKind.i64.wrap (Int.ofNat b - Int.ofNat a)).tdiv 4) * (2:Int)))),.int .i64 0],[ub (0:Nat) n x,.mk 0 1 1 (fun e=>[.int .i64 (bif e==(0:Nat) then (3:Int)
 else
 bif e==(0:Nat) then (2:Int)
 else
 bif e==(0:Nat) then (1:Int)
 else (0:Int))]) true false
 none]))
 else
 some ((.tup [.int .i64 (IntKind.i64.wrap (Int.ofNat a+IntKind.i64.wrap (IntKind.i64.wrap ((IntKind.i64.wrap (Int.ofNat b - Int.ofNat a)).tdiv 4) * (3:Int)))),.int .i64 0],[ub (0:Nat) n x,.mk 0 1 1 (fun e=>[.int .i64 (bif e==(0:Nat) then (2:Int)
 else
 bif e==(0:Nat) then (1:Int)
 else (0:Int))]) true false
 none]))
 else none else none else none else none else
 bif decide (0<=IntKind.i64.wrap (Int.ofNat a+IntKind.i64.wrap (IntKind.i64.wrap ((IntKind.i64.wrap (Int.ofNat b - Int.ofNat a)).tdiv 4) * (1:Int))))&&decide (IntKind.i64.wrap (Int.ofNat a+IntKind.i64.wrap (IntKind.i64.wrap ((IntKind.i64.wrap (Int.ofNat b - Int.ofNat a)).tdiv 4) * (1:Int)))<Int.ofNat n) then
 bif ((0:Nat)+(IntKind.i64.wrap (Int.ofNat a+IntKind.i64.wrap (IntKind.i64.wrap ((IntKind.i64.wrap (Int.ofNat b - Int.ofNat a)).tdiv (4:Int)) * (1:Int)))).toNat).blt n then
 bif decide (0<=IntKind.i64.wrap (Int.ofNat a+IntKind.i64.wrap (IntKind.i64.wrap ((IntKind.i64.wrap (Int.ofNat b - Int.ofNat a)).tdiv 4) * (2:Int))))&&decide (IntKind.i64.wrap (Int.ofNat a+IntKind.i64.wrap (IntKind.i64.wrap ((IntKind.i64.wrap (Int.ofNat b - Int.ofNat a)).tdiv 4) * (2:Int)))<Int.ofNat n) then
 bif ((0:Nat)+(IntKind.i64.wrap (Int.ofNat a+IntKind.i64.wrap (IntKind.i64.wrap ((IntKind.i64.wrap (Int.ofNat b - Int.ofNat a)).tdiv (4:Int)) * (2:Int)))).toNat).blt n then
 bif decide (x ((0:Nat)+(IntKind.i64.wrap (Int.ofNat a+IntKind.i64.wrap (IntKind.i64.wrap ((IntKind.i64.wrap (Int.ofNat b - Int.ofNat a)).tdiv (4:Int)) * (1:Int)))).toNat)<x ((0:Nat)+(IntKind.i64.wrap (Int.ofNat a+IntKind.i64.wrap (IntKind.i64.wrap ((IntKind.i64.wrap (Int.ofNat b - Int.ofNat a)).tdiv (4:Int)) * (2:Int)))).toNat)) then
 some ((.tup [.int .i64 (IntKind.i64.wrap (Int.ofNat a+IntKind.i64.wrap (IntKind.i64.wrap ((IntKind.i64.wrap (Int.ofNat b - Int.ofNat a)).tdiv 4) * (2:Int)))),.int .i64 0],[ub (0:Nat) n x,.mk 0 1 1 (fun e=>[.int .i64 (bif e==(0:Nat) then (2:Int)
 else
 bif e==(0:Nat) then (1:Int)
 else (0:Int))]) true false
 none]))
 else
 some ((.tup [.int .i64 (IntKind.i64.wrap (Int.ofNat a+IntKind.i64.wrap (IntKind.i64.wrap ((IntKind.i64.wrap (Int.ofNat b - Int.ofNat a)).tdiv 4) * (1:Int)))),.int .i64 0],[ub (0:Nat) n x,.mk 0 1 1 (fun e=>[.int .i64 (bif e==(0:Nat) then (1:Int)
 else (0:Int))]) true false
 none]))
 else none else none else none else none else none else none else none else none else
 bif decide (0<=IntKind.i64.wrap (Int.ofNat a+IntKind.i64.wrap (IntKind.i64.wrap ((IntKind.i64.wrap (Int.ofNat b - Int.ofNat a)).tdiv 4) * (3:Int))))&&decide (IntKind.i64.wrap (Int.ofNat a+IntKind.i64.wrap (IntKind.i64.wrap ((IntKind.i64.wrap (Int.ofNat b - Int.ofNat a)).tdiv 4) * (3:Int)))<Int.ofNat n) then
 bif ((0:Nat)+(IntKind.i64.wrap (Int.ofNat a+IntKind.i64.wrap (IntKind.i64.wrap ((IntKind.i64.wrap (Int.ofNat b - Int.ofNat a)).tdiv (4:Int)) * (3:Int)))).toNat).blt n then
 bif decide (0<=IntKind.i64.wrap (Int.ofNat a+IntKind.i64.wrap (IntKind.i64.wrap ((IntKind.i64.wrap (Int.ofNat b - Int.ofNat a)).tdiv 4) * (2:Int))))&&decide (IntKind.i64.wrap (Int.ofNat a+IntKind.i64.wrap (IntKind.i64.wrap ((IntKind.i64.wrap (Int.ofNat b - Int.ofNat a)).tdiv 4) * (2:Int)))<Int.ofNat n) then
 bif ((0:Nat)+(IntKind.i64.wrap (Int.ofNat a+IntKind.i64.wrap (IntKind.i64.wrap ((IntKind.i64.wrap (Int.ofNat b - Int.ofNat a)).tdiv (4:Int)) * (2:Int)))).toNat).blt n then
 bif decide (x ((0:Nat)+(IntKind.i64.wrap (Int.ofNat a+IntKind.i64.wrap (IntKind.i64.wrap ((IntKind.i64.wrap (Int.ofNat b - Int.ofNat a)).tdiv (4:Int)) * (3:Int)))).toNat)<x ((0:Nat)+(IntKind.i64.wrap (Int.ofNat a+IntKind.i64.wrap (IntKind.i64.wrap ((IntKind.i64.wrap (Int.ofNat b - Int.ofNat a)).tdiv (4:Int)) * (2:Int)))).toNat)) then
 bif decide (0<=IntKind.i64.wrap (Int.ofNat a+IntKind.i64.wrap (IntKind.i64.wrap ((IntKind.i64.wrap (Int.ofNat b - Int.ofNat a)).tdiv 4) * (3:Int))))&&decide (IntKind.i64.wrap (Int.ofNat a+IntKind.i64.wrap (IntKind.i64.wrap ((IntKind.i64.wrap (Int.ofNat b - Int.ofNat a)).tdiv 4) * (3:Int)))<Int.ofNat n) then
 bif ((0:Nat)+(IntKind.i64.wrap (Int.ofNat a+IntKind.i64.wrap (IntKind.i64.wrap ((IntKind.i64.wrap (Int.ofNat b - Int.ofNat a)).tdiv (4:Int)) * (3:Int)))).toNat).blt n then
 bif decide (0<=IntKind.i64.wrap (Int.ofNat a+IntKind.i64.wrap (IntKind.i64.wrap ((IntKind.i64.wrap (Int.ofNat b - Int.ofNat a)).tdiv 4) * (1:Int))))&&decide (IntKind.i64.wrap (Int.ofNat a+IntKind.i64.wrap (IntKind.i64.wrap ((IntKind.i64.wrap (Int.ofNat b - Int.ofNat a)).tdiv 4) * (1:Int)))<Int.ofNat n) then
 bif ((0:Nat)+(IntKind.i64.wrap (Int.ofNat a+IntKind.i64.wrap (IntKind.i64.wrap ((IntKind.i64.wrap (Int.ofNat b - Int.ofNat a)).tdiv (4:Int)) * (1:Int)))).toNat).blt n then
 bif decide (x ((0:Nat)+(IntKind.i64.wrap (Int.ofNat a+IntKind.i64.wrap (IntKind.i64.wrap ((IntKind.i64.wrap (Int.ofNat b - Int.ofNat a)).tdiv (4:Int)) * (3:Int)))).toNat)<x ((0:Nat)+(IntKind.i64.wrap (Int.ofNat a+IntKind.i64.wrap (IntKind.i64.wrap ((IntKind.i64.wrap (Int.ofNat b - Int.ofNat a)).tdiv (4:Int)) * (1:Int)))).toNat)) then
 some ((.tup [.int .i64 (IntKind.i64.wrap (Int.ofNat a+IntKind.i64.wrap (IntKind.i64.wrap ((IntKind.i64.wrap (Int.ofNat b - Int.ofNat a)).tdiv 4) * (1:Int)))),.int .i64 0],[ub (0:Nat) n x,.mk 0 1 1 (fun e=>[.int .i64 (bif e==(0:Nat) then (2:Int)
 else
 bif e==(0:Nat) then (1:Int)
 else (0:Int))]) true false
 none]))
 else
 some ((.tup [.int .i64 (IntKind.i64.wrap (Int.ofNat a+IntKind.i64.wrap (IntKind.i64.wrap ((IntKind.i64.wrap (Int.ofNat b - Int.ofNat a)).tdiv 4) * (3:Int)))),.int .i64 0],[ub (0:Nat) n x,.mk 0 1 1 (fun e=>[.int .i64 (bif e==(0:Nat) then (1:Int)
 else (0:Int))]) true false
 none]))
 else none else none else none else none else
 bif decide (0<=IntKind.i64.wrap (Int.ofNat a+IntKind.i64.wrap (IntKind.i64.wrap ((IntKind.i64.wrap (Int.ofNat b - Int.ofNat a)).tdiv 4) * (2:Int))))&&decide (IntKind.i64.wrap (Int.ofNat a+IntKind.i64.wrap (IntKind.i64.wrap ((IntKind.i64.wrap (Int.ofNat b - Int.ofNat a)).tdiv 4) * (2:Int)))<Int.ofNat n) then
 bif ((0:Nat)+(IntKind.i64.wrap (Int.ofNat a+IntKind.i64.wrap (IntKind.i64.wrap ((IntKind.i64.wrap (Int.ofNat b - Int.ofNat a)).tdiv (4:Int)) * (2:Int)))).toNat).blt n then
 bif decide (0<=IntKind.i64.wrap (Int.ofNat a+IntKind.i64.wrap (IntKind.i64.wrap ((IntKind.i64.wrap (Int.ofNat b - Int.ofNat a)).tdiv 4) * (1:Int))))&&decide (IntKind.i64.wrap (Int.ofNat a+IntKind.i64.wrap (IntKind.i64.wrap ((IntKind.i64.wrap (Int.ofNat b - Int.ofNat a)).tdiv 4) * (1:Int)))<Int.ofNat n) then
 bif ((0:Nat)+(IntKind.i64.wrap (Int.ofNat a+IntKind.i64.wrap (IntKind.i64.wrap ((IntKind.i64.wrap (Int.ofNat b - Int.ofNat a)).tdiv (4:Int)) * (1:Int)))).toNat).blt n then
 bif decide (x ((0:Nat)+(IntKind.i64.wrap (Int.ofNat a+IntKind.i64.wrap (IntKind.i64.wrap ((IntKind.i64.wrap (Int.ofNat b - Int.ofNat a)).tdiv (4:Int)) * (2:Int)))).toNat)<x ((0:Nat)+(IntKind.i64.wrap (Int.ofNat a+IntKind.i64.wrap (IntKind.i64.wrap ((IntKind.i64.wrap (Int.ofNat b - Int.ofNat a)).tdiv (4:Int)) * (1:Int)))).toNat)) then
 some ((.tup [.int .i64 (IntKind.i64.wrap (Int.ofNat a+IntKind.i64.wrap (IntKind.i64.wrap ((IntKind.i64.wrap (Int.ofNat b - Int.ofNat a)).tdiv 4) * (1:Int)))),.int .i64 0],[ub (0:Nat) n x,.mk 0 1 1 (fun e=>[.int .i64 (bif e==(0:Nat) then (1:Int)
 else (0:Int))]) true false
 none]))
 else
 some ((.tup [.int .i64 (IntKind.i64.wrap (Int.ofNat a+IntKind.i64.wrap (IntKind.i64.wrap ((IntKind.i64.wrap (Int.ofNat b - Int.ofNat a)).tdiv 4) * (2:Int)))),.int .i64 1],[ub (0:Nat) n x,sw (0:Int)]))
 else none else none else none else none else none else none else none else none else none else none else none else none else
 some ((.tup [.int .i64 (IntKind.i64.wrap (Int.ofNat a+IntKind.i64.wrap (IntKind.i64.wrap ((IntKind.i64.wrap (Int.ofNat b - Int.ofNat a)).tdiv 4) * (2:Int)))),.int .i64 1],[ub (0:Nat) n x,sw (0:Int)]))) from by kernel_rfl) ?_
 simp only [eL,eq0,eq,e1,e2,e3,p1,p2,p3,toNatE,Nat.zero_add]
 have fin:∀ (p:Nat) (hint:Int) (B:Blk),a<=p->p<b->stepR P18 G18 A18 K79 0 79 [] [.own 0 0 0 n none,.int .i64 a,.int .i64 b] [ub 0 n x] = some (.tup [.int .i64 p,.int .i64 hint],[ub 0 n x,B]) →
  ∃ (p:Nat) (hint:Int) (B:Blk),(a<=p/\p<b)/\ToldRef P18 G18 79 [.own 0 0 0 n none,.int .i64 a,.int .i64 b] [ub 0 n x] (.tup [.int .i64 p,.int .i64 hint]) [ub 0 n x,B] :=
  fun p hint B h1 h2 h=>⟨p,hint,B,⟨h1,h2⟩,stepR_told hm18 hn18 ok79 (A:=A18) (m:=0) (by kernel_rfl) (l:=[]) loops0 h⟩
 (repeat (first | (refine exTr (by first | assumption | omega | (simp (disch:=omega) only [numsE,List.length_cons,List.length_nil,Nat.reduceAdd]; done) | (simp (disch:=omega) only [numsE,List.length_cons,List.length_nil,Nat.reduceAdd]; omega)) ?_) | (refine exFa (by first | assumption | (simp (disch:=omega) only [numsE,List.length_cons,List.length_nil,Nat.reduceAdd]; done) | (simp (disch:=omega) only [numsE,List.length_cons,List.length_nil,Nat.reduceAdd]; omega) | (simp; done) | fail) ?_)))
 by_cases c1:x (a+2 * q)<x (a+q) <;> by_cases c2:x (a+3 * q)<x (a+q) <;> by_cases c3:x (a+3 * q)<x (a+2 * q)
 all_goals
  (repeat (first | (refine exTr (by first | assumption | omega | (simp (disch:=omega) only [numsE,List.length_cons,List.length_nil,Nat.reduceAdd]; done) | (simp (disch:=omega) only [numsE,List.length_cons,List.length_nil,Nat.reduceAdd]; omega)) ?_) | (refine exFa (by first | assumption | (simp (disch:=omega) only [numsE,List.length_cons,List.length_nil,Nat.reduceAdd]; done) | (simp (disch:=omega) only [numsE,List.length_cons,List.length_nil,Nat.reduceAdd]; omega) | (simp; done) | fail) ?_)))
  exact ⟨_,rfl,fin _ _ _ (by omega) (by omega)⟩
open Go.Proofs
def v83 (n a:Nat) (i j:Int):List T:=[.own 0 0 0 n none,.int .i64 a,.int .i64 i,.int .i64 j]
structure PInv (L:Int->Int->Prop) (x y:Nat->Int) (a b i j:Nat) (P:Int):Prop where
 piv:y a = P
 pr:Pr x y a b
 ai:a<i
 ij:i<=j+1
 jb:j<b
 left:∀ e,a<e->e<i->L (y e) (y a)
 right:∀ e,j<e->e<b->¬ L (y e) (y a)
theorem swap_fun (y:Nat->Int) (i j e:Nat):(fun e=>if e = j then y i else if e = i then y j else y e) e = bif e==0+j then y (0+i) else bif e==0+i then y (0+j) else y e:=by
 rw [Nat.zero_add,Nat.zero_add]
 show (if e = j then y i else if e = i then y j else y e) = _
 by_cases q3:e = j
 ·rw [if_pos q3,show (e==j) = true by simpa using q3,cond_true]
 ·rw [if_neg q3,show (e==j) = false by simpa using q3,cond_false]
  by_cases q4:e = i
  ·rw [if_pos q4,show (e==i) = true by simpa using q4,cond_true]
  ·rw [if_neg q4,show (e==i) = false by simpa using q4,cond_false]
theorem PInv.swap {L:Int->Int->Prop} {x y:Nat->Int} {a b i j:Nat} {P:Int} (h:PInv L x y a b i j P) (hij:i<=j) (h1:¬ L (y i) (y a)) (h2:L (y j) (y a)):PInv L x (fun e=>if e = j then y i else if e = i then y j else y e) a b (i+1) (j - 1) P:=by
 have hne:i ≠ j:=fun e=>h1 (by rw [e]; exact h2)
 have ha:=h.ai
 have hj:=h.jb
 have e0:(if a = j then y i else if a = i then y j else y a) = y a:=by
  rw [if_neg (by omega),if_neg (by omega)]
 refine ⟨e0.trans h.piv,h.pr.trans (Pr.swap y (i:=j) (j:=i) ⟨by omega,hj⟩ ⟨by omega,by omega⟩),by omega,by omega,by omega,fun e g1 g2=>?_,fun e g1 g2=>?_⟩
 ·show L (if e = j then y i else if e = i then y j else y e) (if a = j then y i else if a = i then y j else y a)
  rw [e0]
  rw [if_neg (by omega)]
  by_cases q:e = i
  ·rw [if_pos q]; exact h2
  ·rw [if_neg q]; exact h.left e g1 (by omega)
 ·show ¬ L (if e = j then y i else if e = i then y j else y e) (if a = j then y i else if a = i then y j else y a)
  rw [e0]
  by_cases q:e = j
  ·rw [if_pos q]; exact h1
  ·rw [if_neg q,if_neg (by omega)]; exact h.right e (by omega) g2
theorem PInv.up {L:Int->Int->Prop} {x y:Nat->Int} {a b i j:Nat} {P:Int} (h:PInv L x y a b i j P) (hij:i<=j) (h1:L (y i) (y a)):PInv L x y a b (i+1) j P :=
 ⟨h.piv,h.pr,by have:=h.ai; omega,by omega,h.jb,fun e g1 g2=>by
  by_cases q:e = i
  ·rw [q]; exact h1
  ·exact h.left e g1 (by omega),h.right⟩
theorem PInv.down {L:Int->Int->Prop} {x y:Nat->Int} {a b i j:Nat} {P:Int} (h:PInv L x y a b i j P) (hij:i<=j) (h1:¬ L (y j) (y a)):PInv L x y a b i (j - 1) P :=
 ⟨h.piv,h.pr,h.ai,by have:=h.ai; omega,by have:=h.jb; omega,h.left,fun e g1 g2=>by
  by_cases q:e = j
  ·rw [q]; exact h1
  ·exact h.right e (by omega) g2⟩
theorem s84_3 (n a b:Nat) (x y:Nat->Int) (i0 j0:Nat) (P:Int) (hn:n<=1000) (hb:b<=n) (hI0:PInv (fun u v:Int=>u<v) x y a b i0 j0 P) :
 ∃ i j,PInv (fun u v:Int=>u<v) x y a b i j P/\(i0<=i/\j = j0)/\(i<=j->¬ (fun u v:Int=>u<v) (y i) (y a))/\LoopOk P18 G18 (A18 84) 84 3 (litS (v83 n a i0 j0) [ub 0 n y] (.exit 0) (v83 n a i j) [ub 0 n y]):=by
 refine Exists.elim (loop_exists (P:=P18) (Gl:=G18) (f:=84) (r:=3) (an:=A18 84) (k:=1) hm18 (by kernel_rfl)
  (fun m vs h=>∃ i j:Nat,m = j+1 - i/\vs = v83 n a i j/\h = [ub 0 n y]/\PInv (fun u v:Int=>u<v) x y a b i j P/\i0<=i/\j = j0)
  (fun e vs1 h1=>∃ i j:Nat,e = .exit 0/\vs1 = v83 n a i j/\h1 = [ub 0 n y]/\PInv (fun u v:Int=>u<v) x y a b i j P/\i0<=i/\j = j0/\(i<=j->¬ (fun u v:Int=>u<v) (y i) (y a)))
  (fun m vs h ⟨i,j,hm,hv,hh,hI,hi0,hj0⟩=>?_) (n:=j0+1 - i0) (vs:=v83 n a i0 j0) (h:=[ub 0 n y]) rfl ⟨i0,j0,rfl,rfl,rfl,hI0,Nat.le_refl _,rfl⟩) ?_
 ·subst hm hv hh
  have h1:=hI.ai
  have h2:=hI.jb
  have h3:=hI.ij
  have ei:IntKind.i64.wrap ((i:Int)+1) = ((i+1:Nat):Int):=by rw [wr64 (by omega) (by omega)]; omega
  by_cases q:i<=j
  ·have ej:IntKind.i64.wrap ((j:Int) - 1) = ((j - 1:Nat):Int):=by rw [wr64 (by omega) (by omega)]; omega
   by_cases q2:(fun u v:Int=>u<v) (y i) (y a)
   ·have q3:y i<y a:=q2
    refine .inl ⟨j+1 - (i+1),_,_,by omega,?_,⟨i+1,j,rfl,rfl,rfl,hI.up q q2,by omega,hj0⟩⟩
    refine Step.mk0 (A:=A18) (m:=0) ok82 rfl rfl loops0 (h1:=[ub 0 n y]) ?_ (.refl _)
    rw [(show iterR P18 G18 A18 K82 0 84 [] 3 (v83 n a i j) [ub 0 n y] =
(
 bif decide (Int.ofNat i<=Int.ofNat j) then
 bif decide (0<=Int.ofNat i)&&decide (Int.ofNat i<Int.ofNat n) then
 bif ((0:Nat)+i).blt n then
 bif decide (0<=Int.ofNat a)&&decide (Int.ofNat a<Int.ofNat n) then
 bif ((0:Nat)+a).blt n then
 bif decide (y (0+i)<y (0+a)) then
 some ((.normal,v83 n a (IntKind.i64.wrap (Int.ofNat i+1)) (Int.ofNat j),[ub (0:Nat) n y]))
 else
 some ((.exit 0,v76a n a i (Int.ofNat j),[ub (0:Nat) n y]))
 else none else none else none else none else
 some ((.exit 0,v76a n a i (Int.ofNat j),[ub (0:Nat) n y]))) from by kernel_rfl)]
    rw [ofNatE i,ofNatE j,ei]
    clear hI
    (repeat (first | refine BT ?_ | refine BG ?_))
    rfl
   ·have q3:¬ y i<y a:=q2
    refine .inr ⟨_,_,_,?_,i,j,rfl,rfl,rfl,hI,hi0,hj0,fun _=>q2⟩
    refine Last.mk0 (A:=A18) (m:=0) ok82 rfl rfl loops0 (h1:=[ub 0 n y]) (by simp) ?_ (.refl _)
    rw [(show iterR P18 G18 A18 K82 0 84 [] 3 (v83 n a i j) [ub 0 n y] =
(
 bif decide (Int.ofNat i<=Int.ofNat j) then
 bif decide (0<=Int.ofNat i)&&decide (Int.ofNat i<Int.ofNat n) then
 bif ((0:Nat)+i).blt n then
 bif decide (0<=Int.ofNat a)&&decide (Int.ofNat a<Int.ofNat n) then
 bif ((0:Nat)+a).blt n then
 bif decide (y (0+i)<y (0+a)) then
 some ((.normal,v83 n a (IntKind.i64.wrap (Int.ofNat i+1)) (Int.ofNat j),[ub (0:Nat) n y]))
 else
 some ((.exit 0,v76a n a i (Int.ofNat j),[ub (0:Nat) n y]))
 else none else none else none else none else
 some ((.exit 0,v76a n a i (Int.ofNat j),[ub (0:Nat) n y]))) from by kernel_rfl)]
    rw [ofNatE i,ofNatE j]
    clear hI
    (repeat (first | refine BT ?_ | refine BG ?_))
    rfl
  ·refine .inr ⟨_,_,_,?_,i,j,rfl,rfl,rfl,hI,hi0,hj0,fun h=>absurd h q⟩
   refine Last.mk0 (A:=A18) (m:=0) ok82 rfl rfl loops0 (h1:=[ub 0 n y]) (by simp) ?_ (.refl _)
   rw [(show iterR P18 G18 A18 K82 0 84 [] 3 (v83 n a i j) [ub 0 n y] =
(
 bif decide (Int.ofNat i<=Int.ofNat j) then
 bif decide (0<=Int.ofNat i)&&decide (Int.ofNat i<Int.ofNat n) then
 bif ((0:Nat)+i).blt n then
 bif decide (0<=Int.ofNat a)&&decide (Int.ofNat a<Int.ofNat n) then
 bif ((0:Nat)+a).blt n then
 bif decide (y (0+i)<y (0+a)) then
 some ((.normal,v83 n a (IntKind.i64.wrap (Int.ofNat i+1)) (Int.ofNat j),[ub (0:Nat) n y]))
 else
 some ((.exit 0,v76a n a i (Int.ofNat j),[ub (0:Nat) n y]))
 else none else none else none else none else
 some ((.exit 0,v76a n a i (Int.ofNat j),[ub (0:Nat) n y]))) from by kernel_rfl)]
   rw [ofNatE i,ofNatE j]
   clear hI
   (repeat (first | refine BT ?_ | refine BG ?_))
   rfl
 ·rintro e ⟨vs1,h1,⟨i,j,rfl,rfl,rfl,g1,g2,g3,g4⟩,hl⟩
  exact ⟨i,j,g1,⟨g2,g3⟩,g4,hl⟩
theorem s84_5 (n a b:Nat) (x y:Nat->Int) (i0 j0:Nat) (P:Int) (hn:n<=1000) (hb:b<=n) (hI0:PInv (fun u v:Int=>u<v) x y a b i0 j0 P) :
 ∃ i j,PInv (fun u v:Int=>u<v) x y a b i j P/\(i = i0/\j<=j0)/\(i<=j->(fun u v:Int=>u<v) (y j) (y a))/\LoopOk P18 G18 (A18 84) 84 5 (litS (v83 n a i0 j0) [ub 0 n y] (.exit 2) (v83 n a i j) [ub 0 n y]):=by
 refine Exists.elim (loop_exists (P:=P18) (Gl:=G18) (f:=84) (r:=5) (an:=A18 84) (k:=1) hm18 (by kernel_rfl)
  (fun m vs h=>∃ i j:Nat,m = j+1 - i/\vs = v83 n a i j/\h = [ub 0 n y]/\PInv (fun u v:Int=>u<v) x y a b i j P/\i = i0/\j<=j0)
  (fun e vs1 h1=>∃ i j:Nat,e = .exit 2/\vs1 = v83 n a i j/\h1 = [ub 0 n y]/\PInv (fun u v:Int=>u<v) x y a b i j P/\i = i0/\j<=j0/\(i<=j->(fun u v:Int=>u<v) (y j) (y a)))
  (fun m vs h ⟨i,j,hm,hv,hh,hI,hi0,hj0⟩=>?_) (n:=j0+1 - i0) (vs:=v83 n a i0 j0) (h:=[ub 0 n y]) rfl ⟨i0,j0,rfl,rfl,rfl,hI0,rfl,Nat.le_refl _⟩) ?_
 ·subst hm hv hh
  have h1:=hI.ai
  have h2:=hI.jb
  have h3:=hI.ij
  have ei:IntKind.i64.wrap ((i:Int)+1) = ((i+1:Nat):Int):=by rw [wr64 (by omega) (by omega)]; omega
  by_cases q:i<=j
  ·have ej:IntKind.i64.wrap ((j:Int) - 1) = ((j - 1:Nat):Int):=by rw [wr64 (by omega) (by omega)]; omega
   by_cases q2:¬ (fun u v:Int=>u<v) (y j) (y a)
   ·have q3:¬ y j<y a:=q2
    refine .inl ⟨j - 1+1 - i,_,_,by omega,?_,⟨i,j - 1,rfl,rfl,rfl,hI.down q q2,hi0,by omega⟩⟩
    refine Step.mk0 (A:=A18) (m:=0) ok82 rfl rfl loops0 (h1:=[ub 0 n y]) ?_ (.refl _)
    rw [(show iterR P18 G18 A18 K82 0 84 [] 5 (v83 n a i j) [ub 0 n y] =
(
 bif decide (Int.ofNat i<=Int.ofNat j) then
 bif decide (0<=Int.ofNat j)&&decide (Int.ofNat j<Int.ofNat n) then
 bif ((0:Nat)+j).blt n then
 bif decide (0<=Int.ofNat a)&&decide (Int.ofNat a<Int.ofNat n) then
 bif ((0:Nat)+a).blt n then
 bif decide (y (0+j)<y (0+a)) then
 some ((.exit 2,v76a n a i (Int.ofNat j),[ub (0:Nat) n y]))
 else
 some ((.normal,v76a n a i (IntKind.i64.wrap (Int.ofNat j - 1)),[ub (0:Nat) n y]))
 else none else none else none else none else
 some ((.exit 2,v76a n a i (Int.ofNat j),[ub (0:Nat) n y]))) from by kernel_rfl)]
    rw [ofNatE i,ofNatE j,ej]
    clear hI
    (repeat (first | refine BT ?_ | refine BG ?_))
    rfl
   ·have q3:y j<y a:=Decidable.not_not.1 q2
    refine .inr ⟨_,_,_,?_,i,j,rfl,rfl,rfl,hI,hi0,hj0,fun _=>Decidable.not_not.1 q2⟩
    refine Last.mk0 (A:=A18) (m:=0) ok82 rfl rfl loops0 (h1:=[ub 0 n y]) (by simp) ?_ (.refl _)
    rw [(show iterR P18 G18 A18 K82 0 84 [] 5 (v83 n a i j) [ub 0 n y] =
(
 bif decide (Int.ofNat i<=Int.ofNat j) then
 bif decide (0<=Int.ofNat j)&&decide (Int.ofNat j<Int.ofNat n) then
 bif ((0:Nat)+j).blt n then
 bif decide (0<=Int.ofNat a)&&decide (Int.ofNat a<Int.ofNat n) then
 bif ((0:Nat)+a).blt n then
 bif decide (y (0+j)<y (0+a)) then
 some ((.exit 2,v76a n a i (Int.ofNat j),[ub (0:Nat) n y]))
 else
 some ((.normal,v76a n a i (IntKind.i64.wrap (Int.ofNat j - 1)),[ub (0:Nat) n y]))
 else none else none else none else none else
 some ((.exit 2,v76a n a i (Int.ofNat j),[ub (0:Nat) n y]))) from by kernel_rfl)]
    rw [ofNatE i,ofNatE j]
    clear hI
    (repeat (first | refine BT ?_ | refine BG ?_))
    rfl
  ·refine .inr ⟨_,_,_,?_,i,j,rfl,rfl,rfl,hI,hi0,hj0,fun h=>absurd h q⟩
   refine Last.mk0 (A:=A18) (m:=0) ok82 rfl rfl loops0 (h1:=[ub 0 n y]) (by simp) ?_ (.refl _)
   rw [(show iterR P18 G18 A18 K82 0 84 [] 5 (v83 n a i j) [ub 0 n y] =
(
 bif decide (Int.ofNat i<=Int.ofNat j) then
 bif decide (0<=Int.ofNat j)&&decide (Int.ofNat j<Int.ofNat n) then
 bif ((0:Nat)+j).blt n then
 bif decide (0<=Int.ofNat a)&&decide (Int.ofNat a<Int.ofNat n) then
 bif ((0:Nat)+a).blt n then
 bif decide (y (0+j)<y (0+a)) then
 some ((.exit 2,v76a n a i (Int.ofNat j),[ub (0:Nat) n y]))
 else
 some ((.normal,v76a n a i (IntKind.i64.wrap (Int.ofNat j - 1)),[ub (0:Nat) n y]))
 else none else none else none else none else
 some ((.exit 2,v76a n a i (Int.ofNat j),[ub (0:Nat) n y]))) from by kernel_rfl)]
   rw [ofNatE i,ofNatE j]
   clear hI
   (repeat (first | refine BT ?_ | refine BG ?_))
   rfl
 ·rintro e ⟨vs1,h1,⟨i,j,rfl,rfl,rfl,g1,g2,g3,g4⟩,hl⟩
  exact ⟨i,j,g1,⟨g2,g3⟩,g4,hl⟩
theorem s84_13 (n a b:Nat) (x y:Nat->Int) (i0 j0:Nat) (P:Int) (hn:n<=1000) (hb:b<=n) (hI0:PInv (fun u v:Int=>u<v) x y a b i0 j0 P) :
 ∃ i j,PInv (fun u v:Int=>u<v) x y a b i j P/\(i0<=i/\j = j0)/\(i<=j->¬ (fun u v:Int=>u<v) (y i) (y a))/\LoopOk P18 G18 (A18 84) 84 13 (litS (v83 n a i0 j0) [ub 0 n y] (.exit 6) (v83 n a i j) [ub 0 n y]):=by
 refine Exists.elim (loop_exists (P:=P18) (Gl:=G18) (f:=84) (r:=13) (an:=A18 84) (k:=1) hm18 (by kernel_rfl)
  (fun m vs h=>∃ i j:Nat,m = j+1 - i/\vs = v83 n a i j/\h = [ub 0 n y]/\PInv (fun u v:Int=>u<v) x y a b i j P/\i0<=i/\j = j0)
  (fun e vs1 h1=>∃ i j:Nat,e = .exit 6/\vs1 = v83 n a i j/\h1 = [ub 0 n y]/\PInv (fun u v:Int=>u<v) x y a b i j P/\i0<=i/\j = j0/\(i<=j->¬ (fun u v:Int=>u<v) (y i) (y a)))
  (fun m vs h ⟨i,j,hm,hv,hh,hI,hi0,hj0⟩=>?_) (n:=j0+1 - i0) (vs:=v83 n a i0 j0) (h:=[ub 0 n y]) rfl ⟨i0,j0,rfl,rfl,rfl,hI0,Nat.le_refl _,rfl⟩) ?_
 ·subst hm hv hh
  have h1:=hI.ai
  have h2:=hI.jb
  have h3:=hI.ij
  have ei:IntKind.i64.wrap ((i:Int)+1) = ((i+1:Nat):Int):=by rw [wr64 (by omega) (by omega)]; omega
  by_cases q:i<=j
  ·have ej:IntKind.i64.wrap ((j:Int) - 1) = ((j - 1:Nat):Int):=by rw [wr64 (by omega) (by omega)]; omega
   by_cases q2:(fun u v:Int=>u<v) (y i) (y a)
   ·have q3:y i<y a:=q2
    refine .inl ⟨j+1 - (i+1),_,_,by omega,?_,⟨i+1,j,rfl,rfl,rfl,hI.up q q2,by omega,hj0⟩⟩
    refine Step.mk0 (A:=A18) (m:=0) ok82 rfl rfl loops0 (h1:=[ub 0 n y]) ?_ (.refl _)
    rw [(show iterR P18 G18 A18 K82 0 84 [] 13 (v83 n a i j) [ub 0 n y] =
(
 bif decide (Int.ofNat i<=Int.ofNat j) then
 bif decide (0<=Int.ofNat i)&&decide (Int.ofNat i<Int.ofNat n) then
 bif ((0:Nat)+i).blt n then
 bif decide (0<=Int.ofNat a)&&decide (Int.ofNat a<Int.ofNat n) then
 bif ((0:Nat)+a).blt n then
 bif decide (y (0+i)<y (0+a)) then
 some ((.normal,v83 n a (IntKind.i64.wrap (Int.ofNat i+1)) (Int.ofNat j),[ub (0:Nat) n y]))
 else
 some ((.exit 6,v76a n a i (Int.ofNat j),[ub (0:Nat) n y]))
 else none else none else none else none else
 some ((.exit 6,v76a n a i (Int.ofNat j),[ub (0:Nat) n y]))) from by kernel_rfl)]
    rw [ofNatE i,ofNatE j,ei]
    clear hI
    (repeat (first | refine BT ?_ | refine BG ?_))
    rfl
   ·have q3:¬ y i<y a:=q2
    refine .inr ⟨_,_,_,?_,i,j,rfl,rfl,rfl,hI,hi0,hj0,fun _=>q2⟩
    refine Last.mk0 (A:=A18) (m:=0) ok82 rfl rfl loops0 (h1:=[ub 0 n y]) (by simp) ?_ (.refl _)
    rw [(show iterR P18 G18 A18 K82 0 84 [] 13 (v83 n a i j) [ub 0 n y] =
(
 bif decide (Int.ofNat i<=Int.ofNat j) then
 bif decide (0<=Int.ofNat i)&&decide (Int.ofNat i<Int.ofNat n) then
 bif ((0:Nat)+i).blt n then
 bif decide (0<=Int.ofNat a)&&decide (Int.ofNat a<Int.ofNat n) then
 bif ((0:Nat)+a).blt n then
 bif decide (y (0+i)<y (0+a)) then
 some ((.normal,v83 n a (IntKind.i64.wrap (Int.ofNat i+1)) (Int.ofNat j),[ub (0:Nat) n y]))
 else
 some ((.exit 6,v76a n a i (Int.ofNat j),[ub (0:Nat) n y]))
 else none else none else none else none else
 some ((.exit 6,v76a n a i (Int.ofNat j),[ub (0:Nat) n y]))) from by kernel_rfl)]
    rw [ofNatE i,ofNatE j]
    clear hI
    (repeat (first | refine BT ?_ | refine BG ?_))
    rfl
  ·refine .inr ⟨_,_,_,?_,i,j,rfl,rfl,rfl,hI,hi0,hj0,fun h=>absurd h q⟩
   refine Last.mk0 (A:=A18) (m:=0) ok82 rfl rfl loops0 (h1:=[ub 0 n y]) (by simp) ?_ (.refl _)
   rw [(show iterR P18 G18 A18 K82 0 84 [] 13 (v83 n a i j) [ub 0 n y] =
(
 bif decide (Int.ofNat i<=Int.ofNat j) then
 bif decide (0<=Int.ofNat i)&&decide (Int.ofNat i<Int.ofNat n) then
 bif ((0:Nat)+i).blt n then
 bif decide (0<=Int.ofNat a)&&decide (Int.ofNat a<Int.ofNat n) then
 bif ((0:Nat)+a).blt n then
 bif decide (y (0+i)<y (0+a)) then
 some ((.normal,v83 n a (IntKind.i64.wrap (Int.ofNat i+1)) (Int.ofNat j),[ub (0:Nat) n y]))
 else
 some ((.exit 6,v76a n a i (Int.ofNat j),[ub (0:Nat) n y]))
 else none else none else none else none else
 some ((.exit 6,v76a n a i (Int.ofNat j),[ub (0:Nat) n y]))) from by kernel_rfl)]
   rw [ofNatE i,ofNatE j]
   clear hI
   (repeat (first | refine BT ?_ | refine BG ?_))
   rfl
 ·rintro e ⟨vs1,h1,⟨i,j,rfl,rfl,rfl,g1,g2,g3,g4⟩,hl⟩
  exact ⟨i,j,g1,⟨g2,g3⟩,g4,hl⟩
theorem s84_15 (n a b:Nat) (x y:Nat->Int) (i0 j0:Nat) (P:Int) (hn:n<=1000) (hb:b<=n) (hI0:PInv (fun u v:Int=>u<v) x y a b i0 j0 P) :
 ∃ i j,PInv (fun u v:Int=>u<v) x y a b i j P/\(i = i0/\j<=j0)/\(i<=j->(fun u v:Int=>u<v) (y j) (y a))/\LoopOk P18 G18 (A18 84) 84 15 (litS (v83 n a i0 j0) [ub 0 n y] (.exit 8) (v83 n a i j) [ub 0 n y]):=by
 refine Exists.elim (loop_exists (P:=P18) (Gl:=G18) (f:=84) (r:=15) (an:=A18 84) (k:=1) hm18 (by kernel_rfl)
  (fun m vs h=>∃ i j:Nat,m = j+1 - i/\vs = v83 n a i j/\h = [ub 0 n y]/\PInv (fun u v:Int=>u<v) x y a b i j P/\i = i0/\j<=j0)
  (fun e vs1 h1=>∃ i j:Nat,e = .exit 8/\vs1 = v83 n a i j/\h1 = [ub 0 n y]/\PInv (fun u v:Int=>u<v) x y a b i j P/\i = i0/\j<=j0/\(i<=j->(fun u v:Int=>u<v) (y j) (y a)))
  (fun m vs h ⟨i,j,hm,hv,hh,hI,hi0,hj0⟩=>?_) (n:=j0+1 - i0) (vs:=v83 n a i0 j0) (h:=[ub 0 n y]) rfl ⟨i0,j0,rfl,rfl,rfl,hI0,rfl,Nat.le_refl _⟩) ?_
 ·subst hm hv hh
  have h1:=hI.ai
  have h2:=hI.jb
  have h3:=hI.ij
  have ei:IntKind.i64.wrap ((i:Int)+1) = ((i+1:Nat):Int):=by rw [wr64 (by omega) (by omega)]; omega
  by_cases q:i<=j
  ·have ej:IntKind.i64.wrap ((j:Int) - 1) = ((j - 1:Nat):Int):=by rw [wr64 (by omega) (by omega)]; omega
   by_cases q2:¬ (fun u v:Int=>u<v) (y j) (y a)
   ·have q3:¬ y j<y a:=q2
    refine .inl ⟨j - 1+1 - i,_,_,by omega,?_,⟨i,j - 1,rfl,rfl,rfl,hI.down q q2,hi0,by omega⟩⟩
    refine Step.mk0 (A:=A18) (m:=0) ok82 rfl rfl loops0 (h1:=[ub 0 n y]) ?_ (.refl _)
    rw [(show iterR P18 G18 A18 K82 0 84 [] 15 (v83 n a i j) [ub 0 n y] =
(
 bif decide (Int.ofNat i<=Int.ofNat j) then
 bif decide (0<=Int.ofNat j)&&decide (Int.ofNat j<Int.ofNat n) then
 bif ((0:Nat)+j).blt n then
 bif decide (0<=Int.ofNat a)&&decide (Int.ofNat a<Int.ofNat n) then
 bif ((0:Nat)+a).blt n then
 bif decide (y (0+j)<y (0+a)) then
 some ((.exit 8,v76a n a i (Int.ofNat j),[ub (0:Nat) n y]))
 else
 some ((.normal,v76a n a i (IntKind.i64.wrap (Int.ofNat j - 1)),[ub (0:Nat) n y]))
 else none else none else none else none else
 some ((.exit 8,v76a n a i (Int.ofNat j),[ub (0:Nat) n y]))) from by kernel_rfl)]
    rw [ofNatE i,ofNatE j,ej]
    clear hI
    (repeat (first | refine BT ?_ | refine BG ?_))
    rfl
   ·have q3:y j<y a:=Decidable.not_not.1 q2
    refine .inr ⟨_,_,_,?_,i,j,rfl,rfl,rfl,hI,hi0,hj0,fun _=>Decidable.not_not.1 q2⟩
    refine Last.mk0 (A:=A18) (m:=0) ok82 rfl rfl loops0 (h1:=[ub 0 n y]) (by simp) ?_ (.refl _)
    rw [(show iterR P18 G18 A18 K82 0 84 [] 15 (v83 n a i j) [ub 0 n y] =
(
 bif decide (Int.ofNat i<=Int.ofNat j) then
 bif decide (0<=Int.ofNat j)&&decide (Int.ofNat j<Int.ofNat n) then
 bif ((0:Nat)+j).blt n then
 bif decide (0<=Int.ofNat a)&&decide (Int.ofNat a<Int.ofNat n) then
 bif ((0:Nat)+a).blt n then
 bif decide (y (0+j)<y (0+a)) then
 some ((.exit 8,v76a n a i (Int.ofNat j),[ub (0:Nat) n y]))
 else
 some ((.normal,v76a n a i (IntKind.i64.wrap (Int.ofNat j - 1)),[ub (0:Nat) n y]))
 else none else none else none else none else
 some ((.exit 8,v76a n a i (Int.ofNat j),[ub (0:Nat) n y]))) from by kernel_rfl)]
    rw [ofNatE i,ofNatE j]
    clear hI
    (repeat (first | refine BT ?_ | refine BG ?_))
    rfl
  ·refine .inr ⟨_,_,_,?_,i,j,rfl,rfl,rfl,hI,hi0,hj0,fun h=>absurd h q⟩
   refine Last.mk0 (A:=A18) (m:=0) ok82 rfl rfl loops0 (h1:=[ub 0 n y]) (by simp) ?_ (.refl _)
   rw [(show iterR P18 G18 A18 K82 0 84 [] 15 (v83 n a i j) [ub 0 n y] =
(
 bif decide (Int.ofNat i<=Int.ofNat j) then
 bif decide (0<=Int.ofNat j)&&decide (Int.ofNat j<Int.ofNat n) then
 bif ((0:Nat)+j).blt n then
 bif decide (0<=Int.ofNat a)&&decide (Int.ofNat a<Int.ofNat n) then
 bif ((0:Nat)+a).blt n then
 bif decide (y (0+j)<y (0+a)) then
 some ((.exit 8,v76a n a i (Int.ofNat j),[ub (0:Nat) n y]))
 else
 some ((.normal,v76a n a i (IntKind.i64.wrap (Int.ofNat j - 1)),[ub (0:Nat) n y]))
 else none else none else none else none else
 some ((.exit 8,v76a n a i (Int.ofNat j),[ub (0:Nat) n y]))) from by kernel_rfl)]
   rw [ofNatE i,ofNatE j]
   clear hI
   (repeat (first | refine BT ?_ | refine BG ?_))
   rfl
 ·rintro e ⟨vs1,h1,⟨i,j,rfl,rfl,rfl,g1,g2,g3,g4⟩,hl⟩
  exact ⟨i,j,g1,⟨g2,g3⟩,g4,hl⟩
theorem s83_3 (n a b:Nat) (x y:Nat->Int) (i0 j0:Nat) (P:Int) (hn:n<=1000) (hb:b<=n) (hI0:PInv (fun u v:Int=>¬ v<u) x y a b i0 j0 P) :
 ∃ i j,PInv (fun u v:Int=>¬ v<u) x y a b i j P/\(i0<=i/\j = j0)/\(i<=j->¬ (fun u v:Int=>¬ v<u) (y i) (y a))/\LoopOk P18 G18 (A18 83) 83 3 (litS (v83 n a i0 j0) [ub 0 n y] (.exit 2) (v83 n a i j) [ub 0 n y]):=by
 refine Exists.elim (loop_exists (P:=P18) (Gl:=G18) (f:=83) (r:=3) (an:=A18 83) (k:=1) hm18 (by kernel_rfl)
  (fun m vs h=>∃ i j:Nat,m = j+1 - i/\vs = v83 n a i j/\h = [ub 0 n y]/\PInv (fun u v:Int=>¬ v<u) x y a b i j P/\i0<=i/\j = j0)
  (fun e vs1 h1=>∃ i j:Nat,e = .exit 2/\vs1 = v83 n a i j/\h1 = [ub 0 n y]/\PInv (fun u v:Int=>¬ v<u) x y a b i j P/\i0<=i/\j = j0/\(i<=j->¬ (fun u v:Int=>¬ v<u) (y i) (y a)))
  (fun m vs h ⟨i,j,hm,hv,hh,hI,hi0,hj0⟩=>?_) (n:=j0+1 - i0) (vs:=v83 n a i0 j0) (h:=[ub 0 n y]) rfl ⟨i0,j0,rfl,rfl,rfl,hI0,Nat.le_refl _,rfl⟩) ?_
 ·subst hm hv hh
  have h1:=hI.ai
  have h2:=hI.jb
  have h3:=hI.ij
  have ei:IntKind.i64.wrap ((i:Int)+1) = ((i+1:Nat):Int):=by rw [wr64 (by omega) (by omega)]; omega
  by_cases q:i<=j
  ·have ej:IntKind.i64.wrap ((j:Int) - 1) = ((j - 1:Nat):Int):=by rw [wr64 (by omega) (by omega)]; omega
   by_cases q2:(fun u v:Int=>¬ v<u) (y i) (y a)
   ·have q3:¬ y a<y i:=q2
    refine .inl ⟨j+1 - (i+1),_,_,by omega,?_,⟨i+1,j,rfl,rfl,rfl,hI.up q q2,by omega,hj0⟩⟩
    refine Step.mk0 (A:=A18) (m:=0) ok82 rfl rfl loops0 (h1:=[ub 0 n y]) ?_ (.refl _)
    rw [(show iterR P18 G18 A18 K82 0 83 [] 3 (v83 n a i j) [ub 0 n y] =
(
 bif decide (Int.ofNat i<=Int.ofNat j) then
 bif decide (0<=Int.ofNat a)&&decide (Int.ofNat a<Int.ofNat n) then
 bif ((0:Nat)+a).blt n then
 bif decide (0<=Int.ofNat i)&&decide (Int.ofNat i<Int.ofNat n) then
 bif ((0:Nat)+i).blt n then
 bif decide (y (0+a)<y (0+i)) then
 some ((.exit 2,v76a n a i (Int.ofNat j),[ub (0:Nat) n y]))
 else
 some ((.normal,v83 n a (IntKind.i64.wrap (Int.ofNat i+1)) (Int.ofNat j),[ub (0:Nat) n y]))
 else none else none else none else none else
 some ((.exit 2,v76a n a i (Int.ofNat j),[ub (0:Nat) n y]))) from by kernel_rfl)]
    rw [ofNatE i,ofNatE j,ei]
    clear hI
    (repeat (first | refine BT ?_ | refine BG ?_))
    rfl
   ·have q3:y a<y i:=Decidable.not_not.1 q2
    refine .inr ⟨_,_,_,?_,i,j,rfl,rfl,rfl,hI,hi0,hj0,fun _=>q2⟩
    refine Last.mk0 (A:=A18) (m:=0) ok82 rfl rfl loops0 (h1:=[ub 0 n y]) (by simp) ?_ (.refl _)
    rw [(show iterR P18 G18 A18 K82 0 83 [] 3 (v83 n a i j) [ub 0 n y] =
(
 bif decide (Int.ofNat i<=Int.ofNat j) then
 bif decide (0<=Int.ofNat a)&&decide (Int.ofNat a<Int.ofNat n) then
 bif ((0:Nat)+a).blt n then
 bif decide (0<=Int.ofNat i)&&decide (Int.ofNat i<Int.ofNat n) then
 bif ((0:Nat)+i).blt n then
 bif decide (y (0+a)<y (0+i)) then
 some ((.exit 2,v76a n a i (Int.ofNat j),[ub (0:Nat) n y]))
 else
 some ((.normal,v83 n a (IntKind.i64.wrap (Int.ofNat i+1)) (Int.ofNat j),[ub (0:Nat) n y]))
 else none else none else none else none else
 some ((.exit 2,v76a n a i (Int.ofNat j),[ub (0:Nat) n y]))) from by kernel_rfl)]
    rw [ofNatE i,ofNatE j]
    clear hI
    (repeat (first | refine BT ?_ | refine BG ?_))
    rfl
  ·refine .inr ⟨_,_,_,?_,i,j,rfl,rfl,rfl,hI,hi0,hj0,fun h=>absurd h q⟩
   refine Last.mk0 (A:=A18) (m:=0) ok82 rfl rfl loops0 (h1:=[ub 0 n y]) (by simp) ?_ (.refl _)
   rw [(show iterR P18 G18 A18 K82 0 83 [] 3 (v83 n a i j) [ub 0 n y] =
(
 bif decide (Int.ofNat i<=Int.ofNat j) then
 bif decide (0<=Int.ofNat a)&&decide (Int.ofNat a<Int.ofNat n) then
 bif ((0:Nat)+a).blt n then
 bif decide (0<=Int.ofNat i)&&decide (Int.ofNat i<Int.ofNat n) then
 bif ((0:Nat)+i).blt n then
 bif decide (y (0+a)<y (0+i)) then
 some ((.exit 2,v76a n a i (Int.ofNat j),[ub (0:Nat) n y]))
 else
 some ((.normal,v83 n a (IntKind.i64.wrap (Int.ofNat i+1)) (Int.ofNat j),[ub (0:Nat) n y]))
 else none else none else none else none else
 some ((.exit 2,v76a n a i (Int.ofNat j),[ub (0:Nat) n y]))) from by kernel_rfl)]
   rw [ofNatE i,ofNatE j]
   clear hI
   (repeat (first | refine BT ?_ | refine BG ?_))
   rfl
 ·rintro e ⟨vs1,h1,⟨i,j,rfl,rfl,rfl,g1,g2,g3,g4⟩,hl⟩
  exact ⟨i,j,g1,⟨g2,g3⟩,g4,hl⟩
theorem s83_5 (n a b:Nat) (x y:Nat->Int) (i0 j0:Nat) (P:Int) (hn:n<=1000) (hb:b<=n) (hI0:PInv (fun u v:Int=>¬ v<u) x y a b i0 j0 P) :
 ∃ i j,PInv (fun u v:Int=>¬ v<u) x y a b i j P/\(i = i0/\j<=j0)/\(i<=j->(fun u v:Int=>¬ v<u) (y j) (y a))/\LoopOk P18 G18 (A18 83) 83 5 (litS (v83 n a i0 j0) [ub 0 n y] (.exit 4) (v83 n a i j) [ub 0 n y]):=by
 refine Exists.elim (loop_exists (P:=P18) (Gl:=G18) (f:=83) (r:=5) (an:=A18 83) (k:=1) hm18 (by kernel_rfl)
  (fun m vs h=>∃ i j:Nat,m = j+1 - i/\vs = v83 n a i j/\h = [ub 0 n y]/\PInv (fun u v:Int=>¬ v<u) x y a b i j P/\i = i0/\j<=j0)
  (fun e vs1 h1=>∃ i j:Nat,e = .exit 4/\vs1 = v83 n a i j/\h1 = [ub 0 n y]/\PInv (fun u v:Int=>¬ v<u) x y a b i j P/\i = i0/\j<=j0/\(i<=j->(fun u v:Int=>¬ v<u) (y j) (y a)))
  (fun m vs h ⟨i,j,hm,hv,hh,hI,hi0,hj0⟩=>?_) (n:=j0+1 - i0) (vs:=v83 n a i0 j0) (h:=[ub 0 n y]) rfl ⟨i0,j0,rfl,rfl,rfl,hI0,rfl,Nat.le_refl _⟩) ?_
 ·subst hm hv hh
  have h1:=hI.ai
  have h2:=hI.jb
  have h3:=hI.ij
  have ei:IntKind.i64.wrap ((i:Int)+1) = ((i+1:Nat):Int):=by rw [wr64 (by omega) (by omega)]; omega
  by_cases q:i<=j
  ·have ej:IntKind.i64.wrap ((j:Int) - 1) = ((j - 1:Nat):Int):=by rw [wr64 (by omega) (by omega)]; omega
   by_cases q2:¬ (fun u v:Int=>¬ v<u) (y j) (y a)
   ·have q3:y a<y j:=Decidable.not_not.1 q2
    refine .inl ⟨j - 1+1 - i,_,_,by omega,?_,⟨i,j - 1,rfl,rfl,rfl,hI.down q q2,hi0,by omega⟩⟩
    refine Step.mk0 (A:=A18) (m:=0) ok82 rfl rfl loops0 (h1:=[ub 0 n y]) ?_ (.refl _)
    rw [(show iterR P18 G18 A18 K82 0 83 [] 5 (v83 n a i j) [ub 0 n y] =
(
 bif decide (Int.ofNat i<=Int.ofNat j) then
 bif decide (0<=Int.ofNat a)&&decide (Int.ofNat a<Int.ofNat n) then
 bif ((0:Nat)+a).blt n then
 bif decide (0<=Int.ofNat j)&&decide (Int.ofNat j<Int.ofNat n) then
 bif ((0:Nat)+j).blt n then
 bif decide (y (0+a)<y (0+j)) then
 some ((.normal,v76a n a i (IntKind.i64.wrap (Int.ofNat j - 1)),[ub (0:Nat) n y]))
 else
 some ((.exit 4,v76a n a i (Int.ofNat j),[ub (0:Nat) n y]))
 else none else none else none else none else
 some ((.exit 4,v76a n a i (Int.ofNat j),[ub (0:Nat) n y]))) from by kernel_rfl)]
    rw [ofNatE i,ofNatE j,ej]
    clear hI
    (repeat (first | refine BT ?_ | refine BG ?_))
    rfl
   ·have q3:¬ y a<y j:=fun h=>q2 fun k=>k h
    refine .inr ⟨_,_,_,?_,i,j,rfl,rfl,rfl,hI,hi0,hj0,fun _=>Decidable.not_not.1 q2⟩
    refine Last.mk0 (A:=A18) (m:=0) ok82 rfl rfl loops0 (h1:=[ub 0 n y]) (by simp) ?_ (.refl _)
    rw [(show iterR P18 G18 A18 K82 0 83 [] 5 (v83 n a i j) [ub 0 n y] =
(
 bif decide (Int.ofNat i<=Int.ofNat j) then
 bif decide (0<=Int.ofNat a)&&decide (Int.ofNat a<Int.ofNat n) then
 bif ((0:Nat)+a).blt n then
 bif decide (0<=Int.ofNat j)&&decide (Int.ofNat j<Int.ofNat n) then
 bif ((0:Nat)+j).blt n then
 bif decide (y (0+a)<y (0+j)) then
 some ((.normal,v76a n a i (IntKind.i64.wrap (Int.ofNat j - 1)),[ub (0:Nat) n y]))
 else
 some ((.exit 4,v76a n a i (Int.ofNat j),[ub (0:Nat) n y]))
 else none else none else none else none else
 some ((.exit 4,v76a n a i (Int.ofNat j),[ub (0:Nat) n y]))) from by kernel_rfl)]
    rw [ofNatE i,ofNatE j]
    clear hI
    (repeat (first | refine BT ?_ | refine BG ?_))
    rfl
  ·refine .inr ⟨_,_,_,?_,i,j,rfl,rfl,rfl,hI,hi0,hj0,fun h=>absurd h q⟩
   refine Last.mk0 (A:=A18) (m:=0) ok82 rfl rfl loops0 (h1:=[ub 0 n y]) (by simp) ?_ (.refl _)
   rw [(show iterR P18 G18 A18 K82 0 83 [] 5 (v83 n a i j) [ub 0 n y] =
(
 bif decide (Int.ofNat i<=Int.ofNat j) then
 bif decide (0<=Int.ofNat a)&&decide (Int.ofNat a<Int.ofNat n) then
 bif ((0:Nat)+a).blt n then
 bif decide (0<=Int.ofNat j)&&decide (Int.ofNat j<Int.ofNat n) then
 bif ((0:Nat)+j).blt n then
 bif decide (y (0+a)<y (0+j)) then
 some ((.normal,v76a n a i (IntKind.i64.wrap (Int.ofNat j - 1)),[ub (0:Nat) n y]))
 else
 some ((.exit 4,v76a n a i (Int.ofNat j),[ub (0:Nat) n y]))
 else none else none else none else none else
 some ((.exit 4,v76a n a i (Int.ofNat j),[ub (0:Nat) n y]))) from by kernel_rfl)]
   rw [ofNatE i,ofNatE j]
   clear hI
   (repeat (first | refine BT ?_ | refine BG ?_))
   rfl
 ·rintro e ⟨vs1,h1,⟨i,j,rfl,rfl,rfl,g1,g2,g3,g4⟩,hl⟩
  exact ⟨i,j,g1,⟨g2,g3⟩,g4,hl⟩
open Go.Proofs
theorem m84 (n a b:Nat) (x y0:Nat->Int) (i00 j00:Nat) (P:Int) (hn:n<=1000) (hb:b<=n) (hI0:PInv (fun u v:Int=>u<v) x y0 a b i00 j00 P) :
 ∃ i j y,PInv (fun u v:Int=>u<v) x y a b i j P/\i = j+1/\LoopOk P18 G18 (A18 84) 84 17 (litS (v83 n a i00 j00) [ub 0 n y0] (.exit 4) [.own 0 0 0 n none,.int .i64 a,.int .i64 j] [ub 0 n y]):=by
 refine Exists.elim (loop_exists (P:=P18) (Gl:=G18) (f:=84) (r:=17) (an:=A18 84) (k:=1) hm18 (by kernel_rfl)
  (fun m vs h=>∃ (i j:Nat) (y:Nat->Int),m = j+1 - i/\vs = v83 n a i j/\h = [ub 0 n y]/\PInv (fun u v:Int=>u<v) x y a b i j P)
  (fun e vs1 h1=>∃ (i j:Nat) (y:Nat->Int),e = .exit 4/\vs1 = [.own 0 0 0 n none,.int .i64 a,.int .i64 j]/\h1 = [ub 0 n y]/\PInv (fun u v:Int=>u<v) x y a b i j P/\i = j+1)
  (fun m vs h ⟨i0,j0,y,hm,hv,hh,hI⟩=>?_) (n:=j00+1 - i00) (vs:=v83 n a i00 j00) (h:=[ub 0 n y0]) rfl ⟨i00,j00,y0,rfl,rfl,rfl,hI0⟩) ?_
 ·subst hm hv hh
  obtain ⟨i1,j',h1,⟨h2,rfl⟩,h3,hl1⟩:=s84_13 n a b x y i0 j0 P hn hb hI
  obtain ⟨i',j1,g1,⟨rfl,g2⟩,g3,hl2⟩:=s84_15 n a b x y i1 j' P hn hb h1
  have k1:=g1.ai
  have k2:=g1.jb
  have k3:=g1.ij
  have k4:=h1.jb
  by_cases q:i'<=j1
  ·have c1:=h3 (by omega)
   have c2:=g3 q
   have ei:IntKind.i64.wrap ((i':Int)+1) = ((i'+1:Nat):Int):=by rw [wr64 (by omega) (by omega)]; omega
   have ej:IntKind.i64.wrap ((j1:Int) - 1) = ((j1 - 1:Nat):Int):=by rw [wr64 (by omega) (by omega)]; omega
   refine .inl ⟨j1 - 1+1 - (i'+1),_,_,by omega,?_,⟨i'+1,j1 - 1,_,rfl,rfl,rfl,g1.swap q c1 c2⟩⟩
   refine Step.mk0 (A:=A18) (m:=0) none_ok rfl rfl (loopsC hl1 (loops1 hl2)) (h1:=[ub 0 n fun e=>bif e==0+j1 then y (0+i') else bif e==0+i' then y (0+j1) else y e]) ?_ (ub_congr fun e=>swap_fun y i' j1 e)
   rw [(show iterR P18 G18 A18 noneO 0 84 [(13,litS (v83 n a i0 j') [ub 0 n y] (.exit 6) (v83 n a i' j') [ub 0 n y]),(15,litS (v83 n a i' j') [ub 0 n y] (.exit 8) (v83 n a i' j1) [ub 0 n y])] 17 (v83 n a i0 j') [ub 0 n y] =
(
 bif weakF (v76a n a i0 (Int.ofNat j')) [ub (0:Nat) n y] (v76a n a i0 (Int.ofNat j')) [ub (0:Nat) n y] then
 bif weakF (v76a n a i' (Int.ofNat j')) [ub (0:Nat) n y] (v76a n a i' (Int.ofNat j')) [ub (0:Nat) n y] then
 bif decide (Int.ofNat j1<Int.ofNat i') then
 some ((.exit 4,v80 n (Int.ofNat a) (Int.ofNat j1),[ub (0:Nat) n y]))
 else
 bif decide (0<=Int.ofNat j1)&&decide (Int.ofNat j1<Int.ofNat n) then
 bif ((0:Nat)+j1).blt n then
 bif decide (0<=Int.ofNat i')&&decide (Int.ofNat i'<Int.ofNat n) then
 bif ((0:Nat)+i').blt n then
 bif decide (0<=Int.ofNat i')&&decide (Int.ofNat i'<Int.ofNat n) then
 bif ((0:Nat)+i').blt n&&[T.int .u8 (y ((0:Nat)+j1))].length==(1:Nat)&&true&&true then
 bif decide (0<=Int.ofNat j1)&&decide (Int.ofNat j1<Int.ofNat n) then
 bif ((0:Nat)+j1).blt n&&[T.int .u8 (y ((0:Nat)+i'))].length==(1:Nat)&&true&&true then
 some ((.normal,v83 n a (IntKind.i64.wrap (Int.ofNat i'+1)) (IntKind.i64.wrap (Int.ofNat j1 - 1)),[ub (0:Nat) n fun j =>
 bif j==0+j1 then y (0+i')
 else
 bif j==0+i' then y (0+j1)
 else y j]))
 else none else none else none else none else none else none else none else none else none else
 none) from by kernel_rfl)]
   refine bift (weakF_of ⟨rfl,.refl _⟩) ?_
   refine bift (weakF_of ⟨rfl,.refl _⟩) ?_
   rw [ofNatE i',ofNatE j1,ei,ej]
   clear hI h1 g1 h3 g3 c1 c2
   (repeat (first | refine BT ?_ | refine BG ?_))
   rfl
  ·refine .inr ⟨_,_,_,?_,i',j1,y,rfl,rfl,rfl,g1,by omega⟩
   refine Last.mk0 (A:=A18) (m:=0) none_ok rfl rfl (loopsC hl1 (loops1 hl2)) (h1:=[ub 0 n y]) (by simp) ?_ (.refl _)
   rw [(show iterR P18 G18 A18 noneO 0 84 [(13,litS (v83 n a i0 j') [ub 0 n y] (.exit 6) (v83 n a i' j') [ub 0 n y]),(15,litS (v83 n a i' j') [ub 0 n y] (.exit 8) (v83 n a i' j1) [ub 0 n y])] 17 (v83 n a i0 j') [ub 0 n y] =
(
 bif weakF (v76a n a i0 (Int.ofNat j')) [ub (0:Nat) n y] (v76a n a i0 (Int.ofNat j')) [ub (0:Nat) n y] then
 bif weakF (v76a n a i' (Int.ofNat j')) [ub (0:Nat) n y] (v76a n a i' (Int.ofNat j')) [ub (0:Nat) n y] then
 bif decide (Int.ofNat j1<Int.ofNat i') then
 some ((.exit 4,v80 n (Int.ofNat a) (Int.ofNat j1),[ub (0:Nat) n y]))
 else
 bif decide (0<=Int.ofNat j1)&&decide (Int.ofNat j1<Int.ofNat n) then
 bif ((0:Nat)+j1).blt n then
 bif decide (0<=Int.ofNat i')&&decide (Int.ofNat i'<Int.ofNat n) then
 bif ((0:Nat)+i').blt n then
 bif decide (0<=Int.ofNat i')&&decide (Int.ofNat i'<Int.ofNat n) then
 bif ((0:Nat)+i').blt n&&[T.int .u8 (y ((0:Nat)+j1))].length==(1:Nat)&&true&&true then
 bif decide (0<=Int.ofNat j1)&&decide (Int.ofNat j1<Int.ofNat n) then
 bif ((0:Nat)+j1).blt n&&[T.int .u8 (y ((0:Nat)+i'))].length==(1:Nat)&&true&&true then
 some ((.normal,v83 n a (IntKind.i64.wrap (Int.ofNat i'+1)) (IntKind.i64.wrap (Int.ofNat j1 - 1)),[ub (0:Nat) n fun j =>
 bif j==0+j1 then y (0+i')
 else
 bif j==0+i' then y (0+j1)
 else y j]))
 else none else none else none else none else none else none else none else none else none else
 none) from by kernel_rfl)]
   refine bift (weakF_of ⟨rfl,.refl _⟩) ?_
   refine bift (weakF_of ⟨rfl,.refl _⟩) ?_
   rw [ofNatE i',ofNatE j1]
   clear hI h1 g1 h3 g3
   (repeat (first | refine BT ?_ | refine BG ?_))
   rfl
 ·rintro e ⟨vs1,h1,⟨i,j,y,rfl,rfl,rfl,g1,g2⟩,hl⟩
  exact ⟨i,j,y,g1,g2,hl⟩
theorem m83 (n a b:Nat) (x y0:Nat->Int) (i00 j00:Nat) (P:Int) (hn:n<=1000) (hb:b<=n) (hI0:PInv (fun u v:Int=>¬ v<u) x y0 a b i00 j00 P) :
 ∃ i j y,PInv (fun u v:Int=>¬ v<u) x y a b i j P/\i = j+1/\LoopOk P18 G18 (A18 83) 83 7 (litS (v83 n a i00 j00) [ub 0 n y0] (.exit 0) [.int .i64 i] [ub 0 n y]):=by
 refine Exists.elim (loop_exists (P:=P18) (Gl:=G18) (f:=83) (r:=7) (an:=A18 83) (k:=1) hm18 (by kernel_rfl)
  (fun m vs h=>∃ (i j:Nat) (y:Nat->Int),m = j+1 - i/\vs = v83 n a i j/\h = [ub 0 n y]/\PInv (fun u v:Int=>¬ v<u) x y a b i j P)
  (fun e vs1 h1=>∃ (i j:Nat) (y:Nat->Int),e = .exit 0/\vs1 = [.int .i64 i]/\h1 = [ub 0 n y]/\PInv (fun u v:Int=>¬ v<u) x y a b i j P/\i = j+1)
  (fun m vs h ⟨i0,j0,y,hm,hv,hh,hI⟩=>?_) (n:=j00+1 - i00) (vs:=v83 n a i00 j00) (h:=[ub 0 n y0]) rfl ⟨i00,j00,y0,rfl,rfl,rfl,hI0⟩) ?_
 ·subst hm hv hh
  obtain ⟨i1,j',h1,⟨h2,rfl⟩,h3,hl1⟩:=s83_3 n a b x y i0 j0 P hn hb hI
  obtain ⟨i',j1,g1,⟨rfl,g2⟩,g3,hl2⟩:=s83_5 n a b x y i1 j' P hn hb h1
  have k1:=g1.ai
  have k2:=g1.jb
  have k3:=g1.ij
  have k4:=h1.jb
  by_cases q:i'<=j1
  ·have c1:=h3 (by omega)
   have c2:=g3 q
   have ei:IntKind.i64.wrap ((i':Int)+1) = ((i'+1:Nat):Int):=by rw [wr64 (by omega) (by omega)]; omega
   have ej:IntKind.i64.wrap ((j1:Int) - 1) = ((j1 - 1:Nat):Int):=by rw [wr64 (by omega) (by omega)]; omega
   refine .inl ⟨j1 - 1+1 - (i'+1),_,_,by omega,?_,⟨i'+1,j1 - 1,_,rfl,rfl,rfl,g1.swap q c1 c2⟩⟩
   refine Step.mk0 (A:=A18) (m:=0) none_ok rfl rfl (loopsC hl1 (loops1 hl2)) (h1:=[ub 0 n fun e=>bif e==0+j1 then y (0+i') else bif e==0+i' then y (0+j1) else y e]) ?_ (ub_congr fun e=>swap_fun y i' j1 e)
   rw [(show iterR P18 G18 A18 noneO 0 83 [(3,litS (v83 n a i0 j') [ub 0 n y] (.exit 2) (v83 n a i' j') [ub 0 n y]),(5,litS (v83 n a i' j') [ub 0 n y] (.exit 4) (v83 n a i' j1) [ub 0 n y])] 7 (v83 n a i0 j') [ub 0 n y] =
(
 bif weakF (v76a n a i0 (Int.ofNat j')) [ub (0:Nat) n y] (v76a n a i0 (Int.ofNat j')) [ub (0:Nat) n y] then
 bif weakF (v76a n a i' (Int.ofNat j')) [ub (0:Nat) n y] (v76a n a i' (Int.ofNat j')) [ub (0:Nat) n y] then
 bif decide (Int.ofNat j1<Int.ofNat i') then
 some ((.exit 0,[.int .i64 (.ofNat i')],[ub (0:Nat) n y]))
 else
 bif decide (0<=Int.ofNat j1)&&decide (Int.ofNat j1<Int.ofNat n) then
 bif ((0:Nat)+j1).blt n then
 bif decide (0<=Int.ofNat i')&&decide (Int.ofNat i'<Int.ofNat n) then
 bif ((0:Nat)+i').blt n then
 bif decide (0<=Int.ofNat i')&&decide (Int.ofNat i'<Int.ofNat n) then
 bif ((0:Nat)+i').blt n&&[T.int .u8 (y ((0:Nat)+j1))].length==(1:Nat)&&true&&true then
 bif decide (0<=Int.ofNat j1)&&decide (Int.ofNat j1<Int.ofNat n) then
 bif ((0:Nat)+j1).blt n&&[T.int .u8 (y ((0:Nat)+i'))].length==(1:Nat)&&true&&true then
 some ((.normal,v83 n a (IntKind.i64.wrap (Int.ofNat i'+1)) (IntKind.i64.wrap (Int.ofNat j1 - 1)),[ub (0:Nat) n fun j =>
 bif j==0+j1 then y (0+i')
 else
 bif j==0+i' then y (0+j1)
 else y j]))
 else none else none else none else none else none else none else none else none else none else
 none) from by kernel_rfl)]
   refine bift (weakF_of ⟨rfl,.refl _⟩) ?_
   refine bift (weakF_of ⟨rfl,.refl _⟩) ?_
   rw [ofNatE i',ofNatE j1,ei,ej]
   clear hI h1 g1 h3 g3 c1 c2
   (repeat (first | refine BT ?_ | refine BG ?_))
   rfl
  ·refine .inr ⟨_,_,_,?_,i',j1,y,rfl,rfl,rfl,g1,by omega⟩
   refine Last.mk0 (A:=A18) (m:=0) none_ok rfl rfl (loopsC hl1 (loops1 hl2)) (h1:=[ub 0 n y]) (by simp) ?_ (.refl _)
   rw [(show iterR P18 G18 A18 noneO 0 83 [(3,litS (v83 n a i0 j') [ub 0 n y] (.exit 2) (v83 n a i' j') [ub 0 n y]),(5,litS (v83 n a i' j') [ub 0 n y] (.exit 4) (v83 n a i' j1) [ub 0 n y])] 7 (v83 n a i0 j') [ub 0 n y] =
(
 bif weakF (v76a n a i0 (Int.ofNat j')) [ub (0:Nat) n y] (v76a n a i0 (Int.ofNat j')) [ub (0:Nat) n y] then
 bif weakF (v76a n a i' (Int.ofNat j')) [ub (0:Nat) n y] (v76a n a i' (Int.ofNat j')) [ub (0:Nat) n y] then
 bif decide (Int.ofNat j1<Int.ofNat i') then
 some ((.exit 0,[.int .i64 (.ofNat i')],[ub (0:Nat) n y]))
 else
 bif decide (0<=Int.ofNat j1)&&decide (Int.ofNat j1<Int.ofNat n) then
 bif ((0:Nat)+j1).blt n then
 bif decide (0<=Int.ofNat i')&&decide (Int.ofNat i'<Int.ofNat n) then
 bif ((0:Nat)+i').blt n then
 bif decide (0<=Int.ofNat i')&&decide (Int.ofNat i'<Int.ofNat n) then
 bif ((0:Nat)+i').blt n&&[T.int .u8 (y ((0:Nat)+j1))].length==(1:Nat)&&true&&true then
 bif decide (0<=Int.ofNat j1)&&decide (Int.ofNat j1<Int.ofNat n) then
 bif ((0:Nat)+j1).blt n&&[T.int .u8 (y ((0:Nat)+i'))].length==(1:Nat)&&true&&true then
 some ((.normal,v83 n a (IntKind.i64.wrap (Int.ofNat i'+1)) (IntKind.i64.wrap (Int.ofNat j1 - 1)),[ub (0:Nat) n fun j =>
 bif j==0+j1 then y (0+i')
 else
 bif j==0+i' then y (0+j1)
 else y j]))
 else none else none else none else none else none else none else none else none else none else
 none) from by kernel_rfl)]
   refine bift (weakF_of ⟨rfl,.refl _⟩) ?_
   refine bift (weakF_of ⟨rfl,.refl _⟩) ?_
   rw [ofNatE i',ofNatE j1]
   clear hI h1 g1 h3 g3
   (repeat (first | refine BT ?_ | refine BG ?_))
   rfl
 ·rintro e ⟨vs1,h1,⟨i,j,y,rfl,rfl,rfl,g1,g2⟩,hl⟩
  exact ⟨i,j,y,g1,g2,hl⟩
open Go.Proofs
def Sw (y:Nat->Int) (i j:Nat):Nat->Int:=fun e=>if e = j then y i else if e = i then y j else y e
def swB (y:Nat->Int) (i j:Nat):Nat->Int:=fun e=>bif e==0+j then y (0+i) else bif e==0+i then y (0+j) else y e
theorem sw_same (n:Nat) (y:Nat->Int) (i j:Nat):SameBlks [ub 0 n (swB y i j)] [ub 0 n (Sw y i j)]:=ub_congr fun e=>swap_fun y i j e
theorem PInv.start {L:Int->Int->Prop} (x:Nat->Int) {a b p:Nat} (ha:a<=p) (hp:p<b) (h2:a+1<b):PInv L x (Sw x a p) a b (a+1) (b - 1) (x p) :=
 ⟨by
  show (if a = p then x a else if a = a then x p else x a) = x p
  by_cases q:a = p
  ·rw [if_pos q,q]
  ·rw [if_neg q,if_pos rfl],Pr.swap x (i:=p) (j:=a) ⟨ha,hp⟩ ⟨Nat.le_refl _,by omega⟩,by omega,by omega,by omega,fun e g1 g2=>by omega,fun e g1 g2=>by omega⟩
theorem PInv.parted {x y:Nat->Int} {a b i j:Nat} {P:Int} (h:PInv (fun u v:Int=>u<v) x y a b i j P) (hij:i = j+1):Pr x (Sw y j a) a b/\Parted (Sw y j a) a b j:=by
 have ha:=h.ai
 have hj:=h.jb
 have ej:Sw y j a j = y a:=by
  show (if j = a then y j else if j = j then y a else y j) = y a
  by_cases q:j = a
  ·rw [if_pos q,q]
  ·rw [if_neg q,if_pos rfl]
 refine ⟨h.pr.trans (Pr.swap y (i:=a) (j:=j) ⟨Nat.le_refl _,by omega⟩ ⟨by omega,hj⟩),by omega,hj,fun p g1 g2=>?_,fun p g1 g2=>?_⟩
 ·rw [ej]
  show (if p = a then y j else if p = j then y a else y p)<y a
  by_cases q:p = a
  ·rw [if_pos q]; exact h.left j (by omega) (by omega)
  ·rw [if_neg q,if_neg (by omega)]; exact h.left p (by omega) (by omega)
 ·rw [ej]
  show y a<=(if p = a then y j else if p = j then y a else y p)
  rw [if_neg (by omega),if_neg (by omega)]
  exact Int.not_lt.1 (h.right p g1 g2)
theorem partT (n a b p:Nat) (x:Nat->Int) (hn:n<=1000) (hb:b<=n) (ha:a<=p) (hp:p<b) (h2:a+1<b) :
 ∃ z m d,Pr x z a b/\Parted z a b m/\ToldRef P18 G18 84 [.own 0 0 0 n none,.int .i64 a,.int .i64 b,.int .i64 p] [ub 0 n x] (.tup [.int .i64 (m:Nat),.bool d]) [ub 0 n z]:=by
 obtain ⟨i1,j0,k1,⟨k2,rfl⟩,k3,hl1⟩:=s84_3 n a b x (Sw x a p) (a+1) (b - 1) (x p) hn hb (PInv.start x ha hp h2)
 obtain ⟨i',j1,g1,⟨rfl,g2⟩,g3,hl2⟩:=s84_5 n a b x (Sw x a p) i1 (b - 1) (x p) hn hb k1
 have q1:=g1.ai
 have q2:=g1.jb
 have q3:=g1.ij
 have ea:IntKind.i64.wrap ((a:Int)+1) = ((a+1:Nat):Int):=by rw [wr64 (by omega) (by omega)]; omega
 have eb:IntKind.i64.wrap ((b:Int) - 1) = ((b - 1:Nat):Int):=by rw [wr64 (by omega) (by omega)]; omega
 by_cases q:i'<=j1
 ·have c1:=k3 (by omega)
  have c2:=g3 q
  obtain ⟨i3,j3,y3,m1,m2,hl3⟩:=m84 n a b x (Sw (Sw x a p) i' j1) (i'+1) (j1 - 1) (x p) hn hb (g1.swap q c1 c2)
  have w1:=m1.ai
  have w2:=m1.jb
  obtain ⟨z1,z2⟩:=m1.parted m2
  refine ⟨Sw y3 j3 a,j3,false,z1,z2,?_⟩
  refine ToldRef.res ?_ (sw_same n y3 j3 a)
  have ei:IntKind.i64.wrap ((i':Int)+1) = ((i'+1:Nat):Int):=by rw [wr64 (by omega) (by omega)]; omega
  have ej:IntKind.i64.wrap ((j1:Int) - 1) = ((j1 - 1:Nat):Int):=by rw [wr64 (by omega) (by omega)]; omega
  have s1:=sw_same n x a p
  have s2:=sw_same n (Sw x a p) i' j1
  clear k1 g1 k3 g3 c1 c2 m1 z1 z2
  generalize Sw (Sw x a p) i' j1 = y2 at *
  generalize Sw x a p = y1 at *
  refine stepR_told hm18 hn18 none_ok (A:=A18) (m:=0) (by kernel_rfl) (loopsC hl1 (loopsC hl2 (loops1 hl3))) ?_
  rw [(show stepR P18 G18 A18 noneO 0 84 [(3,litS (v83 n a (a+1:Nat) (b - 1:Nat)) [ub 0 n y1] (.exit 0) (v83 n a i' (b - 1:Nat)) [ub 0 n y1]),(5,litS (v83 n a i' (b - 1:Nat)) [ub 0 n y1] (.exit 2) (v83 n a i' j1) [ub 0 n y1]),(17,litS (v83 n a (i'+1:Nat) (j1 - 1:Nat)) [ub 0 n y2] (.exit 4) [.own 0 0 0 n none,.int .i64 a,.int .i64 j3] [ub 0 n y3])] [.own 0 0 0 n none,.int .i64 a,.int .i64 b,.int .i64 p] [ub 0 n x] =
(
 bif decide (0<=Int.ofNat p)&&decide (Int.ofNat p<Int.ofNat n) then
 bif ((0:Nat)+p).blt n then
 bif decide (0<=Int.ofNat a)&&decide (Int.ofNat a<Int.ofNat n) then
 bif ((0:Nat)+a).blt n then
 bif decide (0<=Int.ofNat a)&&decide (Int.ofNat a<Int.ofNat n) then
 bif ((0:Nat)+a).blt n&&[T.int .u8 (x ((0:Nat)+p))].length==(1:Nat)&&true&&true then
 bif decide (0<=Int.ofNat p)&&decide (Int.ofNat p<Int.ofNat n) then
 bif ((0:Nat)+p).blt n&&[T.int .u8 (x ((0:Nat)+a))].length==(1:Nat)&&true&&true then
 bif weakF (v83 n a (IntKind.i64.wrap (Int.ofNat a+1)) (IntKind.i64.wrap (Int.ofNat b - 1))) [ub (0:Nat) n fun j =>
 bif j==0+p then x (0+a)
 else
 bif j==0+a then x (0+p)
 else x j] (v76a n a (a+1) (Int.ofNat (b - 1))) [ub (0:Nat) n y1] then
 bif weakF (v76a n a i' (Int.ofNat (b - 1))) [ub (0:Nat) n y1] (v76a n a i' (Int.ofNat (b - 1))) [ub (0:Nat) n y1] then
 bif decide (Int.ofNat j1<Int.ofNat i') then
 bif decide (0<=Int.ofNat a)&&decide (Int.ofNat a<Int.ofNat n) then
 bif ((0:Nat)+a).blt n then
 bif decide (0<=Int.ofNat j1)&&decide (Int.ofNat j1<Int.ofNat n) then
 bif ((0:Nat)+j1).blt n then
 bif decide (0<=Int.ofNat j1)&&decide (Int.ofNat j1<Int.ofNat n) then
 bif ((0:Nat)+j1).blt n&&[T.int .u8 (y1 ((0:Nat)+a))].length==(1:Nat)&&true&&true then
 bif decide (0<=Int.ofNat a)&&decide (Int.ofNat a<Int.ofNat n) then
 bif ((0:Nat)+a).blt n&&[T.int .u8 (y1 ((0:Nat)+j1))].length==(1:Nat)&&true&&true then
 some ((.tup [.int .i64 (.ofNat j1),.bool true],[ub (0:Nat) n fun j =>
 bif j==0+a then y1 (0+j1)
 else
 bif j==0+j1 then y1 (0+a)
 else y1 j]))
 else none else none else none else none else none else none else none else none else
 bif decide (0<=Int.ofNat j1)&&decide (Int.ofNat j1<Int.ofNat n) then
 bif ((0:Nat)+j1).blt n then
 bif decide (0<=Int.ofNat i')&&decide (Int.ofNat i'<Int.ofNat n) then
 bif ((0:Nat)+i').blt n then
 bif decide (0<=Int.ofNat i')&&decide (Int.ofNat i'<Int.ofNat n) then
 bif ((0:Nat)+i').blt n&&[T.int .u8 (y1 ((0:Nat)+j1))].length==(1:Nat)&&true&&true then
 bif decide (0<=Int.ofNat j1)&&decide (Int.ofNat j1<Int.ofNat n) then
 bif ((0:Nat)+j1).blt n&&[T.int .u8 (y1 ((0:Nat)+i'))].length==(1:Nat)&&true&&true then
 bif weakF (v83 n a (IntKind.i64.wrap (Int.ofNat i'+1)) (IntKind.i64.wrap (Int.ofNat j1 - 1))) [ub (0:Nat) n fun j =>
 bif j==0+j1 then y1 (0+i')
 else
 bif j==0+i' then y1 (0+j1)
 else y1 j] (v76a n a (i'+1) (Int.ofNat (j1 - 1))) [ub (0:Nat) n y2] then
 bif decide (0<=Int.ofNat a)&&decide (Int.ofNat a<Int.ofNat n) then
 bif ((0:Nat)+a).blt n then
 bif decide (0<=Int.ofNat j3)&&decide (Int.ofNat j3<Int.ofNat n) then
 bif ((0:Nat)+j3).blt n then
 bif decide (0<=Int.ofNat j3)&&decide (Int.ofNat j3<Int.ofNat n) then
 bif ((0:Nat)+j3).blt n&&[T.int .u8 (y3 ((0:Nat)+a))].length==(1:Nat)&&true&&true then
 bif decide (0<=Int.ofNat a)&&decide (Int.ofNat a<Int.ofNat n) then
 bif ((0:Nat)+a).blt n&&[T.int .u8 (y3 ((0:Nat)+j3))].length==(1:Nat)&&true&&true then
 some ((.tup [.int .i64 (.ofNat j3),.bool false],[ub (0:Nat) n fun j =>
 bif j==0+a then y3 (0+j3)
 else
 bif j==0+j3 then y3 (0+a)
 else y3 j]))
 else none else none else none else none else none else none else none else none else none else none else none else none else none else none else none else none else none else none else none else none else none else none else none else none else none else none else
 none) from by kernel_rfl)]
  rw [ofNatE a,ofNatE b,ea,eb,ofNatE i',ofNatE j1,ei,ej]
  (repeat (first | refine BT ?_ | refine BG ?_))
  refine bift (weakF_of ⟨rfl,s1⟩) ?_
  refine bift (weakF_of ⟨rfl,.refl _⟩) ?_
  (repeat (first | refine BT ?_ | refine BG ?_))
  refine bift (weakF_of ⟨rfl,s2⟩) ?_
  (repeat (first | refine BT ?_ | refine BG ?_))
  rfl
 ·obtain ⟨z1,z2⟩:=g1.parted (by omega)
  refine ⟨Sw (Sw x a p) j1 a,j1,true,z1,z2,?_⟩
  refine ToldRef.res ?_ (sw_same n (Sw x a p) j1 a)
  have s1:=sw_same n x a p
  clear k1 g1 k3 g3 z1 z2
  generalize Sw x a p = y1 at *
  refine stepR_told hm18 hn18 none_ok (A:=A18) (m:=0) (by kernel_rfl) (loopsC hl1 (loops1 hl2)) ?_
  rw [(show stepR P18 G18 A18 noneO 0 84 [(3,litS (v83 n a (a+1:Nat) (b - 1:Nat)) [ub 0 n y1] (.exit 0) (v83 n a i' (b - 1:Nat)) [ub 0 n y1]),(5,litS (v83 n a i' (b - 1:Nat)) [ub 0 n y1] (.exit 2) (v83 n a i' j1) [ub 0 n y1])] [.own 0 0 0 n none,.int .i64 a,.int .i64 b,.int .i64 p] [ub 0 n x] =
(
 bif decide (0<=Int.ofNat p)&&decide (Int.ofNat p<Int.ofNat n) then
 bif ((0:Nat)+p).blt n then
 bif decide (0<=Int.ofNat a)&&decide (Int.ofNat a<Int.ofNat n) then
 bif ((0:Nat)+a).blt n then
 bif decide (0<=Int.ofNat a)&&decide (Int.ofNat a<Int.ofNat n) then
 bif ((0:Nat)+a).blt n&&[T.int .u8 (x ((0:Nat)+p))].length==(1:Nat)&&true&&true then
 bif decide (0<=Int.ofNat p)&&decide (Int.ofNat p<Int.ofNat n) then
 bif ((0:Nat)+p).blt n&&[T.int .u8 (x ((0:Nat)+a))].length==(1:Nat)&&true&&true then
 bif weakF (v83 n a (IntKind.i64.wrap (Int.ofNat a+1)) (IntKind.i64.wrap (Int.ofNat b - 1))) [ub (0:Nat) n fun j =>
 bif j==0+p then x (0+a)
 else
 bif j==0+a then x (0+p)
 else x j] (v76a n a (a+1) (Int.ofNat (b - 1))) [ub (0:Nat) n y1] then
 bif weakF (v76a n a i' (Int.ofNat (b - 1))) [ub (0:Nat) n y1] (v76a n a i' (Int.ofNat (b - 1))) [ub (0:Nat) n y1] then
 bif decide (Int.ofNat j1<Int.ofNat i') then
 bif decide (0<=Int.ofNat a)&&decide (Int.ofNat a<Int.ofNat n) then
 bif ((0:Nat)+a).blt n then
 bif decide (0<=Int.ofNat j1)&&decide (Int.ofNat j1<Int.ofNat n) then
 bif ((0:Nat)+j1).blt n then
 bif decide (0<=Int.ofNat j1)&&decide (Int.ofNat j1<Int.ofNat n) then
 bif ((0:Nat)+j1).blt n&&[T.int .u8 (y1 ((0:Nat)+a))].length==(1:Nat)&&true&&true then
 bif decide (0<=Int.ofNat a)&&decide (Int.ofNat a<Int.ofNat n) then
 bif ((0:Nat)+a).blt n&&[T.int .u8 (y1 ((0:Nat)+j1))].length==(1:Nat)&&true&&true then
 some ((.tup [.int .i64 (.ofNat j1),.bool true],[ub (0:Nat) n fun j =>
 bif j==0+a then y1 (0+j1)
 else
 bif j==0+j1 then y1 (0+a)
 else y1 j]))
 else none else none else none else none else none else none else none else none else
 bif decide (0<=Int.ofNat j1)&&decide (Int.ofNat j1<Int.ofNat n) then
 bif ((0:Nat)+j1).blt n then
 bif decide (0<=Int.ofNat i')&&decide (Int.ofNat i'<Int.ofNat n) then
 bif ((0:Nat)+i').blt n then
 bif decide (0<=Int.ofNat i')&&decide (Int.ofNat i'<Int.ofNat n) then
 bif ((0:Nat)+i').blt n&&[T.int .u8 (y1 ((0:Nat)+j1))].length==(1:Nat)&&true&&true then
 bif decide (0<=Int.ofNat j1)&&decide (Int.ofNat j1<Int.ofNat n) then
 bif ((0:Nat)+j1).blt n&&[T.int .u8 (y1 ((0:Nat)+i'))].length==(1:Nat)&&true&&true then none else none else none else none else none else none else none else none else none else none else none else none else none else none else none else none else none else none else
 none) from by kernel_rfl)]
  rw [ofNatE a,ofNatE b,ea,eb,ofNatE i',ofNatE j1]
  (repeat (first | refine BT ?_ | refine BG ?_))
  refine bift (weakF_of ⟨rfl,s1⟩) ?_
  refine bift (weakF_of ⟨rfl,.refl _⟩) ?_
  (repeat (first | refine BT ?_ | refine BG ?_))
  rfl
theorem peqT (n a b p:Nat) (x:Nat->Int) (hn:n<=1000) (hb:b<=n) (ha:a<=p) (hp:p<b) (h2:a+1<b) (hmin:∀ e,a<=e->e<b->x p<=x e) :
 ∃ z m,Pr x z a b/\a<m/\m<=b/\(∀ e f,a<=e->e<m->a<=f->f<b->z e<=z f)/\ToldRef P18 G18 83 [.own 0 0 0 n none,.int .i64 a,.int .i64 b,.int .i64 p] [ub 0 n x] (.int .i64 (m:Nat)) [ub 0 n z]:=by
 obtain ⟨i3,j3,z,m1,m2,hl3⟩:=m83 n a b x (Sw x a p) (a+1) (b - 1) (x p) hn hb (PInv.start x ha hp h2)
 have ea:IntKind.i64.wrap ((a:Int)+1) = ((a+1:Nat):Int):=by rw [wr64 (by omega) (by omega)]; omega
 have eb:IntKind.i64.wrap ((b:Int) - 1) = ((b - 1:Nat):Int):=by rw [wr64 (by omega) (by omega)]; omega
 refine ⟨z,i3,m1.pr,m1.ai,by have:=m1.jb; omega,fun e f g1 g2 g3 g4=>?_,?_⟩
 ·have hall:∀ f,a<=f->f<b->x p<=z f:=fun f g3 g4=>by
   obtain ⟨e',h1,h2,h3⟩:=(m1.pr.mem (z f)).1 ⟨f,g3,g4,rfl⟩
   rw [← h3]; exact hmin e' h1 h2
  have h1:z e<=z a:=by
   by_cases q:e = a
   ·rw [q]; exact Int.le_refl _
   ·exact Int.not_lt.1 (m1.left e (by omega) g2)
  rw [m1.piv] at h1
  exact Int.le_trans h1 (hall f g3 g4)
 ·have s1:=sw_same n x a p
  clear m1 hmin
  generalize Sw x a p = y1 at *
  refine stepR_told hm18 hn18 none_ok (A:=A18) (m:=0) (by kernel_rfl) (loops1 hl3) ?_
  rw [(show stepR P18 G18 A18 noneO 0 83 [(7,litS (v83 n a (a+1:Nat) (b - 1:Nat)) [ub 0 n y1] (.exit 0) [.int .i64 i3] [ub 0 n z])] [.own 0 0 0 n none,.int .i64 a,.int .i64 b,.int .i64 p] [ub 0 n x] =
(
 bif decide (0<=Int.ofNat p)&&decide (Int.ofNat p<Int.ofNat n) then
 bif ((0:Nat)+p).blt n then
 bif decide (0<=Int.ofNat a)&&decide (Int.ofNat a<Int.ofNat n) then
 bif ((0:Nat)+a).blt n then
 bif decide (0<=Int.ofNat a)&&decide (Int.ofNat a<Int.ofNat n) then
 bif ((0:Nat)+a).blt n&&[T.int .u8 (x ((0:Nat)+p))].length==(1:Nat)&&true&&true then
 bif decide (0<=Int.ofNat p)&&decide (Int.ofNat p<Int.ofNat n) then
 bif ((0:Nat)+p).blt n&&[T.int .u8 (x ((0:Nat)+a))].length==(1:Nat)&&true&&true then
 bif weakF (v83 n a (IntKind.i64.wrap (Int.ofNat a+1)) (IntKind.i64.wrap (Int.ofNat b - 1))) [ub (0:Nat) n fun j =>
 bif j==0+p then x (0+a)
 else
 bif j==0+a then x (0+p)
 else x j] (v76a n a (a+1) (Int.ofNat (b - 1))) [ub (0:Nat) n y1] then
 some ((.int .i64 (.ofNat i3),[ub (0:Nat) n z]))
 else none else none else none else none else none else none else none else none else
 none) from by kernel_rfl)]
  rw [ofNatE a,ofNatE b,ea,eb]
  (repeat (first | refine BT ?_ | refine BG ?_))
  refine bift (weakF_of ⟨rfl,s1⟩) ?_
  rfl
open Go.Proofs
def rb (r:Int):Blk:=⟨0,1,1,fun _=>[.int .u64 r],true,false,none⟩
def v78 (n a l:Nat) (m i:Int):List T:=[.own 0 0 0 n none,.int .i64 a,.int .i64 l,.ptr 1 0 0 0,.int .u64 m,.int .i64 i]
noncomputable def K78 (p:List T->Heap->T->Heap->Prop) (n:Nat) (y:Nat->Int) (v r2:Int):Orc:=noneO.addRef 91 (refF p fun _ _=>some (.int .u64 v,[ub 0 n y,rb r2]))
noncomputable def K90 (p:List T->T->Prop) (l:Int):Orc:=noneO.add 71 (callF p fun _=>some (.int .i64 l))
noncomputable def K78b (p:List T->T->Prop) (m:Int):Orc:=noneO.add 90 (callF p fun _=>some (.int .u64 m))
def rnd1 (r:Int):Int:=bitsOf BinOp.xor IntKind.u64 r (IntKind.u64.wrap (r * 8192))
def rnd2 (r:Int):Int:=bitsOf BinOp.xor IntKind.u64 (rnd1 r) ((rnd1 r).fdiv 128)
def rnd3 (r:Int):Int:=bitsOf BinOp.xor IntKind.u64 (rnd2 r) (IntKind.u64.wrap (rnd2 r * 131072))
theorem and_bd (v:Int) (m:Nat) (h1:1<=m) (h2:m<=1000):∃ o:Nat,IntKind.i64.wrap (bitsOf BinOp.and IntKind.u64 v (IntKind.u64.wrap ((m:Int) - 1))) = (o:Int)/\o<m:=by
 rw [wru64 (x:=(m:Int) - 1) (by omega) (by omega),show (m:Int) - 1 = ((m - 1:Nat):Int) by omega]
 unfold bitsOf
 obtain ⟨o,ho⟩:∃ o:Nat,(BitVec.ofInt IntKind.u64.bits v &&& BitVec.ofInt IntKind.u64.bits ((m - 1:Nat):Int)).toNat = o:=⟨_,rfl⟩
 have hle:o<=m - 1:=by
  rw [← ho]
  show (BitVec.ofInt 64 v &&& BitVec.ofInt 64 ((m - 1:Nat):Int)).toNat<=m - 1
  rw [BitVec.toNat_and,BitVec.toNat_ofInt,BitVec.toNat_ofInt]
  refine Nat.le_trans Nat.and_le_right ?_
  omega
 refine ⟨o,?_,by omega⟩
 show IntKind.i64.wrap (IntKind.u64.wrap ((BitVec.ofInt IntKind.u64.bits v &&& BitVec.ofInt IntKind.u64.bits ((m - 1:Nat):Int)).toNat:Int)) = _
 rw [ho,wru64 (by omega) (by omega),wr64 (by omega) (by omega)]
theorem rndT (n:Nat) (y:Nat->Int) (r:Int):∃ v r2,ToldRef P18 G18 91 [.ptr 1 0 0 0] [ub 0 n y,rb r] (.int .u64 v) [ub 0 n y,rb r2]:=by
 refine ⟨rnd3 r,rnd3 r,ToldRef.res (stepR_told hm18 hn18 none_ok (A:=A18) (m:=0) (by kernel_rfl) (l:=[]) loops0 (show stepR P18 G18 A18 noneO 0 91 [] [.ptr 1 0 0 0] [ub 0 n y,rb r] =
(
 some ((.int .u64 (bitsOf BinOp.xor IntKind.u64 (bitsOf BinOp.xor IntKind.u64 (bitsOf BinOp.xor IntKind.u64 r (IntKind.u64.wrap (r * 8192))) ((bitsOf BinOp.xor IntKind.u64 r (IntKind.u64.wrap (r * (8192:Int)))).fdiv (128:Int))) (IntKind.u64.wrap (bitsOf BinOp.xor IntKind.u64 (bitsOf BinOp.xor IntKind.u64 r (IntKind.u64.wrap (r * 8192))) ((bitsOf BinOp.xor IntKind.u64 r (IntKind.u64.wrap (r * (8192:Int)))).fdiv (128:Int)) * (131072:Int)))),[ub (0:Nat) n y,.mk 0 1 1 (fun e=>[.int .u64 (bif e==(0:Nat) then bitsOf BinOp.xor IntKind.u64 (bitsOf BinOp.xor IntKind.u64 (bitsOf BinOp.xor IntKind.u64 r (IntKind.u64.wrap (r * 8192))) ((bitsOf BinOp.xor IntKind.u64 r (IntKind.u64.wrap (r * (8192:Int)))).fdiv (128:Int))) (IntKind.u64.wrap (bitsOf BinOp.xor IntKind.u64 (bitsOf BinOp.xor IntKind.u64 r (IntKind.u64.wrap (r * 8192))) ((bitsOf BinOp.xor IntKind.u64 r (IntKind.u64.wrap (r * (8192:Int)))).fdiv (128:Int)) * (131072:Int)))
 else
 bif e==(0:Nat) then bitsOf BinOp.xor IntKind.u64 (bitsOf BinOp.xor IntKind.u64 r (IntKind.u64.wrap (r * 8192))) ((bitsOf BinOp.xor IntKind.u64 r (IntKind.u64.wrap (r * (8192:Int)))).fdiv (128:Int))
 else
 bif e==(0:Nat) then bitsOf BinOp.xor IntKind.u64 r (IntKind.u64.wrap (r * 8192))
 else r)]) true false
 none]))) from by kernel_rfl)) (.cons ⟨rfl,rfl,rfl,id,fun _ _=>rfl⟩ (.cons ⟨rfl,rfl,rfl,id,fun j hj=>?_⟩ .nil))⟩
 obtain rfl:=one_of hj
 rfl
theorem pow2T (l:Nat) (h1:13<=l) (h2:l<=16):∃ m:Nat,1<=m/\m<=2 * l/\ToldOk P18 G18 90 [.int .i64 l] (.int .u64 (m:Nat)):=by
 obtain ⟨q,hq⟩:=is_val P18 G18 71
 have e:IntKind.u64.wrap (Int.ofNat l) = (l:Int):=wru64 (x:=(l:Int)) (by omega) (by omega)
 have key:∀ k:Nat,k<=5->2 ^ k<=2 * l->ToldOk P18 G18 71 [.int .u64 l] (.int .i64 (k:Nat))->∃ m:Nat,1<=m/\m<=2 * l/\ToldOk P18 G18 90 [.int .i64 l] (.int .u64 (m:Nat)):=fun k hk hk2 t=>by
  refine ⟨2 ^ k,Nat.one_le_two_pow,hk2,?_⟩
  refine stepV_told hm18 hn18 (K:=K90 q (k:Nat)) (told_add none_ok (callF_told hq)) (A:=A18) (m:=0) ?_
  generalize hkk:((k:Nat):Int) = kk at *
  rw [(show stepV P18 G18 A18 (K90 q kk) 0 90 [.int .i64 l] =
(
 bif decF (q [.int .u64 (IntKind.u64.wrap (Int.ofNat l))] (.int .i64 kk)) then
 bif decide (0<=kk) then
 some (.int .u64 (IntKind.u64.wrap ((1:Int) * (2:Int) ^ min kk.toNat (64:Nat))))
 else none else
 none) from by kernel_rfl)]
  rw [e]
  refine bift (callF_yes hq t) ?_
  refine BT ?_
  rw [← hkk,toNatE,Nat.min_eq_left (by omega),Int.one_mul]
  have:((2:Int) ^ k) = ((2 ^ k:Nat):Int):=by norm_cast
  have h32:2 ^ k<=1000:=by omega
  rw [this]
  clear this
  generalize 2 ^ k = w at *
  rw [wru64 (x:=(w:Int)) (by omega) (by omega)]
 have s:∀ k:Nat,stepV P18 G18 A18 K86 0 71 [.int .u64 l] = some (.int .i64 (k:Nat))->ToldOk P18 G18 71 [.int .u64 l] (.int .i64 (k:Nat)):=fun k h=>stepV_told hm18 hn18 (told_inl hm18 hn18 none_ok none_ok) h
 obtain rfl | rfl | rfl | rfl:l = 13 ∨ l = 14 ∨ l = 15 ∨ l = 16:=by omega
 ·exact key 4 (by omega) (by omega) (s 4 (by kernel_rfl))
 ·exact key 4 (by omega) (by omega) (s 4 (by kernel_rfl))
 ·exact key 4 (by omega) (by omega) (s 4 (by kernel_rfl))
 ·exact key 5 (by omega) (by omega) (s 5 (by kernel_rfl))
theorem brkT (n a b:Nat) (x:Nat->Int) (hn:n<=1000) (hb:b<=n) (h13:a+13<=b) (h16:b<=a+16) :
 ∃ z B,Pr x z a b/\ToldRef P18 G18 78 [.own 0 0 0 n none,.int .i64 a,.int .i64 b] [ub 0 n x] (.tup []) [ub 0 n z,B]:=by
 obtain ⟨l,hl⟩:∃ l,b = a+l:=⟨b - a,by omega⟩
 obtain ⟨q,hq⟩:∃ q:Nat,l / 4 = q:=⟨_,rfl⟩
 obtain ⟨m,hm1,hm2,t90⟩:=pow2T l (by omega) (by omega)
 obtain ⟨p91,hp91⟩:=is_ref P18 G18 91
 obtain ⟨p90,hp90⟩:=is_val P18 G18 90
 have eq0:IntKind.i64.wrap ((Int.ofNat l).tdiv 4) = (q:Int):=by
  have:(Int.ofNat l).tdiv 4 = (q:Int):=by rw [← hq]; rfl
  rw [this,wr64 (by omega) (by omega)]
 have e2:IntKind.i64.wrap ((q:Int) * 2) = ((2 * q:Nat):Int):=by rw [wr64 (by omega) (by omega)]; omega
 have p2:IntKind.i64.wrap (Int.ofNat a+((2 * q:Nat):Int)) = ((a+2 * q:Nat):Int):=by rw [ofNatE,wr64 (by omega) (by omega)]; omega
 have p3:IntKind.i64.wrap (((a+2 * q:Nat):Int)+1) = ((a+2 * q+1:Nat):Int):=by rw [wr64 (by omega) (by omega)]; omega
 have p4:IntKind.i64.wrap (((a+2 * q:Nat):Int) - 1) = ((a+2 * q - 1:Nat):Int):=by rw [wr64 (by omega) (by omega)]; omega
 have hL:∃ z r2,Pr x z a b/\LoopOk P18 G18 (A18 78) 78 5 (litS (v78 n a l m (a+2 * q - 1:Nat)) [ub 0 n x,rb l] (.exit 0) [] [ub 0 n z,rb r2]):=by
  refine Exists.elim (loop_exists (P:=P18) (Gl:=G18) (f:=78) (r:=5) (an:=A18 78) (k:=2) hm18 (by kernel_rfl)
   (fun s vs h=>∃ (i:Nat) (y:Nat->Int) (r:Int),s = a+2 * q+2 - i/\a<=i/\vs = v78 n a l m i/\h = [ub 0 n y,rb r]/\Pr x y a b)
   (fun e vs1 h1=>∃ z r2,e = .exit 0/\vs1 = []/\h1 = [ub 0 n z,rb r2]/\Pr x z a b)
   (fun s vs h ⟨i,y,r,hs,hi,hv,hh,hI⟩=>?_) (n:=a+2 * q+2 - (a+2 * q - 1)) (vs:=v78 n a l m (a+2 * q - 1:Nat)) (h:=[ub 0 n x,rb l]) rfl ⟨a+2 * q - 1,x,l,rfl,by omega,rfl,rfl,.refl _ _ _⟩) ?_
  ·subst hs hv hh
   by_cases qi:i<=a+2 * q+1
   ·obtain ⟨v,r2,t91⟩:=rndT n y r
    obtain ⟨o,ho1,ho2⟩:=and_bd v m hm1 (by omega)
    have ei:IntKind.i64.wrap ((i:Int)+1) = ((i+1:Nat):Int):=by rw [wr64 (by omega) (by omega)]; omega
    have fin:∀ w:Nat,w<l->Step P18 G18 (A18 78) 78 5 2 (v78 n a l m i) [ub 0 n y,rb r] (v78 n a l m (i+1:Nat)) [ub 0 n (swB y i (a+w)),rb r2]->(∃ m' vs' h',m'<a+2 * q+2 - i/\Step P18 G18 (A18 78) 78 5 2 (v78 n a l m i) [ub 0 n y,rb r] vs' h'/\∃ (i:Nat) (y:Nat->Int) (r:Int),m' = a+2 * q+2 - i/\a<=i/\vs' = v78 n a l m i/\h' = [ub 0 n y,rb r]/\Pr x y a b):=fun w hw hst =>
     ⟨a+2 * q+2 - (i+1),_,_,by omega,hst,i+1,_,r2,rfl,by omega,rfl,rfl,hI.trans (by
      have e:swB y i (a+w) = Sw y i (a+w):=by funext e; exact (swap_fun y i (a+w) e).symm
      rw [e]
      exact Pr.swap y (i:=a+w) (j:=i) ⟨by omega,by omega⟩ ⟨hi,by omega⟩)⟩
    left
    by_cases qo:l<=o
    ·refine fin (o - l) (by omega) ?_
     refine Step.mk0 (A:=A18) (K:=K78 p91 n y v r2) (m:=0) (told_addRef none_ok (refF_told hp91)) rfl rfl loops0 (h1:=[ub 0 n (swB y i (a+(o - l))),rb r2]) ?_ (.refl _)
     have ew:IntKind.i64.wrap ((o:Int) - Int.ofNat l) = ((o - l:Nat):Int):=by rw [ofNatE,wr64 (by omega) (by omega)]; omega
     have ep:IntKind.i64.wrap (Int.ofNat a+((o - l:Nat):Int)) = ((a+(o - l):Nat):Int):=by rw [ofNatE,wr64 (by omega) (by omega)]; omega
     generalize hmm:(m:Int) = mm at *
     rw [(show iterR P18 G18 A18 (K78 p91 n y v r2) 0 78 [] 5 (v78 n a l mm i) [ub 0 n y,rb r] =
(
 bif decide (Int.ofNat i<=IntKind.i64.wrap (IntKind.i64.wrap (Int.ofNat a+IntKind.i64.wrap (IntKind.i64.wrap ((Int.ofNat l).tdiv 4) * (2:Int)))+(1:Int))) then
 bif decF (p91 [.ptr 1 0 0 0] [.mk 0 1 n (fun j=>[.int .u8 (y j)]) true false
 none,.mk 0 1 1 (fun x=>[.int .u64 r]) true false
 none] (.int .u64 v) [.mk 0 1 n (fun j=>[.int .u8 (y j)]) true false
 none,.mk 0 1 1 (fun x=>[.int .u64 r2]) true false
 none]) then
 bif decide (Int.ofNat l<=IntKind.i64.wrap (bitsOf BinOp.and IntKind.u64 v (IntKind.u64.wrap (mm - 1)))) then
 bif decide (0<=IntKind.i64.wrap (Int.ofNat a+IntKind.i64.wrap (IntKind.i64.wrap (bitsOf BinOp.and IntKind.u64 v (IntKind.u64.wrap (mm - 1))) - Int.ofNat l)))&&decide (IntKind.i64.wrap (Int.ofNat a+IntKind.i64.wrap (IntKind.i64.wrap (bitsOf BinOp.and IntKind.u64 v (IntKind.u64.wrap (mm - 1))) - Int.ofNat l))<Int.ofNat n) then
 bif ((0:Nat)+(IntKind.i64.wrap (Int.ofNat a+IntKind.i64.wrap (IntKind.i64.wrap (bitsOf BinOp.and IntKind.u64 v (IntKind.u64.wrap (mm - (1:Int)))) - Int.ofNat l))).toNat).blt n then
 bif decide (0<=Int.ofNat i)&&decide (Int.ofNat i<Int.ofNat n) then
 bif ((0:Nat)+i).blt n then
 bif decide (0<=Int.ofNat i)&&decide (Int.ofNat i<Int.ofNat n) then
 bif ((0:Nat)+i).blt n&&[T.int .u8 (y ((0:Nat)+(IntKind.i64.wrap (Int.ofNat a+IntKind.i64.wrap (IntKind.i64.wrap (bitsOf BinOp.and IntKind.u64 v (IntKind.u64.wrap (mm - (1:Int)))) - Int.ofNat l))).toNat))].length==(1:Nat)&&true&&true then
 bif decide (0<=IntKind.i64.wrap (Int.ofNat a+IntKind.i64.wrap (IntKind.i64.wrap (bitsOf BinOp.and IntKind.u64 v (IntKind.u64.wrap (mm - 1))) - Int.ofNat l)))&&decide (IntKind.i64.wrap (Int.ofNat a+IntKind.i64.wrap (IntKind.i64.wrap (bitsOf BinOp.and IntKind.u64 v (IntKind.u64.wrap (mm - 1))) - Int.ofNat l))<Int.ofNat n) then
 bif ((0:Nat)+(IntKind.i64.wrap (Int.ofNat a+IntKind.i64.wrap (IntKind.i64.wrap (bitsOf BinOp.and IntKind.u64 v (IntKind.u64.wrap (mm - (1:Int)))) - Int.ofNat l))).toNat).blt n&&[T.int .u8 (y ((0:Nat)+i))].length==(1:Nat)&&true&&true then
 some ((.normal,v78 n a l mm (IntKind.i64.wrap (Int.ofNat i+1)),[ub (0:Nat) n fun j =>
 bif j==(0:Nat)+(IntKind.i64.wrap (Int.ofNat a+IntKind.i64.wrap (IntKind.i64.wrap (bitsOf BinOp.and IntKind.u64 v (IntKind.u64.wrap (mm - (1:Int)))) - Int.ofNat l))).toNat then y (0+i)
 else
 bif j==0+i then y ((0:Nat)+(IntKind.i64.wrap (Int.ofNat a+IntKind.i64.wrap (IntKind.i64.wrap (bitsOf BinOp.and IntKind.u64 v (IntKind.u64.wrap (mm - (1:Int)))) - Int.ofNat l))).toNat)
 else y j,rb r2]))
 else none else none else none else none else none else none else none else none else
 bif decide (0<=IntKind.i64.wrap (Int.ofNat a+IntKind.i64.wrap (bitsOf BinOp.and IntKind.u64 v (IntKind.u64.wrap (mm - 1)))))&&decide (IntKind.i64.wrap (Int.ofNat a+IntKind.i64.wrap (bitsOf BinOp.and IntKind.u64 v (IntKind.u64.wrap (mm - 1))))<Int.ofNat n) then
 bif ((0:Nat)+(IntKind.i64.wrap (Int.ofNat a+IntKind.i64.wrap (bitsOf BinOp.and IntKind.u64 v (IntKind.u64.wrap (mm - (1:Int)))))).toNat).blt n then
 bif decide (0<=Int.ofNat i)&&decide (Int.ofNat i<Int.ofNat n) then
 bif ((0:Nat)+i).blt n then
 bif decide (0<=Int.ofNat i)&&decide (Int.ofNat i<Int.ofNat n) then
 bif ((0:Nat)+i).blt n&&[T.int .u8 (y ((0:Nat)+(IntKind.i64.wrap (Int.ofNat a+IntKind.i64.wrap (bitsOf BinOp.and IntKind.u64 v (IntKind.u64.wrap (mm - (1:Int)))))).toNat))].length==(1:Nat)&&true&&true then
 bif decide (0<=IntKind.i64.wrap (Int.ofNat a+IntKind.i64.wrap (bitsOf BinOp.and IntKind.u64 v (IntKind.u64.wrap (mm - 1)))))&&decide (IntKind.i64.wrap (Int.ofNat a+IntKind.i64.wrap (bitsOf BinOp.and IntKind.u64 v (IntKind.u64.wrap (mm - 1))))<Int.ofNat n) then
 bif ((0:Nat)+(IntKind.i64.wrap (Int.ofNat a+IntKind.i64.wrap (bitsOf BinOp.and IntKind.u64 v (IntKind.u64.wrap (mm - (1:Int)))))).toNat).blt n&&[T.int .u8 (y ((0:Nat)+i))].length==(1:Nat)&&true&&true then
 some ((.normal,v78 n a l mm (IntKind.i64.wrap (Int.ofNat i+1)),[ub (0:Nat) n fun j =>
 bif j==(0:Nat)+(IntKind.i64.wrap (Int.ofNat a+IntKind.i64.wrap (bitsOf BinOp.and IntKind.u64 v (IntKind.u64.wrap (mm - (1:Int)))))).toNat then y (0+i)
 else
 bif j==0+i then y ((0:Nat)+(IntKind.i64.wrap (Int.ofNat a+IntKind.i64.wrap (bitsOf BinOp.and IntKind.u64 v (IntKind.u64.wrap (mm - (1:Int)))))).toNat)
 else y j,rb r2]))
 else none else none else none else none else none else none else none else none else none else
 some ((.exit 0,[],[ub (0:Nat) n y,rb r]))) from by kernel_rfl)]
     rw [eq0,e2,p2,p3,ho1,ew,ep,ofNatE i,ei,toNatE]
     refine BT ?_
     refine bift (refF_yes hp91 t91) ?_
     clear hI t91
     (repeat (first | refine BT ?_ | refine BG ?_))
     rfl
    ·refine fin o (by omega) ?_
     refine Step.mk0 (A:=A18) (K:=K78 p91 n y v r2) (m:=0) (told_addRef none_ok (refF_told hp91)) rfl rfl loops0 (h1:=[ub 0 n (swB y i (a+o)),rb r2]) ?_ (.refl _)
     have ep:IntKind.i64.wrap (Int.ofNat a+(o:Int)) = ((a+o:Nat):Int):=by rw [ofNatE,wr64 (by omega) (by omega)]; omega
     generalize hmm:(m:Int) = mm at *
     rw [(show iterR P18 G18 A18 (K78 p91 n y v r2) 0 78 [] 5 (v78 n a l mm i) [ub 0 n y,rb r] =
(
 bif decide (Int.ofNat i<=IntKind.i64.wrap (IntKind.i64.wrap (Int.ofNat a+IntKind.i64.wrap (IntKind.i64.wrap ((Int.ofNat l).tdiv 4) * (2:Int)))+(1:Int))) then
 bif decF (p91 [.ptr 1 0 0 0] [.mk 0 1 n (fun j=>[.int .u8 (y j)]) true false
 none,.mk 0 1 1 (fun x=>[.int .u64 r]) true false
 none] (.int .u64 v) [.mk 0 1 n (fun j=>[.int .u8 (y j)]) true false
 none,.mk 0 1 1 (fun x=>[.int .u64 r2]) true false
 none]) then
 bif decide (Int.ofNat l<=IntKind.i64.wrap (bitsOf BinOp.and IntKind.u64 v (IntKind.u64.wrap (mm - 1)))) then
 bif decide (0<=IntKind.i64.wrap (Int.ofNat a+IntKind.i64.wrap (IntKind.i64.wrap (bitsOf BinOp.and IntKind.u64 v (IntKind.u64.wrap (mm - 1))) - Int.ofNat l)))&&decide (IntKind.i64.wrap (Int.ofNat a+IntKind.i64.wrap (IntKind.i64.wrap (bitsOf BinOp.and IntKind.u64 v (IntKind.u64.wrap (mm - 1))) - Int.ofNat l))<Int.ofNat n) then
 bif ((0:Nat)+(IntKind.i64.wrap (Int.ofNat a+IntKind.i64.wrap (IntKind.i64.wrap (bitsOf BinOp.and IntKind.u64 v (IntKind.u64.wrap (mm - (1:Int)))) - Int.ofNat l))).toNat).blt n then
 bif decide (0<=Int.ofNat i)&&decide (Int.ofNat i<Int.ofNat n) then
 bif ((0:Nat)+i).blt n then
 bif decide (0<=Int.ofNat i)&&decide (Int.ofNat i<Int.ofNat n) then
 bif ((0:Nat)+i).blt n&&[T.int .u8 (y ((0:Nat)+(IntKind.i64.wrap (Int.ofNat a+IntKind.i64.wrap (IntKind.i64.wrap (bitsOf BinOp.and IntKind.u64 v (IntKind.u64.wrap (mm - (1:Int)))) - Int.ofNat l))).toNat))].length==(1:Nat)&&true&&true then
 bif decide (0<=IntKind.i64.wrap (Int.ofNat a+IntKind.i64.wrap (IntKind.i64.wrap (bitsOf BinOp.and IntKind.u64 v (IntKind.u64.wrap (mm - 1))) - Int.ofNat l)))&&decide (IntKind.i64.wrap (Int.ofNat a+IntKind.i64.wrap (IntKind.i64.wrap (bitsOf BinOp.and IntKind.u64 v (IntKind.u64.wrap (mm - 1))) - Int.ofNat l))<Int.ofNat n) then
 bif ((0:Nat)+(IntKind.i64.wrap (Int.ofNat a+IntKind.i64.wrap (IntKind.i64.wrap (bitsOf BinOp.and IntKind.u64 v (IntKind.u64.wrap (mm - (1:Int)))) - Int.ofNat l))).toNat).blt n&&[T.int .u8 (y ((0:Nat)+i))].length==(1:Nat)&&true&&true then
 some ((.normal,v78 n a l mm (IntKind.i64.wrap (Int.ofNat i+1)),[ub (0:Nat) n fun j =>
 bif j==(0:Nat)+(IntKind.i64.wrap (Int.ofNat a+IntKind.i64.wrap (IntKind.i64.wrap (bitsOf BinOp.and IntKind.u64 v (IntKind.u64.wrap (mm - (1:Int)))) - Int.ofNat l))).toNat then y (0+i)
 else
 bif j==0+i then y ((0:Nat)+(IntKind.i64.wrap (Int.ofNat a+IntKind.i64.wrap (IntKind.i64.wrap (bitsOf BinOp.and IntKind.u64 v (IntKind.u64.wrap (mm - (1:Int)))) - Int.ofNat l))).toNat)
 else y j,rb r2]))
 else none else none else none else none else none else none else none else none else
 bif decide (0<=IntKind.i64.wrap (Int.ofNat a+IntKind.i64.wrap (bitsOf BinOp.and IntKind.u64 v (IntKind.u64.wrap (mm - 1)))))&&decide (IntKind.i64.wrap (Int.ofNat a+IntKind.i64.wrap (bitsOf BinOp.and IntKind.u64 v (IntKind.u64.wrap (mm - 1))))<Int.ofNat n) then
 bif ((0:Nat)+(IntKind.i64.wrap (Int.ofNat a+IntKind.i64.wrap (bitsOf BinOp.and IntKind.u64 v (IntKind.u64.wrap (mm - (1:Int)))))).toNat).blt n then
 bif decide (0<=Int.ofNat i)&&decide (Int.ofNat i<Int.ofNat n) then
 bif ((0:Nat)+i).blt n then
 bif decide (0<=Int.ofNat i)&&decide (Int.ofNat i<Int.ofNat n) then
 bif ((0:Nat)+i).blt n&&[T.int .u8 (y ((0:Nat)+(IntKind.i64.wrap (Int.ofNat a+IntKind.i64.wrap (bitsOf BinOp.and IntKind.u64 v (IntKind.u64.wrap (mm - (1:Int)))))).toNat))].length==(1:Nat)&&true&&true then
 bif decide (0<=IntKind.i64.wrap (Int.ofNat a+IntKind.i64.wrap (bitsOf BinOp.and IntKind.u64 v (IntKind.u64.wrap (mm - 1)))))&&decide (IntKind.i64.wrap (Int.ofNat a+IntKind.i64.wrap (bitsOf BinOp.and IntKind.u64 v (IntKind.u64.wrap (mm - 1))))<Int.ofNat n) then
 bif ((0:Nat)+(IntKind.i64.wrap (Int.ofNat a+IntKind.i64.wrap (bitsOf BinOp.and IntKind.u64 v (IntKind.u64.wrap (mm - (1:Int)))))).toNat).blt n&&[T.int .u8 (y ((0:Nat)+i))].length==(1:Nat)&&true&&true then
 some ((.normal,v78 n a l mm (IntKind.i64.wrap (Int.ofNat i+1)),[ub (0:Nat) n fun j =>
 bif j==(0:Nat)+(IntKind.i64.wrap (Int.ofNat a+IntKind.i64.wrap (bitsOf BinOp.and IntKind.u64 v (IntKind.u64.wrap (mm - (1:Int)))))).toNat then y (0+i)
 else
 bif j==0+i then y ((0:Nat)+(IntKind.i64.wrap (Int.ofNat a+IntKind.i64.wrap (bitsOf BinOp.and IntKind.u64 v (IntKind.u64.wrap (mm - (1:Int)))))).toNat)
 else y j,rb r2]))
 else none else none else none else none else none else none else none else none else none else
 some ((.exit 0,[],[ub (0:Nat) n y,rb r]))) from by kernel_rfl)]
     rw [eq0,e2,p2,p3,ho1,ep,ofNatE i,ei,toNatE]
     refine BT ?_
     refine bift (refF_yes hp91 t91) ?_
     clear hI t91
     (repeat (first | refine BT ?_ | refine BG ?_))
     rfl
   ·refine .inr ⟨_,_,_,?_,y,r,rfl,rfl,rfl,hI⟩
    refine Last.mk0 (A:=A18) (m:=0) none_ok rfl rfl loops0 (h1:=[ub 0 n y,rb r]) (by simp) ?_ (.refl _)
    generalize (m:Int) = mm at *
    rw [(show iterR P18 G18 A18 noneO 0 78 [] 5 (v78 n a l mm i) [ub 0 n y,rb r] =
(
 bif decide (Int.ofNat i<=IntKind.i64.wrap (IntKind.i64.wrap (Int.ofNat a+IntKind.i64.wrap (IntKind.i64.wrap ((Int.ofNat l).tdiv 4) * (2:Int)))+(1:Int))) then none else
 some ((.exit 0,[],[ub (0:Nat) n y,rb r]))) from by kernel_rfl)]
    rw [eq0,e2,p2,p3]
    refine BF ?_
    rfl
  ·rintro e ⟨vs1,h1,⟨z,r2,rfl,rfl,rfl,hz⟩,hl⟩
   exact ⟨z,r2,hz,hl⟩
 obtain ⟨z,r2,hz,hl5⟩:=hL
 refine ⟨z,rb r2,hz,?_⟩
 have eL:IntKind.i64.wrap (Int.ofNat b - Int.ofNat a) = (l:Int):=by rw [ofNatE,ofNatE,wr64 (by omega) (by omega)]; omega
 generalize hmm:(m:Int) = mm at *
 generalize hii:a+2 * q - 1 = i at *
 refine stepR_told hm18 hn18 (K:=K78b p90 mm) (told_add none_ok (callF_told hp90)) (A:=A18) (m:=0) (by kernel_rfl) (loops1 hl5) ?_
 rw [(show stepR P18 G18 A18 (K78b p90 mm) 0 78 [(5,litS (v78 n a l mm i) [ub 0 n x,rb l] (.exit 0) [] [ub 0 n z,rb r2])] [.own 0 0 0 n none,.int .i64 a,.int .i64 b] [ub 0 n x] =
(
 bif decide (8<=IntKind.i64.wrap (Int.ofNat b - Int.ofNat a)) then
 bif decF (p90 [.int .i64 (IntKind.i64.wrap (Int.ofNat b - Int.ofNat a))] (.int .u64 mm)) then
 bif weakF [.own 0 0 0 n
 none,.int .i64 (.ofNat a),.int .i64 (IntKind.i64.wrap (Int.ofNat b - Int.ofNat a)),.ptr [ub (0:Nat) n x].length (0:Nat) (0:Nat) (0:Nat),.int .u64 mm,.int .i64 (IntKind.i64.wrap (IntKind.i64.wrap (Int.ofNat a+IntKind.i64.wrap (IntKind.i64.wrap ((IntKind.i64.wrap (Int.ofNat b - Int.ofNat a)).tdiv 4) * (2:Int))) - (1:Int)))] [ub (0:Nat) n x,.mk 0 1 1 (fun e=>[.int .u64 (bif e==(0:Nat) then IntKind.u64.wrap (IntKind.i64.wrap (Int.ofNat b - Int.ofNat a))
 else (0:Int))]) true false
 none] (v78 n a l mm (Int.ofNat i)) [ub (0:Nat) n x,rb (Int.ofNat l)] then
 some ((.tup [],[ub (0:Nat) n z,rb r2]))
 else none else none else
 some ((.tup [],[ub (0:Nat) n x]))) from by kernel_rfl)]
 rw [eL]
 refine BT ?_
 refine bift (callF_yes hp90 t90) ?_
 rw [← ofNatE l,eq0,e2,p2,p4]
 refine bift (weakF_of ⟨rfl,.cons ⟨rfl,rfl,rfl,id,fun _ _=>rfl⟩ (.cons ⟨rfl,rfl,rfl,id,fun j hj=>?_⟩ .nil)⟩) ?_
 ·obtain rfl:=one_of hj
  show [T.int .u64 (l:Int)] = [T.int .u64 (IntKind.u64.wrap (Int.ofNat l))]
  rw [ofNatE,wru64 (by omega) (by omega)]
 ·rfl
end Go.Ab

