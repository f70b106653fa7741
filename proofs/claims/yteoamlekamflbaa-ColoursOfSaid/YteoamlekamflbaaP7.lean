/- A part of the proof: nothing is assumed. -/
import Derived.Test.YteoamlekamflbaaP5
import Derived.Test.YteoamlekamflbaaP6
set_option linter.all false
namespace Go.Ab
open Go.Proofs
def rowV (r:Nat->Int) (n:Nat) (c:Option Nat):T:=.view 1 n (fun j=>[.int .u8 (r j)]) c
def srch (r:Nat->Int) (y:Int):Nat->Nat->Nat
 | 0,j=>j
 | m+1,j=>if r j = y then j else srch r y m (j+1)
def nearF (r:Nat->Int) (n i:Nat) (e:Int):Int:=if srch r e (n - i) i<n then (srch r e (n - i) i:Int)+1 else 0
def nxtF (r:Nat->Int) (n i:Nat):Int:=nearF r n (i+1) (r i) - 1
def v44 (l:Nat) (r:Nat->Int) (n:Nat) (c:Option Nat) (i:Int):List T:=[.yld l,.vp [rowV r n c],.ptr 0 0 0 0,.own 1 0 0 n (some n),.int .i64 i]
def h44 (n:Nat) (near nx:Nat->Int):Heap:=[⟨0,1,256,fun e=>[.int .i64 (near e)],true,false,none⟩,⟨0,1,n,fun e=>[.int .i64 (nx e)],true,false,none⟩]
def nearS (r:Nat->Int) (n i:Nat) (e:Nat):Int:=nearF r n i e
def nxS (r:Nat->Int) (n i:Nat) (e:Nat):Int:=if i<=e then nxtF r n e else 0
theorem srch_ge (r:Nat->Int) (y:Int):∀ m j,j<=srch r y m j/\srch r y m j<=j+m:=by
 intro m
 induction m with
 | zero=>intro j; exact ⟨Nat.le_refl _,Nat.le_refl _⟩
 | succ m ih =>
  intro j
  have:=ih (j+1)
  unfold srch
  split
  ·omega
  ·omega
theorem nearF_bd (r:Nat->Int) (n i:Nat) (e:Int) (hi:i<=n):0<=nearF r n i e/\nearF r n i e<=n:=by
 have:=srch_ge r e (n - i) i
 unfold nearF
 split <;> omega
theorem nearF_step (r:Nat->Int) (n i:Nat) (e:Int) (hi:i<n):nearF r n i e = if r i = e then (i:Int)+1 else nearF r n (i+1) e:=by
 unfold nearF
 rw [show n - i = (n - (i+1))+1 by omega,srch]
 by_cases q:r i = e
 ·rw [if_pos q,if_pos hi,if_pos q]
 ·rw [if_neg q,if_neg q]
theorem nearF_end (r:Nat->Int) (n:Nat) (e:Int):nearF r n n e = 0:=by
 unfold nearF
 rw [Nat.sub_self]
 unfold srch
 rw [if_neg (Nat.lt_irrefl _)]
theorem h44_same {n:Nat} {a b a2 b2:Nat->Int} (h1:∀ j,j<256->a j = a2 j) (h2:∀ j,j<n->b j = b2 j):SameBlks (h44 n a b) (h44 n a2 b2) :=
 .cons ⟨rfl,rfl,rfl,id,fun j hj=>by show [T.int .i64 (a2 j)] = [.int .i64 (a j)]; rw [h1 j hj]⟩ (.cons ⟨rfl,rfl,rfl,id,fun j hj=>by show [T.int .i64 (b2 j)] = [.int .i64 (b j)]; rw [h2 j hj]⟩ .nil)
theorem l44a (l:Nat) (r:Nat->Int) (n:Nat) (c:Option Nat) (hn:n<=1000) (hr:∀ j,j<n->0<=r j/\r j<256) :
 LoopOk P18 G18 (A18 44) 44 3 (litS (v44 l r n c ((n:Int) - 1)) (h44 n (nearS r n n) (nxS r n n)) (.exit 0) [.yld l,.vp [rowV r n c],.own 1 0 0 n (some n)] (h44 n (nearS r n 0) (nxS r n 0))):=by
 rw [show (n:Int) - 1 = (n:Int) - 1 - ((0:Nat):Int) by omega]
 refine loop_steps hm18 (by kernel_rfl) (fun k=>v44 l r n c ((n:Int) - 1 - k)) (fun k=>h44 n (nearS r n (n - k)) (nxS r n (n - k))) (n:=n) (fun k hk=>?_) ?_
 ·obtain ⟨i,rfl⟩:∃ i,n = i+1+k:=⟨n - 1 - k,by omega⟩
  rw [show ((i+1+k:Nat):Int) - 1 - (k:Int) = (i:Int) by omega,show ((i+1+k:Nat):Int) - 1 - ((k+1:Nat):Int) = (i:Int) - 1 by omega,show i+1+k - k = i+1 by omega,show i+1+k - (k+1) = i by omega]
  generalize hn':i+1+k = n at *
  have hi:i<n:=by omega
  have h1:=hr i hi
  have hnb:=nearF_bd r n (i+1) (r i) (by omega)
  have e1:((r i).toNat:Int) = r i:=by omega
  have hnb2:nearS r n (i+1) (r i).toNat = nearF r n (i+1) (r i):=by unfold nearS; rw [e1]
  refine Step.mk0 (A:=A18) (m:=0) none_ok rfl rfl loops0 (h1:=h44 n (fun e=>bif e==(r i).toNat then (i:Int)+1 else nearS r n (i+1) e) (fun e=>bif e==i then nearF r n (i+1) (r i) - 1 else nxS r n (i+1) e)) ?_ (h44_same (fun j hj=>?_) fun j hj=>?_)
  ·generalize nearS r n (i+1) = near at *
   generalize nxS r n (i+1) = nx at *
   refine Eq.trans (show iterR P18 G18 A18 noneO 0 44 [] 3 (v44 l r n c i) (h44 n near nx) =
(
 bif decide (0<=Int.ofNat i)&&decide (Int.ofNat i<Int.ofNat n) then
 bif decide (0<=r i)&&decide (r i<256) then
 bif ((0:Nat)+(r i).toNat).blt 256 then
 bif decide (0<=Int.ofNat i)&&decide (Int.ofNat i<Int.ofNat n) then
 bif ((0:Nat)+i).blt n&&[T.int .i64 (IntKind.i64.wrap (near ((0:Nat)+(r i).toNat) - (1:Int)))].length==(1:Nat)&&true&&true then
 bif decide (0<=Int.ofNat i)&&decide (Int.ofNat i<Int.ofNat n) then
 bif decide (0<=r i)&&decide (r i<256) then
 bif ((0:Nat)+(r i).toNat).blt 256&&[T.int .i64 (IntKind.i64.wrap (Int.ofNat i+(1:Int)))].length==(1:Nat)&&true&&true then
 some ((.normal,[T.yld l,.vp [rowV r n c],.ptr 0 0 0 0,.own 1 0 0 n (some n),.int .i64 (IntKind.i64.wrap (Int.ofNat i - 1))],[.mk 0 1 256 (fun e=>[.int .i64 (bif e==(0:Nat)+(r i).toNat then IntKind.i64.wrap (Int.ofNat i+1)
 else near e)]) true false
 none,.mk 0 1 n (fun e=>[.int .i64 (bif e==0+i then IntKind.i64.wrap (near ((0:Nat)+(r i).toNat) - (1:Int))
 else nx e)]) true false
 none]))
 else none else none else none else none else none else none else none else
 none) from by kernel_rfl) ?_
   rw [Nat.zero_add,Nat.zero_add,hnb2]
   (repeat (first | refine BT ?_ | refine BG ?_))
   rw [ofNatE,wr64 (x:=(i:Int) - 1) (by omega) (by omega),wr64 (x:=(i:Int)+1) (by omega) (by omega),wr64 (x:=nearF r n (i+1) (r i) - 1) (by omega) (by omega)]
   rfl
  ·have hs:=nearF_step r n i j hi
   show _ = nearS r n i j
   unfold nearS
   rw [hs]
   by_cases q:j = (r i).toNat
   ·subst q
    rw [beq_self_eq_true,cond_true,if_pos e1.symm]
   ·rw [show (j==(r i).toNat) = false by simpa using q,cond_false,if_neg (by omega)]
  ·show _ = nxS r n i j
   unfold nxS
   by_cases q:j = i
   ·subst q
    rw [beq_self_eq_true,cond_true,if_pos (Nat.le_refl _)]; rfl
   ·rw [show (j==i) = false by simpa using q,cond_false]
    by_cases q2:i+1<=j
    ·rw [if_pos q2,if_pos (by omega)]
    ·rw [if_neg q2,if_neg (by omega)]
 ·rw [show (n:Int) - 1 - (n:Int) = -1 by omega,Nat.sub_self]
  refine Last.mk0 (A:=A18) (m:=0) none_ok rfl rfl loops0 (h1:=h44 n (nearS r n 0) (nxS r n 0)) (by simp) ?_ (.refl _)
  generalize nearS r n 0 = near
  generalize nxS r n 0 = nx
  refine Eq.trans (show iterR P18 G18 A18 noneO 0 44 [] 3 (v44 l r n c (-1)) (h44 n near nx) =
(
 some ((.exit 0,[T.yld l,.vp [rowV r n c],.own 1 0 0 n (some n)],[.mk 0 1 256 (fun e=>[.int .i64 (near e)]) true false
 none,.mk 0 1 n (fun e=>[.int .i64 (nx e)]) true false
 none]))) from by kernel_rfl) ?_
  first | rfl | (simp (disch:=omega) only [wr64,wr8,wr16,wr32,ofNatE,Nat.zero_add,bleT,bltT,dT,dF,Bool.true_and,Bool.and_true,Bool.and_self,cond_true,cond_false,Nat.sub_zero,beq_self_eq_true]; done) | (simp (disch:=omega) only [wr64,wr8,wr16,wr32,ofNatE,Nat.zero_add,bleT,bltT,dT,dF,Bool.true_and,Bool.and_true,Bool.and_self,cond_true,cond_false,Nat.sub_zero,beq_self_eq_true]; rfl)
open Go.Proofs
def fl (r:Nat->Int) (n m:Nat):List Nat:=(List.range m).filter fun k=>decide ((k:Int)+1<nxtF r n k)
def fcells (r:Nat->Int) (n k:Nat):List T:=[.int .u8 (r k),.int .i64 ((k:Int)+1),.int .i64 (nxtF r n k - k - 1)]
def vs44 (l:Nat) (r:Nat->Int) (n:Nat) (c:Option Nat) (k:Int):List T:=[.yld l,.vp [rowV r n c],.own 1 0 0 n (some n),.int .i64 n,.int .i64 k]
theorem fl_succ (r:Nat->Int) (n k:Nat):fl r n (k+1) = if (k:Int)+1<nxtF r n k then fl r n k ++ [k] else fl r n k:=by
 unfold fl
 rw [List.range_succ,List.filter_append]
 by_cases h:(k:Int)+1<nxtF r n k
 ·rw [if_pos h]; simp [h]
 ·rw [if_neg h]; simp [h]
theorem fl_get (r:Nat->Int) (n:Nat) {k m:Nat} (h:k<m) (hk:(k:Int)+1<nxtF r n k):(fl r n m).getD (fl r n k).length 0 = k/\(fl r n k).length<(fl r n m).length:=by
 have key:∀ n2,k<n2->(fl r n n2)[(fl r n k).length]? = some k:=by
  intro n2
  induction n2 with
  | zero=>intro h; omega
  | succ n2 ih =>
   intro hn
   rw [fl_succ]
   rcases Nat.lt_or_ge k n2 with q | q
   ·have:=ih q
    split
    ·rw [List.getElem?_append_left (lt_of_get this)]; exact this
    ·exact this
   ·obtain rfl:k = n2:=by omega
    rw [if_pos hk,List.getElem?_append_right (Nat.le_refl _),Nat.sub_self]; rfl
 have:=key m h
 exact ⟨by rw [List.getD_eq_getElem?_getD,this]; rfl,lt_of_get this⟩
theorem seq44 (r:Nat->Int) (n:Nat) (c:Option Nat) (hn:n<=1000) (hr:∀ j,j<n->0<=r j/\r j<256):SeqTold P18 G18 44 [.vp [rowV r n c]] (fl r n n).length (fun i=>[.agg (fcells r n ((fl r n n).getD i 0))]):=by
 have h44a:=fun l=>l44a l r n c hn hr
 have hnb:∀ k,k<n->-1<=nxtF r n k/\nxtF r n k<n:=fun k hk=>by
  have:=nearF_bd r n (k+1) (r k) (by omega)
  unfold nxtF; omega
 have hnx:∀ k,nxS r n 0 k = nxtF r n k:=fun k=>by unfold nxS; rw [if_pos (Nat.zero_le _)]
 generalize nearS r n 0 = near at h44a
 have hnear0:nearS r n n = fun _=>0:=by funext e; unfold nearS; rw [nearF_end]
 have hnx0:SameBlks (h44 n (nearS r n n) (fun _=>0)) (h44 n (nearS r n n) (nxS r n n)):=h44_same (fun _ _=>rfl) fun j hj=>by unfold nxS; rw [if_neg (by omega)]
 rw [hnear0] at h44a hnx0
 generalize nxS r n 0 = nx at h44a hnx
 generalize nxS r n n = nx0 at h44a hnx0
 refine seq_told (prom:=[]) Try.func44 rfl (by kernel_rfl) (by kernel_rfl) (by decide +kernel) (Nat.le_of_ble_eq_true (by kernel_rfl)) fun l R J Jx hJ hJx hy X g w W hi=>?_
 refine wpIn_seq ?_
 refine It.exk (m:=0) (l:=[0,1]) (vs:=[.yld l,.vp [rowV r n c]]) (h:=[]) (l':=[0,1,3]) (vs':=[.yld l,.vp [rowV r n c],.ptr 0 0 0 0]) (h':=[⟨0,1,256,fun _=>[.int .i64 0],true,false,none⟩]) (e:=.normal) hm18 none_ok (by decide +kernel) (by kernel_rfl) (by kernel_rfl) (hJ 0) (hi.only _) fun X1 g1 a1 W1 hi1=>?_
 refine wpIn_seq ?_
 refine It.exk (m:=0) (l:=[0,1,3]) (vs:=[.yld l,.vp [rowV r n c],.ptr 0 0 0 0]) (l':=[0,1,3,4]) (vs':=[.yld l,.vp [rowV r n c],.ptr 0 0 0 0,.own 1 0 0 n (some n)]) (h':=h44 n (fun _=>0) (fun _=>0)) (e:=.normal) hm18 none_ok (by decide +kernel) ?_ (by kernel_rfl) (hJ 0) hi1 fun X2 g2 a2 W2 hi2=>?_
 ·refine Eq.trans (b:=bif decide ((0:Int)<=Int.ofNat n)&&decide (Int.ofNat n<=Int.ofNat n)&&decide (Int.ofNat n * (8:Int)<=(140737488355328:Int))&&decide (Int.ofNat n<=(9223372036854775807:Int)) then some (.normal,[.yld l,.vp [rowV r n c],.ptr 0 0 0 0,.own 1 0 0 n (some n)],h44 n (fun _=>0) (fun _=>0)) else none) (by kernel_rfl) ?_
  exact BT rfl
 refine wpIn_seq ?_
 refine It.exl' (A:=A18) (m:=0) (f:=44) hm18 none_ok Try.func44 rfl (Nat.le_of_ble_eq_true (by kernel_rfl)) (by kernel_rfl) (loops1 (h44a l)) (fun c=>sq1 (sq2 (sq2 c))) (by kernel_rfl) (fun b hb=>loops_sq2 _ _ (loops_sq2 _ _ (loops_sq1 _ _ hb))) (by kernel_rfl) (l:=[0,1,3,4]) (l':=[0,1,4]) (vs:=[.yld l,.vp [rowV r n c],.ptr 0 0 0 0,.own 1 0 0 n (some n)]) (h:=h44 n (fun _=>0) (fun _=>0))
  (vs':=[.yld l,.vp [rowV r n c],.own 1 0 0 n (some n)]) (h':=h44 n near nx) (e:=.normal) ?_ (by kernel_rfl) (hJ 0) hi2 fun X3 g3 a3 W3 hi3=>?_
 ·refine Eq.trans (show codeL P18 G18 A18 noneO 0 44 [(3,litS (v44 l r n c ((n:Int) - 1)) (h44 n (fun _=>0) nx0) (.exit 0) [.yld l,.vp [rowV r n c],.own 1 0 0 n (some n)] (h44 n near nx))] (fun c=>sq1 (sq2 (sq2 c))) [0,1,3,4] [.yld l,.vp [rowV r n c],.ptr 0 0 0 0,.own 1 0 0 n (some n)] (h44 n (fun _=>0) (fun _=>0)) [0,1,4] =
(
 bif weakF (v44 l r n c (IntKind.i64.wrap (Int.ofNat n - 1))) (h44 n (fun e=>(0:Int)) fun e=>(0:Int)) (v44 l r n c (Int.ofNat n - 1)) (h44 n (fun e=>(0:Int)) nx0) then
 some ((.normal,[T.yld l,.vp [rowV r n c],.own 1 0 0 n (some n)],h44 n near nx))
 else
 none) from by kernel_rfl) ?_
  rw [ofNatE,wr64 (x:=(n:Int) - 1) (by omega) (by omega)]
  exact bift (weakF_of ⟨rfl,hnx0⟩) rfl
 refine wpIn_seq ?_
 refine It.exk (m:=0) (l:=[0,1,4]) (vs:=[.yld l,.vp [rowV r n c],.own 1 0 0 n (some n)]) (l':=[0,1,35,36,37]) (vs':=vs44 l r n c 0) (h:=h44 n near nx) (h':=h44 n near nx) (e:=.normal) hm18 none_ok (by decide +kernel) (by kernel_rfl) (by kernel_rfl) (hJ 0) hi3 fun X4 g4 a4 W4 hi4=>?_
 refine wpIn_block ?_
 refine wpIn_loop_num (fun m a' W=>∃ (k:Nat) (X:Nat->Prop) (g:Gh),k<=n/\m = n - k/\It G18 [] Try.f44.ntmps R (J (fl r n k).length) X g (mkSt [0,1,35,36,37] (vs44 l r n c k) (h44 n near nx)) a' W) (fun m a' W hI=>?_) n a4 W4 ⟨0,X4,g4,by omega,by omega,hi4⟩
 obtain ⟨k,X5,g5,hkn,rfl,hi5⟩:=hI
 refine wpIn_seq ?_
 by_cases hlt:(k:Int)<(n:Int)
 ·have hkl:k<n:=by omega
  refine It.exk (m:=0) (l:=[0,1,35,36,37]) (vs:=vs44 l r n c k) (h:=h44 n near nx) (l':=[0,1,35,36,37,38]) (vs':=vs44 l r n c k ++ [.bool true]) (h':=h44 n near nx) (e:=.normal) hm18 none_ok (by decide +kernel) (Eq.trans (b:=bif decide ((k:Int)<n) then some (.normal,vs44 l r n c k ++ [.bool true],h44 n near nx) else some (.normal,vs44 l r n c k ++ [.bool false],h44 n near nx)) (by kernel_rfl) (by rw [decide_eq_true hlt]; rfl)) (by kernel_rfl) (hJ _) hi5 fun X6 g6 a6 W6 hi6=>?_
  refine wpIn_seq ?_
  refine It.exk (m:=0) (l:=[0,1,35,36,37,38]) (vs:=vs44 l r n c k ++ [.bool true]) (h:=h44 n near nx) (l':=[0,1,35,36,37]) (vs':=vs44 l r n c k) (h':=h44 n near nx) (e:=.normal) hm18 none_ok (by decide +kernel) (by kernel_rfl) (by kernel_rfl) (hJ _) hi6 fun X7 g7 a7 W7 hi7=>?_
  refine wpIn_seq ?_
  refine wpIn_block ?_
  refine wpIn_seq ?_
  refine It.exk (m:=0) (l:=[0,1,35,36,37]) (vs:=vs44 l r n c k) (h:=h44 n near nx) (l':=[0,1,6,7,35,36,37]) (vs':=[.yld l,.vp [rowV r n c],.int .i64 k,.int .i64 (nx k),.own 1 0 0 n (some n),.int .i64 n,.int .i64 k]) (h':=h44 n near nx) (e:=.normal) hm18 none_ok (by decide +kernel) ?_ (by kernel_rfl) (hJ _) hi7 fun X8 g8 a8 W8 hi8=>?_
  ·refine Eq.trans (b:=bif decide ((0:Int)<=Int.ofNat k)&&decide (Int.ofNat k<Int.ofNat n) then bif ((0:Nat)+k).blt n then some (.normal,[.yld l,.vp [rowV r n c],.int .i64 k,.int .i64 (nx (0+k)),.own 1 0 0 n (some n),.int .i64 n,.int .i64 k],h44 n near nx) else none else none) (by kernel_rfl) ?_
   rw [Nat.zero_add]
   (repeat (first | refine BT ?_ | refine BG ?_))
   rfl
  refine wpIn_seq ?_
  have hb:=hnb k hkl
  rw [← hnx k] at hb
  have ew1:IntKind.i64.wrap ((k:Int)+1) = (k:Int)+1:=wr64 (by omega) (by omega)
  have ew2:IntKind.i64.wrap (IntKind.i64.wrap (nx k - (k:Int)) - 1) = nx k - k - 1:=by rw [wr64 (x:=nx k - (k:Int)) (by omega) (by omega),wr64 (by omega) (by omega)]
  by_cases hab:(k:Int)+1<nx k
  ·have hab2:=hab
   rw [hnx k] at hab2
   obtain ⟨hget,hlen⟩:=fl_get r n (m:=n) hkl hab2
   refine It.yield (k:=17) (l:=[0,1,6,7,35,36,37]) (l':=[0,1,35,36,37,61]) (vs:=[.yld l,.vp [rowV r n c],.int .i64 k,.int .i64 (nx k),.own 1 0 0 n (some n),.int .i64 n,.int .i64 k]) (h:=h44 n near nx) (hT:=h44 n near nx) (hF:=h44 n near nx)
    (vsT:=vs44 l r n c k ++ [.bool false]) (vsF:=vs44 l r n c k ++ [.bool true]) none_ok (l0:=l) (xs:=[.agg (fcells r n k)]) ?_ ?_ (hJ _) (hJ ((fl r n k).length+1)) (hJx (fl r n k).length) hi8 (fun X W args hj hp=>hy (fl r n k).length X W args hlen hj (by rw [hget]; exact hp)) (fun X9 g9 a9 W9 hi9=>?_) (fun X9 g9 a9 W9 hi9=>?_)
   ·refine Eq.trans (b:=bif decide (IntKind.i64.wrap ((k:Int)+1)<nx k) then bif decide ((0:Int)<=(k:Int))&&decide ((k:Int)<n) then some (l,[.agg [.int .u8 (r k),.int .i64 (IntKind.i64.wrap ((k:Int)+1)),.int .i64 (IntKind.i64.wrap (IntKind.i64.wrap (nx k - (k:Int)) - 1))]],(vs44 l r n c k ++ [.bool false],h44 n near nx),(vs44 l r n c k ++ [.bool true],h44 n near nx)) else none else none) (by kernel_rfl) ?_
    rw [ew1,ew2]
    (repeat (first | refine BT ?_ | refine BG ?_))
    unfold fcells
    rw [← hnx k]
   ·rfl
   ·refine It.exk (m:=0) (l:=[0,1,35,36,37,61]) (vs:=vs44 l r n c k ++ [.bool false]) (h:=h44 n near nx) (l':=[0,1,35,36,37]) (vs':=vs44 l r n c k) (h':=h44 n near nx) (e:=.normal) hm18 none_ok (by decide +kernel) (by kernel_rfl) (by kernel_rfl) (hJ _) hi9 fun X10 g10 a10 W10 hi10=>?_
    refine It.exk (m:=0) (l:=[0,1,35,36,37]) (vs:=vs44 l r n c k) (h:=h44 n near nx) (l':=[0,1,35,36,37]) (vs':=vs44 l r n c (IntKind.i64.wrap ((k:Int)+1))) (h':=h44 n near nx) (e:=.normal) hm18 none_ok (by decide +kernel) (by kernel_rfl) (by kernel_rfl) (hJ _) hi10 fun X11 g11 a11 W11 hi11=>?_
    rw [ew1] at hi11
    have e1:(fl r n k).length+1 = (fl r n (k+1)).length:=by rw [fl_succ,if_pos hab2]; simp
    rw [e1] at hi11
    exact ⟨n - (k+1),by omega,k+1,X11,g11,by omega,rfl,hi11⟩
   ·refine It.exk (m:=0) (l:=[0,1,35,36,37,61]) (vs:=vs44 l r n c k ++ [.bool true]) (h:=h44 n near nx) (l':=[]) (vs':=[]) (h':=h44 n near nx) (e:=.ret) hm18 none_ok (by decide +kernel) (by kernel_rfl) (by kernel_rfl) (hJx _) hi9 fun X10 g10 a10 W10 hi10=>?_
    exact ⟨.inr rfl,X10,g10,_,.inr ⟨_,hlen,hi10⟩⟩
  ·refine It.exk (m:=0) (l:=[0,1,6,7,35,36,37]) (vs:=[.yld l,.vp [rowV r n c],.int .i64 k,.int .i64 (nx k),.own 1 0 0 n (some n),.int .i64 n,.int .i64 k]) (h:=h44 n near nx) (l':=[0,1,35,36,37,61]) (vs':=vs44 l r n c k ++ [.bool false]) (h':=h44 n near nx) (e:=.normal) hm18 none_ok (by decide +kernel) (Eq.trans (b:=bif decide (IntKind.i64.wrap ((k:Int)+1)<nx k) then bif decide ((0:Int)<=(k:Int))&&decide ((k:Int)<n) then none else none else some (.normal,vs44 l r n c k ++ [.bool false],h44 n near nx)) (by kernel_rfl) ?_) (by kernel_rfl) (hJ _) hi8 fun X9 g9 a9 W9 hi9=>?_
   ·rw [ew1,dF hab]; rfl
   ·refine It.exk (m:=0) (l:=[0,1,35,36,37,61]) (vs:=vs44 l r n c k ++ [.bool false]) (h:=h44 n near nx) (l':=[0,1,35,36,37]) (vs':=vs44 l r n c k) (h':=h44 n near nx) (e:=.normal) hm18 none_ok (by decide +kernel) (by kernel_rfl) (by kernel_rfl) (hJ _) hi9 fun X10 g10 a10 W10 hi10=>?_
    refine It.exk (m:=0) (l:=[0,1,35,36,37]) (vs:=vs44 l r n c k) (h:=h44 n near nx) (l':=[0,1,35,36,37]) (vs':=vs44 l r n c (IntKind.i64.wrap ((k:Int)+1))) (h':=h44 n near nx) (e:=.normal) hm18 none_ok (by decide +kernel) (by kernel_rfl) (by kernel_rfl) (hJ _) hi10 fun X11 g11 a11 W11 hi11=>?_
    rw [ew1] at hi11
    have e1:fl r n k = fl r n (k+1):=by rw [fl_succ,if_neg (by rw [← hnx k]; exact hab)]
    rw [e1] at hi11
    exact ⟨n - (k+1),by omega,k+1,X11,g11,by omega,rfl,hi11⟩
 ·obtain rfl:k = n:=by omega
  refine It.exk (m:=0) (l:=[0,1,35,36,37]) (vs:=vs44 l r k c k) (h:=h44 k near nx) (l':=[38]) (vs':=[.bool false]) (h':=h44 k near nx) (e:=.normal) hm18 none_ok (by decide +kernel) (Eq.trans (b:=bif decide ((k:Int)<(k:Int)) then some (.normal,[.bool true],h44 k near nx) else some (.normal,[.bool false],h44 k near nx)) (by kernel_rfl) (by rw [decide_eq_false hlt]; rfl)) (by kernel_rfl) (hJ _) hi5 fun X6 g6 a6 W6 hi6=>?_
  refine wpIn_seq ?_
  refine It.exk (m:=0) (l:=[38]) (vs:=[.bool false]) (h:=h44 k near nx) (l':=[]) (vs':=[]) (h':=h44 k near nx) (e:=.exit 2) hm18 none_ok (by decide +kernel) (by kernel_rfl) (by kernel_rfl) (hJ _) hi6 fun X7 g7 a7 W7 hi7=>?_
  exact ⟨.inl rfl,X7,g7,_,.inl hi7⟩
end Go.Ab

