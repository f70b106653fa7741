/- A part of the proof: nothing is assumed. -/
import Derived.Test.YthbieakinbpgkaaP15
import Derived.Test.YthbieakinbpgkaaP16
import Derived.Test.YthbieakinbpgkaaP5
import Derived.Test.YthbieakinbpgkaaP11
import Derived.Test.YthbieakinbpgkaaP12
set_option linter.all false
namespace Go.Ab
open Go.Proofs
def o33 (k n:Nat):T:=.own 0 0 0 k (some n)
def v33 (k n:Nat) (a l kn:Int):List T:=[o33 k n,.int .i64 a,.int .i64 l,.int .i64 kn]
def v33b (k n:Nat) (a l kn b:Int) (i:Nat):List T:=[o33 k n,.int .i64 a,.int .i64 l,.int .i64 kn,.int .i64 b,o33 k n,.int .i64 k,.int .i64 i]
def w33 (k n:Nat) (a l kn b:Int):List T:=[o33 k n,.int .i64 a,.int .i64 l,.int .i64 kn,.int .i64 b]
noncomputable def K33 (q:List T->Heap->T->Heap->Prop) (k n:Nat) (L2:Nat->Cne):Orc:=noneO.addRef 44 (refF q fun _ h=>some (o33 k n,h.set 0 (rowC 0 n L2)))
theorem k44 (k n b:Nat) (L:Nat->Cne):stepR P42 G42 A42 noneO 0 44 [] [.own 0 0 0 k (some n),.int .i64 b,.int .i64 (b+1:Nat)] [rowC 0 n L] =
(
 bif decide (0<=Int.ofNat b)&&decide (Int.ofNat b<=Int.ofNat (b+1))&&decide (Int.ofNat (b+1)<=Int.ofNat k)&&decide (Int.ofNat k<=Int.ofNat n) then
 bif decide (Int.ofNat b = Int.ofNat (b+1)) then
 some ((o33 k n,[rowC (0:Nat) n L]))
 else
 bif decide (0<=Int.ofNat b)&&decide (Int.ofNat b<=Int.ofNat n) then
 bif decide (0<=Int.ofNat (b+1))&&decide (Int.ofNat (b+1)<=Int.ofNat k)&&decide (Int.ofNat k<=Int.ofNat n) then
 bif ((0:Nat)+(b+(1:Nat))+(k - (b+(1:Nat)))).ble n then
 bif ((0:Nat)+b).ble n then
 bif k - (b+1)==(0:Nat) then
 bif decide (0<=Int.ofNat b)&&decide (Int.ofNat b<=Int.ofNat k)&&decide (Int.ofNat k<=Int.ofNat n) then
 bif ((0:Nat)+b+(k - b)).ble n then
 some ((o33 b n,[.mk 0 2 n (fun j =>
 bif ((0:Nat)+b).ble j&&j.blt (0+b+(k - b)) then [.int .i64 0,.int .i64 0]
 else (L j).c) true false
 none]))
 else none else none else
 bif ((b+(k - (b+(1:Nat)))) * (17:Nat)).ble 70368744177664 then
 bif (b+(k - (b+(1:Nat)))).ble n then
 bif ((0:Nat)+b+(k - (b+(1:Nat)))).ble n then
 bif decide (0<=Int.ofNat (b+(k - (b+1))))&&decide (Int.ofNat (b+(k - (b+1)))<=Int.ofNat k)&&decide (Int.ofNat k<=Int.ofNat n) then
 bif ((0:Nat)+(b+(k - (b+(1:Nat))))+(k - (b+(k - (b+(1:Nat)))))).ble n then
 some ((o33 (b+(k - (b+1))) n,[.mk 0 2 n (fun j =>
 bif ((0:Nat)+(b+(k - (b+(1:Nat))))).ble j&&j.blt ((0:Nat)+(b+(k - (b+1)))+(k - (b+(k - (b+1))))) then [.int .i64 0,.int .i64 0]
 else
 bif ((0:Nat)+b).ble j&&j.blt (0+b+(k - (b+1))) then (L ((0:Nat)+(b+(1:Nat))+(j - ((0:Nat)+b)))).c
 else (L j).c) true false
 none]))
 else none else none else none else
 bif decide (0<=Int.ofNat (b+(k - (b+1))))&&decide (Int.ofNat (b+(k - (b+1)))<=Int.ofNat k)&&decide (Int.ofNat k<=Int.ofNat (b+(k - (b+1)))) then
 bif ((0:Nat)+(b+(k - (b+(1:Nat))))+(k - (b+(k - (b+(1:Nat)))))).ble (b+(k - (b+1))) then
 some ((.own 1 0 0 (b+(k - (b+1)))
 none,[rowC (0:Nat) n L,.mk 0 2 (b+(k - (b+1))) (fun j =>
 bif ((0:Nat)+(b+(k - (b+(1:Nat))))).ble j&&j.blt ((0:Nat)+(b+(k - (b+1)))+(k - (b+(k - (b+1))))) then [.int .i64 0,.int .i64 0]
 else
 bif j.blt b then (L ((0:Nat)+j)).c
 else (L ((0:Nat)+(b+(1:Nat))+(j - b))).c) true false
 none]))
 else none else none else none else none else none else none else none else
 none):=by kernel_rfl
theorem i33b (k n:Nat) (a l kn:Int) (i b:Nat) (L:Nat->Cne) (X:Blk):iterR P42 G42 A42 noneO 0 33 [] 5 (v33b k n a l kn b i) [rowC 0 n L,X] =
(
 bif decide (Int.ofNat i<Int.ofNat k) then
 bif decide (0<=Int.ofNat i)&&decide (Int.ofNat i<Int.ofNat k) then
 bif ((0:Nat)+i).blt n then
 bif decide ((L ((0:Nat)+i)).a = a) then
 bif decide (0<=Int.ofNat b)&&decide (Int.ofNat b<Int.ofNat k) then
 bif ((0:Nat)+b).blt n then
 bif decide ((L ((0:Nat)+i)).l<(L ((0:Nat)+b)).l) then
 some ((.normal,[o33 k n,.int .i64 a,.int .i64 l,.int .i64 kn,.int .i64 (.ofNat i),o33 k n,.int .i64 (.ofNat k),.int .i64 (IntKind.i64.wrap (Int.ofNat i+1))],[rowC (0:Nat) n L,X]))
 else
 some ((.normal,[o33 k n,.int .i64 a,.int .i64 l,.int .i64 kn,.int .i64 (.ofNat b),o33 k n,.int .i64 (.ofNat k),.int .i64 (IntKind.i64.wrap (Int.ofNat i+1))],[rowC (0:Nat) n L,X]))
 else none else none else
 some ((.normal,[o33 k n,.int .i64 a,.int .i64 l,.int .i64 kn,.int .i64 (.ofNat b),o33 k n,.int .i64 (.ofNat k),.int .i64 (IntKind.i64.wrap (Int.ofNat i+1))],[rowC (0:Nat) n L,X]))
 else none else none else
 some ((.exit 2,w33 k n a l kn (Int.ofNat b),[rowC (0:Nat) n L,X]))):=by kernel_rfl
theorem i33c (k n:Nat) (a l kn:Int) (i:Nat) (L:Nat->Cne) (X:Blk):iterR P42 G42 A42 noneO 0 33 [] 5 (v33b k n a l kn (-1) i) [rowC 0 n L,X] =
(
 bif decide (Int.ofNat i<Int.ofNat k) then
 bif decide (0<=Int.ofNat i)&&decide (Int.ofNat i<Int.ofNat k) then
 bif ((0:Nat)+i).blt n then
 bif decide ((L ((0:Nat)+i)).a = a) then
 some ((.normal,[o33 k n,.int .i64 a,.int .i64 l,.int .i64 kn,.int .i64 (.ofNat i),o33 k n,.int .i64 (.ofNat k),.int .i64 (IntKind.i64.wrap (Int.ofNat i+1))],[rowC (0:Nat) n L,X]))
 else
 some ((.normal,[o33 k n,.int .i64 a,.int .i64 l,.int .i64 kn,.int .i64 (-1:Int),o33 k n,.int .i64 (.ofNat k),.int .i64 (IntKind.i64.wrap (Int.ofNat i+1))],[rowC (0:Nat) n L,X]))
 else none else none else
 some ((.exit 2,w33 k n a l kn (-1:Int),[rowC (0:Nat) n L,X]))):=by kernel_rfl
theorem i33a (k n k2:Nat) (a l kn:Int) (b:Nat) (L L2:Nat->Cne) (q:List T->Heap->T->Heap->Prop) (X:Blk):iterR P42 G42 A42 (K33 q k2 n L2) 0 33 [(5,litS (v33b k n a l kn (-1) 0) [rowC 0 n L,X] (.exit 2) (w33 k n a l kn b) [rowC 0 n L,X])] 2 (v33 k n a l kn) [rowC 0 n L,X] =
(
 bif decide (0<l) then
 bif weakF (v33b k n a l kn (-1:Int) (nat_lit 0)) [rowC (0:Nat) n L,X] (v33b k n a l kn (-1:Int) (nat_lit 0)) [rowC (0:Nat) n L,X] then
 bif decide (0<=Int.ofNat b)&&decide (Int.ofNat b<Int.ofNat k) then
 bif ((0:Nat)+b).blt n then
 bif decide (0<=Int.ofNat b)&&decide (Int.ofNat b<Int.ofNat k) then
 bif ((0:Nat)+b).blt n then
 bif decide (0<=Int.ofNat b)&&decide (Int.ofNat b<Int.ofNat k) then
 bif ((0:Nat)+b).blt n&&true&&true&&true then
 bif decide (0<=Int.ofNat b)&&decide (Int.ofNat b<Int.ofNat k) then
 bif ((0:Nat)+b).blt n then
 bif decide ((bif 0+b==0+b then IntKind.i64.wrap ((L ((0:Nat)+b)).l -
 bif decide ((L ((0:Nat)+b)).l<l) then (L ((0:Nat)+b)).l
 else l)
 else (L ((0:Nat)+b)).l) = (0:Int)) then
 bif decF (q [o33 k n,.int .i64 (.ofNat b),.int .i64 (IntKind.i64.wrap (Int.ofNat b+1))] [.mk 0 2 n (fun e=>[.int .i64 (bif e==0+b then (L ((0:Nat)+b)).a
 else (L e).a),.int .i64 (bif e==0+b then IntKind.i64.wrap ((L ((0:Nat)+b)).l -
 bif decide ((L ((0:Nat)+b)).l<l) then (L ((0:Nat)+b)).l
 else l)
 else (L e).l)]) true false
 none,X] (o33 k2 n) [rowC (0:Nat) n L2,X]) then
 some ((.normal,v33 k2 n a (IntKind.i64.wrap (l -
 bif decide ((L ((0:Nat)+b)).l<l) then (L ((0:Nat)+b)).l
 else l)) (IntKind.i64.wrap (kn+1)),[rowC (0:Nat) n L2,X]))
 else none else
 some ((.normal,v33 k n a (IntKind.i64.wrap (l -
 bif decide ((L ((0:Nat)+b)).l<l) then (L ((0:Nat)+b)).l
 else l)) (IntKind.i64.wrap (kn+1)),[.mk 0 2 n (fun e=>[.int .i64 (bif e==0+b then (L ((0:Nat)+b)).a
 else (L e).a),.int .i64 (bif e==0+b then IntKind.i64.wrap ((L ((0:Nat)+b)).l -
 bif decide ((L ((0:Nat)+b)).l<l) then (L ((0:Nat)+b)).l
 else l)
 else (L e).l)]) true false
 none,X]))
 else none else none else none else none else none else none else none else none else none else
 some ((.exit 0,[o33 k n,.int .i64 kn],[rowC (0:Nat) n L,X]))):=by kernel_rfl
theorem i33z (k n:Nat) (a l kn:Int) (L:Nat->Cne) (X:Blk):iterR P42 G42 A42 noneO 0 33 [(5,litS (v33b k n a l kn (-1) 0) [rowC 0 n L,X] (.exit 2) (w33 k n a l kn (-1)) [rowC 0 n L,X])] 2 (v33 k n a l kn) [rowC 0 n L,X] =
(
 bif decide (0<l) then
 bif weakF (v33b k n a l kn (-1:Int) (nat_lit 0)) [rowC (0:Nat) n L,X] (v33b k n a l kn (-1:Int) (nat_lit 0)) [rowC (0:Nat) n L,X] then
 some ((.exit 0,[o33 k n,.int .i64 kn],[rowC (0:Nat) n L,X]))
 else none else
 some ((.exit 0,[o33 k n,.int .i64 kn],[rowC (0:Nat) n L,X]))):=by kernel_rfl
theorem k33 (k n k2:Nat) (a l kn:Int) (L L2:Nat->Cne) (X:Blk):stepR P42 G42 A42 noneO 0 33 [(2,litS (v33 k n a l (-1)) [rowC 0 n L,X] (.exit 0) [o33 k2 n,.int .i64 kn] [rowC 0 n L2,X])] [o33 k n,.int .i64 a,.int .i64 l] [rowC 0 n L,X] =
(
 bif weakF (v33 k n a l (-1:Int)) [rowC (0:Nat) n L,X] (v33 k n a l (-1:Int)) [rowC (0:Nat) n L,X] then
 some ((.tup [o33 k2 n,.int .i64 kn],[rowC (0:Nat) n L2,X]))
 else
 none):=by kernel_rfl
theorem bleD (a b:Nat):Nat.ble a b = decide (a<=b):=by
 by_cases h:a<=b
 ·rw [bleT h,decide_eq_true h]
 ·rw [bleF (by omega),decide_eq_false h]
theorem bltD (a b:Nat):Nat.blt a b = decide (a<b):=bleD (a+1) b
theorem erase_getD {α:Type} (L:List α) (b j:Nat) (d:α):(L.eraseIdx b).getD j d = if j<b then L.getD j d else L.getD (j+1) d:=by
 simp only [List.getD_eq_getElem?_getD,List.getElem?_eraseIdx]
 split <;> rfl
theorem getD_out {α:Type} {L:List α} {j:Nat} (h:L.length<=j) (d:α):L.getD j d = d:=by
 rw [List.getD_eq_getElem?_getD,List.getElem?_eq_none h]; rfl
theorem delR (L:List Cne) (n b:Nat) (hb:b<L.length) (hn:L.length<=n) (h9:n<=900000):ToldRef P42 G42 44 [o33 L.length n,.int .i64 b,.int .i64 (b+1:Nat)] [rowC 0 n (lstC L)] (o33 (L.length - 1) n) [rowC 0 n (lstC (L.eraseIdx b))]:=by
 by_cases q:L.length - (b+1) = 0
 ·have e1:L.length - 1 = b:=by omega
  rw [e1]
  have t:ToldRef P42 G42 44 [o33 L.length n,.int .i64 b,.int .i64 (b+1:Nat)] [rowC 0 n (lstC L)] (o33 b n) [⟨0,2,n,fun j=>bif Nat.ble (0+b) j&&Nat.blt j (0+b+(L.length - b)) then [.int .i64 0,.int .i64 0] else (lstC L j).c,true,false,none⟩] :=
   stepR_told hm42 hn42 none_ok (A:=A42) (m:=0) (K:=noneO) (l:=[]) (by kernel_rfl) loops0 ((k44 L.length n b (lstC L)).trans (BT (BF (BT (BT (BT (BT (bift (by rw [q]; rfl) (BT (BT rfl))))))))))
  refine t.res (.cons ⟨rfl,rfl,rfl,id,fun j hj=>?_⟩ .nil)
  show (lstC (L.eraseIdx b) j).c = _
  simp only [bleD,bltD,lstC,erase_getD]
  by_cases c:j<b
  ·rw [if_pos c,show (decide (0+b<=j)&&decide (j<0+b+(L.length - b))) = false by simp; omega]
   rfl
  ·rw [if_neg c,getD_out (by omega)]
   by_cases c2:j<L.length
   ·rw [show (decide (0+b<=j)&&decide (j<0+b+(L.length - b))) = true by simp; omega]
    rfl
   ·rw [show (decide (0+b<=j)&&decide (j<0+b+(L.length - b))) = false by simp; omega]
    simp only [cond_false]
    rw [getD_out (by omega)]
 ·have e1:b+(L.length - (b+1)) = L.length - 1:=by omega
  rw [← e1]
  have t:ToldRef P42 G42 44 [o33 L.length n,.int .i64 b,.int .i64 (b+1:Nat)] [rowC 0 n (lstC L)] (o33 (b+(L.length - (b+1))) n) [⟨0,2,n,fun j=>bif Nat.ble (0+(b+(L.length - (b+1)))) j&&Nat.blt j (0+(b+(L.length - (b+1)))+(L.length - (b+(L.length - (b+1))))) then [.int .i64 0,.int .i64 0] else bif Nat.ble (0+b) j&&Nat.blt j (0+b+(L.length - (b+1))) then (lstC L (0+(b+1)+(j - (0+b)))).c else (lstC L j).c,true,false,none⟩] :=
   stepR_told hm42 hn42 none_ok (A:=A42) (m:=0) (K:=noneO) (l:=[]) (by kernel_rfl) loops0 ((k44 L.length n b (lstC L)).trans (BT (BF (BT (BT (BT (BT (biff (by simpa using q) (BT (BT (BT (BT (BT rfl)))))))))))))
  refine t.res (.cons ⟨rfl,rfl,rfl,id,fun j hj=>?_⟩ .nil)
  show (lstC (L.eraseIdx b) j).c = _
  simp only [bleD,bltD,lstC,erase_getD]
  by_cases c:j<b
  ·rw [if_pos c,show (decide (0+(b+(L.length - (b+1)))<=j)&&decide (j<0+(b+(L.length - (b+1)))+(L.length - (b+(L.length - (b+1)))))) = false by simp; omega,show (decide (0+b<=j)&&decide (j<0+b+(L.length - (b+1)))) = false by simp; omega]
   rfl
  ·rw [if_neg c]
   by_cases c2:j<L.length - 1
   ·rw [show (decide (0+(b+(L.length - (b+1)))<=j)&&decide (j<0+(b+(L.length - (b+1)))+(L.length - (b+(L.length - (b+1)))))) = false by simp; omega,show (decide (0+b<=j)&&decide (j<0+b+(L.length - (b+1)))) = true by simp; omega]
    simp only [cond_true,cond_false]
    rw [show 0+(b+1)+(j - (0+b)) = j+1 by omega]
   ·rw [getD_out (by omega)]
    by_cases c3:j<L.length
    ·rw [show (decide (0+(b+(L.length - (b+1)))<=j)&&decide (j<0+(b+(L.length - (b+1)))+(L.length - (b+(L.length - (b+1)))))) = true by simp; omega]
     rfl
    ·rw [show (decide (0+(b+(L.length - (b+1)))<=j)&&decide (j<0+(b+(L.length - (b+1)))+(L.length - (b+(L.length - (b+1)))))) = false by simp; omega,show (decide (0+b<=j)&&decide (j<0+b+(L.length - (b+1)))) = false by simp; omega]
     simp only [cond_false]
     rw [getD_out (by omega)]
theorem delX (L:List Cne) (n b:Nat) (hb:b<L.length) (hn:L.length<=n) (h9:n<=900000) (X:Blk):ToldRef P42 G42 44 [o33 L.length n,.int .i64 b,.int .i64 (b+1:Nat)] [rowC 0 n (lstC L),X] (o33 (L.length - 1) n) [rowC 0 n (lstC (L.eraseIdx b)),X] :=
 ToldRef.frame (delR L n b hb hn h9) (h:=[rowC 0 n (lstC L),X]) (i:=0) (d:=0) rfl rfl rfl rfl rfl rfl rfl
open Go.Proofs
def lst (L:List Cne) (a:Int):Nat->Option Nat
 | 0=>none
 | i+1=>match lst L a i with
  | none=>if (L.getD i cn0).a = a then some i else none
  | some b=>if (L.getD i cn0).a = a/\(L.getD i cn0).l<(L.getD b cn0).l then some i else some b
theorem lst_lt (L:List Cne) (a:Int):∀ i b,lst L a i = some b->b<i
 | 0,b,h=>by cases h
 | i+1,b,h=>by
  have ih:=lst_lt L a i
  unfold lst at h
  cases h1:lst L a i with
  | none =>
   rw [h1] at h
   dsimp only at h
   split at h
   ·obtain rfl:=Option.some.inj h; omega
   ·cases h
  | some c =>
   rw [h1] at h
   dsimp only at h
   have:=ih c h1
   split at h
   ·obtain rfl:=Option.some.inj h; omega
   ·obtain rfl:=Option.some.inj h; omega
def bT:Option Nat->Int
 | none=>-1
 | some b=>(b:Int)
theorem loop33b (L:List Cne) (n:Nat) (a l kn:Int) (X:Blk) (hn:L.length<=n) (h9:n<=900000):LoopOk P42 G42 (A42 33) 33 5 (litS (v33b L.length n a l kn (-1) 0) [rowC 0 n (lstC L),X] (.exit 2) (w33 L.length n a l kn (bT (lst L a L.length))) [rowC 0 n (lstC L),X]):=by
 refine loop_steps hm42 (by kernel_rfl) (fun i=>v33b L.length n a l kn (bT (lst L a i)) i) (fun _=>[rowC 0 n (lstC L),X]) (n:=L.length) (fun i hi=>?_) ?_
 ·refine Step.mk0 (A:=A42) (m:=0) none_ok rfl rfl loops0 (h1:=[rowC 0 n (lstC L),X]) ?_ (.refl _)
  have hl:lstC L i = L.getD i cn0:=rfl
  simp only [lst]
  cases h1:lst L a i with
  | none =>
   show iterR P42 G42 A42 noneO 0 33 [] 5 (v33b L.length n a l kn (-1) i) [rowC 0 n (lstC L),X] = _
   rw [i33c,up1 (by omega)]
   simp only [Nat.zero_add]
   rw [hl]
   refine BT (BT (BT ?_))
   by_cases c:(L.getD i cn0).a = a
   ·rw [if_pos c]
    exact bift (by simpa using c) rfl
   ·rw [if_neg c]
    exact biff (by simpa using c) rfl
  | some b =>
   have hb:=lst_lt L a i b h1
   show iterR P42 G42 A42 noneO 0 33 [] 5 (v33b L.length n a l kn (b:Int) i) [rowC 0 n (lstC L),X] = _
   rw [i33b,up1 (by omega)]
   simp only [Nat.zero_add]
   rw [hl,show lstC L b = L.getD b cn0 from rfl]
   refine BT (BT (BT ?_))
   by_cases c:(L.getD i cn0).a = a
   ·refine bift (by simpa using c) (BT (BT ?_))
    by_cases c2:(L.getD i cn0).l<(L.getD b cn0).l
    ·rw [if_pos ⟨c,c2⟩]
     exact bift (by simpa using c2) rfl
    ·rw [if_neg fun q=>c2 q.2]
     exact biff (by simpa using c2) rfl
   ·rw [if_neg fun q=>c q.1]
    exact biff (by simpa using c) rfl
 ·refine Last.mk0 (A:=A42) (m:=0) none_ok rfl rfl loops0 (h1:=[rowC 0 n (lstC L),X]) (by simp) ?_ (.refl _)
  cases h1:lst L a L.length with
  | none =>
   show iterR P42 G42 A42 noneO 0 33 [] 5 (v33b L.length n a l kn (-1) L.length) [rowC 0 n (lstC L),X] = _
   rw [i33c]
   exact BF rfl
  | some b =>
   show iterR P42 G42 A42 noneO 0 33 [] 5 (v33b L.length n a l kn (b:Int) L.length) [rowC 0 n (lstC L),X] = _
   rw [i33b]
   exact BF rfl
inductive CutTo (a:Int):List Cne->Int->Int->List Cne->Int->Prop
 | done (L:List Cne) (l kn:Int) (h:¬ 0<l):CutTo a L l kn L kn
 | none (L:List Cne) (l kn:Int) (h:0<l) (hb:lst L a L.length = none):CutTo a L l kn L kn
 | cut (L:List Cne) (l kn:Int) (b:Nat) (L2:List Cne) (k2:Int) (h:0<l) (hb:lst L a L.length = some b) (hl:(L.getD b cn0).l<=l) (hr:CutTo a (L.eraseIdx b) (l - (L.getD b cn0).l) (kn+1) L2 k2):CutTo a L l kn L2 k2
 | part (L:List Cne) (l kn:Int) (b:Nat) (h:0<l) (hb:lst L a L.length = some b) (hl:l<(L.getD b cn0).l):CutTo a L l kn (L.set b ⟨(L.getD b cn0).a,(L.getD b cn0).l - l⟩) (kn+1)
theorem CutTo.zero {a:Int} {L:List Cne} {l kn:Int} {L2:List Cne} {k2:Int} (h:CutTo a L l kn L2 k2) (h0:¬ 0<l):L2 = L/\k2 = kn:=by
 cases h
 ·exact ⟨rfl,rfl⟩
 all_goals exact absurd (by assumption) h0
theorem mem_erase {α:Type} {L:List α} {b:Nat} {x:α} (h:x ∈ L.eraseIdx b):x ∈ L:=List.mem_of_mem_eraseIdx h
theorem cutR (L0:List Cne) (n:Nat) (a l0:Int) (X:Blk) (hn:L0.length<=n) (h9:n<=900000) (hl0:l0<=1000000000) (hv:∀ c,c ∈ L0->1<=c.l/\c.l<=1000000000):∃ L2 kn,CutTo a L0 l0 (-1) L2 kn/\L2.length<=L0.length ∧
 ToldRef P42 G42 33 [o33 L0.length n,.int .i64 a,.int .i64 l0] [rowC 0 n (lstC L0),X] (.tup [o33 L2.length n,.int .i64 kn]) [rowC 0 n (lstC L2),X]:=by
 obtain ⟨q,hq⟩:=is_ref P42 G42 44
 obtain ⟨e,vs1,h1,⟨L2,kn,hC,hlen,rfl,rfl,rfl⟩,hL⟩:=loop_exists hm42 (f:=33) (r:=2) (by kernel_rfl) (an:=A42 33) (k:=2)
  (fun m vs h=>∃ L l kn,vs = v33 L.length n a l kn/\h = [rowC 0 n (lstC L),X]/\m = l.toNat/\L.length<=L0.length/\l<=1000000000/\-1<=kn/\kn<=2000000/\(0<l->kn+L.length<=1000000)/\(∀ c,c ∈ L->1<=c.l/\c.l<=1000000000)/\∀ L2 k2,CutTo a L l kn L2 k2->CutTo a L0 l0 (-1) L2 k2)
  (fun e vs h=>∃ L2 kn,CutTo a L0 l0 (-1) L2 kn/\L2.length<=L0.length/\e = .exit 0/\vs = [o33 L2.length n,.int .i64 kn]/\h = [rowC 0 n (lstC L2),X])
  (fun m vs h hI=>by
   obtain ⟨L,l,kn,rfl,rfl,rfl,hLl,hl9,hk0,hk2,hk1,hLv,hto⟩:=hI
   have l1:=loop33b L n a l kn X (by omega) h9
   by_cases c:0<l
   ·have hk1:=hk1 c
    cases hb:lst L a L.length with
    | none =>
     rw [hb] at l1
     refine .inr ⟨.exit 0,_,_,Last.mk0 (A:=A42) (m:=0) none_ok rfl rfl (loops1 l1) (by simp) ((i33z L.length n a l kn (lstC L) X).trans (BT (bift (weakF_of ⟨rfl,.refl _⟩) rfl))) (.refl _),L,kn,hto _ _ (.none L l kn c hb),hLl,rfl,rfl,rfl⟩
    | some b =>
     rw [hb] at l1
     have hbl:=lst_lt L a _ b hb
     have hbm:=hLv _ (mem_getD hbl cn0)
     have ek:IntKind.i64.wrap (kn+1) = kn+1:=wr64 (by omega) (by omega)
     have eb:lstC L b = L.getD b cn0:=rfl
     generalize hx:L.getD b cn0 = x at *
     have same:∀ z:Int,SameBlks [⟨0,2,n,fun e=>[.int .i64 (bif e==b then x.a else (lstC L e).a),.int .i64 (bif e==b then z else (lstC L e).l)],true,false,none⟩,X] [rowC 0 n (lstC (L.set b ⟨x.a,z⟩)),X]:=fun z=>by
      refine .cons ⟨rfl,rfl,rfl,id,fun j hj=>?_⟩ (.refl _)
      show (lstC (L.set b ⟨x.a,z⟩) j).c = _
      by_cases c3:j = b
      ·subst c3
       have:lstC (L.set j ⟨x.a,z⟩) j = ⟨x.a,z⟩:=by simp [lstC,hbl]
       rw [this]
       simp [Cne.c]
      ·have:lstC (L.set b ⟨x.a,z⟩) j = lstC L j:=by
        simp only [lstC,List.getD_eq_getElem?_getD,List.getElem?_set_ne (fun h=>c3 h.symm)]
       rw [this]
       show _ = [T.int .i64 (bif j==b then x.a else (lstC L j).a),T.int .i64 (bif j==b then z else (lstC L j).l)]
       rw [show (j==b) = false by simp [c3]]
       rfl
     by_cases c2:x.l<=l
     ·have t:=delX (L.set b ⟨x.a,0⟩) n b (by simpa using hbl) (by rw [List.length_set]; omega) h9 X
      rw [List.length_set,List.eraseIdx_set_eq] at t
      have t:=t.same (same 0)
      have el:(L.eraseIdx b).length = L.length - 1:=List.length_eraseIdx_of_lt hbl
      have ep:(bif decide (x.l<l) then x.l else l) = x.l:=by
       by_cases c3:x.l<l
       ·rw [decide_eq_true c3]; rfl
       ·rw [decide_eq_false c3]
        show l = x.l
        omega
      refine .inl ⟨(l - x.l).toNat,v33 (L.eraseIdx b).length n a (l - x.l) (kn+1),[rowC 0 n (lstC (L.eraseIdx b)),X],by omega,Step.mk0 (A:=A42) (m:=0) (K:=K33 q (L.length - 1) n (lstC (L.eraseIdx b))) (told_addRef none_ok (refF_told hq)) rfl rfl (loops1 l1) (h1:=[rowC 0 n (lstC (L.eraseIdx b)),X]) ?_ (.refl _),L.eraseIdx b,l - x.l,kn+1,rfl,rfl,rfl,by omega,by omega,by omega,by omega,fun _=>by omega,fun c hc=>hLv c (mem_erase hc),fun L2 k2 h=>hto _ _ (.cut L l kn b L2 k2 c hb (by rw [hx]; exact c2) (by rw [hx]; exact h))⟩
      refine (i33a L.length n (L.length - 1) a l kn b (lstC L) (lstC (L.eraseIdx b)) q X).trans ?_
      simp only [Nat.zero_add]
      rw [eb,ep,up1 (by omega),ek,Int.sub_self,show IntKind.i64.wrap 0 = 0 from rfl,show IntKind.i64.wrap (l - x.l) = l - x.l from wr64 (by omega) (by omega)]
      refine BT (bift (weakF_of ⟨rfl,.refl _⟩) (BT (BT (BT (BT (BT (BT (BT (BT (bift (by simp) (bift (refF_yes hq t) ?_)))))))))))
      rw [el]
     ·have c2:l<x.l:=by omega
      have ep:(bif decide (x.l<l) then x.l else l) = l:=by rw [decide_eq_false (by omega)]; rfl
      refine .inl ⟨(0:Int).toNat,v33 (L.set b ⟨x.a,x.l - l⟩).length n a 0 (kn+1),[rowC 0 n (lstC (L.set b ⟨x.a,x.l - l⟩)),X],by omega,Step.mk0 (A:=A42) (m:=0) (K:=K33 q (L.length - 1) n (lstC (L.eraseIdx b))) (told_addRef none_ok (refF_told hq)) rfl rfl (loops1 l1) (h1:=[⟨0,2,n,fun e=>[.int .i64 (bif e==b then x.a else (lstC L e).a),.int .i64 (bif e==b then x.l - l else (lstC L e).l)],true,false,none⟩,X]) ?_ (same _),L.set b ⟨x.a,x.l - l⟩,0,kn+1,rfl,rfl,rfl,by rw [List.length_set]; omega,by omega,by omega,by omega,fun h=>absurd h (by omega),fun c hc=>?_,fun L2 k2 h=>?_⟩
      ·refine (i33a L.length n (L.length - 1) a l kn b (lstC L) (lstC (L.eraseIdx b)) q X).trans ?_
       simp only [Nat.zero_add]
       rw [eb,ep,ek,Int.sub_self,show IntKind.i64.wrap 0 = 0 from rfl,show IntKind.i64.wrap (x.l - l) = x.l - l from wr64 (by omega) (by omega)]
       refine BT (bift (weakF_of ⟨rfl,.refl _⟩) (BT (BT (BT (BT (BT (BT (BT (BT (biff (by simp; omega) ?_))))))))))
       rw [List.length_set]
      ·rcases List.mem_or_eq_of_mem_set hc with h | h
       ·exact hLv c h
       ·subst h
        exact ⟨by show 1<=x.l - l; omega,by show x.l - l<=_; omega⟩
      ·have:CutTo a L l kn (L.set b ⟨x.a,x.l - l⟩) (kn+1):=by
        have:=CutTo.part (a:=a) L l kn b c hb (by rw [hx]; exact c2)
        rwa [hx] at this
       obtain ⟨rfl,rfl⟩:=h.zero (by omega)
       exact hto _ _ this
   ·cases hb:lst L a L.length with
    | none =>
     rw [hb] at l1
     exact .inr ⟨.exit 0,_,_,Last.mk0 (A:=A42) (m:=0) none_ok rfl rfl (loops1 l1) (by simp) ((i33z L.length n a l kn (lstC L) X).trans (BF rfl)) (.refl _),L,kn,hto _ _ (.done L l kn c),hLl,rfl,rfl,rfl⟩
    | some b =>
     rw [hb] at l1
     exact .inr ⟨.exit 0,_,_,Last.mk0 (A:=A42) (m:=0) (K:=K33 q 0 n (lstC L)) (told_addRef none_ok (refF_told hq)) rfl rfl (loops1 l1) (by simp) ((i33a L.length n 0 a l kn b (lstC L) (lstC L) q X).trans (BF rfl)) (.refl _),L,kn,hto _ _ (.done L l kn c),hLl,rfl,rfl,rfl⟩)
  (n:=l0.toNat) rfl ⟨L0,l0,-1,rfl,rfl,rfl,Nat.le_refl _,hl0,by omega,by omega,fun _=>by omega,hv,fun _ _ h=>h⟩
 exact ⟨L2,kn,hC,hlen,stepR_told hm42 hn42 none_ok (A:=A42) (m:=0) (K:=noneO) (by kernel_rfl) (loops1 hL) ((k33 L0.length n L2.length a l0 kn (lstC L0) (lstC L2) X).trans (bift (weakF_of ⟨rfl,.refl _⟩) rfl))⟩
open Go.Proofs
def o32 (k n:Nat):T:=.own 1 0 0 k (some n)
noncomputable def K11 (p10 p21 p30 p26:List T->T->Prop) (q33 q32:List T->Heap->T->Heap->Prop) (E:Int) (b fd:Bool) (i:Nat) (cs cs2:List Cne) (hs hs2:List Hld) (kn:Int):Orc :=
 ((((((((noneO.add 10 (callF p10 fun _=>some (.int .i64 E))).add 21 (callF p21 fun _=>some (.bool b))).add 30 (callF p30 fun _=>some (.tup [.int .i64 i,.bool fd]))).add 26 (callF p26 fun _=>some (.agg [.fresh true 2 cs.length (fun j=>(lstC cs j).c) cs.length (some cs.length),.fresh true 3 hs.length (fun j=>(lstF hs j).c) hs.length (some hs.length)]))).addRef 33 (refF q33 fun _ h=>some (.tup [o33 cs2.length cs.length,.int .i64 kn],h.set 0 (rowC 0 cs.length (lstC cs2))))).addRef 32 (refF q32 fun _ h=>some (o32 (hs.length - 1) hs.length,h.set 1 (rowB 0 hs.length (lstF hs2))))).inl P42 G42 A42 noneO 0 31).inl P42 G42 A42 noneO 0 34)
theorem k32 (k n b:Nat) (L:Nat->Hld):stepR P42 G42 A42 noneO 0 32 [] [.own 0 0 0 k (some n),.int .i64 b,.int .i64 (b+1:Nat)] [rowB 0 n L] =
(
 bif decide (0<=Int.ofNat b)&&decide (Int.ofNat b<=Int.ofNat (b+1))&&decide (Int.ofNat (b+1)<=Int.ofNat k)&&decide (Int.ofNat k<=Int.ofNat n) then
 bif decide (Int.ofNat b = Int.ofNat (b+1)) then
 some ((o33 k n,[rowB (0:Nat) n L]))
 else
 bif decide (0<=Int.ofNat b)&&decide (Int.ofNat b<=Int.ofNat n) then
 bif decide (0<=Int.ofNat (b+1))&&decide (Int.ofNat (b+1)<=Int.ofNat k)&&decide (Int.ofNat k<=Int.ofNat n) then
 bif ((0:Nat)+(b+(1:Nat))+(k - (b+(1:Nat)))).ble n then
 bif ((0:Nat)+b).ble n then
 bif k - (b+1)==(0:Nat) then
 bif decide (0<=Int.ofNat b)&&decide (Int.ofNat b<=Int.ofNat k)&&decide (Int.ofNat k<=Int.ofNat n) then
 bif ((0:Nat)+b+(k - b)).ble n then
 some ((o33 b n,[.mk 0 3 n (fun j =>
 bif ((0:Nat)+b).ble j&&j.blt (0+b+(k - b)) then [.int .i64 0,.int .i64 0,.int .i64 0]
 else (L j).c) true false
 none]))
 else none else none else
 bif ((b+(k - (b+(1:Nat)))) * (25:Nat)).ble 70368744177664 then
 bif (b+(k - (b+(1:Nat)))).ble n then
 bif ((0:Nat)+b+(k - (b+(1:Nat)))).ble n then
 bif decide (0<=Int.ofNat (b+(k - (b+1))))&&decide (Int.ofNat (b+(k - (b+1)))<=Int.ofNat k)&&decide (Int.ofNat k<=Int.ofNat n) then
 bif ((0:Nat)+(b+(k - (b+(1:Nat))))+(k - (b+(k - (b+(1:Nat)))))).ble n then
 some ((o33 (b+(k - (b+1))) n,[.mk 0 3 n (fun j =>
 bif ((0:Nat)+(b+(k - (b+(1:Nat))))).ble j&&j.blt ((0:Nat)+(b+(k - (b+1)))+(k - (b+(k - (b+1))))) then [.int .i64 0,.int .i64 0,.int .i64 0]
 else
 bif ((0:Nat)+b).ble j&&j.blt (0+b+(k - (b+1))) then (L ((0:Nat)+(b+(1:Nat))+(j - ((0:Nat)+b)))).c
 else (L j).c) true false
 none]))
 else none else none else none else
 bif decide (0<=Int.ofNat (b+(k - (b+1))))&&decide (Int.ofNat (b+(k - (b+1)))<=Int.ofNat k)&&decide (Int.ofNat k<=Int.ofNat (b+(k - (b+1)))) then
 bif ((0:Nat)+(b+(k - (b+(1:Nat))))+(k - (b+(k - (b+(1:Nat)))))).ble (b+(k - (b+1))) then
 some ((.own 1 0 0 (b+(k - (b+1)))
 none,[rowB (0:Nat) n L,.mk 0 3 (b+(k - (b+1))) (fun j =>
 bif ((0:Nat)+(b+(k - (b+(1:Nat))))).ble j&&j.blt ((0:Nat)+(b+(k - (b+1)))+(k - (b+(k - (b+1))))) then [.int .i64 0,.int .i64 0,.int .i64 0]
 else
 bif j.blt b then (L ((0:Nat)+j)).c
 else (L ((0:Nat)+(b+(1:Nat))+(j - b))).c) true false
 none]))
 else none else none else none else none else none else none else none else
 none):=by kernel_rfl
theorem k11 (cs cs2:List Cne) (hs hs2:List Hld) (o a l:Int) (E:Int) (b fd:Bool) (i:Nat) (kn:Int) (p10 p21 p30 p26:List T->T->Prop) (q33 q32:List T->Heap->T->Heap->Prop):stepV P42 G42 A42 (K11 p10 p21 p30 p26 q33 q32 E b fd i cs cs2 hs hs2 kn) 0 11 [.agg [cnV cs none,hdV hs none],.int .i64 o,.int .i64 a,.int .i64 l] =
(
 bif decF (p10 [.agg [cnV cs
 none,hdV hs
 none]] (.int .i64 E)) then
 bif !decide (E = 0) then
 some (.tup [.agg [.nils,.nils],.int .i64 0,.int .i64 E])
 else
 bif decF (p21 [.agg [.int .i64 o,.int .i64 a,.int .i64 l]] (.bool b)) then
 bif b then
 bif decF (p30 [hdV hs
 none,.agg [.int .i64 o,.int .i64 a,.int .i64 l],.fn (29:Nat) []] (.tup [.int .i64 (.ofNat i),.bool fd])) then
 bif fd then
 bif decide (0<=Int.ofNat i)&&decide (Int.ofNat i<Int.ofNat hs.length) then
 bif decide ((hs.getD i (Hld.mk (0:Int) (0:Int) (0:Int))).l<l) then
 some (.tup [.agg [.nils,.nils],.int .i64 0,.int .i64 18])
 else
 bif decF (p26 [cnV cs
 none,hdV hs
 none] (stF cs hs)) then
 bif decide (0<=Int.ofNat i)&&decide (Int.ofNat i<Int.ofNat hs.length) then
 bif ((0:Nat)+i).blt hs.length then
 bif decide (0<=Int.ofNat i)&&decide (Int.ofNat i<Int.ofNat hs.length) then
 bif ((0:Nat)+i).blt hs.length&&true&&true&&true then
 bif decide (0<=Int.ofNat i)&&decide (Int.ofNat i<Int.ofNat hs.length) then
 bif ((0:Nat)+i).blt hs.length then
 bif decide ((bif 0+i==0+i then IntKind.i64.wrap ((lstF hs ((0:Nat)+i)).l - l)
 else (lstF hs ((0:Nat)+i)).l) = (0:Int)) then
 bif decF (q32 [o32 hs.length hs.length,.int .i64 (.ofNat i),.int .i64 (IntKind.i64.wrap (Int.ofNat i+1))] [rowC (0:Nat) cs.length fun j=>cs.getD j (Cne.mk (0:Int) (0:Int)),.mk 0 3 hs.length (fun e=>[.int .i64 (bif e==0+i then (lstF hs ((0:Nat)+i)).o
 else (lstF hs e).o),.int .i64 (bif e==0+i then (lstF hs ((0:Nat)+i)).a
 else (lstF hs e).a),.int .i64 (bif e==0+i then IntKind.i64.wrap ((lstF hs ((0:Nat)+i)).l - l)
 else (lstF hs e).l)]) true false
 none] (o32 (hs.length - 1) hs.length) [rowC (0:Nat) cs.length fun j=>cs.getD j (Cne.mk (0:Int) (0:Int)),rowB (0:Nat) hs.length (lstF hs2)]) then
 bif decide (0<=Int.ofNat (hs.length - 1))&&decide (Int.ofNat (hs.length - 1)<=Int.ofNat (hs.length - 1))&&decide (Int.ofNat (hs.length - 1)<=Int.ofNat hs.length) then
 bif decF (q33 [o33 cs.length cs.length,.int .i64 a,.int .i64 l] [rowC (0:Nat) cs.length fun j=>cs.getD j (Cne.mk (0:Int) (0:Int)),rowB (0:Nat) hs.length (lstF hs2)] (.tup [o33 cs2.length cs.length,.int .i64 kn]) [rowC (0:Nat) cs.length fun j=>cs2.getD j (Cne.mk (0:Int) (0:Int)),rowB (0:Nat) hs.length (lstF hs2)]) then
 bif decide (0<=Int.ofNat cs2.length)&&decide (Int.ofNat cs2.length<=Int.ofNat cs2.length)&&decide (Int.ofNat cs2.length<=Int.ofNat cs.length) then
 some (.tup [.agg [bif ((0:Nat)+cs2.length).ble cs.length then .fresh true (2:Nat) cs.length (fun j=>(cs2.getD ((0:Nat)+j) (Cne.mk (0:Int) (0:Int))).c) cs2.length (some cs2.length)
 else .undef,
 bif ((0:Nat)+(hs.length - (1:Nat))).ble hs.length then .fresh true (3:Nat) hs.length (fun j=>(lstF hs2 ((0:Nat)+j)).c) (hs.length - 1) (some (hs.length - 1))
 else .undef],.int .i64 kn,.int .i64 0])
 else none else none else none else none else
 bif decF (q33 [o33 cs.length cs.length,.int .i64 a,.int .i64 l] [rowC (0:Nat) cs.length fun j=>cs.getD j (Cne.mk (0:Int) (0:Int)),.mk 0 3 hs.length (fun e=>[.int .i64 (bif e==0+i then (lstF hs ((0:Nat)+i)).o
 else (lstF hs e).o),.int .i64 (bif e==0+i then (lstF hs ((0:Nat)+i)).a
 else (lstF hs e).a),.int .i64 (bif e==0+i then IntKind.i64.wrap ((lstF hs ((0:Nat)+i)).l - l)
 else (lstF hs e).l)]) true false
 none] (.tup [o33 cs2.length cs.length,.int .i64 kn]) [rowC (0:Nat) cs.length fun j=>cs2.getD j (Cne.mk (0:Int) (0:Int)),.mk 0 3 hs.length (fun e=>[.int .i64 (bif e==0+i then (lstF hs ((0:Nat)+i)).o
 else (lstF hs e).o),.int .i64 (bif e==0+i then (lstF hs ((0:Nat)+i)).a
 else (lstF hs e).a),.int .i64 (bif e==0+i then IntKind.i64.wrap ((lstF hs ((0:Nat)+i)).l - l)
 else (lstF hs e).l)]) true false
 none]) then
 bif decide (0<=Int.ofNat cs2.length)&&decide (Int.ofNat cs2.length<=Int.ofNat cs2.length)&&decide (Int.ofNat cs2.length<=Int.ofNat cs.length) then
 some (.tup [.agg [bif ((0:Nat)+cs2.length).ble cs.length then .fresh true (2:Nat) cs.length (fun j=>(cs2.getD ((0:Nat)+j) (Cne.mk (0:Int) (0:Int))).c) cs2.length (some cs2.length)
 else .undef,
 bif ((0:Nat)+hs.length).ble hs.length then .fresh true (3:Nat) hs.length (fun j=>[.int .i64 (bif 0+j==0+i then (lstF hs ((0:Nat)+i)).o
 else (lstF hs ((0:Nat)+j)).o),.int .i64 (bif 0+j==0+i then (lstF hs ((0:Nat)+i)).a
 else (lstF hs ((0:Nat)+j)).a),.int .i64 (bif 0+j==0+i then IntKind.i64.wrap ((lstF hs ((0:Nat)+i)).l - l)
 else (lstF hs ((0:Nat)+j)).l)]) hs.length (some hs.length)
 else .undef],.int .i64 kn,.int .i64 0])
 else none else none else none else none else none else none else none else none else none else none else
 some (.tup [.agg [.nils,.nils],.int .i64 0,.int .i64 7])
 else none else
 some (.tup [.agg [.nils,.nils],.int .i64 0,.int .i64 1])
 else none else
 none):=by kernel_rfl
theorem delH (L:List Hld) (n b:Nat) (hb:b<L.length) (hn:L.length<=n) (h9:n<=900000):ToldRef P42 G42 32 [o33 L.length n,.int .i64 b,.int .i64 (b+1:Nat)] [rowB 0 n (lstF L)] (o33 (L.length - 1) n) [rowB 0 n (lstF (L.eraseIdx b))]:=by
 by_cases q:L.length - (b+1) = 0
 ·have e1:L.length - 1 = b:=by omega
  rw [e1]
  have t:ToldRef P42 G42 32 [o33 L.length n,.int .i64 b,.int .i64 (b+1:Nat)] [rowB 0 n (lstF L)] (o33 b n) [⟨0,3,n,fun j=>bif Nat.ble (0+b) j&&Nat.blt j (0+b+(L.length - b)) then [.int .i64 0,.int .i64 0,.int .i64 0] else (lstF L j).c,true,false,none⟩] :=
   stepR_told hm42 hn42 none_ok (A:=A42) (m:=0) (K:=noneO) (l:=[]) (by kernel_rfl) loops0 ((k32 L.length n b (lstF L)).trans (BT (BF (BT (BT (BT (BT (bift (by rw [q]; rfl) (BT (BT rfl))))))))))
  refine t.res (.cons ⟨rfl,rfl,rfl,id,fun j hj=>?_⟩ .nil)
  show (lstF (L.eraseIdx b) j).c = _
  simp only [bleD,bltD,lstF,erase_getD]
  by_cases c:j<b
  ·rw [if_pos c,show (decide (0+b<=j)&&decide (j<0+b+(L.length - b))) = false by simp; omega]
   rfl
  ·rw [if_neg c,getD_out (by omega)]
   by_cases c2:j<L.length
   ·rw [show (decide (0+b<=j)&&decide (j<0+b+(L.length - b))) = true by simp; omega]
    rfl
   ·rw [show (decide (0+b<=j)&&decide (j<0+b+(L.length - b))) = false by simp; omega]
    simp only [cond_false]
    rw [getD_out (by omega)]
 ·have e1:b+(L.length - (b+1)) = L.length - 1:=by omega
  rw [← e1]
  have t:ToldRef P42 G42 32 [o33 L.length n,.int .i64 b,.int .i64 (b+1:Nat)] [rowB 0 n (lstF L)] (o33 (b+(L.length - (b+1))) n) [⟨0,3,n,fun j=>bif Nat.ble (0+(b+(L.length - (b+1)))) j&&Nat.blt j (0+(b+(L.length - (b+1)))+(L.length - (b+(L.length - (b+1))))) then [.int .i64 0,.int .i64 0,.int .i64 0] else bif Nat.ble (0+b) j&&Nat.blt j (0+b+(L.length - (b+1))) then (lstF L (0+(b+1)+(j - (0+b)))).c else (lstF L j).c,true,false,none⟩] :=
   stepR_told hm42 hn42 none_ok (A:=A42) (m:=0) (K:=noneO) (l:=[]) (by kernel_rfl) loops0 ((k32 L.length n b (lstF L)).trans (BT (BF (BT (BT (BT (BT (biff (by simpa using q) (BT (BT (BT (BT (BT rfl)))))))))))))
  refine t.res (.cons ⟨rfl,rfl,rfl,id,fun j hj=>?_⟩ .nil)
  show (lstF (L.eraseIdx b) j).c = _
  simp only [bleD,bltD,lstF,erase_getD]
  by_cases c:j<b
  ·rw [if_pos c,show (decide (0+(b+(L.length - (b+1)))<=j)&&decide (j<0+(b+(L.length - (b+1)))+(L.length - (b+(L.length - (b+1)))))) = false by simp; omega,show (decide (0+b<=j)&&decide (j<0+b+(L.length - (b+1)))) = false by simp; omega]
   rfl
  ·rw [if_neg c]
   by_cases c2:j<L.length - 1
   ·rw [show (decide (0+(b+(L.length - (b+1)))<=j)&&decide (j<0+(b+(L.length - (b+1)))+(L.length - (b+(L.length - (b+1)))))) = false by simp; omega,show (decide (0+b<=j)&&decide (j<0+b+(L.length - (b+1)))) = true by simp; omega]
    simp only [cond_true,cond_false]
    rw [show 0+(b+1)+(j - (0+b)) = j+1 by omega]
   ·rw [getD_out (by omega)]
    by_cases c3:j<L.length
    ·rw [show (decide (0+(b+(L.length - (b+1)))<=j)&&decide (j<0+(b+(L.length - (b+1)))+(L.length - (b+(L.length - (b+1)))))) = true by simp; omega]
     rfl
    ·rw [show (decide (0+(b+(L.length - (b+1)))<=j)&&decide (j<0+(b+(L.length - (b+1)))+(L.length - (b+(L.length - (b+1)))))) = false by simp; omega,show (decide (0+b<=j)&&decide (j<0+b+(L.length - (b+1)))) = false by simp; omega]
     simp only [cond_false]
     rw [getD_out (by omega)]
def UseTo (cs:List Cne) (hs:List Hld) (o a l:Int) (cs2:List Cne) (hs2:List Hld) (kn e:Int):Prop :=
 (ckE cs hs ≠ 0/\cs2 = []/\hs2 = []/\kn = 0/\e = ckE cs hs) ∨ (ckE cs hs = 0/\hvB ⟨o,a,l⟩ = false/\cs2 = []/\hs2 = []/\kn = 0/\e = 1) ∨
 (ckE cs hs = 0/\hvB ⟨o,a,l⟩ = true/\∃ i,At hs ⟨o,a,l⟩ i/\((¬ (i<hs.length/\cmpH (hs.getD i hd0) ⟨o,a,l⟩ = 0)/\cs2 = []/\hs2 = []/\kn = 0/\e = 7) ∨
  (i<hs.length/\cmpH (hs.getD i hd0) ⟨o,a,l⟩ = 0/\(((hs.getD i hd0).l<l/\cs2 = []/\hs2 = []/\kn = 0/\e = 18) ∨
   (l<=(hs.getD i hd0).l/\CutTo a cs l (-1) cs2 kn/\hs2 = (if (hs.getD i hd0).l = l then hs.eraseIdx i else hs.set i ⟨(hs.getD i hd0).o,(hs.getD i hd0).a,(hs.getD i hd0).l - l⟩)/\e = 0)))))
theorem none3 {f:FuncId} {args:List T} {E:Int} (t:ToldOk P42 G42 f args (.tup [.agg [.nils,.nils],.int .i64 0,.int .i64 E])):ToldOk P42 G42 f args (.tup [stN [] [],.int .i64 0,.int .i64 E]) :=
 tupAgg t (.cons (.niln _ _ _ (.inr rfl)) (.cons (.niln _ _ _ (.inr rfl)) .nil))
theorem useTN (cs:List Cne) (hs:List Hld) (o a l:Int) (n1:cs.length<=100000) (n2:hs.length<=100000):∃ cs2 hs2 kn e,UseTo cs hs o a l cs2 hs2 kn e/\ToldOk P42 G42 11 [.agg [cnV cs none,hdV hs none],.int .i64 o,.int .i64 a,.int .i64 l] (.tup [stN cs2 hs2,.int .i64 kn,.int .i64 e]):=by
 obtain ⟨p10,h10⟩:=is_val P42 G42 10
 obtain ⟨p21,h21⟩:=is_val P42 G42 21
 obtain ⟨p30,h30⟩:=is_val P42 G42 30
 obtain ⟨p26,h26⟩:=is_val P42 G42 26
 obtain ⟨q33,h33⟩:=is_ref P42 G42 33
 obtain ⟨q32,h32⟩:=is_ref P42 G42 32
 have t10:=checkT cs hs (by omega) (by omega)
 have t21:=hvT ⟨o,a,l⟩
 have run:∀ E b fd i cs2 hs2 kn r,stepV P42 G42 A42 (K11 p10 p21 p30 p26 q33 q32 E b fd i cs cs2 hs hs2 kn) 0 11 [.agg [cnV cs none,hdV hs none],.int .i64 o,.int .i64 a,.int .i64 l] = some r->ToldOk P42 G42 11 [.agg [cnV cs none,hdV hs none],.int .i64 o,.int .i64 a,.int .i64 l] r:=fun E b fd i cs2 hs2 kn r hr =>
  stepV_told hm42 hn42 (told_inl hm42 hn42 (told_inl hm42 hn42 (told_addRef (told_addRef (told_add (told_add (told_add (told_add none_ok (callF_told h10)) (callF_told h21)) (callF_told h30)) (callF_told h26)) (refF_told h33)) (refF_told h32)) none_ok) none_ok) (A:=A42) (m:=0) hr
 by_cases e0:ckE cs hs ≠ 0
 ·refine ⟨[],[],0,ckE cs hs,.inl ⟨e0,rfl,rfl,rfl,rfl⟩,none3 (run (ckE cs hs) false false 0 [] [] 0 _ ?_)⟩
  rw [k11]
  exact bift (callF_yes h10 t10) (bift (by simpa using e0) rfl)
 have e0:ckE cs hs = 0:=by simpa using e0
 rw [e0] at t10
 cases b1:hvB ⟨o,a,l⟩ with
 | false =>
  rw [b1] at t21
  refine ⟨[],[],0,1,.inr (.inl ⟨e0,b1,rfl,rfl,rfl,rfl⟩),none3 (run 0 false false 0 [] [] 0 _ ?_)⟩
  rw [k11]
  exact bift (callF_yes h10 t10) (biff (by simp) (bift (callF_yes h21 t21) (biff (by simp) rfl)))
 | true =>
  rw [b1] at t21
  have t21:ToldOk P42 G42 21 [.agg [.int .i64 o,.int .i64 a,.int .i64 l]] (.bool true):=t21
  obtain ⟨m1,m2,m3,m4,m5⟩:=ckE_0 e0
  obtain ⟨i,hA,t30⟩:=searchT hs ⟨o,a,l⟩ (by omega) (hOk_asc m4)
  have t30:ToldOk P42 G42 30 [hdV hs none,.agg [.int .i64 o,.int .i64 a,.int .i64 l],.fn 29 []] (.tup [.int .i64 i,.bool (decide (i<hs.length)&&decide (cmpH (hs.getD i hd0) ⟨o,a,l⟩ = 0))]):=t30
  by_cases c:i<hs.length/\cmpH (hs.getD i hd0) ⟨o,a,l⟩ = 0
  ·have ec:(decide (i<hs.length)&&decide (cmpH (hs.getD i hd0) ⟨o,a,l⟩ = 0)) = true:=by rw [decide_eq_true c.1,decide_eq_true c.2]; rfl
   rw [ec] at t30
   obtain ⟨c1,c2⟩:=c
   have hd:hs.getD i ⟨0,0,0⟩ = hs.getD i hd0:=rfl
   have hf:lstF hs i = hs.getD i hd0:=rfl
   have hl9:=hvB_iff.1 b1
   have hl9:1<=l/\l<=1000000000:=⟨hl9.2.2.2.2.1,hl9.2.2.2.2.2⟩
   have hx:=hvB_iff.1 (hOk_val m4 _ (mem_getD c1 hd0))
   by_cases c3:(hs.getD i hd0).l<l
   ·refine ⟨[],[],0,18,.inr (.inr ⟨e0,b1,i,hA,.inr ⟨c1,c2,.inl ⟨c3,rfl,rfl,rfl,rfl⟩⟩⟩),none3 (run 0 true true i [] [] 0 _ ?_)⟩
    rw [k11,hd]
    exact bift (callF_yes h10 t10) (biff (by simp) (bift (callF_yes h21 t21) (bift rfl (bift (callF_yes h30 t30) (bift rfl (BT (bift (by simpa using c3) rfl)))))))
   ·have t26:=madeF cs.length hs.length (lstC cs) (lstF hs) (by omega) (by omega)
    have t26:ToldOk P42 G42 26 [cnV cs none,hdV hs none] (.agg [.fresh true 2 cs.length (fun j=>(lstC cs j).c) cs.length (some cs.length),.fresh true 3 hs.length (fun j=>(lstF hs j).c) hs.length (some hs.length)]):=t26
    have hcv:∀ c,c ∈ cs->1<=c.l/\c.l<=1000000000:=fun c hc=>by have:=cvB_iff.1 (cOk_iff.1 m3 c hc); omega
    have same:∀ (X:Blk) (z:Int),SameBlks [X,⟨0,3,hs.length,fun e=>[.int .i64 (bif e==i then (lstF hs i).o else (lstF hs e).o),.int .i64 (bif e==i then (lstF hs i).a else (lstF hs e).a),.int .i64 (bif e==i then z else (lstF hs e).l)],true,false,none⟩] [X,rowB 0 hs.length (lstF (hs.set i ⟨(lstF hs i).o,(lstF hs i).a,z⟩))]:=fun X z=>by
     refine same_one (.cons ⟨rfl,rfl,rfl,id,fun j hj=>?_⟩ .nil)
     show (lstF (hs.set i ⟨(lstF hs i).o,(lstF hs i).a,z⟩) j).c = [T.int .i64 (bif j==i then (lstF hs i).o else (lstF hs j).o),T.int .i64 (bif j==i then (lstF hs i).a else (lstF hs j).a),T.int .i64 (bif j==i then z else (lstF hs j).l)]
     by_cases c3:j = i
     ·subst c3
      have:∀ y,lstF (hs.set j y) j = y:=fun y=>by simp [lstF,c1]
      rw [this]
      simp [Hld.c]
     ·have:∀ y,lstF (hs.set i y) j = lstF hs j:=fun y=>by
       simp only [lstF,List.getD_eq_getElem?_getD,List.getElem?_set_ne (fun h=>c3 h.symm)]
      rw [this,show (j==i) = false by simp [c3]]
      rfl
    by_cases c4:(hs.getD i hd0).l = l
    ·obtain ⟨cs2,kn,hC,hlen,t33⟩:=cutR cs cs.length a l (rowB 0 hs.length (lstF (hs.eraseIdx i))) (Nat.le_refl _) (by omega) hl9.2 hcv
     have el:(hs.eraseIdx i).length = hs.length - 1:=List.length_eraseIdx_of_lt c1
     have t32:=ToldRef.frame (delH (hs.set i ⟨(lstF hs i).o,(lstF hs i).a,0⟩) hs.length i (by simpa using c1) (by simp) (by omega)) (h:=[rowC 0 cs.length (lstC cs),rowB 0 hs.length (lstF (hs.set i ⟨(lstF hs i).o,(lstF hs i).a,0⟩))]) (i:=1) (d:=0) rfl rfl rfl rfl rfl rfl rfl
     rw [List.length_set,List.eraseIdx_set_eq] at t32
     have t32:ToldRef P42 G42 32 [o32 hs.length hs.length,.int .i64 i,.int .i64 (i+1:Nat)] _ (o32 (hs.length - 1) hs.length) [rowC 0 cs.length (lstC cs),rowB 0 hs.length (lstF (hs.eraseIdx i))]:=t32.same (same _ 0)
     refine ⟨cs2,hs.eraseIdx i,kn,0,.inr (.inr ⟨e0,b1,i,hA,.inr ⟨c1,c2,.inr ⟨by omega,hC,by rw [if_pos c4],rfl⟩⟩⟩),?_⟩
     have t:ToldOk P42 G42 11 [.agg [cnV cs none,hdV hs none],.int .i64 o,.int .i64 a,.int .i64 l] (.tup [.agg [.fresh true 2 cs.length (fun j=>(lstC cs2 j).c) cs2.length (some cs2.length),.fresh true 3 hs.length (fun j=>(lstF (hs.eraseIdx i) j).c) (hs.length - 1) (some (hs.length - 1))],.int .i64 kn,.int .i64 0]):=by
      refine run 0 true true i cs2 (hs.eraseIdx i) kn _ ?_
      rw [k11,hd]
      simp only [Nat.zero_add]
      rw [up1 (by omega),show IntKind.i64.wrap ((lstF hs i).l - l) = 0 by rw [hf,c4,Int.sub_self]; rfl]
      refine bift (callF_yes h10 t10) (biff (by simp) (bift (callF_yes h21 t21) (bift rfl (bift (callF_yes h30 t30) (bift rfl (BT (biff (by simpa using c3) (bift (callF_yes h26 t26) (BT (BT (BT (BT (BT (BT (bift (by simp) (bift (refF_yes h32 t32) (BT (bift (refF_yes h33 t33) (BT ?_)))))))))))))))))))
      rw [bleT hlen,bleT (by omega)]
      rfl
     have t2:=tupAgg t.frz (m:=[.new (cnV cs2 (some cs2.length)),.new (hdV (hs.eraseIdx i) (some (hs.eraseIdx i).length))]) (.cons (.refl _) (.cons (by rw [show hdV (hs.eraseIdx i) (some (hs.eraseIdx i).length) = .view 3 (hs.length - 1) (fun j=>(lstF (hs.eraseIdx i) j).c) (some (hs.length - 1)) by rw [← el]; rfl]; exact .refl _) .nil))
     exact t2
    ·have ez:IntKind.i64.wrap ((lstF hs i).l - l) = (lstF hs i).l - l:=by rw [hf]; exact wr64 (by omega) (by omega)
     obtain ⟨cs2,kn,hC,hlen,t33⟩:=cutR cs cs.length a l ⟨0,3,hs.length,fun e=>[.int .i64 (bif e==i then (lstF hs i).o else (lstF hs e).o),.int .i64 (bif e==i then (lstF hs i).a else (lstF hs e).a),.int .i64 (bif e==i then (lstF hs i).l - l else (lstF hs e).l)],true,false,none⟩ (Nat.le_refl _) (by omega) hl9.2 hcv
     refine ⟨cs2,hs.set i ⟨(lstF hs i).o,(lstF hs i).a,(lstF hs i).l - l⟩,kn,0,.inr (.inr ⟨e0,b1,i,hA,.inr ⟨c1,c2,.inr ⟨by omega,hC,by rw [if_neg c4]; rfl,rfl⟩⟩⟩),?_⟩
     have t:ToldOk P42 G42 11 [.agg [cnV cs none,hdV hs none],.int .i64 o,.int .i64 a,.int .i64 l] (.tup [.agg [.fresh true 2 cs.length (fun j=>(lstC cs2 j).c) cs2.length (some cs2.length),.fresh true 3 hs.length (fun e=>[.int .i64 (bif e==i then (lstF hs i).o else (lstF hs e).o),.int .i64 (bif e==i then (lstF hs i).a else (lstF hs e).a),.int .i64 (bif e==i then (lstF hs i).l - l else (lstF hs e).l)]) hs.length (some hs.length)],.int .i64 kn,.int .i64 0]):=by
      refine run 0 true true i cs2 [] kn _ ?_
      rw [k11,hd]
      simp only [Nat.zero_add]
      rw [ez]
      refine bift (callF_yes h10 t10) (biff (by simp) (bift (callF_yes h21 t21) (bift rfl (bift (callF_yes h30 t30) (bift rfl (BT (biff (by simpa using c3) (bift (callF_yes h26 t26) (BT (BT (BT (BT (BT (BT (biff (by rw [hf,beq_self_eq_true,cond_true,decide_eq_true_eq]; omega) (bift (refF_yes h33 t33) (BT ?_)))))))))))))))))
      rw [bleT hlen,bleT (Nat.le_refl _)]
      rfl
     have el:(hs.set i ⟨(lstF hs i).o,(lstF hs i).a,(lstF hs i).l - l⟩).length = hs.length:=List.length_set ..
     have t1:ToldOk P42 G42 11 [.agg [cnV cs none,hdV hs none],.int .i64 o,.int .i64 a,.int .i64 l] (.tup [.agg [.fresh true 2 cs.length (fun j=>(lstC cs2 j).c) cs2.length (some cs2.length),.fresh true 3 hs.length (fun j=>(lstF (hs.set i ⟨(lstF hs i).o,(lstF hs i).a,(lstF hs i).l - l⟩) j).c) hs.length (some hs.length)],.int .i64 kn,.int .i64 0]):=by
      refine tupAgg t (.cons (.refl _) (.cons (.fresh (Nat.le_refl _) (Nat.le_refl _) (fun m hm=>by obtain rfl:=Option.some.inj hm; exact Nat.le_refl _) fun j hj=>?_) .nil))
      by_cases c5:j = i
      ·subst c5
       have:∀ y,lstF (hs.set j y) j = y:=fun y=>by simp [lstF,c1]
       rw [this]
       simp [Hld.c]
      ·have:∀ y,lstF (hs.set i y) j = lstF hs j:=fun y=>by
        simp only [lstF,List.getD_eq_getElem?_getD,List.getElem?_set_ne (fun h=>c5 h.symm)]
       rw [this,show (j==i) = false by simp [c5]]
       rfl
     have t2:=tupAgg t1.frz (m:=[.new (cnV cs2 (some cs2.length)),.new (hdV (hs.set i ⟨(lstF hs i).o,(lstF hs i).a,(lstF hs i).l - l⟩) (some (hs.set i ⟨(lstF hs i).o,(lstF hs i).a,(lstF hs i).l - l⟩).length))]) (.cons (.refl _) (.cons (by
      rw [show hdV (hs.set i ⟨(lstF hs i).o,(lstF hs i).a,(lstF hs i).l - l⟩) (some (hs.set i ⟨(lstF hs i).o,(lstF hs i).a,(lstF hs i).l - l⟩).length) = .view 3 hs.length (fun j=>(lstF (hs.set i ⟨(lstF hs i).o,(lstF hs i).a,(lstF hs i).l - l⟩) j).c) (some hs.length) by unfold hdV; rw [el]; rfl]
      exact .refl _) .nil))
     exact t2
  ·have ec:(decide (i<hs.length)&&decide (cmpH (hs.getD i hd0) ⟨o,a,l⟩ = 0)) = false:=by
    rw [← Bool.not_eq_true]; intro h; exact c (by simpa using h)
   rw [ec] at t30
   refine ⟨[],[],0,7,.inr (.inr ⟨e0,b1,i,hA,.inl ⟨c,rfl,rfl,rfl,rfl⟩⟩),none3 (run 0 true false i [] [] 0 _ ?_)⟩
   rw [k11]
   exact bift (callF_yes h10 t10) (biff (by simp) (bift (callF_yes h21 t21) (bift rfl (bift (callF_yes h30 t30) (biff (by simp) rfl)))))
theorem useT (cs:List Cne) (hs:List Hld) (o a l:Int) (n1:cs.length<=100000) (n2:hs.length<=100000):∃ cs2 hs2 kn e,UseTo cs hs o a l cs2 hs2 kn e/\ToldOk P42 G42 11 [.agg [cnV cs none,hdV hs none],.int .i64 o,.int .i64 a,.int .i64 l] (.tup [stV cs2 hs2,.int .i64 kn,.int .i64 e]):=by
 obtain ⟨cs2,hs2,kn,e,h,t⟩:=useTN cs hs o a l n1 n2
 exact ⟨cs2,hs2,kn,e,h,tupAgg t (.cons (.newv _) (.cons (.newv _) .nil))⟩
open Go.Proofs Go.Sort
def kS:List Hld->Int->Int->Int
 | [],_,_=>0
 | c :: r,o,a=>(if c.o = o/\c.a = a then c.l else 0)+kS r o a
theorem kS_app (l m:List Hld) (o a:Int):kS (l ++ m) o a = kS l o a+kS m o a:=by
 induction l with
 | nil=>simp [kS]
 | cons c l ih=>simp only [List.cons_append,kS,ih]; omega
theorem kS_perm {l m:List Hld} (h:l.Perm m) (o a:Int):kS l o a = kS m o a:=by
 induction h with
 | nil=>rfl
 | cons x _ ih=>simp only [kS,ih]
 | swap x y l=>simp only [kS]; omega
 | trans _ _ h1 h2=>rw [h1,h2]
theorem hdN_perm {l m:List Hld} (h:l.Perm m) (x:Int):hdN l x = hdN m x:=by
 induction h with
 | nil=>rfl
 | cons x _ ih=>simp only [hdN,ih]
 | swap x y l=>simp only [hdN]; omega
 | trans _ _ h1 h2=>rw [h1,h2]
def ascP (L:List Hld):Prop:=L.Pairwise fun x y=>cmpH x y<0
theorem mgStep_cons (P:List Hld) (y h:Hld):mgStep (P ++ [y]) h = if cmpH y h = 0 then P ++ [⟨y.o,y.a,IntKind.i64.wrap (y.l+h.l)⟩] else P ++ [y] ++ [h]:=by
 have e1:(P ++ [y]).length - 1 = P.length:=by simp
 have e2:lastH (P ++ [y]) = y:=by
  unfold lastH
  rw [e1]
  simp
 unfold mgStep
 rw [e1,e2]
 by_cases q:cmpH y h = 0
 ·rw [if_pos ⟨by simp,q⟩,if_pos q]
  simp
 ·rw [if_neg fun h=>q h.2,if_neg q]
structure MgI (T:List Hld) (L:List Hld) (k:Nat):Prop where
 asc:ascP L
 sum:∀ o a,kS L o a = kS T o a
 art:∀ x,hdN L x = hdN T x
 pos:∀ c,c ∈ L->1<=c.l/\c.l<=1000000000 * k
 key:∀ c,c ∈ L->∃ d,d ∈ T/\d.o = c.o/\d.a = c.a
theorem mg_inv (S:Nat->Hld) (n:Nat) (hn:n<=900000) (hv:∀ i,i<n->1<=(S i).l/\(S i).l<=1000000000) (hs:∀ i,i+1<n->¬ cmpH (S (i+1)) (S i)<0):∀ i,i<n->∃ P y,mgTo S (i+1) = P ++ [y]/\y.o = (S i).o/\y.a = (S i).a/\MgI ((List.range (i+1)).map S) (P ++ [y]) (i+1)
 | 0,hi=>by
  have:=hv 0 hi
  refine ⟨[],S 0,rfl,rfl,rfl,⟨by simp [ascP],fun o a=>by simp [List.range_succ],fun x=>by simp [List.range_succ],fun c hc=>?_,fun c hc=>?_⟩⟩
  ·simp at hc; subst hc; omega
  ·simp at hc; subst hc; exact ⟨S 0,by simp [List.range_succ],rfl,rfl⟩
 | i+1,hi=>by
  obtain ⟨P,y,e,ho,ha,hI⟩:=mg_inv S n hn hv hs i (by omega)
  have hv1:=hv (i+1) hi
  have hs1:=hs i hi
  have hy:=hI.pos y (by simp)
  have er:(List.range (i+1+1)).map S = (List.range (i+1)).map S ++ [S (i+1)]:=by rw [List.range_succ,List.map_append]; rfl
  have em:mgTo S (i+1+1) = mgStep (P ++ [y]) (S (i+1)):=by
   show mgStep (mgTo S (i+1)) (S (i+1)) = _
   rw [e]
  rw [em,mgStep_cons,er]
  generalize (List.range (i+1)).map S = T at *
  generalize S (i+1) = z at *
  have hw:IntKind.i64.wrap (y.l+z.l) = y.l+z.l:=wr64 (by omega) (by omega)
  have hasc:=List.pairwise_append.1 hI.asc
  by_cases q:cmpH y z = 0
  ·rw [if_pos q,hw]
   have hk:=(cmpH_0 y z).1 q
   refine ⟨P,_,rfl,hk.1,hk.2,⟨List.pairwise_append.2 ⟨hasc.1,by simp,fun a ha b hb=>?_⟩,fun o a=>?_,fun x=>?_,fun c hc=>?_,fun c hc=>?_⟩⟩
   ·simp at hb
    subst hb
    have:=hasc.2.2 a ha y (by simp)
    rw [cmpH_lt] at this ⊢
    exact this
   ·have:=hI.sum o a
    rw [kS_app] at this ⊢
    rw [kS_app,← this]
    simp only [kS]
    by_cases r:y.o = o/\y.a = a
    ·rw [if_pos r,if_pos r,if_pos ⟨by rw [← hk.1]; exact r.1,by rw [← hk.2]; exact r.2⟩]; omega
    ·rw [if_neg r,if_neg r,if_neg fun h=>r ⟨by rw [hk.1]; exact h.1,by rw [hk.2]; exact h.2⟩]; omega
   ·have:=hI.art x
    rw [hdN_app] at this ⊢
    rw [hdN_app,← this]
    simp only [hdN]
    by_cases r:y.a = x
    ·rw [if_pos r,if_pos r,if_pos (by rw [← hk.2]; exact r)]; omega
    ·rw [if_neg r,if_neg r,if_neg fun h=>r (by rw [hk.2]; exact h)]; omega
   ·rcases List.mem_append.1 hc with h | h
    ·have:=hI.pos c (by simp [h]); omega
    ·simp at h; subst h
     show 1<=y.l+z.l/\y.l+z.l<=1000000000 * ((i+1+1:Nat):Int)
     omega
   ·rcases List.mem_append.1 hc with h | h
    ·obtain ⟨d,h1,h2⟩:=hI.key c (by simp [h])
     exact ⟨d,by simp [h1],h2⟩
    ·simp at h; subst h
     obtain ⟨d,h1,h2⟩:=hI.key y (by simp)
     exact ⟨d,by simp [h1],h2⟩
  ·rw [if_neg q]
   have hlt:cmpH y z<0:=by
    rw [cmpH_0] at q
    rw [cmpH_lt] at hs1 ⊢
    omega
   refine ⟨P ++ [y],z,rfl,rfl,rfl,⟨List.pairwise_append.2 ⟨hI.asc,by simp,fun a ha b hb=>?_⟩,fun o a=>?_,fun x=>?_,fun c hc=>?_,fun c hc=>?_⟩⟩
   ·simp at hb
    subst hb
    rcases List.mem_append.1 ha with h | h
    ·exact cmpH_trans (hasc.2.2 a h y (by simp)) hlt
    ·simp at h; subst h; exact hlt
   ·have e1:=kS_app (P ++ [y]) [z] o a
    have e2:=kS_app T [z] o a
    rw [e1,e2,hI.sum]
   ·have e1:=hdN_app (P ++ [y]) [z] x
    have e2:=hdN_app T [z] x
    rw [e1,e2,hI.art]
   ·rcases List.mem_append.1 hc with h | h
    ·have:=hI.pos c h; omega
    ·simp at h; subst h; omega
   ·rcases List.mem_append.1 hc with h | h
    ·obtain ⟨d,h1,h2⟩:=hI.key c h
     exact ⟨d,by simp [h1],h2⟩
    ·simp at h; subst h
     exact ⟨c,by simp,rfl,rfl⟩
theorem mgL_inv (hs l:List Hld) (h1:∀ c,c ∈ hs->1<=c.l/\c.l<=1000000000) (h2:∀ c,c ∈ l->1<=c.l/\c.l<=1000000000) (n1:hs.length<=400000) (n2:l.length<=400000):MgI (hs ++ l) (mgL hs l) (hs.length+l.length):=by
 have ecat:(List.range (hs.length+l.length)).map (catF hs.length (lstF hs) (lstF l)) = hs ++ l:=by
  refine List.ext_getElem (by simp) fun i q1 q2=>?_
  have q3:i<hs.length+l.length:=by simpa using q1
  rw [List.getElem_map,List.getElem_range]
  unfold catF
  rw [bltD]
  by_cases c:i<hs.length
  ·rw [decide_eq_true c,cond_true,List.getElem_append_left c]
   simp [lstF,c]
  ·rw [decide_eq_false c,cond_false,List.getElem_append_right (by omega)]
   simp [lstF,show i - hs.length<l.length by omega]
 rcases Nat.eq_zero_or_pos (hs.length+l.length) with q | q
 ·have ha:hs = []:=List.length_eq_zero_iff.1 (by omega)
  have hb:l = []:=List.length_eq_zero_iff.1 (by omega)
  subst ha hb
  exact ⟨List.Pairwise.nil,fun _ _=>rfl,fun _=>rfl,fun c hc=>(by cases hc),fun c hc=>(by cases hc)⟩
 have hsz:((List.range (hs.length+l.length)).map (catF hs.length (lstF hs) (lstF l))).toArray.size = hs.length+l.length:=by simp
 obtain ⟨⟨p1,_,p3⟩,p4⟩:=srt42_is ((List.range (hs.length+l.length)).map (catF hs.length (lstF hs) (lstF l))).toArray
 rw [hsz] at p1 p3 p4
 have ext:∀ (A:Array Hld) (n:Nat),A.size = n->A.extract 0 n = A:=fun A n h=>by subst h; exact Array.extract_size
 rw [ext _ _ p1,ext _ _ hsz] at p3
 have p3:(srt42 ((List.range (hs.length+l.length)).map (catF hs.length (lstF hs) (lstF l))).toArray).toList.Perm (hs ++ l):=by
  rw [← ecat]
  exact p3
 have eD:(List.range (hs.length+l.length)).map (srtF hs.length l.length (lstF hs) (lstF l)) = (srt42 ((List.range (hs.length+l.length)).map (catF hs.length (lstF hs) (lstF l))).toArray).toList:=by
  refine List.ext_getElem (by simp [p1]) fun i q1 q2=>?_
  have q3:i<hs.length+l.length:=by simpa using q1
  rw [List.getElem_map,List.getElem_range]
  unfold srtF
  rw [getElem!_pos _ i (by omega)]
  simp
 have hvS:∀ i,i<hs.length+l.length->1<=(srtF hs.length l.length (lstF hs) (lstF l) i).l/\(srtF hs.length l.length (lstF hs) (lstF l) i).l<=1000000000:=fun i hi=>by
  have:srtF hs.length l.length (lstF hs) (lstF l) i ∈ hs ++ l:=p3.mem_iff.1 (by rw [← eD]; exact List.mem_map.2 ⟨i,List.mem_range.2 hi,rfl⟩)
  rcases List.mem_append.1 this with h | h
  ·exact h1 _ h
  ·exact h2 _ h
 have hsS:∀ i,i+1<hs.length+l.length->¬ cmpH (srtF hs.length l.length (lstF hs) (lstF l) (i+1)) (srtF hs.length l.length (lstF hs) (lstF l) i)<0:=fun i hi=>by
  have:=p4 i (i+1) (Nat.zero_le _) (by omega) hi
  unfold ltOf at this
  exact of_decide_eq_false this
 obtain ⟨k,hk⟩:∃ k,hs.length+l.length = k+1:=⟨hs.length+l.length - 1,by omega⟩
 obtain ⟨P,y,e,_,_,hI⟩:=mg_inv (srtF hs.length l.length (lstF hs) (lstF l)) (hs.length+l.length) (by omega) hvS hsS k (by omega)
 rw [← hk] at e hI
 rw [eD] at hI
 have em:mgL hs l = P ++ [y]:=e
 rw [em]
 exact ⟨hI.asc,fun o a=>(hI.sum o a).trans (kS_perm p3 o a),fun x=>(hI.art x).trans (hdN_perm p3 x),hI.pos,fun c hc=>by
  obtain ⟨d,q1,q2⟩:=hI.key c hc
  exact ⟨d,p3.mem_iff.1 q1,q2⟩⟩
structure Valid (cs:List Cne) (hs:List Hld):Prop where
 cl:cs.length<=512
 hl:hs.length<=512
 cv:∀ c,c ∈ cs->cvB c = true
 hv:∀ c,c ∈ hs->hvB c = true
 asc:ascP hs
 fr:∀ x,0<=frF cs hs x
theorem asc_iff {hs:List Hld}:ascP hs ↔ Asc hs:=by
 unfold ascP
 rw [List.pairwise_iff_getElem]
 constructor
 ·intro h a b hab hb
  have:=h a b (by omega) hb hab
  simpa [List.getD_eq_getElem?_getD,List.getElem?_eq_getElem hb,List.getElem?_eq_getElem (show a<hs.length by omega)] using this
 ·intro h i j hi hj hij
  have:=h i j hij hj
  simpa [List.getD_eq_getElem?_getD,List.getElem?_eq_getElem hi,List.getElem?_eq_getElem hj] using this
theorem hOk_iff {hs:List Hld}:hOk hs = true ↔ (∀ c,c ∈ hs->hvB c = true)/\ascP hs:=by
 constructor
 ·exact fun h=>⟨hOk_val h,asc_iff.2 (hOk_asc h)⟩
 ·rintro ⟨h1,h2⟩
  refine (allB_iff _ _).2 fun i hi=>?_
  unfold hkB
  rw [h1 _ (mem_getD hi hd0),Bool.true_and,Bool.or_eq_true]
  rcases Nat.eq_zero_or_pos i with q | q
  ·exact .inl (by simp [q])
  ·exact .inr (decide_eq_true (asc_iff.1 h2 (i - 1) i (by omega) hi))
theorem ckE_iff {cs:List Cne} {hs:List Hld}:ckE cs hs = 0 ↔ Valid cs hs:=by
 constructor
 ·intro h
  obtain ⟨m1,m2,m3,m4,m5⟩:=ckE_0 h
  have g:=fr_good cs hs (cOk_iff.1 m3) (hOk_val m4) (by omega) (by omega)
  refine ⟨m1,m2,cOk_iff.1 m3,hOk_val m4,asc_iff.2 (hOk_asc m4),fun x=>?_⟩
  refine Classical.byContradiction fun q=>?_
  have:=g.1.short.2 ⟨x,by omega⟩
  rw [m5] at this
  cases this
 ·intro h
  have g:=fr_good cs hs h.cv h.hv (by have:=h.cl; omega) (by have:=h.hl; omega)
  have m3:=cOk_iff.2 h.cv
  have m4:=hOk_iff.2 ⟨h.hv,h.asc⟩
  unfold ckE
  rw [if_neg (by have:=h.cl; have:=h.hl; omega),if_neg (by rw [m3,m4]; simp),if_neg fun q=>?_]
  obtain ⟨x,hx⟩:=g.1.short.1 q
  have:=h.fr x
  omega
theorem lOk_iff {l:List Hld}:lOk l = true ↔ ∀ c,c ∈ l->hvB c = true:=by
 constructor
 ·exact hOk_of
 ·exact fun h=>(allB_iff _ _).2 fun i hi=>h _ (mem_getD hi hd0)
theorem rsv_is {cs:List Cne} {hs l:List Hld} (h:Valid cs hs) (hl:∀ c,c ∈ l->hvB c = true) (n3:l.length<=100000) :
 ((∃ x,frF cs hs x<hdN l x)/\rsv cs hs l = ([],[],18)) ∨ ((∀ x,hdN l x<=frF cs hs x)/\rsv cs hs l = if bigOk (mgL hs l) = false then ([],[],3) else if 512<(mgL hs l).length then ([],[],9) else (cs,mgL hs l,0)):=by
 have g:=take_good cs hs l h.cv h.hv hl (by have:=h.cl; omega) (by have:=h.hl; omega) n3
 unfold rsv
 rw [if_neg (by rw [ckE_iff.2 h]; simp),if_neg (by rw [lOk_iff.2 hl]; simp)]
 by_cases q:∃ x,frF cs hs x<hdN l x
 ·refine .inl ⟨q,?_⟩
  obtain ⟨x,hx⟩:=q
  rw [if_pos (g.1.short.2 ⟨x,by omega⟩)]
 ·refine .inr ⟨fun x=>Classical.byContradiction fun hh=>q ⟨x,by omega⟩,?_⟩
  rw [if_neg fun hh=>?_]
  obtain ⟨x,hx⟩:=g.1.short.1 hh
  exact q ⟨x,by omega⟩
theorem ascP_nodup {L:List Hld} (h:ascP L):L.Nodup:=h.imp fun {a b} hab e=>by subst e; rw [cmpH_lt] at hab; omega
theorem kS_out {L:List Hld} {o a:Int} (h:∀ c,c ∈ L->¬ (c.o = o/\c.a = a)):kS L o a = 0:=by
 induction L with
 | nil=>rfl
 | cons c l ih =>
  simp only [kS]
  rw [if_neg (h c (by simp)),ih fun d hd=>h d (by simp [hd])]; rfl
theorem kS_mem {L:List Hld} (h:ascP L):∀ c,c ∈ L->kS L c.o c.a = c.l:=by
 induction L with
 | nil=>intro c hc; cases hc
 | cons x l ih =>
  obtain ⟨h1,h2⟩:=List.pairwise_cons.1 h
  intro c hc
  simp only [kS]
  rcases List.mem_cons.1 hc with rfl | hc
  ·rw [if_pos ⟨rfl,rfl⟩,kS_out fun d hd q=>?_]
   ·omega
   ·have:=h1 d hd
    rw [cmpH_lt] at this
    omega
  ·have:=h1 c hc
   rw [cmpH_lt] at this
   rw [if_neg (by omega),ih h2 c hc]; omega
theorem kS_has {L:List Hld} {o a:Int} (h:kS L o a ≠ 0):∃ c,c ∈ L/\c.o = o/\c.a = a:=by
 refine Classical.byContradiction fun q=>h (kS_out fun c hc hh=>q ⟨c,hc,hh⟩)
theorem asc_unique {L M:List Hld} (hL:ascP L) (hM:ascP M) (pL:∀ c,c ∈ L->1<=c.l) (pM:∀ c,c ∈ M->1<=c.l) (h:∀ o a,kS L o a = kS M o a):L = M:=by
 have sub:∀ {L M:List Hld},ascP L->ascP M->(∀ c,c ∈ L->1<=c.l)->(∀ o a,kS L o a = kS M o a)->∀ c,c ∈ L->c ∈ M:=fun {L M} hL hM pL h c hc=>by
  have e:=(h c.o c.a).symm.trans (kS_mem hL c hc)
  have:=pL c hc
  obtain ⟨d,hd,h1,h2⟩:=kS_has (L:=M) (o:=c.o) (a:=c.a) (by omega)
  have e2:=kS_mem hM d hd
  rw [h1,h2,e] at e2
  have:d = c:=by
   cases d; cases c
   simp only at h1 h2 e2
   subst h1 h2 e2
   rfl
  rw [← this]; exact hd
 have hp:L.Perm M:=(List.perm_ext_iff_of_nodup (ascP_nodup hL) (ascP_nodup hM)).2 fun c=>⟨sub hL hM pL h c,sub hM hL pM (fun o a=>(h o a).symm) c⟩
 exact List.Perm.eq_of_pairwise (le:=fun x y=>cmpH x y<0) (fun a b _ _ h1 h2=>by rw [cmpH_lt] at h1 h2; omega) hL hM hp
theorem mgL_eq {hs l M:List Hld} (h1:∀ c,c ∈ hs->1<=c.l/\c.l<=1000000000) (h2:∀ c,c ∈ l->1<=c.l/\c.l<=1000000000) (n1:hs.length<=400000) (n2:l.length<=400000) (hM:ascP M) (pM:∀ c,c ∈ M->1<=c.l) (h:∀ o a,kS M o a = kS hs o a+kS l o a):mgL hs l = M:=by
 have hI:=mgL_inv hs l h1 h2 n1 n2
 exact asc_unique hI.asc hM (fun c hc=>(hI.pos c hc).1) pM fun o a=>by rw [hI.sum,kS_app,h]
def cutN (a:Int):Nat->List Cne->Int->Int->List Cne × Int
 | 0,L,_,kn=>(L,kn)
 | n+1,L,l,kn=>if 0<l then match lst L a L.length with
  | none=>(L,kn)
  | some b=>if (L.getD b cn0).l<=l then cutN a n (L.eraseIdx b) (l - (L.getD b cn0).l) (kn+1) else (L.set b ⟨(L.getD b cn0).a,(L.getD b cn0).l - l⟩,kn+1)
  else (L,kn)
theorem cutN_of {a:Int} {L:List Cne} {l kn:Int} {L2:List Cne} {k2:Int} (h:CutTo a L l kn L2 k2):∀ n,L.length<n->cutN a n L l kn = (L2,k2):=by
 induction h with
 | done L l kn h=>intro n hn; obtain ⟨m,rfl⟩:∃ m,n = m+1:=⟨n - 1,by omega⟩; simp only [cutN]; rw [if_neg h]
 | none L l kn h hb=>intro n hn; obtain ⟨m,rfl⟩:∃ m,n = m+1:=⟨n - 1,by omega⟩; simp only [cutN]; rw [if_pos h,hb]
 | cut L l kn b L2 k2 h hb hl hr ih =>
  intro n hn
  obtain ⟨m,rfl⟩:∃ m,n = m+1:=⟨n - 1,by omega⟩
  simp only [cutN]
  rw [if_pos h,hb]
  dsimp only
  rw [if_pos hl]
  exact ih m (by rw [List.length_eraseIdx_of_lt (lst_lt L a _ b hb)]; have:=lst_lt L a _ b hb; omega)
 | part L l kn b h hb hl =>
  intro n hn
  obtain ⟨m,rfl⟩:∃ m,n = m+1:=⟨n - 1,by omega⟩
  simp only [cutN]
  rw [if_pos h,hb]
  dsimp only
  rw [if_neg (by omega)]
theorem At.unique {hs:List Hld} {x:Hld} {i j:Nat} (hi:At hs x i) (hj:At hs x j):i = j:=by
 rcases Nat.lt_trichotomy i j with h | h | h
 ·exact absurd (hj.lo i h) (hi.hi i (Nat.le_refl _) (by have:=hj.le; omega))
 ·exact h
 ·exact absurd (hi.lo j h) (hj.hi j (Nat.le_refl _) (by have:=hi.le; omega))
def misF (cs:List Cne) (hs l:List Hld) (x:Int):Int:=frF cs hs x - hdN l x
def needL (f:Int->Int):List Cne:=(((List.range 1001).map Int.ofNat).filter fun x=>decide (f x<0)).map fun x=>⟨x,0 - f x⟩
theorem ndTo_is (s:Sm) (ks:List Int):∀ i,i<=ks.length->ndTo s ks i = ((ks.take i).filter fun x=>decide (s.val [x]<0)).map (ndC s)
 | 0,_=>rfl
 | i+1,hi=>by
  have ih:=ndTo_is s ks i (by omega)
  rw [take_one (l:=ks) (i:=i) (by omega) 0,List.filter_append,List.map_append,← ih]
  simp only [ndTo]
  by_cases q:s.val [ks.getD i 0]<0
  ·rw [if_pos q]
   simp only [List.filter_cons,decide_eq_true q,if_true,List.filter_nil,List.map_cons,List.map_nil]
  ·rw [if_neg q]
   simp only [List.filter_cons,decide_eq_false q,List.filter_nil]
   simp
theorem needO_is {cs:List Cne} {hs l:List Hld} (h:Valid cs hs) (hl:∀ c,c ∈ l->hvB c = true) (n3:l.length<=100000):needO cs hs l = needL (misF cs hs l):=by
 have n1:cs.length<=100000:=by have:=h.cl; omega
 have n2:hs.length<=100000:=by have:=h.hl; omega
 have g:=take_good cs hs l h.cv h.hv hl n1 n2 n3
 unfold needO
 rw [if_neg (by rw [ckE_iff.2 h]; simp),ndTo_is _ _ _ (Nat.le_refl _),List.take_length]
 have hg:=g.2
 have r:=g.1
 generalize takeS (freeS cs hs) l l.length = s at *
 have hval:∀ x,s.val [x] = misF cs hs l x:=r.val
 have hb:∀ x,-9223372036854775808<=0 - misF cs hs l x/\0 - misF cs hs l x<=9223372036854775807:=fun x=>by
  have c1:∀ c,c ∈ cs->0<=c.l/\c.l<=1000000000:=fun c hc=>by have:=cvB_iff.1 (h.cv c hc); omega
  have c2:∀ c,c ∈ hs->0<=c.l/\c.l<=1000000000:=fun c hc=>by have:=hvB_iff.1 (h.hv c hc); omega
  have c3:∀ c,c ∈ l->0<=c.l/\c.l<=1000000000:=fun c hc=>by have:=hvB_iff.1 (hl c hc); omega
  have:=cnN_bd cs c1 x
  have:=hdN_bd hs c2 x
  have:=hdN_bd l c3 x
  unfold misF frF
  omega
 unfold ksF needL
 rw [List.filter_filter]
 have e1:(fun x=>decide (s.val [x]<0)&&s.has [x]) = fun x=>decide (misF cs hs l x<0):=by
  funext x
  rw [hval,r.has]
  show (decide (misF cs hs l x<0)&&decide (misF cs hs l x ≠ 0)) = _
  by_cases q:misF cs hs l x<0
  ·rw [decide_eq_true q,decide_eq_true (show misF cs hs l x ≠ 0 by omega)]; rfl
  ·rw [decide_eq_false q]; rfl
 rw [e1]
 refine List.map_congr_left fun x _=>?_
 unfold ndC
 rw [hval,wr64 (hb x).1 (hb x).2]
open Go.Proofs
def LstIs (L:List Cne) (a:Int) (i:Nat):Option Nat->Prop
 | none=>∀ j,j<i->(L.getD j cn0).a ≠ a
 | some b=>b<i/\(L.getD b cn0).a = a/\∀ j,j<i->(L.getD j cn0).a = a->(L.getD b cn0).l<=(L.getD j cn0).l
theorem lst_spec (L:List Cne) (a:Int):∀ i,LstIs L a i (lst L a i)
 | 0=>fun j hj=>absurd hj (Nat.not_lt_zero _)
 | i+1=>by
  have ih:=lst_spec L a i
  unfold lst
  cases h1:lst L a i with
  | none =>
   rw [h1] at ih
   dsimp only
   by_cases c:(L.getD i cn0).a = a
   ·rw [if_pos c]
    refine ⟨by omega,c,fun j hj he=>?_⟩
    by_cases e:j = i
    ·subst e; omega
    ·exact absurd he (ih j (by omega))
   ·rw [if_neg c]
    intro j hj
    by_cases e:j = i
    ·subst e; exact c
    ·exact ih j (by omega)
  | some b =>
   rw [h1] at ih
   obtain ⟨q1,q2,q3⟩:=ih
   dsimp only
   by_cases c:(L.getD i cn0).a = a/\(L.getD i cn0).l<(L.getD b cn0).l
   ·rw [if_pos c]
    refine ⟨by omega,c.1,fun j hj he=>?_⟩
    by_cases e:j = i
    ·subst e; omega
    ·have:=q3 j (by omega) he; omega
   ·rw [if_neg c]
    refine ⟨by omega,q2,fun j hj he=>?_⟩
    by_cases e:j = i
    ·subst e
     exact Int.not_lt.1 fun h=>c ⟨he,h⟩
    ·exact q3 j (by omega) he
theorem cnN_erase:∀ (L:List Cne) (b:Nat),b<L.length->∀ x,cnN L x = (if (L.getD b cn0).a = x then (L.getD b cn0).l else 0)+cnN (L.eraseIdx b) x
 | [],b,h,x=>absurd h (Nat.not_lt_zero _)
 | c :: L,0,h,x=>rfl
 | c :: L,b+1,h,x=>by
  have ih:=cnN_erase L b (by simpa using h) x
  have e:(c :: L).getD (b+1) cn0 = L.getD b cn0:=rfl
  rw [e]
  simp only [List.eraseIdx_cons_succ,cnN]
  omega
theorem cnN_set:∀ (L:List Cne) (b:Nat),b<L.length->∀ (y:Cne) (x:Int),cnN (L.set b y) x = (if y.a = x then y.l else 0)+cnN (L.eraseIdx b) x
 | [],b,h,y,x=>absurd h (Nat.not_lt_zero _)
 | c :: L,0,h,y,x=>rfl
 | c :: L,b+1,h,y,x=>by
  have ih:=cnN_set L b (by simpa using h) y x
  simp only [List.set_cons_succ,List.eraseIdx_cons_succ,cnN]
  omega
theorem map_erase:∀ (L:List Cne) (b:Nat),b<L.length->(L.map (·.l)).Perm ((L.getD b cn0).l :: (L.eraseIdx b).map (·.l))
 | [],b,h=>absurd h (Nat.not_lt_zero _)
 | c :: L,0,h=>.refl _
 | c :: L,b+1,h=>by
  have ih:=map_erase L b (by simpa using h)
  exact (List.Perm.cons _ ih).trans (.swap ..)
theorem cut_sum {a:Int} {L:List Cne} {l kn:Int} {L2:List Cne} {k2:Int} (h:CutTo a L l kn L2 k2):0<=l->l<=cnN L a->∀ x,cnN L2 x = cnN L x - (if x = a then l else 0):=by
 induction h with
 | done L l kn h=>intro h0 hl x; split <;> omega
 | none L l kn h hb =>
  intro h0 hl x
  have:=lst_spec L a L.length
  rw [hb] at this
  have e:=cn_out (cs:=L) (x:=a) fun c hc=>by
   obtain ⟨j,hj,rfl⟩:=List.getElem_of_mem hc
   have:=this j hj
   simpa [List.getD_eq_getElem?_getD,List.getElem?_eq_getElem hj] using this
  omega
 | cut L l kn b L2 k2 h hb hl hr ih =>
  intro h0 hl2 x
  have hs:=lst_spec L a L.length
  rw [hb] at hs
  obtain ⟨q1,q2,_⟩:=hs
  have e1:=cnN_erase L b q1 a
  have e2:=cnN_erase L b q1 x
  rw [if_pos q2] at e1
  have ih:=ih (by omega) (by omega) x
  by_cases c:x = a
  ·subst c
   rw [if_pos rfl] at ih ⊢
   omega
  ·rw [if_neg c] at ih ⊢
   rw [if_neg fun h=>c (h.symm.trans q2)] at e2
   omega
 | part L l kn b h hb hl =>
  intro h0 hl2 x
  have hs:=lst_spec L a L.length
  rw [hb] at hs
  obtain ⟨q1,q2,_⟩:=hs
  have e1:=cnN_erase L b q1 x
  rw [cnN_set L b q1]
  rw [q2] at e1 ⊢
  dsimp only
  by_cases c:x = a
  ·subst c
   rw [if_pos rfl] at e1 ⊢
   rw [if_pos rfl]
   omega
  ·rw [if_neg fun h=>c h.symm] at e1 ⊢
   rw [if_neg c]
   omega
theorem cut_mem {a:Int} {L:List Cne} {l kn:Int} {L2:List Cne} {k2:Int} (h:CutTo a L l kn L2 k2):(∀ c,c ∈ L->1<=c.l)->L2.length<=L.length/\∀ c,c ∈ L2->∃ d,d ∈ L/\c.a = d.a/\1<=c.l/\c.l<=d.l:=by
 induction h with
 | done L l kn h=>exact fun hp=>⟨Nat.le_refl _,fun c hc=>⟨c,hc,rfl,hp c hc,Int.le_refl _⟩⟩
 | none L l kn h hb=>exact fun hp=>⟨Nat.le_refl _,fun c hc=>⟨c,hc,rfl,hp c hc,Int.le_refl _⟩⟩
 | cut L l kn b L2 k2 h hb hl hr ih =>
  intro hp
  obtain ⟨q1,q2⟩:=ih fun c hc=>hp c (List.mem_of_mem_eraseIdx hc)
  refine ⟨Nat.le_trans q1 (List.length_eraseIdx_le ..),fun c hc=>?_⟩
  obtain ⟨d,hd,r⟩:=q2 c hc
  exact ⟨d,List.mem_of_mem_eraseIdx hd,r⟩
 | part L l kn b h hb hl =>
  intro hp
  have hb:=lst_lt L a _ b hb
  refine ⟨by simp,fun c hc=>?_⟩
  rcases List.mem_or_eq_of_mem_set hc with q | q
  ·exact ⟨c,q,rfl,hp c q,Int.le_refl _⟩
  ·subst q
   exact ⟨_,mem_getD hb cn0,rfl,by dsimp only; omega,by dsimp only; omega⟩
def gE:List Int->Int->Nat
 | [],_=>0
 | x :: r,l=>if x<=l then gE r (l - x)+1 else 0
def gL:List Int->Int->Int
 | [],l=>l
 | x :: r,l=>if x<=l then gL r (l - x) else l
theorem asc_head {S:List Int} {m:Int} {r:List Int} (hS:S.Pairwise (·<=·)) (hp:S.Perm (m :: r)) (hm:∀ y,y ∈ r->m<=y):∃ S',S = m :: S'/\S'.Perm r/\S'.Pairwise (·<=·):=by
 cases S with
 | nil=>exact absurd hp.length_eq (by simp)
 | cons x S =>
  obtain ⟨q1,q2⟩:=List.pairwise_cons.1 hS
  have e:x = m:=by
   have hx:x ∈ m :: r:=hp.mem_iff.1 (by simp)
   have hy:m ∈ x :: S:=hp.mem_iff.2 (by simp)
   rcases List.mem_cons.1 hx with h | h
   ·exact h
   ·have h1:=hm x h
    rcases List.mem_cons.1 hy with h2 | h2
    ·exact h2.symm
    ·have:=q1 m h2; omega
  subst e
  exact ⟨S,rfl,hp.cons_inv,q2⟩
theorem sum_perm {S R:List Int} (h:S.Perm R):S.sum = R.sum:=by
 induction h with
 | nil=>rfl
 | cons x _ ih=>simp [ih]
 | swap x y l=>simp only [List.sum_cons]; omega
 | trans _ _ h1 h2=>rw [h1,h2]
theorem cut_greedy {a:Int} {L:List Cne} {l kn:Int} {L2:List Cne} {k2:Int} (h:CutTo a L l kn L2 k2):∀ S:List Int,S.Pairwise (·<=·)->S.Perm (L.map (·.l))->(∀ c,c ∈ L->c.a = a/\1<=c.l)->0<=l->l<=S.sum->L2.length+gE S l = L.length/\k2 = kn+gE S l+(if 0<gL S l then 1 else 0):=by
 induction h with
 | done L l kn h =>
  intro S hS hp hL h0 hl
  obtain rfl:l = 0:=by omega
  have e:gE S 0 = 0/\gL S 0 = 0:=by
   cases S with
   | nil=>exact ⟨rfl,rfl⟩
   | cons x S =>
    have hx:x ∈ L.map (·.l):=hp.mem_iff.1 (by simp)
    obtain ⟨c,hc,rfl⟩:=List.mem_map.1 hx
    have:=(hL c hc).2
    simp only [gE,gL]
    rw [if_neg (by omega),if_neg (by omega)]
    exact ⟨rfl,rfl⟩
  rw [e.1,e.2]
  exact ⟨rfl,by simp⟩
 | none L l kn h hb =>
  intro S hS hp hL h0 hl
  cases L with
  | nil =>
   have:S = []:=List.Perm.eq_nil hp
   subst this
   simp at hl
   omega
  | cons c L =>
   have:=lst_spec (c :: L) a (c :: L).length
   rw [hb] at this
   exact absurd (hL c (by simp)).1 (this 0 (by simp))
 | cut L l kn b L2 k2 h hb hl hr ih =>
  intro S hS hp hL h0 hls
  have hs:=lst_spec L a L.length
  rw [hb] at hs
  obtain ⟨q1,q2,q3⟩:=hs
  obtain ⟨S',rfl,p1,p2⟩:=asc_head hS (hp.trans (map_erase L b q1)) fun y hy=>by
   obtain ⟨c,hc,rfl⟩:=List.mem_map.1 hy
   obtain ⟨j,hj,rfl⟩:=List.getElem_of_mem (List.mem_of_mem_eraseIdx hc)
   have:=q3 j hj
   simp only [List.getD_eq_getElem?_getD,List.getElem?_eq_getElem hj,Option.getD_some] at this ⊢
   exact this (hL _ (List.getElem_mem hj)).1
  have ih:=ih S' p2 p1 (fun c hc=>hL c (List.mem_of_mem_eraseIdx hc)) (by omega) (by simp only [List.sum_cons] at hls; omega)
  have el:=List.length_eraseIdx_of_lt q1
  have e1:gE ((L.getD b cn0).l :: S') l = gE S' (l - (L.getD b cn0).l)+1:=by simp only [gE]; rw [if_pos hl]
  have e2:gL ((L.getD b cn0).l :: S') l = gL S' (l - (L.getD b cn0).l):=by simp only [gL]; rw [if_pos hl]
  rw [e1,e2]
  refine ⟨by omega,?_⟩
  rw [ih.2]
  omega
 | part L l kn b h hb hl =>
  intro S hS hp hL h0 hls
  have hs:=lst_spec L a L.length
  rw [hb] at hs
  obtain ⟨q1,q2,q3⟩:=hs
  obtain ⟨S',rfl,p1,p2⟩:=asc_head hS (hp.trans (map_erase L b q1)) fun y hy=>by
   obtain ⟨c,hc,rfl⟩:=List.mem_map.1 hy
   obtain ⟨j,hj,rfl⟩:=List.getElem_of_mem (List.mem_of_mem_eraseIdx hc)
   have:=q3 j hj
   simp only [List.getD_eq_getElem?_getD,List.getElem?_eq_getElem hj,Option.getD_some] at this ⊢
   exact this (hL _ (List.getElem_mem hj)).1
  have e1:gE ((L.getD b cn0).l :: S') l = 0:=by simp only [gE]; rw [if_neg (by omega)]
  have e2:gL ((L.getD b cn0).l :: S') l = l:=by simp only [gL]; rw [if_neg (by omega)]
  rw [e1,e2,if_pos h]
  exact ⟨by simp,by omega⟩
def posI (S:List Int) (x:Int):Nat->Nat
 | 0=>0
 | k+1=>if x<S.getD k 0 then posI S x k else k+1
theorem posI_le (S:List Int) (x:Int):∀ k,posI S x k<=k
 | 0=>Nat.le_refl _
 | k+1=>by
  unfold posI
  split
  ·have:=posI_le S x k; omega
  ·exact Nat.le_refl _
theorem posI_hi (S:List Int) (x:Int):∀ k j,posI S x k<=j->j<k->x<S.getD j 0
 | 0,j,_,h=>absurd h (Nat.not_lt_zero _)
 | k+1,j,h1,h2=>by
  unfold posI at h1
  split at h1
  ·next c =>
   by_cases e:j = k
   ·subst e; exact c
   ·exact posI_hi S x k j h1 (by omega)
  ·omega
theorem posI_lo (S:List Int) (x:Int):∀ k,posI S x k = 0 ∨ ¬ x<S.getD (posI S x k - 1) 0
 | 0=>.inl rfl
 | k+1=>by
  unfold posI
  split
  ·exact posI_lo S x k
  ·next c=>exact .inr (by simpa using c)
def insL (S:List Int) (x:Int):List Int:=S.take (posI S x S.length) ++ x :: S.drop (posI S x S.length)
theorem insL_len (S:List Int) (x:Int):(insL S x).length = S.length+1:=by
 have:=posI_le S x S.length
 simp only [insL,List.length_append,List.length_take,List.length_cons,List.length_drop]
 omega
theorem insL_perm (S:List Int) (x:Int):(insL S x).Perm (x :: S):=by
 unfold insL
 refine List.perm_middle.trans ?_
 rw [List.take_append_drop]
theorem insL_asc {S:List Int} (h:S.Pairwise (·<=·)) (x:Int):(insL S x).Pairwise (·<=·):=by
 unfold insL
 have hk:=posI_le S x S.length
 have hget:∀ i (hi:i<S.length),S.getD i 0 = S[i]:=fun i hi=>by simp [List.getD_eq_getElem?_getD,List.getElem?_eq_getElem hi]
 have hd:∀ y,y ∈ S.drop (posI S x S.length)->x<=y:=fun y hy=>by
  obtain ⟨i,hi,rfl⟩:=List.getElem_of_mem hy
  have hi:i<S.length - posI S x S.length:=by simpa using hi
  have:=posI_hi S x S.length (posI S x S.length+i) (by omega) (by omega)
  rw [hget _ (by omega)] at this
  simp only [List.getElem_drop]
  omega
 have ht:∀ y,y ∈ S.take (posI S x S.length)->y<=x:=fun y hy=>by
  obtain ⟨i,hi,rfl⟩:=List.getElem_of_mem hy
  have hi:i<posI S x S.length:=by simp at hi; omega
  rcases posI_lo S x S.length with q | q
  ·omega
  ·rw [hget _ (by omega)] at q
   simp only [List.getElem_take]
   by_cases e:i = posI S x S.length - 1
   ·subst e; omega
   ·have:=List.pairwise_iff_getElem.1 h i (posI S x S.length - 1) (by omega) (by omega) (by omega)
    omega
 refine List.pairwise_append.2 ⟨h.sublist (List.take_sublist ..),List.pairwise_cons.2 ⟨hd,h.sublist (List.drop_sublist ..)⟩,fun a ha b hb=>?_⟩
 have h1:=ht a ha
 rcases List.mem_cons.1 hb with rfl | hb
 ·exact h1
 ·have:=hd b hb; omega
theorem insL_get (S:List Int) (x:Int) (j:Nat) (hj:j<S.length+1):(insL S x).getD j 0 = if j<posI S x S.length then S.getD j 0 else if j = posI S x S.length then x else S.getD (j - 1) 0:=by
 have hk:=posI_le S x S.length
 have hl:(S.take (posI S x S.length)).length = posI S x S.length:=by simp; omega
 simp only [List.getD_eq_getElem?_getD]
 unfold insL
 by_cases c:j<posI S x S.length
 ·rw [if_pos c,List.getElem?_append_left (by omega),List.getElem?_take_of_lt c]
 ·rw [if_neg c,List.getElem?_append_right (by omega),hl]
  by_cases c2:j = posI S x S.length
  ·rw [if_pos c2,c2,Nat.sub_self]; rfl
  ·rw [if_neg c2,show j - posI S x S.length = (j - 1 - posI S x S.length)+1 by omega,List.getElem?_cons_succ,List.getElem?_drop,show posI S x S.length+(j - 1 - posI S x S.length) = j - 1 by omega]
def rL (S:List Int) (l:Int):Nat->Int
 | 0=>l
 | r+1=>rL S l r - S.getD r 0
theorem rL_cons (x:Int) (S:List Int) (l:Int):∀ r,rL (x :: S) l (r+1) = rL S (l - x) r
 | 0=>rfl
 | r+1=>by
  show rL (x :: S) l (r+1) - (x :: S).getD (r+1) 0 = _
  rw [rL_cons x S l r]
  rfl
theorem gE_spec:∀ (S:List Int) (l:Int),gE S l<=S.length/\(∀ r,r<gE S l->S.getD r 0<=rL S l r)/\(gE S l<S.length->rL S l (gE S l)<S.getD (gE S l) 0)/\gL S l = rL S l (gE S l)
 | [],l=>⟨Nat.le_refl _,fun r hr=>absurd hr (Nat.not_lt_zero _),fun h=>absurd h (Nat.lt_irrefl _),rfl⟩
 | x :: S,l=>by
  obtain ⟨q1,q2,q3,q4⟩:=gE_spec S (l - x)
  by_cases c:x<=l
  ·have e1:gE (x :: S) l = gE S (l - x)+1:=by simp only [gE]; rw [if_pos c]
   have e2:gL (x :: S) l = gL S (l - x):=by simp only [gL]; rw [if_pos c]
   rw [e1,e2,rL_cons]
   refine ⟨by simp only [List.length_cons]; omega,fun r hr=>?_,fun h=>?_,q4⟩
   ·cases r with
    | zero=>exact c
    | succ r=>rw [rL_cons]; exact q2 r (by omega)
   ·exact q3 (by simpa using h)
  ·have e1:gE (x :: S) l = 0:=by simp only [gE]; rw [if_neg c]
   have e2:gL (x :: S) l = l:=by simp only [gL]; rw [if_neg c]
   rw [e1,e2]
   exact ⟨Nat.zero_le _,fun r hr=>absurd hr (Nat.not_lt_zero _),fun _=>by show l<x; omega,rfl⟩
theorem cnN_all {L:List Cne} {a:Int} (h:∀ c,c ∈ L->c.a = a):cnN L a = (L.map (·.l)).sum:=by
 induction L with
 | nil=>rfl
 | cons c L ih =>
  simp only [cnN,List.map_cons,List.sum_cons]
  rw [if_pos (h c (by simp)),ih fun d hd=>h d (by simp [hd])]
open Go.Proofs
def cK (g:Nat->Int) (i:Nat):Cne:=⟨3,1+g i⟩
def u8V (n:Nat) (g:Nat->Int):T:=.view 1 n (fun j=>[.int .u8 (g j)]) none
def iV (k:Nat) (S:Nat->Int):T:=.view 1 k (fun j=>[.int .i64 (S j)]) none
def v6k (n:Nat) (g:Nat->Int) (m:Int) (r:T) (tot:Int) (i:Nat):List T:=[u8V n g,.int .u16 m,.reg [r,.nils],.int .i64 tot,.int .i64 i]
def s5k (n:Nat):T:=.reg [.own 0 n 0 (n+1) none,.own 1 0 0 1 (some 1)]
def v17k (n N:Nat) (g:Nat->Int) (tot many:Int) (a:T) (kn:Int) (S:T) (i:Nat):List T:=[u8V n g,s5k N,.int .i64 tot,.int .i64 many,a,.int .i64 kn,S,.int .i64 i]
def v20k (n N:Nat) (g:Nat->Int) (tot many:Int) (a:T) (kn:Int) (S:T) (i:Nat) (q:Int):List T:=[u8V n g,s5k N,.int .i64 tot,.int .i64 many,a,.int .i64 kn,S,.int .i64 i,.int .i64 q]
def h17k (N:Nat) (g:Nat->Int) (X:Blk):Heap:=[⟨N,2,N+1,fun j=>(cK g j).c,true,false,none⟩,X]
theorem i6ak (n:Nat) (g:Nat->Int) (m tot:Int) (i:Nat):iterR P42 G42 A42 noneO 0 4 [] 6 (v6k n g m .nils tot i) [] =
(
 bif decide (Int.ofNat i<Int.ofNat n) then
 bif decide (0<=Int.ofNat i)&&decide (Int.ofNat i<Int.ofNat n) then
 bif decide (0<=Int.ofNat i)&&decide (Int.ofNat i<Int.ofNat n) then
 some ((.normal,[u8V n g,.int .u16 m,.reg [.own 1 0 0 1
 none,.nils],.int .i64 (IntKind.i64.wrap (IntKind.i64.wrap (tot+1)+IntKind.i64.wrap (g i))),.int .i64 (IntKind.i64.wrap (Int.ofNat i+1))],[.mk 0 2 1 (fun j=>[[T.int .i64 (3:Int),T.int .i64 (IntKind.i64.wrap ((1:Int)+IntKind.i64.wrap (g i)))]].getD j []) true true
 none,.mk 0 2 1 (fun j=>[[T.int .i64 (3:Int),T.int .i64 (IntKind.i64.wrap ((1:Int)+IntKind.i64.wrap (g i)))]].getD (0+j) []) true false
 none]))
 else none else none else
 some ((.exit 0,[u8V n g,.int .u16 m,.reg [.nils,.nils],.int .i64 tot],[]))):=by kernel_rfl
theorem i6bk (n:Nat) (g:Nat->Int) (m tot:Int) (i k:Nat) (L:Nat->Cne):iterR P42 G42 A42 noneO 0 4 [] 6 (v6k n g m (.own 0 k 0 (k+1) none) tot i) [⟨k,2,k+1,fun j=>(L j).c,true,false,none⟩] =
(
 bif decide (Int.ofNat i<Int.ofNat n) then
 bif decide (0<=Int.ofNat i)&&decide (Int.ofNat i<Int.ofNat n) then
 bif k==k&&true then
 bif ((0:Nat)+(k+(1:Nat))).ble (k+1) then
 bif ((k+(1:Nat)+(1:Nat)) * (17:Nat)).ble 70368744177664 then
 bif ((0:Nat)+(k+(1:Nat))+(1:Nat)).ble (k+1) then
 bif decide (0<=Int.ofNat i)&&decide (Int.ofNat i<Int.ofNat n) then
 some ((.normal,[u8V n g,.int .u16 m,.reg [.own 0 k 0 (k+1+(1:Nat))
 none,.nils],.int .i64 (IntKind.i64.wrap (IntKind.i64.wrap (tot+1)+IntKind.i64.wrap (g i))),.int .i64 (IntKind.i64.wrap (Int.ofNat i+1))],[.mk k 2 (k+1) (fun j =>
 bif ((0:Nat)+(k+(1:Nat))).ble j&&j.blt ((0:Nat)+(k+1)+(1:Nat)) then [[T.int .i64 (3:Int),T.int .i64 (IntKind.i64.wrap ((1:Int)+IntKind.i64.wrap (g i)))]].getD ((0:Nat)+(j - ((0:Nat)+(k+1)))) []
 else (L j).c) true false
 none,.mk 0 2 1 (fun j=>[[T.int .i64 (3:Int),T.int .i64 (IntKind.i64.wrap ((1:Int)+IntKind.i64.wrap (g i)))]].getD j []) true true
 none]))
 else none else
 bif decide (0<=Int.ofNat i)&&decide (Int.ofNat i<Int.ofNat n) then
 some ((.normal,[u8V n g,.int .u16 m,.reg [.own 0 (k+1) (0:Nat) (k+1+(1:Nat))
 none,.nils],.int .i64 (IntKind.i64.wrap (IntKind.i64.wrap (tot+1)+IntKind.i64.wrap (g i))),.int .i64 (IntKind.i64.wrap (Int.ofNat i+1))],[.mk (k+1) (2:Nat) (k+1+(1:Nat)) (fun j =>
 bif j.blt (k+1) then (L ((0:Nat)+j)).c
 else [[T.int .i64 (3:Int),T.int .i64 (IntKind.i64.wrap ((1:Int)+IntKind.i64.wrap (g i)))]].getD ((0:Nat)+(j - (k+1))) []) true false
 none,.mk 0 2 1 (fun j=>[[T.int .i64 (3:Int),T.int .i64 (IntKind.i64.wrap ((1:Int)+IntKind.i64.wrap (g i)))]].getD j []) true true
 none]))
 else none else none else none else none else none else
 some ((.exit 0,[u8V n g,.int .u16 m,.reg [.own 0 k 0 (k+1)
 none,.nils],.int .i64 tot],[rowC k (k+1) L]))):=by kernel_rfl
theorem i20ak (n N:Nat) (g:Nat->Int) (tot many:Int) (a:T) (kn:Int) (k:Nat) (S:Nat->Int) (i q:Nat) (X:Blk):iterR P42 G42 A42 noneO 0 4 [] 20 (v20k n N g tot many a kn (iV k S) i q) (h17k N g X) =
(
 bif decide (0<Int.ofNat q) then
 bif decide (0<=IntKind.i64.wrap (Int.ofNat q - 1))&&decide (IntKind.i64.wrap (Int.ofNat q - 1)<Int.ofNat k) then
 bif N==N&&true then
 bif decide (0<=Int.ofNat i)&&decide (Int.ofNat i<Int.ofNat (N+1)) then
 bif N==N&&true then
 bif N==N&&true then
 bif ((0:Nat)+i).blt (N+1) then
 bif decide (1+g (0+i)<S (IntKind.i64.wrap (Int.ofNat q - (1:Int))).toNat) then
 some ((.normal,v20k n N g tot many a kn (iV k S) i (IntKind.i64.wrap (Int.ofNat q - 1)),h17k N g X))
 else
 some ((.exit 4,v20k n N g tot many a kn (iV k S) i (Int.ofNat q),h17k N g X))
 else none else none else none else none else none else none else
 some ((.exit 4,v20k n N g tot many a kn (iV k S) i (Int.ofNat q),h17k N g X))):=by kernel_rfl
theorem i17ak (n N:Nat) (g:Nat->Int) (tot many:Int) (a:T) (kn:Int) (k:Nat) (S:Nat->Int) (i q:Nat) (X:Blk):iterR P42 G42 A42 noneO 0 4 [(20,litS (v20k n N g tot many a kn (iV k S) i k) (h17k N g X) (.exit 4) (v20k n N g tot many a kn (iV k S) i q) (h17k N g X))] 17 (v17k n N g tot many a kn (iV k S) i) (h17k N g X) =
(
 bif N==N&&true then
 bif decide (Int.ofNat i<Int.ofNat (N+1)) then
 bif weakF (v20k n N g tot many a kn (iV k S) i (Int.ofNat k)) (h17k N g X) (v20k n N g tot many a kn (iV k S) i (Int.ofNat k)) (h17k N g X) then
 bif decide (0<=Int.ofNat q)&&decide (Int.ofNat q<=Int.ofNat k) then
 bif q.ble k then
 bif q==(0:Nat) then
 bif N==N&&true then
 bif decide (0<=Int.ofNat i)&&decide (Int.ofNat i<Int.ofNat (N+1)) then
 bif N==N&&true then
 bif N==N&&true then
 bif ((0:Nat)+i).blt (N+1) then
 bif decide (0<=Int.ofNat q)&&decide (Int.ofNat q<=Int.ofNat k)&&decide (Int.ofNat k<=Int.ofNat k) then
 bif k.ble k then
 bif k - q==(0:Nat) then
 some ((.normal,[u8V n g,s5k N,.int .i64 tot,.int .i64 many,a,.int .i64 kn,.own 3 0 0 1
 none,.int .i64 (IntKind.i64.wrap (Int.ofNat i+1))],[.mk N 2 (N+1) (fun j=>[.int .i64 3,.int .i64 (1+g j)]) true false
 none,X,.mk 0 1 0 (fun j=>[]) true true
 none,.mk 0 1 1 (fun j =>
 bif j.blt 0 then []
 else List.map plainOr ([[T.int .i64 ((1:Int)+g ((0:Nat)+i))]].getD j [])) true false
 none]))
 else
 bif (((1:Nat)+(k - q)) * (9:Nat)).ble 70368744177664 then
 bif ((1:Nat)+(k - q)).ble 1 then
 some ((.normal,[u8V n g,s5k N,.int .i64 tot,.int .i64 many,a,.int .i64 kn,.own 3 0 0 ((1:Nat)+(k - q))
 none,.int .i64 (IntKind.i64.wrap (Int.ofNat i+1))],[.mk N 2 (N+1) (fun j=>[.int .i64 3,.int .i64 (1+g j)]) true false
 none,X,.mk 0 1 0 (fun j=>[]) true true
 none,.mk 0 1 1 (fun j =>
 bif Nat.ble 1 j&&j.blt ((1:Nat)+(k - q)) then [.int .i64 (S (q+(j - 1)))]
 else
 bif j.blt 0 then []
 else List.map plainOr ([[T.int .i64 ((1:Int)+g ((0:Nat)+i))]].getD j [])) true false
 none]))
 else
 some ((.normal,[u8V n g,s5k N,.int .i64 tot,.int .i64 many,a,.int .i64 kn,.own 3 1 0 ((1:Nat)+(k - q))
 none,.int .i64 (IntKind.i64.wrap (Int.ofNat i+1))],[.mk N 2 (N+1) (fun j=>[.int .i64 3,.int .i64 (1+g j)]) true false
 none,X,.mk 0 1 0 (fun j=>[]) true true
 none,.mk 1 1 ((1:Nat)+(k - q)) (fun j =>
 bif j.blt 1 then
 bif ((0:Nat)+j).blt 0 then []
 else List.map plainOr ([[T.int .i64 ((1:Int)+g ((0:Nat)+i))]].getD (0+j) [])
 else [.int .i64 (S (q+(j - 1)))]) true false
 none]))
 else none else none else none else none else none else none else none else none else
 bif (((0:Nat)+q) * (9:Nat)).ble 70368744177664 then
 bif ((0:Nat)+q).ble 0 then
 bif ((0:Nat)+q).ble 0 then
 bif N==N&&true then
 bif decide (0<=Int.ofNat i)&&decide (Int.ofNat i<Int.ofNat (N+1)) then
 bif N==N&&true then
 bif N==N&&true then
 bif ((0:Nat)+i).blt (N+1) then
 bif ((0:Nat)+((0:Nat)+q)).ble 0 then
 bif (((0:Nat)+q+(1:Nat)) * (9:Nat)).ble 70368744177664 then
 bif decide (0<=Int.ofNat q)&&decide (Int.ofNat q<=Int.ofNat k)&&decide (Int.ofNat k<=Int.ofNat k) then
 bif k.ble k then
 bif ((0:Nat)+((0:Nat)+q+(1:Nat))).ble (0+q+1) then
 bif k - q==(0:Nat) then
 some ((.normal,[u8V n g,s5k N,.int .i64 tot,.int .i64 many,a,.int .i64 kn,.own 3 0 0 (0+q+1)
 none,.int .i64 (IntKind.i64.wrap (Int.ofNat i+1))],[.mk N 2 (N+1) (fun j=>[.int .i64 3,.int .i64 (1+g j)]) true false
 none,X,.mk 0 1 0 (fun j =>
 bif Nat.ble 0 j&&j.blt (0+q) then [.int .i64 (S (0+j))]
 else []) true true
 none,.mk 0 1 (0+q+1) (fun j =>
 bif j.blt (0+q) then
 bif Nat.ble 0 (0+j)&&((0:Nat)+j).blt (0+q) then [.int .i64 (S ((0:Nat)+(0+j)))]
 else []
 else List.map plainOr ([[T.int .i64 ((1:Int)+g ((0:Nat)+i))]].getD (j - (0+q)) [])) true false
 none]))
 else
 bif (((0:Nat)+q+(1:Nat)+(k - q)) * (9:Nat)).ble 70368744177664 then
 bif ((0:Nat)+((0:Nat)+q+(1:Nat))+(k - q)).ble (0+q+1) then
 some ((.normal,[u8V n g,s5k N,.int .i64 tot,.int .i64 many,a,.int .i64 kn,.own 3 0 0 (0+q+1+(k - q))
 none,.int .i64 (IntKind.i64.wrap (Int.ofNat i+1))],[.mk N 2 (N+1) (fun j=>[.int .i64 3,.int .i64 (1+g j)]) true false
 none,X,.mk 0 1 0 (fun j =>
 bif Nat.ble 0 j&&j.blt (0+q) then [.int .i64 (S (0+j))]
 else []) true true
 none,.mk 0 1 (0+q+1) (fun j =>
 bif ((0:Nat)+((0:Nat)+q+(1:Nat))).ble j&&j.blt ((0:Nat)+(0+q+1)+(k - q)) then [.int .i64 (S (q+(j - ((0:Nat)+(0+q+1)))))]
 else
 bif j.blt (0+q) then
 bif Nat.ble 0 (0+j)&&((0:Nat)+j).blt (0+q) then [.int .i64 (S ((0:Nat)+(0+j)))]
 else []
 else List.map plainOr ([[T.int .i64 ((1:Int)+g ((0:Nat)+i))]].getD (j - (0+q)) [])) true false
 none]))
 else
 some ((.normal,[u8V n g,s5k N,.int .i64 tot,.int .i64 many,a,.int .i64 kn,.own 3 1 0 (0+q+1+(k - q))
 none,.int .i64 (IntKind.i64.wrap (Int.ofNat i+1))],[.mk N 2 (N+1) (fun j=>[.int .i64 3,.int .i64 (1+g j)]) true false
 none,X,.mk 0 1 0 (fun j =>
 bif Nat.ble 0 j&&j.blt (0+q) then [.int .i64 (S (0+j))]
 else []) true true
 none,.mk 1 1 (0+q+1+(k - q)) (fun j =>
 bif j.blt (0+q+1) then
 bif ((0:Nat)+j).blt (0+q) then
 bif Nat.ble 0 ((0:Nat)+(0+j))&&((0:Nat)+((0:Nat)+j)).blt (0+q) then [.int .i64 (S ((0:Nat)+((0:Nat)+(0+j))))]
 else []
 else List.map plainOr ([[T.int .i64 ((1:Int)+g ((0:Nat)+i))]].getD (0+j - (0+q)) [])
 else [.int .i64 (S (q+(j - (0+q+1))))]) true false
 none]))
 else none else none else none else none else none else none else none else none else none else none else none else none else
 bif N==N&&true then
 bif decide (0<=Int.ofNat i)&&decide (Int.ofNat i<Int.ofNat (N+1)) then
 bif N==N&&true then
 bif N==N&&true then
 bif ((0:Nat)+i).blt (N+1) then
 bif ((0:Nat)+((0:Nat)+q)).ble (0+q) then
 bif (((0:Nat)+q+(1:Nat)) * (9:Nat)).ble 70368744177664 then
 bif ((0:Nat)+((0:Nat)+q)+(1:Nat)).ble (0+q) then
 bif decide (0<=Int.ofNat q)&&decide (Int.ofNat q<=Int.ofNat k)&&decide (Int.ofNat k<=Int.ofNat k) then
 bif k.ble k then
 bif ((0:Nat)+((0:Nat)+q+(1:Nat))).ble (0+q) then
 bif k - q==(0:Nat) then
 some ((.normal,[u8V n g,s5k N,.int .i64 tot,.int .i64 many,a,.int .i64 kn,.own 3 0 0 (0+q+1)
 none,.int .i64 (IntKind.i64.wrap (Int.ofNat i+1))],[.mk N 2 (N+1) (fun j=>[.int .i64 3,.int .i64 (1+g j)]) true false
 none,X,.mk 0 1 0 (fun j=>[]) true true
 none,.mk 0 1 (0+q) (fun j =>
 bif ((0:Nat)+((0:Nat)+q)).ble j&&j.blt ((0:Nat)+(0+q)+(1:Nat)) then List.map plainOr ([[T.int .i64 ((1:Int)+g ((0:Nat)+i))]].getD (j - ((0:Nat)+(0+q))) [])
 else [.int .i64 (S (0+j))]) true false
 none]))
 else
 bif (((0:Nat)+q+(1:Nat)+(k - q)) * (9:Nat)).ble 70368744177664 then
 bif ((0:Nat)+((0:Nat)+q+(1:Nat))+(k - q)).ble (0+q) then
 some ((.normal,[u8V n g,s5k N,.int .i64 tot,.int .i64 many,a,.int .i64 kn,.own 3 0 0 (0+q+1+(k - q))
 none,.int .i64 (IntKind.i64.wrap (Int.ofNat i+1))],[.mk N 2 (N+1) (fun j=>[.int .i64 3,.int .i64 (1+g j)]) true false
 none,X,.mk 0 1 0 (fun j=>[]) true true
 none,.mk 0 1 (0+q) (fun j =>
 bif ((0:Nat)+((0:Nat)+q+(1:Nat))).ble j&&j.blt ((0:Nat)+(0+q+1)+(k - q)) then [.int .i64 (S (q+(j - ((0:Nat)+(0+q+1)))))]
 else
 bif ((0:Nat)+((0:Nat)+q)).ble j&&j.blt ((0:Nat)+(0+q)+(1:Nat)) then List.map plainOr ([[T.int .i64 ((1:Int)+g ((0:Nat)+i))]].getD (j - ((0:Nat)+(0+q))) [])
 else [.int .i64 (S (0+j))]) true false
 none]))
 else
 some ((.normal,[u8V n g,s5k N,.int .i64 tot,.int .i64 many,a,.int .i64 kn,.own 3 1 0 (0+q+1+(k - q))
 none,.int .i64 (IntKind.i64.wrap (Int.ofNat i+1))],[.mk N 2 (N+1) (fun j=>[.int .i64 3,.int .i64 (1+g j)]) true false
 none,X,.mk 0 1 0 (fun j=>[]) true true
 none,.mk 1 1 (0+q+1+(k - q)) (fun j =>
 bif j.blt (0+q+1) then
 bif ((0:Nat)+((0:Nat)+q)).ble (0+j)&&((0:Nat)+j).blt ((0:Nat)+(0+q)+(1:Nat)) then List.map plainOr ([[T.int .i64 ((1:Int)+g ((0:Nat)+i))]].getD (0+j - ((0:Nat)+(0+q))) [])
 else [.int .i64 (S ((0:Nat)+(0+j)))]
 else [.int .i64 (S (q+(j - (0+q+1))))]) true false
 none]))
 else none else none else none else none else
 bif decide (0<=Int.ofNat q)&&decide (Int.ofNat q<=Int.ofNat k)&&decide (Int.ofNat k<=Int.ofNat k) then
 bif k.ble k then
 bif ((0:Nat)+((0:Nat)+q+(1:Nat))).ble (0+q+1) then
 bif k - q==(0:Nat) then
 some ((.normal,[u8V n g,s5k N,.int .i64 tot,.int .i64 many,a,.int .i64 kn,.own 3 1 0 (0+q+1)
 none,.int .i64 (IntKind.i64.wrap (Int.ofNat i+1))],[.mk N 2 (N+1) (fun j=>[.int .i64 3,.int .i64 (1+g j)]) true false
 none,X,.mk 0 1 0 (fun j=>[]) true true
 none,.mk 1 1 (0+q+1) (fun j =>
 bif j.blt (0+q) then [.int .i64 (S ((0:Nat)+(0+j)))]
 else List.map plainOr ([[T.int .i64 ((1:Int)+g ((0:Nat)+i))]].getD (j - (0+q)) [])) true false
 none]))
 else
 bif (((0:Nat)+q+(1:Nat)+(k - q)) * (9:Nat)).ble 70368744177664 then
 bif ((0:Nat)+((0:Nat)+q+(1:Nat))+(k - q)).ble (0+q+1) then
 some ((.normal,[u8V n g,s5k N,.int .i64 tot,.int .i64 many,a,.int .i64 kn,.own 3 1 0 (0+q+1+(k - q))
 none,.int .i64 (IntKind.i64.wrap (Int.ofNat i+1))],[.mk N 2 (N+1) (fun j=>[.int .i64 3,.int .i64 (1+g j)]) true false
 none,X,.mk 0 1 0 (fun j=>[]) true true
 none,.mk 1 1 (0+q+1) (fun j =>
 bif ((0:Nat)+((0:Nat)+q+(1:Nat))).ble j&&j.blt ((0:Nat)+(0+q+1)+(k - q)) then [.int .i64 (S (q+(j - ((0:Nat)+(0+q+1)))))]
 else
 bif j.blt (0+q) then [.int .i64 (S ((0:Nat)+(0+j)))]
 else List.map plainOr ([[T.int .i64 ((1:Int)+g ((0:Nat)+i))]].getD (j - (0+q)) [])) true false
 none]))
 else
 some ((.normal,[u8V n g,s5k N,.int .i64 tot,.int .i64 many,a,.int .i64 kn,.own 3 2 0 (0+q+1+(k - q))
 none,.int .i64 (IntKind.i64.wrap (Int.ofNat i+1))],[.mk N 2 (N+1) (fun j=>[.int .i64 3,.int .i64 (1+g j)]) true false
 none,X,.mk 0 1 0 (fun j=>[]) true true
 none,.mk 2 1 (0+q+1+(k - q)) (fun j =>
 bif j.blt (0+q+1) then
 bif ((0:Nat)+j).blt (0+q) then [.int .i64 (S ((0:Nat)+((0:Nat)+(0+j))))]
 else List.map plainOr ([[T.int .i64 ((1:Int)+g ((0:Nat)+i))]].getD (0+j - (0+q)) [])
 else [.int .i64 (S (q+(j - (0+q+1))))]) true false
 none]))
 else none else none else none else none else none else none else none else none else none else none else none else none else none else none else none else
 some ((.exit 2,[u8V n g,.int .i64 tot,.int .i64 many,a,.int .i64 kn,iV k S],h17k N g X))
 else
 none):=by kernel_rfl
def insF (S:Nat->Int) (q:Nat) (x:Int) (j:Nat):Int:=if j<q then S j else if j = q then x else S (j - 1)
theorem loop20k (n N:Nat) (g:Nat->Int) (tot many:Int) (a:T) (kn:Int) (S:List Int) (F:Nat->Int) (k:Nat) (i:Nat) (X:Blk) (hi:i<N+1) (hN:N<=1000) (hk:k<=1000) (hSk:S.length = k) (hF:∀ j,j<k->F j = S.getD j 0):LoopOk P42 G42 (A42 4) 4 20 (litS (v20k n N g tot many a kn (iV k F) i k) (h17k N g X) (.exit 4) (v20k n N g tot many a kn (iV k F) i (posI S (1+g i) k)) (h17k N g X)):=by
 subst hSk
 have hp:=posI_le S (1+g i) S.length
 refine loop_steps hm42 (by kernel_rfl) (fun r=>v20k n N g tot many a kn (iV S.length F) i ((S.length - r:Nat):Int)) (fun _=>h17k N g X) (n:=S.length - posI S (1+g i) S.length) (fun r hr=>?_) ?_
 ·refine Step.mk0 (A:=A42) (m:=0) none_ok rfl rfl loops0 (h1:=h17k N g X) ?_ (.refl _)
  show iterR P42 G42 A42 noneO 0 4 [] 20 (v20k n N g tot many a kn (iV S.length F) i ((S.length - r:Nat):Int)) (h17k N g X) = _
  obtain ⟨q,hq⟩:∃ q,S.length - r = q+1:=⟨S.length - r - 1,by omega⟩
  have hx:=posI_hi S (1+g i) S.length q (by omega) (by omega)
  rw [← hF q (by omega)] at hx
  rw [i20ak,hq,show S.length - (r+1) = q by omega,show IntKind.i64.wrap (Int.ofNat (q+1) - 1) = (q:Int) by rw [wr64 (by show (_:Int)<=((q+1:Nat):Int) - 1; omega) (by show ((q+1:Nat):Int) - 1<=_; omega)]; show ((q+1:Nat):Int) - 1 = q; omega]
  simp only [Nat.zero_add]
  refine BT (BT (BT (BT (BT (BT (BT (bift (by simpa using hx) rfl)))))))
 ·refine Last.mk0 (A:=A42) (m:=0) none_ok rfl rfl loops0 (h1:=h17k N g X) (by simp) ?_ (.refl _)
  show iterR P42 G42 A42 noneO 0 4 [] 20 (v20k n N g tot many a kn (iV S.length F) i ((S.length - (S.length - posI S (1+g i) S.length):Nat):Int)) (h17k N g X) = _
  rw [show S.length - (S.length - posI S (1+g i) S.length) = posI S (1+g i) S.length by omega]
  have hx:=posI_lo S (1+g i) S.length
  generalize posI S (1+g i) S.length = q at hp hx ⊢
  rw [i20ak]
  cases q with
  | zero=>exact BF rfl
  | succ q =>
   have hx:¬ 1+g i<S.getD q 0:=by simpa using hx
   rw [← hF q (by omega)] at hx
   rw [show IntKind.i64.wrap (Int.ofNat (q+1) - 1) = (q:Int) by rw [wr64 (by show (_:Int)<=((q+1:Nat):Int) - 1; omega) (by show ((q+1:Nat):Int) - 1<=_; omega)]; show ((q+1:Nat):Int) - 1 = q; omega]
   simp only [Nat.zero_add]
   exact BT (BT (BT (BT (BT (BT (BT (biff (by simpa using hx) rfl)))))))
theorem i17xk (n N:Nat) (g:Nat->Int) (tot many:Int) (a:T) (kn:Int) (k:Nat) (S:Nat->Int) (i q:Nat) (X:Blk) (hq:q<=k) (hk:k<=1000) (hi:i<N+1) (hN:N<=1000):∃ r,iterR P42 G42 A42 noneO 0 4 [(20,litS (v20k n N g tot many a kn (iV k S) i k) (h17k N g X) (.exit 4) (v20k n N g tot many a kn (iV k S) i q) (h17k N g X))] 17 (v17k n N g tot many a kn (iV k S) i) (h17k N g X) = some r ∧
 ∃ (v:Nat) (f:Nat->List T) (m:Nat) (B:Blk),r = (.normal,v17k n N g tot many a kn (.own 3 v 0 (k+1) none) (i+1),[⟨N,2,N+1,fun j=>(cK g j).c,true,false,none⟩,X,B,⟨v,1,m,f,true,false,none⟩])/\k+1<=m/\∀ j,j<k+1->f j = [.int .i64 (insF S q (1+g i) j)]:=by
 rw [i17ak,up1 (by omega)]
 (repeat (first | refine ET ?_ | refine EF ?_))
 have cell:∀ j,j<k+1->(j<q/\insF S q (1+g i) j = S j) ∨ (j = q/\insF S q (1+g i) j = 1+g i) ∨ (q<j/\insF S q (1+g i) j = S (j - 1)):=fun j hj=>by
  unfold insF
  rcases Nat.lt_trichotomy j q with c | c | c
  ·exact .inl ⟨c,if_pos c⟩
  ·exact .inr (.inl ⟨c,by rw [if_neg (by omega),if_pos c]⟩)
  ·exact .inr (.inr ⟨c,by rw [if_neg (by omega),if_neg (by omega)]⟩)
 by_cases c1:q = 0
 ·subst c1
  (repeat (first | refine ET ?_ | refine EF ?_))
  by_cases c2:k - 0 = 0
  ·(repeat (first | refine ET ?_ | refine EF ?_))
   obtain rfl:k = 0:=by omega
   refine ⟨_,rfl,_,_,_,_,rfl,Nat.le_refl _,fun j hj=>?_⟩
   obtain rfl:j = 0:=by omega
   rw [Nat.zero_add]
   rfl
  ·(repeat (first | refine ET ?_ | refine EF ?_))
   rw [show (1:Nat)+(k - 0) = k+1 by omega]
   refine ⟨_,rfl,_,_,_,_,rfl,Nat.le_refl _,fun j hj=>?_⟩
   rcases cell j hj with ⟨h1,h2⟩ | ⟨h1,h2⟩ | ⟨h1,h2⟩
   ·omega
   ·subst h1
    rw [h2]
    simp only [Nat.zero_add]
    rfl
   ·rw [h2]
    simp only [bltD0,Nat.zero_add]
    rw [decide_eq_false (by omega)]
    rfl
 ·(repeat (first | refine ET ?_ | refine EF ?_))
  by_cases c2:k - q = 0
  ·(repeat (first | refine ET ?_ | refine EF ?_))
   rw [show 0+q+1 = k+1 by omega]
   refine ⟨_,rfl,_,_,_,_,rfl,Nat.le_refl _,fun j hj=>?_⟩
   rcases cell j hj with ⟨h1,h2⟩ | ⟨h1,h2⟩ | ⟨h1,h2⟩
   ·rw [h2]
    simp only [bltD0,Nat.zero_add]
    rw [decide_eq_true (by omega)]
    rfl
   ·subst h1
    rw [h2]
    simp only [bltD0,Nat.zero_add]
    rw [decide_eq_false (by omega),Nat.sub_self]
    rfl
   ·omega
  ·(repeat (first | refine ET ?_ | refine EF ?_))
   rw [show 0+q+1+(k - q) = k+1 by omega]
   refine ⟨_,rfl,_,_,_,_,rfl,Nat.le_refl _,fun j hj=>?_⟩
   rcases cell j hj with ⟨h1,h2⟩ | ⟨h1,h2⟩ | ⟨h1,h2⟩
   ·rw [h2]
    simp only [bltD0,Nat.zero_add]
    rw [decide_eq_true (show j<q+1 by omega),decide_eq_true (show j<q by omega)]
    rfl
   ·subst h1
    rw [h2]
    simp only [bltD0,Nat.zero_add]
    rw [decide_eq_true (show j<j+1 by omega),decide_eq_false (show ¬ j<j by omega),Nat.sub_self]
    rfl
   ·rw [h2]
    simp only [bltD0,Nat.zero_add]
    rw [decide_eq_false (show ¬ j<q+1 by omega),show q+(j - (q+1)) = j - 1 by omega]
    rfl
open Go.Proofs
def sK (g:Nat->Int):Nat->List Int
 | 0=>[]
 | i+1=>insL (sK g i) (1+g i)
def v24k (n:Nat) (g:Nat->Int) (tot many:Int) (a:T) (kn:Int) (S:T) (e left:Int):List T:=[u8V n g,.int .i64 tot,.int .i64 many,a,.int .i64 kn,S,.int .i64 e,.int .i64 left]
def w24k (n:Nat) (g:Nat->Int) (tot many:Int) (a:T) (kn:Int) (e left:Int):List T:=[u8V n g,.int .i64 tot,.int .i64 many,a,.int .i64 kn,.int .i64 e,.int .i64 left]
def w17k (n:Nat) (g:Nat->Int) (tot many:Int) (a:T) (kn:Int) (S:T):List T:=[u8V n g,.int .i64 tot,.int .i64 many,a,.int .i64 kn,S]
def w6k (n:Nat) (g:Nat->Int) (m:Int) (r:T) (tot:Int):List T:=[u8V n g,.int .u16 m,.reg [r,.nils],.int .i64 tot]
def hbK (many:Int):Blk:=⟨0,3,1,fun j=>[[.int .i64 1,.int .i64 3,.int .i64 many]].getD j [],true,true,none⟩
noncomputable def K4k (p11 p12:List T->T->Prop) (c:List Cne) (hs:List Hld) (kn E fr:Int):Orc:=((noneO.add 9 fun a=>match a with | []=>.ret (.bool true) | _=>.none).add 11 (callF p11 fun _=>some (.tup [stN c hs,.int .i64 kn,.int .i64 E]))).add 12 (callF p12 fun _=>some (.int .i64 fr))
theorem i24ak (n:Nat) (g:Nat->Int) (tot many:Int) (a:T) (kn:Int) (k:Nat) (S:Nat->Int) (e:Nat) (left:Int) (h:Heap):iterR P42 G42 A42 noneO 0 4 [] 24 (v24k n g tot many a kn (iV k S) e left) h =
(
 bif decide (Int.ofNat e<Int.ofNat k) then
 bif decide (0<=Int.ofNat e)&&decide (Int.ofNat e<Int.ofNat k) then
 bif decide (S e<=left) then
 bif decide (0<=Int.ofNat e)&&decide (Int.ofNat e<Int.ofNat k) then
 some ((.normal,v24k n g tot many a kn (iV k S) (IntKind.i64.wrap (Int.ofNat e+1)) (IntKind.i64.wrap (left - S e)),h))
 else none else
 some ((.exit 6,w24k n g tot many a kn (Int.ofNat e) left,h))
 else none else
 some ((.exit 6,w24k n g tot many a kn (Int.ofNat e) left,h))):=by kernel_rfl
theorem i17zk (n N:Nat) (g:Nat->Int) (tot many:Int) (a:T) (kn:Int) (k:Nat) (S:Nat->Int) (i:Nat) (X:Blk):iterR P42 G42 A42 noneO 0 4 [] 17 (v17k n N g tot many a kn (iV k S) i) (h17k N g X) =
(
 bif N==N&&true then
 bif decide (Int.ofNat i<Int.ofNat (N+1)) then none else
 some ((.exit 2,w17k n g tot many a kn (iV k S),h17k N g X))
 else
 none):=by kernel_rfl
theorem k4k (n:Nat) (g:Nat->Int) (m tot:Int) (N:Nat) (kn E fr many:Int) (c:List Cne) (hs:List Hld) (S:Nat->Int) (e:Nat) (left:Int) (p11 p12:List T->T->Prop):stepL P42 G42 A42 (K4k p11 p12 c hs kn E fr) 0 4 [(6,litS (v6k n g m .nils 0 0) [] (.exit 0) (w6k n g m (.own 0 N 0 (N+1) none) tot) [⟨N,2,N+1,fun j=>(cK g j).c,true,false,none⟩]),(17,litS (v17k n N g tot many (.reg [cnV c (some c.length),hdV hs (some hs.length)]) kn (iV 0 S) 0) (h17k N g (hbK many)) (.exit 2) (w17k n g tot many (.reg [cnV c (some c.length),hdV hs (some hs.length)]) kn (iV (N+1) S)) (h17k N g (hbK many))),(24,litS (v24k n g tot many (.reg [cnV c (some c.length),hdV hs (some hs.length)]) kn (iV (N+1) S) 0 many) (h17k N g (hbK many)) (.exit 6) (w24k n g tot many (.reg [cnV c (some c.length),hdV hs (some hs.length)]) kn e left) (h17k N g (hbK many)))] [u8V n g,.int .u16 m] =
(
 bif decide (Int.ofNat n = 0) then
 some (.bool true)
 else
 bif decide (12<Int.ofNat n) then
 some (.bool true)
 else
 bif weakF (v6k n g m .nils (0:Int) (nat_lit 0)) [] (v6k n g m .nils (0:Int) (nat_lit 0)) [] then
 bif decide (tot = 0) then none else
 bif decF (p11 [.agg [bif N==N&&((0:Nat)+(N+(1:Nat))).ble (N+1) then .view 2 (N+1) (fun j=>[.int .i64 3,.int .i64 (1+g (0+j))]) none else .undef,.view 3 1 (fun j=>[[T.int .i64 (1:Int),T.int .i64 (3:Int),T.int .i64 (IntKind.i64.wrap ((1:Int)+(IntKind.i64.wrap m).tmod tot))]].getD (0+j) []) (some 1)],.int .i64 1,.int .i64 3,.int .i64 (IntKind.i64.wrap ((1:Int)+(IntKind.i64.wrap m).tmod tot))] (.tup [stN c hs,.int .i64 kn,.int .i64 E])) then
 bif !decide (E = 0) then
 some (.bool false)
 else
 bif !decide (Int.ofNat hs.length = 0) then
 some (.bool false)
 else
 bif weakF (v17k n N g tot (IntKind.i64.wrap ((1:Int)+(IntKind.i64.wrap m).tmod tot)) (.reg [cnV c (some c.length),hdV hs (some hs.length)]) kn .nils (nat_lit 0)) (h17k N g (hbK (IntKind.i64.wrap ((1:Int)+(IntKind.i64.wrap m).tmod tot)))) (v17k n N g tot many (.reg [cnV c (some c.length),hdV hs (some hs.length)]) kn (iV (0:Nat) S) (nat_lit 0)) (h17k N g (hbK many)) then
 bif weakF (v24k n g tot many (.reg [cnV c (some c.length),hdV hs (some hs.length)]) kn (iV (N+1) S) (0:Int) many) (h17k N g (hbK many)) (v24k n g tot many (.reg [cnV c (some c.length),hdV hs (some hs.length)]) kn (iV (N+1) S) (0:Int) many) (h17k N g (hbK many)) then
 bif decide (0<left) then
 bif decide (Int.ofNat c.length = IntKind.i64.wrap (Int.ofNat n - Int.ofNat e)) then
 bif decide (kn = IntKind.i64.wrap (IntKind.i64.wrap (Int.ofNat e+1) - (1:Int))) then
 bif decF (p12 [stV c hs,.int .i64 3] (.int .i64 fr)) then
 bif decide (fr = IntKind.i64.wrap (tot - many)) then
 some (.bool true)
 else
 some (.bool false)
 else none else
 some (.bool false)
 else
 some (.bool false)
 else
 bif decide (Int.ofNat c.length = IntKind.i64.wrap (Int.ofNat n - Int.ofNat e)) then
 bif decide (kn = IntKind.i64.wrap (Int.ofNat e - 1)) then
 bif decF (p12 [stV c hs,.int .i64 3] (.int .i64 fr)) then
 bif decide (fr = IntKind.i64.wrap (tot - many)) then
 some (.bool true)
 else
 some (.bool false)
 else none else
 some (.bool false)
 else
 some (.bool false)
 else none else none else none else
 none):=by kernel_rfl
theorem sK_len (g:Nat->Int):∀ i,(sK g i).length = i
 | 0=>rfl
 | i+1=>by
  have:=sK_len g i
  simp only [sK,insL_len,this]
def FK (g:Nat->Int) (N i:Nat) (j:Nat):Int:=if i = 0 then (sK g (N+1)).getD j 0 else (sK g i).getD j 0
theorem FK_eq (g:Nat->Int) (N i j:Nat) (h:j<i):FK g N i j = (sK g i).getD j 0:=by
 unfold FK
 rw [if_neg (by omega)]
theorem loop17k (n N:Nat) (g:Nat->Int) (tot many:Int) (c:List Cne) (hs:List Hld) (kn:Int) (hN:N<=100):LoopOk P42 G42 (A42 4) 4 17 (litS (v17k n N g tot many (.reg [cnV c (some c.length),hdV hs (some hs.length)]) kn (iV 0 fun j=>(sK g (N+1)).getD j 0) 0) (h17k N g (hbK many)) (.exit 2) (w17k n g tot many (.reg [cnV c (some c.length),hdV hs (some hs.length)]) kn (iV (N+1) fun j=>(sK g (N+1)).getD j 0)) (h17k N g (hbK many))):=by
 refine loop_steps hm42 (by kernel_rfl) (fun i=>v17k n N g tot many (.reg [cnV c (some c.length),hdV hs (some hs.length)]) kn (iV i (FK g N i)) i) (fun _=>h17k N g (hbK many)) (n:=N+1) (fun i hi=>?_) ?_
 ·have l1:=loop20k n N g tot many (.reg [cnV c (some c.length),hdV hs (some hs.length)]) kn (sK g i) (FK g N i) i i (hbK many) hi (by omega) (by omega) (sK_len g i) fun j hj=>FK_eq g N i j hj
  have hp:=posI_le (sK g i) (1+g i) i
  obtain ⟨r,hr,v,f,m,B,rfl,hm,hf⟩:=i17xk n N g tot many (.reg [cnV c (some c.length),hdV hs (some hs.length)]) kn i (FK g N i) i (posI (sK g i) (1+g i) i) (hbK many) hp (by omega) hi (by omega)
  refine Step.mkC (A:=A42) (m:=0) none_ok rfl rfl (loops1 l1) [0,1] hr rfl rfl rfl fun nt=>?_
  refine .slS (.cons (.refl _) (.cons (.refl _) (.cons (.refl _) (.cons (.refl _) (.cons (.refl _) (.cons (.refl _) (.cons ?_ (.cons (.refl _) .nil)))))))) (.refl _)
  show SimS (bif true&&((v==v)&&Nat.ble (0+(i+1)) m) then T.view 1 (i+1) (fun j=>f (0+j)) none else .undef) _
  rw [beq_self_eq_true,bleT (by omega)]
  refine .view (.inl rfl) fun j hj=>?_
  rw [Nat.zero_add]
  show Sims (f j) [.int .i64 (FK g N (i+1) j)]
  rw [hf j hj,FK_eq g N (i+1) j hj]
  have e:(sK g (i+1)).getD j 0 = insF (FK g N i) (posI (sK g i) (1+g i) i) (1+g i) j:=by
   have e1:=insL_get (sK g i) (1+g i) j (by rw [sK_len]; exact hj)
   rw [sK_len] at e1
   show (insL (sK g i) (1+g i)).getD j 0 = _
   rw [e1]
   unfold insF
   by_cases c1:j<posI (sK g i) (1+g i) i
   ·rw [if_pos c1,if_pos c1,FK_eq g N i j (by omega)]
   ·rw [if_neg c1,if_neg c1]
    by_cases c2:j = posI (sK g i) (1+g i) i
    ·rw [if_pos c2,if_pos c2]
    ·rw [if_neg c2,if_neg c2,FK_eq g N i (j - 1) (by omega)]
  rw [e]
  exact .refl _
 ·refine Last.mk0 (A:=A42) (m:=0) none_ok rfl rfl loops0 (h1:=h17k N g (hbK many)) (by simp) ?_ (.refl _)
  show iterR P42 G42 A42 noneO 0 4 [] 17 (v17k n N g tot many (.reg [cnV c (some c.length),hdV hs (some hs.length)]) kn (iV (N+1) (FK g N (N+1))) (N+1)) (h17k N g (hbK many)) = _
  rw [i17zk]
  refine BT (BF ?_)
  have e:FK g N (N+1) = fun j=>(sK g (N+1)).getD j 0:=by
   funext j
   unfold FK
   rw [if_neg (by omega)]
  rw [e]
theorem loop24k (n:Nat) (g:Nat->Int) (tot many:Int) (a:T) (kn:Int) (S:List Int) (h:Heap) (hk:S.length<=1000) (hS:∀ x,x ∈ S->0<=x) (hm:0<=many/\many<=1000000):LoopOk P42 G42 (A42 4) 4 24 (litS (v24k n g tot many a kn (iV S.length fun j=>S.getD j 0) 0 many) h (.exit 6) (w24k n g tot many a kn (gE S many) (gL S many)) h):=by
 obtain ⟨q1,q2,q3,q4⟩:=gE_spec S many
 have hg:∀ r,r<S.length->0<=S.getD r 0:=fun r hr=>hS _ (mem_getD hr 0)
 have hb:∀ r,r<=gE S many->0<=rL S many r/\rL S many r<=many:=by
  intro r
  induction r with
  | zero=>intro _; exact ⟨hm.1,Int.le_refl _⟩
  | succ r ih =>
   intro hr
   have:=ih (by omega)
   have h1:=q2 r (by omega)
   have h2:=hg r (by omega)
   simp only [rL]
   omega
 refine loop_steps hm42 (by kernel_rfl) (fun r=>v24k n g tot many a kn (iV S.length fun j=>S.getD j 0) r (rL S many r)) (fun _=>h) (n:=gE S many) (fun r hr=>?_) ?_
 ·refine Step.mk0 (A:=A42) (m:=0) none_ok rfl rfl loops0 (h1:=h) ?_ (.refl _)
  show iterR P42 G42 A42 noneO 0 4 [] 24 (v24k n g tot many a kn (iV S.length fun j=>S.getD j 0) (r:Nat) (rL S many r)) h = _
  have h1:=q2 r hr
  have h2:=hg r (by omega)
  have h3:=hb r (by omega)
  rw [i24ak,up1 (by omega)]
  refine BT (BT (BT (BT ?_)))
  rw [show IntKind.i64.wrap (rL S many r - S.getD r 0) = rL S many (r+1) from wr64 (by omega) (by omega)]
  rfl
 ·refine Last.mk0 (A:=A42) (m:=0) none_ok rfl rfl loops0 (h1:=h) (by simp) ?_ (.refl _)
  show iterR P42 G42 A42 noneO 0 4 [] 24 (v24k n g tot many a kn (iV S.length fun j=>S.getD j 0) (gE S many:Nat) (rL S many (gE S many))) h = _
  rw [i24ak,q4]
  by_cases c:gE S many<S.length
  ·have:=q3 c
   exact BT (BT (BF rfl))
  ·exact BF rfl
open Go.Proofs
def totK (g:Nat->Int):Nat->Int
 | 0=>0
 | i+1=>totK g i+1+g i
theorem totK_bd (g:Nat->Int) (n:Nat) (hg:∀ j,j<n->0<=g j/\g j<=255):∀ i,i<=n->(i:Int)<=totK g i/\totK g i<=256 * i
 | 0,_=>⟨Int.le_refl _,Int.le_refl _⟩
 | i+1,hi=>by
  have:=totK_bd g n hg i (by omega)
  have:=hg i (by omega)
  simp only [totK]
  omega
def hh6 (g:Nat->Int):Nat->Heap
 | 0=>[]
 | i+1=>[⟨i,2,i+1,fun j=>(cK g j).c,true,false,none⟩]
def vv6 (n:Nat) (g:Nat->Int) (m:Int):Nat->List T
 | 0=>v6k n g m .nils 0 0
 | i+1=>v6k n g m (.own 0 i 0 (i+1) none) (totK g (i+1)) (i+1)
theorem loop6k (N:Nat) (g:Nat->Int) (m:Int) (hN:N<12) (hg:∀ j,j<N+1->0<=g j/\g j<=255):LoopOk P42 G42 (A42 4) 4 6 (litS (v6k (N+1) g m .nils 0 0) [] (.exit 0) (w6k (N+1) g m (.own 0 N 0 (N+1) none) (totK g (N+1))) [⟨N,2,N+1,fun j=>(cK g j).c,true,false,none⟩]):=by
 refine loop_steps hm42 (by kernel_rfl) (vv6 (N+1) g m) (hh6 g) (n:=N+1) (fun i hi=>?_) ?_
 ·have h0:=hg i hi
  have hb:=totK_bd g (N+1) hg i (by omega)
  have e1:IntKind.i64.wrap (g i) = g i:=wr64 (by omega) (by omega)
  have e2:IntKind.i64.wrap (1+g i) = 1+g i:=wr64 (by omega) (by omega)
  have e3:IntKind.i64.wrap (totK g i+1) = totK g i+1:=wr64 (by omega) (by omega)
  have e4:IntKind.i64.wrap (totK g i+1+g i) = totK g (i+1):=wr64 (by omega) (by omega)
  cases i with
  | zero =>
   refine Step.mkC (A:=A42) (m:=0) none_ok rfl rfl loops0 [1] (v1:=v6k (N+1) g m (.own 1 0 0 1 none) (totK g 1) 1) (h1:=[⟨0,2,1,fun j=>[[.int .i64 3,.int .i64 (1+g 0)]].getD j [],true,true,none⟩,⟨0,2,1,fun j=>[[.int .i64 3,.int .i64 (1+g 0)]].getD (0+j) [],true,false,none⟩]) ?_ (by kernel_rfl) (v2:=v6k (N+1) g m (.own 0 0 0 1 none) (totK g 1) 1) (by rfl) rfl fun nt=>.same (.cons ⟨rfl,rfl,rfl,id,fun j hj=>?_⟩ .nil)
   ·show iterR P42 G42 A42 noneO 0 4 [] 6 (v6k (N+1) g m .nils (totK g 0) 0) [] = _
    rw [i6ak,e1,e2,e3,e4]
    (repeat (first | refine BS ?_ | refine BF ?_))
    rfl
   ·obtain rfl:j = 0:=by have:j<1:=hj; omega
    rfl
  | succ i =>
   refine Step.mk (A:=A42) (m:=0) none_ok rfl rfl loops0 1 (by show 0<=1; decide) (h1:=[⟨i+1,2,i+1+1,fun j=>bif Nat.blt j (i+1) then (cK g (0+j)).c else [[.int .i64 3,.int .i64 (1+g (i+1))]].getD (0+(j - (i+1))) [],true,false,none⟩,⟨0,2,1,fun j=>[[.int .i64 3,.int .i64 (1+g (i+1))]].getD j [],true,true,none⟩]) (vs':=v6k (N+1) g m (.own 0 (i+1) 0 (i+1+1) none) (totK g (i+1+1)) (i+1+1)) ?_ (by rfl) (.cons ⟨rfl,rfl,rfl,id,fun j hj=>?_⟩ .nil)
   ·show iterR P42 G42 A42 noneO 0 4 [] 6 (v6k (N+1) g m (.own 0 i 0 (i+1) none) (totK g (i+1)) (i+1)) [⟨i,2,i+1,fun j=>(cK g j).c,true,false,none⟩] = _
    rw [i6bk,e1,e2,e3,e4,up1 (by omega)]
    (repeat (first | refine BS ?_ | refine BF ?_))
    rfl
   ·have hj:j<i+1+1:=hj
    show (cK g j).c = _
    simp only [bltD0,Nat.zero_add]
    by_cases q:j<i+1
    ·rw [decide_eq_true q]
     rfl
    ·obtain rfl:j = i+1:=by omega
     rw [decide_eq_false q,Nat.sub_self]
     rfl
 ·refine Last.mk0 (A:=A42) (m:=0) none_ok rfl rfl loops0 (h1:=hh6 g (N+1)) (by simp) ?_ (.refl _)
  show iterR P42 G42 A42 noneO 0 4 [] 6 (v6k (N+1) g m (.own 0 N 0 (N+1) none) (totK g (N+1)) (N+1)) [⟨N,2,N+1,fun j=>(cK g j).c,true,false,none⟩] = _
  rw [i6bk]
  exact BF rfl
end Go.Ab

