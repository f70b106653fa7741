/- A part of the proof: nothing is assumed. -/
import Derived.Test.YthbieakinbpgkaaP13
import Derived.Test.YthbieakinbpgkaaP14
set_option linter.all false
namespace Go.Ab
open Go.Proofs
def o33 (k n:Nat):T:=.own 0 0 0 k (some n)
def v33 (k n:Nat) (a l kn:Int):List T:=[o33 k n,.int .i64 a,.int .i64 l,.int .i64 kn]
def v33b (k n:Nat) (a l kn b:Int) (i:Nat):List T:=[o33 k n,.int .i64 a,.int .i64 l,.int .i64 kn,.int .i64 b,o33 k n,.int .i64 k,.int .i64 i]
def w33 (k n:Nat) (a l kn b:Int):List T:=[o33 k n,.int .i64 a,.int .i64 l,.int .i64 kn,.int .i64 b]
noncomputable def K33 (q:List T->Heap->T->Heap->Prop) (k n:Nat) (L2:Nat->Cne):Orc:=noneO.addRef 44 (refF q fun _ h=>some (o33 k n,h.set 0 (rowC 0 n L2)))
theorem k44 (k n b:Nat) (L:Nat->Cne):stepR P42 G42 A42 noneO 0 44 [] [.own 0 0 0 k (some n),.int .i64 b,.int .i64 (b+1:Nat)] [rowC 0 n L] =
(
 bif decide (0<=Int.ofNat b)&&decide (Int.ofNat b<=Int.ofNat (b+1))&&decide (Int.ofNat (b+1)<=Int.ofNat k)&&decide (Int.ofNat k<=Int.ofNat n) then
 bif decide (Int.ofNat b = Int.ofNat (b+1)) then
 some ((o33 k n,[rowC (0:Nat) n L]))
 else
 bif decide (0<=Int.ofNat b)&&decide (Int.ofNat b<=Int.ofNat n) then
 bif decide (0<=Int.ofNat (b+1))&&decide (Int.ofNat (b+1)<=Int.ofNat k)&&decide (Int.ofNat k<=Int.ofNat n) then
 bif ((0:Nat)+(b+(1:Nat))+(k - (b+(1:Nat)))).ble n then
 bif ((0:Nat)+b).ble n then
 bif k - (b+1)==(0:Nat) then
 bif decide (0<=Int.ofNat b)&&decide (Int.ofNat b<=Int.ofNat k)&&decide (Int.ofNat k<=Int.ofNat n) then
 bif ((0:Nat)+b+(k - b)).ble n then
 some ((o33 b n,[.mk 0 2 n (fun j =>
 bif ((0:Nat)+b).ble j&&j.blt (0+b+(k - b)) then [.int .i64 0,.int .i64 0]
 else (L j).c) true false
 none]))
 else none else none else
 bif ((b+(k - (b+(1:Nat)))) * (17:Nat)).ble 70368744177664 then
 bif (b+(k - (b+(1:Nat)))).ble n then
 bif ((0:Nat)+b+(k - (b+(1:Nat)))).ble n then
 bif decide (0<=Int.ofNat (b+(k - (b+1))))&&decide (Int.ofNat (b+(k - (b+1)))<=Int.ofNat k)&&decide (Int.ofNat k<=Int.ofNat n) then
 bif ((0:Nat)+(b+(k - (b+(1:Nat))))+(k - (b+(k - (b+(1:Nat)))))).ble n then
 some ((o33 (b+(k - (b+1))) n,[.mk 0 2 n (fun j =>
 bif ((0:Nat)+(b+(k - (b+(1:Nat))))).ble j&&j.blt ((0:Nat)+(b+(k - (b+1)))+(k - (b+(k - (b+1))))) then [.int .i64 0,.int .i64 0]
 else
 bif ((0:Nat)+b).ble j&&j.blt (0+b+(k - (b+1))) then (L ((0:Nat)+(b+(1:Nat))+(j - ((0:Nat)+b)))).c
 else (L j).c) true false
 none]))
 else none else none else none else
 bif decide (0<=Int.ofNat (b+(k - (b+1))))&&decide (Int.ofNat (b+(k - (b+1)))<=Int.ofNat k)&&decide (Int.ofNat k<=Int.ofNat (b+(k - (b+1)))) then
 bif ((0:Nat)+(b+(k - (b+(1:Nat))))+(k - (b+(k - (b+(1:Nat)))))).ble (b+(k - (b+1))) then
 some ((.own 1 0 0 (b+(k - (b+1)))
 none,[rowC (0:Nat) n L,.mk 0 2 (b+(k - (b+1))) (fun j =>
 bif ((0:Nat)+(b+(k - (b+(1:Nat))))).ble j&&j.blt ((0:Nat)+(b+(k - (b+1)))+(k - (b+(k - (b+1))))) then [.int .i64 0,.int .i64 0]
 else
 bif j.blt b then (L ((0:Nat)+j)).c
 else (L ((0:Nat)+(b+(1:Nat))+(j - b))).c) true false
 none]))
 else none else none else none else none else none else none else none else
 none):=by kernel_rfl
theorem i33b (k n:Nat) (a l kn:Int) (i b:Nat) (L:Nat->Cne) (X:Blk):iterR P42 G42 A42 noneO 0 33 [] 5 (v33b k n a l kn b i) [rowC 0 n L,X] =
(
 bif decide (Int.ofNat i<Int.ofNat k) then
 bif decide (0<=Int.ofNat i)&&decide (Int.ofNat i<Int.ofNat k) then
 bif ((0:Nat)+i).blt n then
 bif decide ((L ((0:Nat)+i)).a = a) then
 bif decide (0<=Int.ofNat b)&&decide (Int.ofNat b<Int.ofNat k) then
 bif ((0:Nat)+b).blt n then
 bif decide ((L ((0:Nat)+i)).l<(L ((0:Nat)+b)).l) then
 some ((.normal,[o33 k n,.int .i64 a,.int .i64 l,.int .i64 kn,.int .i64 (.ofNat i),o33 k n,.int .i64 (.ofNat k),.int .i64 (IntKind.i64.wrap (Int.ofNat i+1))],[rowC (0:Nat) n L,X]))
 else
 some ((.normal,[o33 k n,.int .i64 a,.int .i64 l,.int .i64 kn,.int .i64 (.ofNat b),o33 k n,.int .i64 (.ofNat k),.int .i64 (IntKind.i64.wrap (Int.ofNat i+1))],[rowC (0:Nat) n L,X]))
 else none else none else
 some ((.normal,[o33 k n,.int .i64 a,.int .i64 l,.int .i64 kn,.int .i64 (.ofNat b),o33 k n,.int .i64 (.ofNat k),.int .i64 (IntKind.i64.wrap (Int.ofNat i+1))],[rowC (0:Nat) n L,X]))
 else none else none else
 some ((.exit 2,w33 k n a l kn (Int.ofNat b),[rowC (0:Nat) n L,X]))):=by kernel_rfl
theorem i33c (k n:Nat) (a l kn:Int) (i:Nat) (L:Nat->Cne) (X:Blk):iterR P42 G42 A42 noneO 0 33 [] 5 (v33b k n a l kn (-1) i) [rowC 0 n L,X] =
(
 bif decide (Int.ofNat i<Int.ofNat k) then
 bif decide (0<=Int.ofNat i)&&decide (Int.ofNat i<Int.ofNat k) then
 bif ((0:Nat)+i).blt n then
 bif decide ((L ((0:Nat)+i)).a = a) then
 some ((.normal,[o33 k n,.int .i64 a,.int .i64 l,.int .i64 kn,.int .i64 (.ofNat i),o33 k n,.int .i64 (.ofNat k),.int .i64 (IntKind.i64.wrap (Int.ofNat i+1))],[rowC (0:Nat) n L,X]))
 else
 some ((.normal,[o33 k n,.int .i64 a,.int .i64 l,.int .i64 kn,.int .i64 (-1:Int),o33 k n,.int .i64 (.ofNat k),.int .i64 (IntKind.i64.wrap (Int.ofNat i+1))],[rowC (0:Nat) n L,X]))
 else none else none else
 some ((.exit 2,w33 k n a l kn (-1:Int),[rowC (0:Nat) n L,X]))):=by kernel_rfl
theorem i33a (k n k2:Nat) (a l kn:Int) (b:Nat) (L L2:Nat->Cne) (q:List T->Heap->T->Heap->Prop) (X:Blk):iterR P42 G42 A42 (K33 q k2 n L2) 0 33 [(5,litS (v33b k n a l kn (-1) 0) [rowC 0 n L,X] (.exit 2) (w33 k n a l kn b) [rowC 0 n L,X])] 2 (v33 k n a l kn) [rowC 0 n L,X] =
(
 bif decide (0<l) then
 bif weakF (v33b k n a l kn (-1:Int) (nat_lit 0)) [rowC (0:Nat) n L,X] (v33b k n a l kn (-1:Int) (nat_lit 0)) [rowC (0:Nat) n L,X] then
 bif decide (0<=Int.ofNat b)&&decide (Int.ofNat b<Int.ofNat k) then
 bif ((0:Nat)+b).blt n then
 bif decide (0<=Int.ofNat b)&&decide (Int.ofNat b<Int.ofNat k) then
 bif ((0:Nat)+b).blt n then
 bif decide (0<=Int.ofNat b)&&decide (Int.ofNat b<Int.ofNat k) then
 bif ((0:Nat)+b).blt n&&true&&true&&true then
 bif decide (0<=Int.ofNat b)&&decide (Int.ofNat b<Int.ofNat k) then
 bif ((0:Nat)+b).blt n then
 bif decide ((bif 0+b==0+b then IntKind.i64.wrap ((L ((0:Nat)+b)).l -
 bif decide ((L ((0:Nat)+b)).l<l) then (L ((0:Nat)+b)).l
 else l)
 else (L ((0:Nat)+b)).l) = (0:Int)) then
 bif decF (q [o33 k n,.int .i64 (.ofNat b),.int .i64 (IntKind.i64.wrap (Int.ofNat b+1))] [.mk 0 2 n (fun e=>[.int .i64 (bif e==0+b then (L ((0:Nat)+b)).a
 else (L e).a),.int .i64 (bif e==0+b then IntKind.i64.wrap ((L ((0:Nat)+b)).l -
 bif decide ((L ((0:Nat)+b)).l<l) then (L ((0:Nat)+b)).l
 else l)
 else (L e).l)]) true false
 none,X] (o33 k2 n) [rowC (0:Nat) n L2,X]) then
 some ((.normal,v33 k2 n a (IntKind.i64.wrap (l -
 bif decide ((L ((0:Nat)+b)).l<l) then (L ((0:Nat)+b)).l
 else l)) (IntKind.i64.wrap (kn+1)),[rowC (0:Nat) n L2,X]))
 else none else
 some ((.normal,v33 k n a (IntKind.i64.wrap (l -
 bif decide ((L ((0:Nat)+b)).l<l) then (L ((0:Nat)+b)).l
 else l)) (IntKind.i64.wrap (kn+1)),[.mk 0 2 n (fun e=>[.int .i64 (bif e==0+b then (L ((0:Nat)+b)).a
 else (L e).a),.int .i64 (bif e==0+b then IntKind.i64.wrap ((L ((0:Nat)+b)).l -
 bif decide ((L ((0:Nat)+b)).l<l) then (L ((0:Nat)+b)).l
 else l)
 else (L e).l)]) true false
 none,X]))
 else none else none else none else none else none else none else none else none else none else
 some ((.exit 0,[o33 k n,.int .i64 kn],[rowC (0:Nat) n L,X]))):=by kernel_rfl
theorem i33z (k n:Nat) (a l kn:Int) (L:Nat->Cne) (X:Blk):iterR P42 G42 A42 noneO 0 33 [(5,litS (v33b k n a l kn (-1) 0) [rowC 0 n L,X] (.exit 2) (w33 k n a l kn (-1)) [rowC 0 n L,X])] 2 (v33 k n a l kn) [rowC 0 n L,X] =
(
 bif decide (0<l) then
 bif weakF (v33b k n a l kn (-1:Int) (nat_lit 0)) [rowC (0:Nat) n L,X] (v33b k n a l kn (-1:Int) (nat_lit 0)) [rowC (0:Nat) n L,X] then
 some ((.exit 0,[o33 k n,.int .i64 kn],[rowC (0:Nat) n L,X]))
 else none else
 some ((.exit 0,[o33 k n,.int .i64 kn],[rowC (0:Nat) n L,X]))):=by kernel_rfl
theorem k33 (k n k2:Nat) (a l kn:Int) (L L2:Nat->Cne) (X:Blk):stepR P42 G42 A42 noneO 0 33 [(2,litS (v33 k n a l (-1)) [rowC 0 n L,X] (.exit 0) [o33 k2 n,.int .i64 kn] [rowC 0 n L2,X])] [o33 k n,.int .i64 a,.int .i64 l] [rowC 0 n L,X] =
(
 bif weakF (v33 k n a l (-1:Int)) [rowC (0:Nat) n L,X] (v33 k n a l (-1:Int)) [rowC (0:Nat) n L,X] then
 some ((.tup [o33 k2 n,.int .i64 kn],[rowC (0:Nat) n L2,X]))
 else
 none):=by kernel_rfl
theorem bleD (a b:Nat):Nat.ble a b = decide (a<=b):=by
 by_cases h:a<=b
 ·rw [bleT h,decide_eq_true h]
 ·rw [bleF (by omega),decide_eq_false h]
theorem bltD (a b:Nat):Nat.blt a b = decide (a<b):=bleD (a+1) b
theorem erase_getD {α:Type} (L:List α) (b j:Nat) (d:α):(L.eraseIdx b).getD j d = if j<b then L.getD j d else L.getD (j+1) d:=by
 simp only [List.getD_eq_getElem?_getD,List.getElem?_eraseIdx]
 split <;> rfl
theorem getD_out {α:Type} {L:List α} {j:Nat} (h:L.length<=j) (d:α):L.getD j d = d:=by
 rw [List.getD_eq_getElem?_getD,List.getElem?_eq_none h]; rfl
theorem delR (L:List Cne) (n b:Nat) (hb:b<L.length) (hn:L.length<=n) (h9:n<=900000):ToldRef P42 G42 44 [o33 L.length n,.int .i64 b,.int .i64 (b+1:Nat)] [rowC 0 n (lstC L)] (o33 (L.length - 1) n) [rowC 0 n (lstC (L.eraseIdx b))]:=by
 by_cases q:L.length - (b+1) = 0
 ·have e1:L.length - 1 = b:=by omega
  rw [e1]
  have t:ToldRef P42 G42 44 [o33 L.length n,.int .i64 b,.int .i64 (b+1:Nat)] [rowC 0 n (lstC L)] (o33 b n) [⟨0,2,n,fun j=>bif Nat.ble (0+b) j&&Nat.blt j (0+b+(L.length - b)) then [.int .i64 0,.int .i64 0] else (lstC L j).c,true,false,none⟩] :=
   stepR_told hm42 hn42 none_ok (A:=A42) (m:=0) (K:=noneO) (l:=[]) (by kernel_rfl) loops0 ((k44 L.length n b (lstC L)).trans (BT (BF (BT (BT (BT (BT (bift (by rw [q]; rfl) (BT (BT rfl))))))))))
  refine t.res (.cons ⟨rfl,rfl,rfl,id,fun j hj=>?_⟩ .nil)
  show (lstC (L.eraseIdx b) j).c = _
  simp only [bleD,bltD,lstC,erase_getD]
  by_cases c:j<b
  ·rw [if_pos c,show (decide (0+b<=j)&&decide (j<0+b+(L.length - b))) = false by simp; omega]
   rfl
  ·rw [if_neg c,getD_out (by omega)]
   by_cases c2:j<L.length
   ·rw [show (decide (0+b<=j)&&decide (j<0+b+(L.length - b))) = true by simp; omega]
    rfl
   ·rw [show (decide (0+b<=j)&&decide (j<0+b+(L.length - b))) = false by simp; omega]
    simp only [cond_false]
    rw [getD_out (by omega)]
 ·have e1:b+(L.length - (b+1)) = L.length - 1:=by omega
  rw [← e1]
  have t:ToldRef P42 G42 44 [o33 L.length n,.int .i64 b,.int .i64 (b+1:Nat)] [rowC 0 n (lstC L)] (o33 (b+(L.length - (b+1))) n) [⟨0,2,n,fun j=>bif Nat.ble (0+(b+(L.length - (b+1)))) j&&Nat.blt j (0+(b+(L.length - (b+1)))+(L.length - (b+(L.length - (b+1))))) then [.int .i64 0,.int .i64 0] else bif Nat.ble (0+b) j&&Nat.blt j (0+b+(L.length - (b+1))) then (lstC L (0+(b+1)+(j - (0+b)))).c else (lstC L j).c,true,false,none⟩] :=
   stepR_told hm42 hn42 none_ok (A:=A42) (m:=0) (K:=noneO) (l:=[]) (by kernel_rfl) loops0 ((k44 L.length n b (lstC L)).trans (BT (BF (BT (BT (BT (BT (biff (by simpa using q) (BT (BT (BT (BT (BT rfl)))))))))))))
  refine t.res (.cons ⟨rfl,rfl,rfl,id,fun j hj=>?_⟩ .nil)
  show (lstC (L.eraseIdx b) j).c = _
  simp only [bleD,bltD,lstC,erase_getD]
  by_cases c:j<b
  ·rw [if_pos c,show (decide (0+(b+(L.length - (b+1)))<=j)&&decide (j<0+(b+(L.length - (b+1)))+(L.length - (b+(L.length - (b+1)))))) = false by simp; omega,show (decide (0+b<=j)&&decide (j<0+b+(L.length - (b+1)))) = false by simp; omega]
   rfl
  ·rw [if_neg c]
   by_cases c2:j<L.length - 1
   ·rw [show (decide (0+(b+(L.length - (b+1)))<=j)&&decide (j<0+(b+(L.length - (b+1)))+(L.length - (b+(L.length - (b+1)))))) = false by simp; omega,show (decide (0+b<=j)&&decide (j<0+b+(L.length - (b+1)))) = true by simp; omega]
    simp only [cond_true,cond_false]
    rw [show 0+(b+1)+(j - (0+b)) = j+1 by omega]
   ·rw [getD_out (by omega)]
    by_cases c3:j<L.length
    ·rw [show (decide (0+(b+(L.length - (b+1)))<=j)&&decide (j<0+(b+(L.length - (b+1)))+(L.length - (b+(L.length - (b+1)))))) = true by simp; omega]
     rfl
    ·rw [show (decide (0+(b+(L.length - (b+1)))<=j)&&decide (j<0+(b+(L.length - (b+1)))+(L.length - (b+(L.length - (b+1)))))) = false by simp; omega,show (decide (0+b<=j)&&decide (j<0+b+(L.length - (b+1)))) = false by simp; omega]
     simp only [cond_false]
     rw [getD_out (by omega)]
theorem delX (L:List Cne) (n b:Nat) (hb:b<L.length) (hn:L.length<=n) (h9:n<=900000) (X:Blk):ToldRef P42 G42 44 [o33 L.length n,.int .i64 b,.int .i64 (b+1:Nat)] [rowC 0 n (lstC L),X] (o33 (L.length - 1) n) [rowC 0 n (lstC (L.eraseIdx b)),X] :=
 ToldRef.frame (delR L n b hb hn h9) (h:=[rowC 0 n (lstC L),X]) (i:=0) (d:=0) rfl rfl rfl rfl rfl rfl rfl
open Go.Proofs
def lst (L:List Cne) (a:Int):Nat->Option Nat
 | 0=>none
 | i+1=>match lst L a i with
  | none=>if (L.getD i cn0).a = a then some i else none
  | some b=>if (L.getD i cn0).a = a/\(L.getD i cn0).l<(L.getD b cn0).l then some i else some b
theorem lst_lt (L:List Cne) (a:Int):∀ i b,lst L a i = some b->b<i
 | 0,b,h=>by cases h
 | i+1,b,h=>by
  have ih:=lst_lt L a i
  unfold lst at h
  cases h1:lst L a i with
  | none =>
   rw [h1] at h
   dsimp only at h
   split at h
   ·obtain rfl:=Option.some.inj h; omega
   ·cases h
  | some c =>
   rw [h1] at h
   dsimp only at h
   have:=ih c h1
   split at h
   ·obtain rfl:=Option.some.inj h; omega
   ·obtain rfl:=Option.some.inj h; omega
def bT:Option Nat->Int
 | none=>-1
 | some b=>(b:Int)
theorem loop33b (L:List Cne) (n:Nat) (a l kn:Int) (X:Blk) (hn:L.length<=n) (h9:n<=900000):LoopOk P42 G42 (A42 33) 33 5 (litS (v33b L.length n a l kn (-1) 0) [rowC 0 n (lstC L),X] (.exit 2) (w33 L.length n a l kn (bT (lst L a L.length))) [rowC 0 n (lstC L),X]):=by
 refine loop_steps hm42 (by kernel_rfl) (fun i=>v33b L.length n a l kn (bT (lst L a i)) i) (fun _=>[rowC 0 n (lstC L),X]) (n:=L.length) (fun i hi=>?_) ?_
 ·refine Step.mk0 (A:=A42) (m:=0) none_ok rfl rfl loops0 (h1:=[rowC 0 n (lstC L),X]) ?_ (.refl _)
  have hl:lstC L i = L.getD i cn0:=rfl
  simp only [lst]
  cases h1:lst L a i with
  | none =>
   show iterR P42 G42 A42 noneO 0 33 [] 5 (v33b L.length n a l kn (-1) i) [rowC 0 n (lstC L),X] = _
   rw [i33c,up1 (by omega)]
   simp only [Nat.zero_add]
   rw [hl]
   refine BT (BT (BT ?_))
   by_cases c:(L.getD i cn0).a = a
   ·rw [if_pos c]
    exact bift (by simpa using c) rfl
   ·rw [if_neg c]
    exact biff (by simpa using c) rfl
  | some b =>
   have hb:=lst_lt L a i b h1
   show iterR P42 G42 A42 noneO 0 33 [] 5 (v33b L.length n a l kn (b:Int) i) [rowC 0 n (lstC L),X] = _
   rw [i33b,up1 (by omega)]
   simp only [Nat.zero_add]
   rw [hl,show lstC L b = L.getD b cn0 from rfl]
   refine BT (BT (BT ?_))
   by_cases c:(L.getD i cn0).a = a
   ·refine bift (by simpa using c) (BT (BT ?_))
    by_cases c2:(L.getD i cn0).l<(L.getD b cn0).l
    ·rw [if_pos ⟨c,c2⟩]
     exact bift (by simpa using c2) rfl
    ·rw [if_neg fun q=>c2 q.2]
     exact biff (by simpa using c2) rfl
   ·rw [if_neg fun q=>c q.1]
    exact biff (by simpa using c) rfl
 ·refine Last.mk0 (A:=A42) (m:=0) none_ok rfl rfl loops0 (h1:=[rowC 0 n (lstC L),X]) (by simp) ?_ (.refl _)
  cases h1:lst L a L.length with
  | none =>
   show iterR P42 G42 A42 noneO 0 33 [] 5 (v33b L.length n a l kn (-1) L.length) [rowC 0 n (lstC L),X] = _
   rw [i33c]
   exact BF rfl
  | some b =>
   show iterR P42 G42 A42 noneO 0 33 [] 5 (v33b L.length n a l kn (b:Int) L.length) [rowC 0 n (lstC L),X] = _
   rw [i33b]
   exact BF rfl
inductive CutTo (a:Int):List Cne->Int->Int->List Cne->Int->Prop
 | done (L:List Cne) (l kn:Int) (h:¬ 0<l):CutTo a L l kn L kn
 | none (L:List Cne) (l kn:Int) (h:0<l) (hb:lst L a L.length = none):CutTo a L l kn L kn
 | cut (L:List Cne) (l kn:Int) (b:Nat) (L2:List Cne) (k2:Int) (h:0<l) (hb:lst L a L.length = some b) (hl:(L.getD b cn0).l<=l) (hr:CutTo a (L.eraseIdx b) (l - (L.getD b cn0).l) (kn+1) L2 k2):CutTo a L l kn L2 k2
 | part (L:List Cne) (l kn:Int) (b:Nat) (h:0<l) (hb:lst L a L.length = some b) (hl:l<(L.getD b cn0).l):CutTo a L l kn (L.set b ⟨(L.getD b cn0).a,(L.getD b cn0).l - l⟩) (kn+1)
theorem CutTo.zero {a:Int} {L:List Cne} {l kn:Int} {L2:List Cne} {k2:Int} (h:CutTo a L l kn L2 k2) (h0:¬ 0<l):L2 = L/\k2 = kn:=by
 cases h
 ·exact ⟨rfl,rfl⟩
 all_goals exact absurd (by assumption) h0
theorem mem_erase {α:Type} {L:List α} {b:Nat} {x:α} (h:x ∈ L.eraseIdx b):x ∈ L:=List.mem_of_mem_eraseIdx h
theorem cutR (L0:List Cne) (n:Nat) (a l0:Int) (X:Blk) (hn:L0.length<=n) (h9:n<=900000) (hl0:l0<=1000000000) (hv:∀ c,c ∈ L0->1<=c.l/\c.l<=1000000000):∃ L2 kn,CutTo a L0 l0 (-1) L2 kn/\L2.length<=L0.length ∧
 ToldRef P42 G42 33 [o33 L0.length n,.int .i64 a,.int .i64 l0] [rowC 0 n (lstC L0),X] (.tup [o33 L2.length n,.int .i64 kn]) [rowC 0 n (lstC L2),X]:=by
 obtain ⟨q,hq⟩:=is_ref P42 G42 44
 obtain ⟨e,vs1,h1,⟨L2,kn,hC,hlen,rfl,rfl,rfl⟩,hL⟩:=loop_exists hm42 (f:=33) (r:=2) (by kernel_rfl) (an:=A42 33) (k:=2)
  (fun m vs h=>∃ L l kn,vs = v33 L.length n a l kn/\h = [rowC 0 n (lstC L),X]/\m = l.toNat/\L.length<=L0.length/\l<=1000000000/\-1<=kn/\kn<=2000000/\(0<l->kn+L.length<=1000000)/\(∀ c,c ∈ L->1<=c.l/\c.l<=1000000000)/\∀ L2 k2,CutTo a L l kn L2 k2->CutTo a L0 l0 (-1) L2 k2)
  (fun e vs h=>∃ L2 kn,CutTo a L0 l0 (-1) L2 kn/\L2.length<=L0.length/\e = .exit 0/\vs = [o33 L2.length n,.int .i64 kn]/\h = [rowC 0 n (lstC L2),X])
  (fun m vs h hI=>by
   obtain ⟨L,l,kn,rfl,rfl,rfl,hLl,hl9,hk0,hk2,hk1,hLv,hto⟩:=hI
   have l1:=loop33b L n a l kn X (by omega) h9
   by_cases c:0<l
   ·have hk1:=hk1 c
    cases hb:lst L a L.length with
    | none =>
     rw [hb] at l1
     refine .inr ⟨.exit 0,_,_,Last.mk0 (A:=A42) (m:=0) none_ok rfl rfl (loops1 l1) (by simp) ((i33z L.length n a l kn (lstC L) X).trans (BT (bift (weakF_of ⟨rfl,.refl _⟩) rfl))) (.refl _),L,kn,hto _ _ (.none L l kn c hb),hLl,rfl,rfl,rfl⟩
    | some b =>
     rw [hb] at l1
     have hbl:=lst_lt L a _ b hb
     have hbm:=hLv _ (mem_getD hbl cn0)
     have ek:IntKind.i64.wrap (kn+1) = kn+1:=wr64 (by omega) (by omega)
     have eb:lstC L b = L.getD b cn0:=rfl
     generalize hx:L.getD b cn0 = x at *
     have same:∀ z:Int,SameBlks [⟨0,2,n,fun e=>[.int .i64 (bif e==b then x.a else (lstC L e).a),.int .i64 (bif e==b then z else (lstC L e).l)],true,false,none⟩,X] [rowC 0 n (lstC (L.set b ⟨x.a,z⟩)),X]:=fun z=>by
      refine .cons ⟨rfl,rfl,rfl,id,fun j hj=>?_⟩ (.refl _)
      show (lstC (L.set b ⟨x.a,z⟩) j).c = _
      by_cases c3:j = b
      ·subst c3
       have:lstC (L.set j ⟨x.a,z⟩) j = ⟨x.a,z⟩:=by simp [lstC,hbl]
       rw [this]
       simp [Cne.c]
      ·have:lstC (L.set b ⟨x.a,z⟩) j = lstC L j:=by
        simp only [lstC,List.getD_eq_getElem?_getD,List.getElem?_set_ne (fun h=>c3 h.symm)]
       rw [this]
       show _ = [T.int .i64 (bif j==b then x.a else (lstC L j).a),T.int .i64 (bif j==b then z else (lstC L j).l)]
       rw [show (j==b) = false by simp [c3]]
       rfl
     by_cases c2:x.l<=l
     ·have t:=delX (L.set b ⟨x.a,0⟩) n b (by simpa using hbl) (by rw [List.length_set]; omega) h9 X
      rw [List.length_set,List.eraseIdx_set_eq] at t
      have t:=t.same (same 0)
      have el:(L.eraseIdx b).length = L.length - 1:=List.length_eraseIdx_of_lt hbl
      have ep:(bif decide (x.l<l) then x.l else l) = x.l:=by
       by_cases c3:x.l<l
       ·rw [decide_eq_true c3]; rfl
       ·rw [decide_eq_false c3]
        show l = x.l
        omega
      refine .inl ⟨(l - x.l).toNat,v33 (L.eraseIdx b).length n a (l - x.l) (kn+1),[rowC 0 n (lstC (L.eraseIdx b)),X],by omega,Step.mk0 (A:=A42) (m:=0) (K:=K33 q (L.length - 1) n (lstC (L.eraseIdx b))) (told_addRef none_ok (refF_told hq)) rfl rfl (loops1 l1) (h1:=[rowC 0 n (lstC (L.eraseIdx b)),X]) ?_ (.refl _),L.eraseIdx b,l - x.l,kn+1,rfl,rfl,rfl,by omega,by omega,by omega,by omega,fun _=>by omega,fun c hc=>hLv c (mem_erase hc),fun L2 k2 h=>hto _ _ (.cut L l kn b L2 k2 c hb (by rw [hx]; exact c2) (by rw [hx]; exact h))⟩
      refine (i33a L.length n (L.length - 1) a l kn b (lstC L) (lstC (L.eraseIdx b)) q X).trans ?_
      simp only [Nat.zero_add]
      rw [eb,ep,up1 (by omega),ek,Int.sub_self,show IntKind.i64.wrap 0 = 0 from rfl,show IntKind.i64.wrap (l - x.l) = l - x.l from wr64 (by omega) (by omega)]
      refine BT (bift (weakF_of ⟨rfl,.refl _⟩) (BT (BT (BT (BT (BT (BT (BT (BT (bift (by simp) (bift (refF_yes hq t) ?_)))))))))))
      rw [el]
     ·have c2:l<x.l:=by omega
      have ep:(bif decide (x.l<l) then x.l else l) = l:=by rw [decide_eq_false (by omega)]; rfl
      refine .inl ⟨(0:Int).toNat,v33 (L.set b ⟨x.a,x.l - l⟩).length n a 0 (kn+1),[rowC 0 n (lstC (L.set b ⟨x.a,x.l - l⟩)),X],by omega,Step.mk0 (A:=A42) (m:=0) (K:=K33 q (L.length - 1) n (lstC (L.eraseIdx b))) (told_addRef none_ok (refF_told hq)) rfl rfl (loops1 l1) (h1:=[⟨0,2,n,fun e=>[.int .i64 (bif e==b then x.a else (lstC L e).a),.int .i64 (bif e==b then x.l - l else (lstC L e).l)],true,false,none⟩,X]) ?_ (same _),L.set b ⟨x.a,x.l - l⟩,0,kn+1,rfl,rfl,rfl,by rw [List.length_set]; omega,by omega,by omega,by omega,fun h=>absurd h (by omega),fun c hc=>?_,fun L2 k2 h=>?_⟩
      ·refine (i33a L.length n (L.length - 1) a l kn b (lstC L) (lstC (L.eraseIdx b)) q X).trans ?_
       simp only [Nat.zero_add]
       rw [eb,ep,ek,Int.sub_self,show IntKind.i64.wrap 0 = 0 from rfl,show IntKind.i64.wrap (x.l - l) = x.l - l from wr64 (by omega) (by omega)]
       refine BT (bift (weakF_of ⟨rfl,.refl _⟩) (BT (BT (BT (BT (BT (BT (BT (BT (biff (by simp; omega) ?_))))))))))
       rw [List.length_set]
      ·rcases List.mem_or_eq_of_mem_set hc with h | h
       ·exact hLv c h
       ·subst h
        exact ⟨by show 1<=x.l - l; omega,by show x.l - l<=_; omega⟩
      ·have:CutTo a L l kn (L.set b ⟨x.a,x.l - l⟩) (kn+1):=by
        have:=CutTo.part (a:=a) L l kn b c hb (by rw [hx]; exact c2)
        rwa [hx] at this
       obtain ⟨rfl,rfl⟩:=h.zero (by omega)
       exact hto _ _ this
   ·cases hb:lst L a L.length with
    | none =>
     rw [hb] at l1
     exact .inr ⟨.exit 0,_,_,Last.mk0 (A:=A42) (m:=0) none_ok rfl rfl (loops1 l1) (by simp) ((i33z L.length n a l kn (lstC L) X).trans (BF rfl)) (.refl _),L,kn,hto _ _ (.done L l kn c),hLl,rfl,rfl,rfl⟩
    | some b =>
     rw [hb] at l1
     exact .inr ⟨.exit 0,_,_,Last.mk0 (A:=A42) (m:=0) (K:=K33 q 0 n (lstC L)) (told_addRef none_ok (refF_told hq)) rfl rfl (loops1 l1) (by simp) ((i33a L.length n 0 a l kn b (lstC L) (lstC L) q X).trans (BF rfl)) (.refl _),L,kn,hto _ _ (.done L l kn c),hLl,rfl,rfl,rfl⟩)
  (n:=l0.toNat) rfl ⟨L0,l0,-1,rfl,rfl,rfl,Nat.le_refl _,hl0,by omega,by omega,fun _=>by omega,hv,fun _ _ h=>h⟩
 exact ⟨L2,kn,hC,hlen,stepR_told hm42 hn42 none_ok (A:=A42) (m:=0) (K:=noneO) (by kernel_rfl) (loops1 hL) ((k33 L0.length n L2.length a l0 kn (lstC L0) (lstC L2) X).trans (bift (weakF_of ⟨rfl,.refl _⟩) rfl))⟩
open Go.Proofs
def o32 (k n:Nat):T:=.own 1 0 0 k (some n)
noncomputable def K11 (p10 p21 p30 p26:List T->T->Prop) (q33 q32:List T->Heap->T->Heap->Prop) (E:Int) (b fd:Bool) (i:Nat) (cs cs2:List Cne) (hs hs2:List Hld) (kn:Int):Orc :=
 ((((((((noneO.add 10 (callF p10 fun _=>some (.int .i64 E))).add 21 (callF p21 fun _=>some (.bool b))).add 30 (callF p30 fun _=>some (.tup [.int .i64 i,.bool fd]))).add 26 (callF p26 fun _=>some (.agg [.fresh true 2 cs.length (fun j=>(lstC cs j).c) cs.length (some cs.length),.fresh true 3 hs.length (fun j=>(lstF hs j).c) hs.length (some hs.length)]))).addRef 33 (refF q33 fun _ h=>some (.tup [o33 cs2.length cs.length,.int .i64 kn],h.set 0 (rowC 0 cs.length (lstC cs2))))).addRef 32 (refF q32 fun _ h=>some (o32 (hs.length - 1) hs.length,h.set 1 (rowB 0 hs.length (lstF hs2))))).inl P42 G42 A42 noneO 0 31).inl P42 G42 A42 noneO 0 34)
theorem k32 (k n b:Nat) (L:Nat->Hld):stepR P42 G42 A42 noneO 0 32 [] [.own 0 0 0 k (some n),.int .i64 b,.int .i64 (b+1:Nat)] [rowB 0 n L] =
(
 bif decide (0<=Int.ofNat b)&&decide (Int.ofNat b<=Int.ofNat (b+1))&&decide (Int.ofNat (b+1)<=Int.ofNat k)&&decide (Int.ofNat k<=Int.ofNat n) then
 bif decide (Int.ofNat b = Int.ofNat (b+1)) then
 some ((o33 k n,[rowB (0:Nat) n L]))
 else
 bif decide (0<=Int.ofNat b)&&decide (Int.ofNat b<=Int.ofNat n) then
 bif decide (0<=Int.ofNat (b+1))&&decide (Int.ofNat (b+1)<=Int.ofNat k)&&decide (Int.ofNat k<=Int.ofNat n) then
 bif ((0:Nat)+(b+(1:Nat))+(k - (b+(1:Nat)))).ble n then
 bif ((0:Nat)+b).ble n then
 bif k - (b+1)==(0:Nat) then
 bif decide (0<=Int.ofNat b)&&decide (Int.ofNat b<=Int.ofNat k)&&decide (Int.ofNat k<=Int.ofNat n) then
 bif ((0:Nat)+b+(k - b)).ble n then
 some ((o33 b n,[.mk 0 3 n (fun j =>
 bif ((0:Nat)+b).ble j&&j.blt (0+b+(k - b)) then [.int .i64 0,.int .i64 0,.int .i64 0]
 else (L j).c) true false
 none]))
 else none else none else
 bif ((b+(k - (b+(1:Nat)))) * (25:Nat)).ble 70368744177664 then
 bif (b+(k - (b+(1:Nat)))).ble n then
 bif ((0:Nat)+b+(k - (b+(1:Nat)))).ble n then
 bif decide (0<=Int.ofNat (b+(k - (b+1))))&&decide (Int.ofNat (b+(k - (b+1)))<=Int.ofNat k)&&decide (Int.ofNat k<=Int.ofNat n) then
 bif ((0:Nat)+(b+(k - (b+(1:Nat))))+(k - (b+(k - (b+(1:Nat)))))).ble n then
 some ((o33 (b+(k - (b+1))) n,[.mk 0 3 n (fun j =>
 bif ((0:Nat)+(b+(k - (b+(1:Nat))))).ble j&&j.blt ((0:Nat)+(b+(k - (b+1)))+(k - (b+(k - (b+1))))) then [.int .i64 0,.int .i64 0,.int .i64 0]
 else
 bif ((0:Nat)+b).ble j&&j.blt (0+b+(k - (b+1))) then (L ((0:Nat)+(b+(1:Nat))+(j - ((0:Nat)+b)))).c
 else (L j).c) true false
 none]))
 else none else none else none else
 bif decide (0<=Int.ofNat (b+(k - (b+1))))&&decide (Int.ofNat (b+(k - (b+1)))<=Int.ofNat k)&&decide (Int.ofNat k<=Int.ofNat (b+(k - (b+1)))) then
 bif ((0:Nat)+(b+(k - (b+(1:Nat))))+(k - (b+(k - (b+(1:Nat)))))).ble (b+(k - (b+1))) then
 some ((.own 1 0 0 (b+(k - (b+1)))
 none,[rowB (0:Nat) n L,.mk 0 3 (b+(k - (b+1))) (fun j =>
 bif ((0:Nat)+(b+(k - (b+(1:Nat))))).ble j&&j.blt ((0:Nat)+(b+(k - (b+1)))+(k - (b+(k - (b+1))))) then [.int .i64 0,.int .i64 0,.int .i64 0]
 else
 bif j.blt b then (L ((0:Nat)+j)).c
 else (L ((0:Nat)+(b+(1:Nat))+(j - b))).c) true false
 none]))
 else none else none else none else none else none else none else none else
 none):=by kernel_rfl
theorem k11 (cs cs2:List Cne) (hs hs2:List Hld) (o a l:Int) (E:Int) (b fd:Bool) (i:Nat) (kn:Int) (p10 p21 p30 p26:List T->T->Prop) (q33 q32:List T->Heap->T->Heap->Prop):stepV P42 G42 A42 (K11 p10 p21 p30 p26 q33 q32 E b fd i cs cs2 hs hs2 kn) 0 11 [.agg [cnV cs none,hdV hs none],.int .i64 o,.int .i64 a,.int .i64 l] =
(
 bif decF (p10 [.agg [cnV cs
 none,hdV hs
 none]] (.int .i64 E)) then
 bif !decide (E = 0) then
 some (.tup [.agg [.nils,.nils],.int .i64 0,.int .i64 E])
 else
 bif decF (p21 [.agg [.int .i64 o,.int .i64 a,.int .i64 l]] (.bool b)) then
 bif b then
 bif decF (p30 [hdV hs
 none,.agg [.int .i64 o,.int .i64 a,.int .i64 l],.fn (29:Nat) []] (.tup [.int .i64 (.ofNat i),.bool fd])) then
 bif fd then
 bif decide (0<=Int.ofNat i)&&decide (Int.ofNat i<Int.ofNat hs.length) then
 bif decide ((hs.getD i (Hld.mk (0:Int) (0:Int) (0:Int))).l<l) then
 some (.tup [.agg [.nils,.nils],.int .i64 0,.int .i64 18])
 else
 bif decF (p26 [cnV cs
 none,hdV hs
 none] (stF cs hs)) then
 bif decide (0<=Int.ofNat i)&&decide (Int.ofNat i<Int.ofNat hs.length) then
 bif ((0:Nat)+i).blt hs.length then
 bif decide (0<=Int.ofNat i)&&decide (Int.ofNat i<Int.ofNat hs.length) then
 bif ((0:Nat)+i).blt hs.length&&true&&true&&true then
 bif decide (0<=Int.ofNat i)&&decide (Int.ofNat i<Int.ofNat hs.length) then
 bif ((0:Nat)+i).blt hs.length then
 bif decide ((bif 0+i==0+i then IntKind.i64.wrap ((lstF hs ((0:Nat)+i)).l - l)
 else (lstF hs ((0:Nat)+i)).l) = (0:Int)) then
 bif decF (q32 [o32 hs.length hs.length,.int .i64 (.ofNat i),.int .i64 (IntKind.i64.wrap (Int.ofNat i+1))] [rowC (0:Nat) cs.length fun j=>cs.getD j (Cne.mk (0:Int) (0:Int)),.mk 0 3 hs.length (fun e=>[.int .i64 (bif e==0+i then (lstF hs ((0:Nat)+i)).o
 else (lstF hs e).o),.int .i64 (bif e==0+i then (lstF hs ((0:Nat)+i)).a
 else (lstF hs e).a),.int .i64 (bif e==0+i then IntKind.i64.wrap ((lstF hs ((0:Nat)+i)).l - l)
 else (lstF hs e).l)]) true false
 none] (o32 (hs.length - 1) hs.length) [rowC (0:Nat) cs.length fun j=>cs.getD j (Cne.mk (0:Int) (0:Int)),rowB (0:Nat) hs.length (lstF hs2)]) then
 bif decide (0<=Int.ofNat (hs.length - 1))&&decide (Int.ofNat (hs.length - 1)<=Int.ofNat (hs.length - 1))&&decide (Int.ofNat (hs.length - 1)<=Int.ofNat hs.length) then
 bif decF (q33 [o33 cs.length cs.length,.int .i64 a,.int .i64 l] [rowC (0:Nat) cs.length fun j=>cs.getD j (Cne.mk (0:Int) (0:Int)),rowB (0:Nat) hs.length (lstF hs2)] (.tup [o33 cs2.length cs.length,.int .i64 kn]) [rowC (0:Nat) cs.length fun j=>cs2.getD j (Cne.mk (0:Int) (0:Int)),rowB (0:Nat) hs.length (lstF hs2)]) then
 bif decide (0<=Int.ofNat cs2.length)&&decide (Int.ofNat cs2.length<=Int.ofNat cs2.length)&&decide (Int.ofNat cs2.length<=Int.ofNat cs.length) then
 some (.tup [.agg [bif ((0:Nat)+cs2.length).ble cs.length then .fresh true (2:Nat) cs.length (fun j=>(cs2.getD ((0:Nat)+j) (Cne.mk (0:Int) (0:Int))).c) cs2.length (some cs2.length)
 else .undef,
 bif ((0:Nat)+(hs.length - (1:Nat))).ble hs.length then .fresh true (3:Nat) hs.length (fun j=>(lstF hs2 ((0:Nat)+j)).c) (hs.length - 1) (some (hs.length - 1))
 else .undef],.int .i64 kn,.int .i64 0])
 else none else none else none else none else
 bif decF (q33 [o33 cs.length cs.length,.int .i64 a,.int .i64 l] [rowC (0:Nat) cs.length fun j=>cs.getD j (Cne.mk (0:Int) (0:Int)),.mk 0 3 hs.length (fun e=>[.int .i64 (bif e==0+i then (lstF hs ((0:Nat)+i)).o
 else (lstF hs e).o),.int .i64 (bif e==0+i then (lstF hs ((0:Nat)+i)).a
 else (lstF hs e).a),.int .i64 (bif e==0+i then IntKind.i64.wrap ((lstF hs ((0:Nat)+i)).l - l)
 else (lstF hs e).l)]) true false
 none] (.tup [o33 cs2.length cs.length,.int .i64 kn]) [rowC (0:Nat) cs.length fun j=>cs2.getD j (Cne.mk (0:Int) (0:Int)),.mk 0 3 hs.length (fun e=>[.int .i64 (bif e==0+i then (lstF hs ((0:Nat)+i)).o
 else (lstF hs e).o),.int .i64 (bif e==0+i then (lstF hs ((0:Nat)+i)).a
 else (lstF hs e).a),.int .i64 (bif e==0+i then IntKind.i64.wrap ((lstF hs ((0:Nat)+i)).l - l)
 else (lstF hs e).l)]) true false
 none]) then
 bif decide (0<=Int.ofNat cs2.length)&&decide (Int.ofNat cs2.length<=Int.ofNat cs2.length)&&decide (Int.ofNat cs2.length<=Int.ofNat cs.length) then
 some (.tup [.agg [bif ((0:Nat)+cs2.length).ble cs.length then .fresh true (2:Nat) cs.length (fun j=>(cs2.getD ((0:Nat)+j) (Cne.mk (0:Int) (0:Int))).c) cs2.length (some cs2.length)
 else .undef,
 bif ((0:Nat)+hs.length).ble hs.length then .fresh true (3:Nat) hs.length (fun j=>[.int .i64 (bif 0+j==0+i then (lstF hs ((0:Nat)+i)).o
 else (lstF hs ((0:Nat)+j)).o),.int .i64 (bif 0+j==0+i then (lstF hs ((0:Nat)+i)).a
 else (lstF hs ((0:Nat)+j)).a),.int .i64 (bif 0+j==0+i then IntKind.i64.wrap ((lstF hs ((0:Nat)+i)).l - l)
 else (lstF hs ((0:Nat)+j)).l)]) hs.length (some hs.length)
 else .undef],.int .i64 kn,.int .i64 0])
 else none else none else none else none else none else none else none else none else none else none else
 some (.tup [.agg [.nils,.nils],.int .i64 0,.int .i64 7])
 else none else
 some (.tup [.agg [.nils,.nils],.int .i64 0,.int .i64 1])
 else none else
 none):=by kernel_rfl
theorem delH (L:List Hld) (n b:Nat) (hb:b<L.length) (hn:L.length<=n) (h9:n<=900000):ToldRef P42 G42 32 [o33 L.length n,.int .i64 b,.int .i64 (b+1:Nat)] [rowB 0 n (lstF L)] (o33 (L.length - 1) n) [rowB 0 n (lstF (L.eraseIdx b))]:=by
 by_cases q:L.length - (b+1) = 0
 ·have e1:L.length - 1 = b:=by omega
  rw [e1]
  have t:ToldRef P42 G42 32 [o33 L.length n,.int .i64 b,.int .i64 (b+1:Nat)] [rowB 0 n (lstF L)] (o33 b n) [⟨0,3,n,fun j=>bif Nat.ble (0+b) j&&Nat.blt j (0+b+(L.length - b)) then [.int .i64 0,.int .i64 0,.int .i64 0] else (lstF L j).c,true,false,none⟩] :=
   stepR_told hm42 hn42 none_ok (A:=A42) (m:=0) (K:=noneO) (l:=[]) (by kernel_rfl) loops0 ((k32 L.length n b (lstF L)).trans (BT (BF (BT (BT (BT (BT (bift (by rw [q]; rfl) (BT (BT rfl))))))))))
  refine t.res (.cons ⟨rfl,rfl,rfl,id,fun j hj=>?_⟩ .nil)
  show (lstF (L.eraseIdx b) j).c = _
  simp only [bleD,bltD,lstF,erase_getD]
  by_cases c:j<b
  ·rw [if_pos c,show (decide (0+b<=j)&&decide (j<0+b+(L.length - b))) = false by simp; omega]
   rfl
  ·rw [if_neg c,getD_out (by omega)]
   by_cases c2:j<L.length
   ·rw [show (decide (0+b<=j)&&decide (j<0+b+(L.length - b))) = true by simp; omega]
    rfl
   ·rw [show (decide (0+b<=j)&&decide (j<0+b+(L.length - b))) = false by simp; omega]
    simp only [cond_false]
    rw [getD_out (by omega)]
 ·have e1:b+(L.length - (b+1)) = L.length - 1:=by omega
  rw [← e1]
  have t:ToldRef P42 G42 32 [o33 L.length n,.int .i64 b,.int .i64 (b+1:Nat)] [rowB 0 n (lstF L)] (o33 (b+(L.length - (b+1))) n) [⟨0,3,n,fun j=>bif Nat.ble (0+(b+(L.length - (b+1)))) j&&Nat.blt j (0+(b+(L.length - (b+1)))+(L.length - (b+(L.length - (b+1))))) then [.int .i64 0,.int .i64 0,.int .i64 0] else bif Nat.ble (0+b) j&&Nat.blt j (0+b+(L.length - (b+1))) then (lstF L (0+(b+1)+(j - (0+b)))).c else (lstF L j).c,true,false,none⟩] :=
   stepR_told hm42 hn42 none_ok (A:=A42) (m:=0) (K:=noneO) (l:=[]) (by kernel_rfl) loops0 ((k32 L.length n b (lstF L)).trans (BT (BF (BT (BT (BT (BT (biff (by simpa using q) (BT (BT (BT (BT (BT rfl)))))))))))))
  refine t.res (.cons ⟨rfl,rfl,rfl,id,fun j hj=>?_⟩ .nil)
  show (lstF (L.eraseIdx b) j).c = _
  simp only [bleD,bltD,lstF,erase_getD]
  by_cases c:j<b
  ·rw [if_pos c,show (decide (0+(b+(L.length - (b+1)))<=j)&&decide (j<0+(b+(L.length - (b+1)))+(L.length - (b+(L.length - (b+1)))))) = false by simp; omega,show (decide (0+b<=j)&&decide (j<0+b+(L.length - (b+1)))) = false by simp; omega]
   rfl
  ·rw [if_neg c]
   by_cases c2:j<L.length - 1
   ·rw [show (decide (0+(b+(L.length - (b+1)))<=j)&&decide (j<0+(b+(L.length - (b+1)))+(L.length - (b+(L.length - (b+1)))))) = false by simp; omega,show (decide (0+b<=j)&&decide (j<0+b+(L.length - (b+1)))) = true by simp; omega]
    simp only [cond_true,cond_false]
    rw [show 0+(b+1)+(j - (0+b)) = j+1 by omega]
   ·rw [getD_out (by omega)]
    by_cases c3:j<L.length
    ·rw [show (decide (0+(b+(L.length - (b+1)))<=j)&&decide (j<0+(b+(L.length - (b+1)))+(L.length - (b+(L.length - (b+1)))))) = true by simp; omega]
     rfl
    ·rw [show (decide (0+(b+(L.length - (b+1)))<=j)&&decide (j<0+(b+(L.length - (b+1)))+(L.length - (b+(L.length - (b+1)))))) = false by simp; omega,show (decide (0+b<=j)&&decide (j<0+b+(L.length - (b+1)))) = false by simp; omega]
     simp only [cond_false]
     rw [getD_out (by omega)]
def UseTo (cs:List Cne) (hs:List Hld) (o a l:Int) (cs2:List Cne) (hs2:List Hld) (kn e:Int):Prop :=
 (ckE cs hs ≠ 0/\cs2 = []/\hs2 = []/\kn = 0/\e = ckE cs hs) ∨ (ckE cs hs = 0/\hvB ⟨o,a,l⟩ = false/\cs2 = []/\hs2 = []/\kn = 0/\e = 1) ∨
 (ckE cs hs = 0/\hvB ⟨o,a,l⟩ = true/\∃ i,At hs ⟨o,a,l⟩ i/\((¬ (i<hs.length/\cmpH (hs.getD i hd0) ⟨o,a,l⟩ = 0)/\cs2 = []/\hs2 = []/\kn = 0/\e = 7) ∨
  (i<hs.length/\cmpH (hs.getD i hd0) ⟨o,a,l⟩ = 0/\(((hs.getD i hd0).l<l/\cs2 = []/\hs2 = []/\kn = 0/\e = 18) ∨
   (l<=(hs.getD i hd0).l/\CutTo a cs l (-1) cs2 kn/\hs2 = (if (hs.getD i hd0).l = l then hs.eraseIdx i else hs.set i ⟨(hs.getD i hd0).o,(hs.getD i hd0).a,(hs.getD i hd0).l - l⟩)/\e = 0)))))
theorem none3 {f:FuncId} {args:List T} {E:Int} (t:ToldOk P42 G42 f args (.tup [.agg [.nils,.nils],.int .i64 0,.int .i64 E])):ToldOk P42 G42 f args (.tup [stN [] [],.int .i64 0,.int .i64 E]) :=
 tupAgg t (.cons (.niln _ _ _ (.inr rfl)) (.cons (.niln _ _ _ (.inr rfl)) .nil))
theorem useTN (cs:List Cne) (hs:List Hld) (o a l:Int) (n1:cs.length<=100000) (n2:hs.length<=100000):∃ cs2 hs2 kn e,UseTo cs hs o a l cs2 hs2 kn e/\ToldOk P42 G42 11 [.agg [cnV cs none,hdV hs none],.int .i64 o,.int .i64 a,.int .i64 l] (.tup [stN cs2 hs2,.int .i64 kn,.int .i64 e]):=by
 obtain ⟨p10,h10⟩:=is_val P42 G42 10
 obtain ⟨p21,h21⟩:=is_val P42 G42 21
 obtain ⟨p30,h30⟩:=is_val P42 G42 30
 obtain ⟨p26,h26⟩:=is_val P42 G42 26
 obtain ⟨q33,h33⟩:=is_ref P42 G42 33
 obtain ⟨q32,h32⟩:=is_ref P42 G42 32
 have t10:=checkT cs hs (by omega) (by omega)
 have t21:=hvT ⟨o,a,l⟩
 have run:∀ E b fd i cs2 hs2 kn r,stepV P42 G42 A42 (K11 p10 p21 p30 p26 q33 q32 E b fd i cs cs2 hs hs2 kn) 0 11 [.agg [cnV cs none,hdV hs none],.int .i64 o,.int .i64 a,.int .i64 l] = some r->ToldOk P42 G42 11 [.agg [cnV cs none,hdV hs none],.int .i64 o,.int .i64 a,.int .i64 l] r:=fun E b fd i cs2 hs2 kn r hr =>
  stepV_told hm42 hn42 (told_inl hm42 hn42 (told_inl hm42 hn42 (told_addRef (told_addRef (told_add (told_add (told_add (told_add none_ok (callF_told h10)) (callF_told h21)) (callF_told h30)) (callF_told h26)) (refF_told h33)) (refF_told h32)) none_ok) none_ok) (A:=A42) (m:=0) hr
 by_cases e0:ckE cs hs ≠ 0
 ·refine ⟨[],[],0,ckE cs hs,.inl ⟨e0,rfl,rfl,rfl,rfl⟩,none3 (run (ckE cs hs) false false 0 [] [] 0 _ ?_)⟩
  rw [k11]
  exact bift (callF_yes h10 t10) (bift (by simpa using e0) rfl)
 have e0:ckE cs hs = 0:=by simpa using e0
 rw [e0] at t10
 cases b1:hvB ⟨o,a,l⟩ with
 | false =>
  rw [b1] at t21
  refine ⟨[],[],0,1,.inr (.inl ⟨e0,b1,rfl,rfl,rfl,rfl⟩),none3 (run 0 false false 0 [] [] 0 _ ?_)⟩
  rw [k11]
  exact bift (callF_yes h10 t10) (biff (by simp) (bift (callF_yes h21 t21) (biff (by simp) rfl)))
 | true =>
  rw [b1] at t21
  have t21:ToldOk P42 G42 21 [.agg [.int .i64 o,.int .i64 a,.int .i64 l]] (.bool true):=t21
  obtain ⟨m1,m2,m3,m4,m5⟩:=ckE_0 e0
  obtain ⟨i,hA,t30⟩:=searchT hs ⟨o,a,l⟩ (by omega) (hOk_asc m4)
  have t30:ToldOk P42 G42 30 [hdV hs none,.agg [.int .i64 o,.int .i64 a,.int .i64 l],.fn 29 []] (.tup [.int .i64 i,.bool (decide (i<hs.length)&&decide (cmpH (hs.getD i hd0) ⟨o,a,l⟩ = 0))]):=t30
  by_cases c:i<hs.length/\cmpH (hs.getD i hd0) ⟨o,a,l⟩ = 0
  ·have ec:(decide (i<hs.length)&&decide (cmpH (hs.getD i hd0) ⟨o,a,l⟩ = 0)) = true:=by rw [decide_eq_true c.1,decide_eq_true c.2]; rfl
   rw [ec] at t30
   obtain ⟨c1,c2⟩:=c
   have hd:hs.getD i ⟨0,0,0⟩ = hs.getD i hd0:=rfl
   have hf:lstF hs i = hs.getD i hd0:=rfl
   have hl9:=hvB_iff.1 b1
   have hl9:1<=l/\l<=1000000000:=⟨hl9.2.2.2.2.1,hl9.2.2.2.2.2⟩
   have hx:=hvB_iff.1 (hOk_val m4 _ (mem_getD c1 hd0))
   by_cases c3:(hs.getD i hd0).l<l
   ·refine ⟨[],[],0,18,.inr (.inr ⟨e0,b1,i,hA,.inr ⟨c1,c2,.inl ⟨c3,rfl,rfl,rfl,rfl⟩⟩⟩),none3 (run 0 true true i [] [] 0 _ ?_)⟩
    rw [k11,hd]
    exact bift (callF_yes h10 t10) (biff (by simp) (bift (callF_yes h21 t21) (bift rfl (bift (callF_yes h30 t30) (bift rfl (BT (bift (by simpa using c3) rfl)))))))
   ·have t26:=madeF cs.length hs.length (lstC cs) (lstF hs) (by omega) (by omega)
    have t26:ToldOk P42 G42 26 [cnV cs none,hdV hs none] (.agg [.fresh true 2 cs.length (fun j=>(lstC cs j).c) cs.length (some cs.length),.fresh true 3 hs.length (fun j=>(lstF hs j).c) hs.length (some hs.length)]):=t26
    have hcv:∀ c,c ∈ cs->1<=c.l/\c.l<=1000000000:=fun c hc=>by have:=cvB_iff.1 (cOk_iff.1 m3 c hc); omega
    have same:∀ (X:Blk) (z:Int),SameBlks [X,⟨0,3,hs.length,fun e=>[.int .i64 (bif e==i then (lstF hs i).o else (lstF hs e).o),.int .i64 (bif e==i then (lstF hs i).a else (lstF hs e).a),.int .i64 (bif e==i then z else (lstF hs e).l)],true,false,none⟩] [X,rowB 0 hs.length (lstF (hs.set i ⟨(lstF hs i).o,(lstF hs i).a,z⟩))]:=fun X z=>by
     refine same_one (.cons ⟨rfl,rfl,rfl,id,fun j hj=>?_⟩ .nil)
     show (lstF (hs.set i ⟨(lstF hs i).o,(lstF hs i).a,z⟩) j).c = [T.int .i64 (bif j==i then (lstF hs i).o else (lstF hs j).o),T.int .i64 (bif j==i then (lstF hs i).a else (lstF hs j).a),T.int .i64 (bif j==i then z else (lstF hs j).l)]
     by_cases c3:j = i
     ·subst c3
      have:∀ y,lstF (hs.set j y) j = y:=fun y=>by simp [lstF,c1]
      rw [this]
      simp [Hld.c]
     ·have:∀ y,lstF (hs.set i y) j = lstF hs j:=fun y=>by
       simp only [lstF,List.getD_eq_getElem?_getD,List.getElem?_set_ne (fun h=>c3 h.symm)]
      rw [this,show (j==i) = false by simp [c3]]
      rfl
    by_cases c4:(hs.getD i hd0).l = l
    ·obtain ⟨cs2,kn,hC,hlen,t33⟩:=cutR cs cs.length a l (rowB 0 hs.length (lstF (hs.eraseIdx i))) (Nat.le_refl _) (by omega) hl9.2 hcv
     have el:(hs.eraseIdx i).length = hs.length - 1:=List.length_eraseIdx_of_lt c1
     have t32:=ToldRef.frame (delH (hs.set i ⟨(lstF hs i).o,(lstF hs i).a,0⟩) hs.length i (by simpa using c1) (by simp) (by omega)) (h:=[rowC 0 cs.length (lstC cs),rowB 0 hs.length (lstF (hs.set i ⟨(lstF hs i).o,(lstF hs i).a,0⟩))]) (i:=1) (d:=0) rfl rfl rfl rfl rfl rfl rfl
     rw [List.length_set,List.eraseIdx_set_eq] at t32
     have t32:ToldRef P42 G42 32 [o32 hs.length hs.length,.int .i64 i,.int .i64 (i+1:Nat)] _ (o32 (hs.length - 1) hs.length) [rowC 0 cs.length (lstC cs),rowB 0 hs.length (lstF (hs.eraseIdx i))]:=t32.same (same _ 0)
     refine ⟨cs2,hs.eraseIdx i,kn,0,.inr (.inr ⟨e0,b1,i,hA,.inr ⟨c1,c2,.inr ⟨by omega,hC,by rw [if_pos c4],rfl⟩⟩⟩),?_⟩
     have t:ToldOk P42 G42 11 [.agg [cnV cs none,hdV hs none],.int .i64 o,.int .i64 a,.int .i64 l] (.tup [.agg [.fresh true 2 cs.length (fun j=>(lstC cs2 j).c) cs2.length (some cs2.length),.fresh true 3 hs.length (fun j=>(lstF (hs.eraseIdx i) j).c) (hs.length - 1) (some (hs.length - 1))],.int .i64 kn,.int .i64 0]):=by
      refine run 0 true true i cs2 (hs.eraseIdx i) kn _ ?_
      rw [k11,hd]
      simp only [Nat.zero_add]
      rw [up1 (by omega),show IntKind.i64.wrap ((lstF hs i).l - l) = 0 by rw [hf,c4,Int.sub_self]; rfl]
      refine bift (callF_yes h10 t10) (biff (by simp) (bift (callF_yes h21 t21) (bift rfl (bift (callF_yes h30 t30) (bift rfl (BT (biff (by simpa using c3) (bift (callF_yes h26 t26) (BT (BT (BT (BT (BT (BT (bift (by simp) (bift (refF_yes h32 t32) (BT (bift (refF_yes h33 t33) (BT ?_)))))))))))))))))))
      rw [bleT hlen,bleT (by omega)]
      rfl
     have t2:=tupAgg t.frz (m:=[.new (cnV cs2 (some cs2.length)),.new (hdV (hs.eraseIdx i) (some (hs.eraseIdx i).length))]) (.cons (.refl _) (.cons (by rw [show hdV (hs.eraseIdx i) (some (hs.eraseIdx i).length) = .view 3 (hs.length - 1) (fun j=>(lstF (hs.eraseIdx i) j).c) (some (hs.length - 1)) by rw [← el]; rfl]; exact .refl _) .nil))
     exact t2
    ·have ez:IntKind.i64.wrap ((lstF hs i).l - l) = (lstF hs i).l - l:=by rw [hf]; exact wr64 (by omega) (by omega)
     obtain ⟨cs2,kn,hC,hlen,t33⟩:=cutR cs cs.length a l ⟨0,3,hs.length,fun e=>[.int .i64 (bif e==i then (lstF hs i).o else (lstF hs e).o),.int .i64 (bif e==i then (lstF hs i).a else (lstF hs e).a),.int .i64 (bif e==i then (lstF hs i).l - l else (lstF hs e).l)],true,false,none⟩ (Nat.le_refl _) (by omega) hl9.2 hcv
     refine ⟨cs2,hs.set i ⟨(lstF hs i).o,(lstF hs i).a,(lstF hs i).l - l⟩,kn,0,.inr (.inr ⟨e0,b1,i,hA,.inr ⟨c1,c2,.inr ⟨by omega,hC,by rw [if_neg c4]; rfl,rfl⟩⟩⟩),?_⟩
     have t:ToldOk P42 G42 11 [.agg [cnV cs none,hdV hs none],.int .i64 o,.int .i64 a,.int .i64 l] (.tup [.agg [.fresh true 2 cs.length (fun j=>(lstC cs2 j).c) cs2.length (some cs2.length),.fresh true 3 hs.length (fun e=>[.int .i64 (bif e==i then (lstF hs i).o else (lstF hs e).o),.int .i64 (bif e==i then (lstF hs i).a else (lstF hs e).a),.int .i64 (bif e==i then (lstF hs i).l - l else (lstF hs e).l)]) hs.length (some hs.length)],.int .i64 kn,.int .i64 0]):=by
      refine run 0 true true i cs2 [] kn _ ?_
      rw [k11,hd]
      simp only [Nat.zero_add]
      rw [ez]
      refine bift (callF_yes h10 t10) (biff (by simp) (bift (callF_yes h21 t21) (bift rfl (bift (callF_yes h30 t30) (bift rfl (BT (biff (by simpa using c3) (bift (callF_yes h26 t26) (BT (BT (BT (BT (BT (BT (biff (by rw [hf,beq_self_eq_true,cond_true,decide_eq_true_eq]; omega) (bift (refF_yes h33 t33) (BT ?_)))))))))))))))))
      rw [bleT hlen,bleT (Nat.le_refl _)]
      rfl
     have el:(hs.set i ⟨(lstF hs i).o,(lstF hs i).a,(lstF hs i).l - l⟩).length = hs.length:=List.length_set ..
     have t1:ToldOk P42 G42 11 [.agg [cnV cs none,hdV hs none],.int .i64 o,.int .i64 a,.int .i64 l] (.tup [.agg [.fresh true 2 cs.length (fun j=>(lstC cs2 j).c) cs2.length (some cs2.length),.fresh true 3 hs.length (fun j=>(lstF (hs.set i ⟨(lstF hs i).o,(lstF hs i).a,(lstF hs i).l - l⟩) j).c) hs.length (some hs.length)],.int .i64 kn,.int .i64 0]):=by
      refine tupAgg t (.cons (.refl _) (.cons (.fresh (Nat.le_refl _) (Nat.le_refl _) (fun m hm=>by obtain rfl:=Option.some.inj hm; exact Nat.le_refl _) fun j hj=>?_) .nil))
      by_cases c5:j = i
      ·subst c5
       have:∀ y,lstF (hs.set j y) j = y:=fun y=>by simp [lstF,c1]
       rw [this]
       simp [Hld.c]
      ·have:∀ y,lstF (hs.set i y) j = lstF hs j:=fun y=>by
        simp only [lstF,List.getD_eq_getElem?_getD,List.getElem?_set_ne (fun h=>c5 h.symm)]
       rw [this,show (j==i) = false by simp [c5]]
       rfl
     have t2:=tupAgg t1.frz (m:=[.new (cnV cs2 (some cs2.length)),.new (hdV (hs.set i ⟨(lstF hs i).o,(lstF hs i).a,(lstF hs i).l - l⟩) (some (hs.set i ⟨(lstF hs i).o,(lstF hs i).a,(lstF hs i).l - l⟩).length))]) (.cons (.refl _) (.cons (by
      rw [show hdV (hs.set i ⟨(lstF hs i).o,(lstF hs i).a,(lstF hs i).l - l⟩) (some (hs.set i ⟨(lstF hs i).o,(lstF hs i).a,(lstF hs i).l - l⟩).length) = .view 3 hs.length (fun j=>(lstF (hs.set i ⟨(lstF hs i).o,(lstF hs i).a,(lstF hs i).l - l⟩) j).c) (some hs.length) by unfold hdV; rw [el]; rfl]
      exact .refl _) .nil))
     exact t2
  ·have ec:(decide (i<hs.length)&&decide (cmpH (hs.getD i hd0) ⟨o,a,l⟩ = 0)) = false:=by
    rw [← Bool.not_eq_true]; intro h; exact c (by simpa using h)
   rw [ec] at t30
   refine ⟨[],[],0,7,.inr (.inr ⟨e0,b1,i,hA,.inl ⟨c,rfl,rfl,rfl,rfl⟩⟩),none3 (run 0 true false i [] [] 0 _ ?_)⟩
   rw [k11]
   exact bift (callF_yes h10 t10) (biff (by simp) (bift (callF_yes h21 t21) (bift rfl (bift (callF_yes h30 t30) (biff (by simp) rfl)))))
theorem useT (cs:List Cne) (hs:List Hld) (o a l:Int) (n1:cs.length<=100000) (n2:hs.length<=100000):∃ cs2 hs2 kn e,UseTo cs hs o a l cs2 hs2 kn e/\ToldOk P42 G42 11 [.agg [cnV cs none,hdV hs none],.int .i64 o,.int .i64 a,.int .i64 l] (.tup [stV cs2 hs2,.int .i64 kn,.int .i64 e]):=by
 obtain ⟨cs2,hs2,kn,e,h,t⟩:=useTN cs hs o a l n1 n2
 exact ⟨cs2,hs2,kn,e,h,tupAgg t (.cons (.newv _) (.cons (.newv _) .nil))⟩
open Go.Proofs Go.Sort
def kS:List Hld->Int->Int->Int
 | [],_,_=>0
 | c :: r,o,a=>(if c.o = o/\c.a = a then c.l else 0)+kS r o a
theorem kS_app (l m:List Hld) (o a:Int):kS (l ++ m) o a = kS l o a+kS m o a:=by
 induction l with
 | nil=>simp [kS]
 | cons c l ih=>simp only [List.cons_append,kS,ih]; omega
theorem kS_perm {l m:List Hld} (h:l.Perm m) (o a:Int):kS l o a = kS m o a:=by
 induction h with
 | nil=>rfl
 | cons x _ ih=>simp only [kS,ih]
 | swap x y l=>simp only [kS]; omega
 | trans _ _ h1 h2=>rw [h1,h2]
theorem hdN_perm {l m:List Hld} (h:l.Perm m) (x:Int):hdN l x = hdN m x:=by
 induction h with
 | nil=>rfl
 | cons x _ ih=>simp only [hdN,ih]
 | swap x y l=>simp only [hdN]; omega
 | trans _ _ h1 h2=>rw [h1,h2]
def ascP (L:List Hld):Prop:=L.Pairwise fun x y=>cmpH x y<0
theorem mgStep_cons (P:List Hld) (y h:Hld):mgStep (P ++ [y]) h = if cmpH y h = 0 then P ++ [⟨y.o,y.a,IntKind.i64.wrap (y.l+h.l)⟩] else P ++ [y] ++ [h]:=by
 have e1:(P ++ [y]).length - 1 = P.length:=by simp
 have e2:lastH (P ++ [y]) = y:=by
  unfold lastH
  rw [e1]
  simp
 unfold mgStep
 rw [e1,e2]
 by_cases q:cmpH y h = 0
 ·rw [if_pos ⟨by simp,q⟩,if_pos q]
  simp
 ·rw [if_neg fun h=>q h.2,if_neg q]
structure MgI (T:List Hld) (L:List Hld) (k:Nat):Prop where
 asc:ascP L
 sum:∀ o a,kS L o a = kS T o a
 art:∀ x,hdN L x = hdN T x
 pos:∀ c,c ∈ L->1<=c.l/\c.l<=1000000000 * k
 key:∀ c,c ∈ L->∃ d,d ∈ T/\d.o = c.o/\d.a = c.a
theorem mg_inv (S:Nat->Hld) (n:Nat) (hn:n<=900000) (hv:∀ i,i<n->1<=(S i).l/\(S i).l<=1000000000) (hs:∀ i,i+1<n->¬ cmpH (S (i+1)) (S i)<0):∀ i,i<n->∃ P y,mgTo S (i+1) = P ++ [y]/\y.o = (S i).o/\y.a = (S i).a/\MgI ((List.range (i+1)).map S) (P ++ [y]) (i+1)
 | 0,hi=>by
  have:=hv 0 hi
  refine ⟨[],S 0,rfl,rfl,rfl,⟨by simp [ascP],fun o a=>by simp [List.range_succ],fun x=>by simp [List.range_succ],fun c hc=>?_,fun c hc=>?_⟩⟩
  ·simp at hc; subst hc; omega
  ·simp at hc; subst hc; exact ⟨S 0,by simp [List.range_succ],rfl,rfl⟩
 | i+1,hi=>by
  obtain ⟨P,y,e,ho,ha,hI⟩:=mg_inv S n hn hv hs i (by omega)
  have hv1:=hv (i+1) hi
  have hs1:=hs i hi
  have hy:=hI.pos y (by simp)
  have er:(List.range (i+1+1)).map S = (List.range (i+1)).map S ++ [S (i+1)]:=by rw [List.range_succ,List.map_append]; rfl
  have em:mgTo S (i+1+1) = mgStep (P ++ [y]) (S (i+1)):=by
   show mgStep (mgTo S (i+1)) (S (i+1)) = _
   rw [e]
  rw [em,mgStep_cons,er]
  generalize (List.range (i+1)).map S = T at *
  generalize S (i+1) = z at *
  have hw:IntKind.i64.wrap (y.l+z.l) = y.l+z.l:=wr64 (by omega) (by omega)
  have hasc:=List.pairwise_append.1 hI.asc
  by_cases q:cmpH y z = 0
  ·rw [if_pos q,hw]
   have hk:=(cmpH_0 y z).1 q
   refine ⟨P,_,rfl,hk.1,hk.2,⟨List.pairwise_append.2 ⟨hasc.1,by simp,fun a ha b hb=>?_⟩,fun o a=>?_,fun x=>?_,fun c hc=>?_,fun c hc=>?_⟩⟩
   ·simp at hb
    subst hb
    have:=hasc.2.2 a ha y (by simp)
    rw [cmpH_lt] at this ⊢
    exact this
   ·have:=hI.sum o a
    rw [kS_app] at this ⊢
    rw [kS_app,← this]
    simp only [kS]
    by_cases r:y.o = o/\y.a = a
    ·rw [if_pos r,if_pos r,if_pos ⟨by rw [← hk.1]; exact r.1,by rw [← hk.2]; exact r.2⟩]; omega
    ·rw [if_neg r,if_neg r,if_neg fun h=>r ⟨by rw [hk.1]; exact h.1,by rw [hk.2]; exact h.2⟩]; omega
   ·have:=hI.art x
    rw [hdN_app] at this ⊢
    rw [hdN_app,← this]
    simp only [hdN]
    by_cases r:y.a = x
    ·rw [if_pos r,if_pos r,if_pos (by rw [← hk.2]; exact r)]; omega
    ·rw [if_neg r,if_neg r,if_neg fun h=>r (by rw [hk.2]; exact h)]; omega
   ·rcases List.mem_append.1 hc with h | h
    ·have:=hI.pos c (by simp [h]); omega
    ·simp at h; subst h
     show 1<=y.l+z.l/\y.l+z.l<=1000000000 * ((i+1+1:Nat):Int)
     omega
   ·rcases List.mem_append.1 hc with h | h
    ·obtain ⟨d,h1,h2⟩:=hI.key c (by simp [h])
     exact ⟨d,by simp [h1],h2⟩
    ·simp at h; subst h
     obtain ⟨d,h1,h2⟩:=hI.key y (by simp)
     exact ⟨d,by simp [h1],h2⟩
  ·rw [if_neg q]
   have hlt:cmpH y z<0:=by
    rw [cmpH_0] at q
    rw [cmpH_lt] at hs1 ⊢
    omega
   refine ⟨P ++ [y],z,rfl,rfl,rfl,⟨List.pairwise_append.2 ⟨hI.asc,by simp,fun a ha b hb=>?_⟩,fun o a=>?_,fun x=>?_,fun c hc=>?_,fun c hc=>?_⟩⟩
   ·simp at hb
    subst hb
    rcases List.mem_append.1 ha with h | h
    ·exact cmpH_trans (hasc.2.2 a h y (by simp)) hlt
    ·simp at h; subst h; exact hlt
   ·have e1:=kS_app (P ++ [y]) [z] o a
    have e2:=kS_app T [z] o a
    rw [e1,e2,hI.sum]
   ·have e1:=hdN_app (P ++ [y]) [z] x
    have e2:=hdN_app T [z] x
    rw [e1,e2,hI.art]
   ·rcases List.mem_append.1 hc with h | h
    ·have:=hI.pos c h; omega
    ·simp at h; subst h; omega
   ·rcases List.mem_append.1 hc with h | h
    ·obtain ⟨d,h1,h2⟩:=hI.key c h
     exact ⟨d,by simp [h1],h2⟩
    ·simp at h; subst h
     exact ⟨c,by simp,rfl,rfl⟩
theorem mgL_inv (hs l:List Hld) (h1:∀ c,c ∈ hs->1<=c.l/\c.l<=1000000000) (h2:∀ c,c ∈ l->1<=c.l/\c.l<=1000000000) (n1:hs.length<=400000) (n2:l.length<=400000):MgI (hs ++ l) (mgL hs l) (hs.length+l.length):=by
 have ecat:(List.range (hs.length+l.length)).map (catF hs.length (lstF hs) (lstF l)) = hs ++ l:=by
  refine List.ext_getElem (by simp) fun i q1 q2=>?_
  have q3:i<hs.length+l.length:=by simpa using q1
  rw [List.getElem_map,List.getElem_range]
  unfold catF
  rw [bltD]
  by_cases c:i<hs.length
  ·rw [decide_eq_true c,cond_true,List.getElem_append_left c]
   simp [lstF,c]
  ·rw [decide_eq_false c,cond_false,List.getElem_append_right (by omega)]
   simp [lstF,show i - hs.length<l.length by omega]
 rcases Nat.eq_zero_or_pos (hs.length+l.length) with q | q
 ·have ha:hs = []:=List.length_eq_zero_iff.1 (by omega)
  have hb:l = []:=List.length_eq_zero_iff.1 (by omega)
  subst ha hb
  exact ⟨List.Pairwise.nil,fun _ _=>rfl,fun _=>rfl,fun c hc=>(by cases hc),fun c hc=>(by cases hc)⟩
 have hsz:((List.range (hs.length+l.length)).map (catF hs.length (lstF hs) (lstF l))).toArray.size = hs.length+l.length:=by simp
 obtain ⟨⟨p1,_,p3⟩,p4⟩:=srt42_is ((List.range (hs.length+l.length)).map (catF hs.length (lstF hs) (lstF l))).toArray
 rw [hsz] at p1 p3 p4
 have ext:∀ (A:Array Hld) (n:Nat),A.size = n->A.extract 0 n = A:=fun A n h=>by subst h; exact Array.extract_size
 rw [ext _ _ p1,ext _ _ hsz] at p3
 have p3:(srt42 ((List.range (hs.length+l.length)).map (catF hs.length (lstF hs) (lstF l))).toArray).toList.Perm (hs ++ l):=by
  rw [← ecat]
  exact p3
 have eD:(List.range (hs.length+l.length)).map (srtF hs.length l.length (lstF hs) (lstF l)) = (srt42 ((List.range (hs.length+l.length)).map (catF hs.length (lstF hs) (lstF l))).toArray).toList:=by
  refine List.ext_getElem (by simp [p1]) fun i q1 q2=>?_
  have q3:i<hs.length+l.length:=by simpa using q1
  rw [List.getElem_map,List.getElem_range]
  unfold srtF
  rw [getElem!_pos _ i (by omega)]
  simp
 have hvS:∀ i,i<hs.length+l.length->1<=(srtF hs.length l.length (lstF hs) (lstF l) i).l/\(srtF hs.length l.length (lstF hs) (lstF l) i).l<=1000000000:=fun i hi=>by
  have:srtF hs.length l.length (lstF hs) (lstF l) i ∈ hs ++ l:=p3.mem_iff.1 (by rw [← eD]; exact List.mem_map.2 ⟨i,List.mem_range.2 hi,rfl⟩)
  rcases List.mem_append.1 this with h | h
  ·exact h1 _ h
  ·exact h2 _ h
 have hsS:∀ i,i+1<hs.length+l.length->¬ cmpH (srtF hs.length l.length (lstF hs) (lstF l) (i+1)) (srtF hs.length l.length (lstF hs) (lstF l) i)<0:=fun i hi=>by
  have:=p4 i (i+1) (Nat.zero_le _) (by omega) hi
  unfold ltOf at this
  exact of_decide_eq_false this
 obtain ⟨k,hk⟩:∃ k,hs.length+l.length = k+1:=⟨hs.length+l.length - 1,by omega⟩
 obtain ⟨P,y,e,_,_,hI⟩:=mg_inv (srtF hs.length l.length (lstF hs) (lstF l)) (hs.length+l.length) (by omega) hvS hsS k (by omega)
 rw [← hk] at e hI
 rw [eD] at hI
 have em:mgL hs l = P ++ [y]:=e
 rw [em]
 exact ⟨hI.asc,fun o a=>(hI.sum o a).trans (kS_perm p3 o a),fun x=>(hI.art x).trans (hdN_perm p3 x),hI.pos,fun c hc=>by
  obtain ⟨d,q1,q2⟩:=hI.key c hc
  exact ⟨d,p3.mem_iff.1 q1,q2⟩⟩
structure Valid (cs:List Cne) (hs:List Hld):Prop where
 cl:cs.length<=512
 hl:hs.length<=512
 cv:∀ c,c ∈ cs->cvB c = true
 hv:∀ c,c ∈ hs->hvB c = true
 asc:ascP hs
 fr:∀ x,0<=frF cs hs x
theorem asc_iff {hs:List Hld}:ascP hs ↔ Asc hs:=by
 unfold ascP
 rw [List.pairwise_iff_getElem]
 constructor
 ·intro h a b hab hb
  have:=h a b (by omega) hb hab
  simpa [List.getD_eq_getElem?_getD,List.getElem?_eq_getElem hb,List.getElem?_eq_getElem (show a<hs.length by omega)] using this
 ·intro h i j hi hj hij
  have:=h i j hij hj
  simpa [List.getD_eq_getElem?_getD,List.getElem?_eq_getElem hi,List.getElem?_eq_getElem hj] using this
theorem hOk_iff {hs:List Hld}:hOk hs = true ↔ (∀ c,c ∈ hs->hvB c = true)/\ascP hs:=by
 constructor
 ·exact fun h=>⟨hOk_val h,asc_iff.2 (hOk_asc h)⟩
 ·rintro ⟨h1,h2⟩
  refine (allB_iff _ _).2 fun i hi=>?_
  unfold hkB
  rw [h1 _ (mem_getD hi hd0),Bool.true_and,Bool.or_eq_true]
  rcases Nat.eq_zero_or_pos i with q | q
  ·exact .inl (by simp [q])
  ·exact .inr (decide_eq_true (asc_iff.1 h2 (i - 1) i (by omega) hi))
theorem ckE_iff {cs:List Cne} {hs:List Hld}:ckE cs hs = 0 ↔ Valid cs hs:=by
 constructor
 ·intro h
  obtain ⟨m1,m2,m3,m4,m5⟩:=ckE_0 h
  have g:=fr_good cs hs (cOk_iff.1 m3) (hOk_val m4) (by omega) (by omega)
  refine ⟨m1,m2,cOk_iff.1 m3,hOk_val m4,asc_iff.2 (hOk_asc m4),fun x=>?_⟩
  refine Classical.byContradiction fun q=>?_
  have:=g.1.short.2 ⟨x,by omega⟩
  rw [m5] at this
  cases this
 ·intro h
  have g:=fr_good cs hs h.cv h.hv (by have:=h.cl; omega) (by have:=h.hl; omega)
  have m3:=cOk_iff.2 h.cv
  have m4:=hOk_iff.2 ⟨h.hv,h.asc⟩
  unfold ckE
  rw [if_neg (by have:=h.cl; have:=h.hl; omega),if_neg (by rw [m3,m4]; simp),if_neg fun q=>?_]
  obtain ⟨x,hx⟩:=g.1.short.1 q
  have:=h.fr x
  omega
theorem lOk_iff {l:List Hld}:lOk l = true ↔ ∀ c,c ∈ l->hvB c = true:=by
 constructor
 ·exact hOk_of
 ·exact fun h=>(allB_iff _ _).2 fun i hi=>h _ (mem_getD hi hd0)
theorem bigOk_iff {l:List Hld}:bigOk l = true ↔ ∀ c,c ∈ l->c.l<=1000000000:=by
 unfold bigOk
 rw [allB_iff]
 constructor
 ·intro h c hc
  obtain ⟨i,hi,rfl⟩:=List.getElem_of_mem hc
  have:=h i hi
  simp [List.getElem?_eq_getElem hi] at this
  exact this
 ·intro h i hi
  have:=h _ (mem_getD hi hd0)
  simpa using this
theorem rsv_is {cs:List Cne} {hs l:List Hld} (h:Valid cs hs) (hl:∀ c,c ∈ l->hvB c = true) (n3:l.length<=100000) :
 ((∃ x,frF cs hs x<hdN l x)/\rsv cs hs l = ([],[],18)) ∨ ((∀ x,hdN l x<=frF cs hs x)/\rsv cs hs l = if bigOk (mgL hs l) = false then ([],[],3) else if 512<(mgL hs l).length then ([],[],9) else (cs,mgL hs l,0)):=by
 have g:=take_good cs hs l h.cv h.hv hl (by have:=h.cl; omega) (by have:=h.hl; omega) n3
 unfold rsv
 rw [if_neg (by rw [ckE_iff.2 h]; simp),if_neg (by rw [lOk_iff.2 hl]; simp)]
 by_cases q:∃ x,frF cs hs x<hdN l x
 ·refine .inl ⟨q,?_⟩
  obtain ⟨x,hx⟩:=q
  rw [if_pos (g.1.short.2 ⟨x,by omega⟩)]
 ·refine .inr ⟨fun x=>Classical.byContradiction fun hh=>q ⟨x,by omega⟩,?_⟩
  rw [if_neg fun hh=>?_]
  obtain ⟨x,hx⟩:=g.1.short.1 hh
  exact q ⟨x,by omega⟩
theorem mgL_valid {cs:List Cne} {hs l:List Hld} (h:Valid cs hs) (hl:∀ c,c ∈ l->hvB c = true) (n3:l.length<=100000) (hx:∀ x,hdN l x<=frF cs hs x) (hb:bigOk (mgL hs l) = true) (hn:(mgL hs l).length<=512):Valid cs (mgL hs l):=by
 have r1:∀ c,c ∈ hs->1<=c.l/\c.l<=1000000000:=fun c hc=>by have:=hvB_iff.1 (h.hv c hc); omega
 have r2:∀ c,c ∈ l->1<=c.l/\c.l<=1000000000:=fun c hc=>by have:=hvB_iff.1 (hl c hc); omega
 have hI:=mgL_inv hs l r1 r2 (by have:=h.hl; omega) (by omega)
 refine ⟨h.cl,hn,h.cv,fun c hc=>?_,hI.asc,fun x=>?_⟩
 ·obtain ⟨d,q1,q2,q3⟩:=hI.key c hc
  have hd:hvB d = true:=by
   rcases List.mem_append.1 q1 with q | q
   ·exact h.hv d q
   ·exact hl d q
  have hd:=hvB_iff.1 hd
  have hp:=hI.pos c hc
  have hm:=bigOk_iff.1 hb c hc
  exact hvB_iff.2 ⟨by omega,by omega,by omega,by omega,by omega,by omega⟩
 ·have:=hx x
  unfold frF at this ⊢
  rw [hI.art,hdN_app]
  omega
theorem ascP_nodup {L:List Hld} (h:ascP L):L.Nodup:=h.imp fun {a b} hab e=>by subst e; rw [cmpH_lt] at hab; omega
theorem kS_out {L:List Hld} {o a:Int} (h:∀ c,c ∈ L->¬ (c.o = o/\c.a = a)):kS L o a = 0:=by
 induction L with
 | nil=>rfl
 | cons c l ih =>
  simp only [kS]
  rw [if_neg (h c (by simp)),ih fun d hd=>h d (by simp [hd])]; rfl
theorem kS_mem {L:List Hld} (h:ascP L):∀ c,c ∈ L->kS L c.o c.a = c.l:=by
 induction L with
 | nil=>intro c hc; cases hc
 | cons x l ih =>
  obtain ⟨h1,h2⟩:=List.pairwise_cons.1 h
  intro c hc
  simp only [kS]
  rcases List.mem_cons.1 hc with rfl | hc
  ·rw [if_pos ⟨rfl,rfl⟩,kS_out fun d hd q=>?_]
   ·omega
   ·have:=h1 d hd
    rw [cmpH_lt] at this
    omega
  ·have:=h1 c hc
   rw [cmpH_lt] at this
   rw [if_neg (by omega),ih h2 c hc]; omega
theorem kS_has {L:List Hld} {o a:Int} (h:kS L o a ≠ 0):∃ c,c ∈ L/\c.o = o/\c.a = a:=by
 refine Classical.byContradiction fun q=>h (kS_out fun c hc hh=>q ⟨c,hc,hh⟩)
theorem asc_unique {L M:List Hld} (hL:ascP L) (hM:ascP M) (pL:∀ c,c ∈ L->1<=c.l) (pM:∀ c,c ∈ M->1<=c.l) (h:∀ o a,kS L o a = kS M o a):L = M:=by
 have sub:∀ {L M:List Hld},ascP L->ascP M->(∀ c,c ∈ L->1<=c.l)->(∀ o a,kS L o a = kS M o a)->∀ c,c ∈ L->c ∈ M:=fun {L M} hL hM pL h c hc=>by
  have e:=(h c.o c.a).symm.trans (kS_mem hL c hc)
  have:=pL c hc
  obtain ⟨d,hd,h1,h2⟩:=kS_has (L:=M) (o:=c.o) (a:=c.a) (by omega)
  have e2:=kS_mem hM d hd
  rw [h1,h2,e] at e2
  have:d = c:=by
   cases d; cases c
   simp only at h1 h2 e2
   subst h1 h2 e2
   rfl
  rw [← this]; exact hd
 have hp:L.Perm M:=(List.perm_ext_iff_of_nodup (ascP_nodup hL) (ascP_nodup hM)).2 fun c=>⟨sub hL hM pL h c,sub hM hL pM (fun o a=>(h o a).symm) c⟩
 exact List.Perm.eq_of_pairwise (le:=fun x y=>cmpH x y<0) (fun a b _ _ h1 h2=>by rw [cmpH_lt] at h1 h2; omega) hL hM hp
theorem mgL_eq {hs l M:List Hld} (h1:∀ c,c ∈ hs->1<=c.l/\c.l<=1000000000) (h2:∀ c,c ∈ l->1<=c.l/\c.l<=1000000000) (n1:hs.length<=400000) (n2:l.length<=400000) (hM:ascP M) (pM:∀ c,c ∈ M->1<=c.l) (h:∀ o a,kS M o a = kS hs o a+kS l o a):mgL hs l = M:=by
 have hI:=mgL_inv hs l h1 h2 n1 n2
 exact asc_unique hI.asc hM (fun c hc=>(hI.pos c hc).1) pM fun o a=>by rw [hI.sum,kS_app,h]
def cutN (a:Int):Nat->List Cne->Int->Int->List Cne × Int
 | 0,L,_,kn=>(L,kn)
 | n+1,L,l,kn=>if 0<l then match lst L a L.length with
  | none=>(L,kn)
  | some b=>if (L.getD b cn0).l<=l then cutN a n (L.eraseIdx b) (l - (L.getD b cn0).l) (kn+1) else (L.set b ⟨(L.getD b cn0).a,(L.getD b cn0).l - l⟩,kn+1)
  else (L,kn)
theorem cutN_of {a:Int} {L:List Cne} {l kn:Int} {L2:List Cne} {k2:Int} (h:CutTo a L l kn L2 k2):∀ n,L.length<n->cutN a n L l kn = (L2,k2):=by
 induction h with
 | done L l kn h=>intro n hn; obtain ⟨m,rfl⟩:∃ m,n = m+1:=⟨n - 1,by omega⟩; simp only [cutN]; rw [if_neg h]
 | none L l kn h hb=>intro n hn; obtain ⟨m,rfl⟩:∃ m,n = m+1:=⟨n - 1,by omega⟩; simp only [cutN]; rw [if_pos h,hb]
 | cut L l kn b L2 k2 h hb hl hr ih =>
  intro n hn
  obtain ⟨m,rfl⟩:∃ m,n = m+1:=⟨n - 1,by omega⟩
  simp only [cutN]
  rw [if_pos h,hb]
  dsimp only
  rw [if_pos hl]
  exact ih m (by rw [List.length_eraseIdx_of_lt (lst_lt L a _ b hb)]; have:=lst_lt L a _ b hb; omega)
 | part L l kn b h hb hl =>
  intro n hn
  obtain ⟨m,rfl⟩:∃ m,n = m+1:=⟨n - 1,by omega⟩
  simp only [cutN]
  rw [if_pos h,hb]
  dsimp only
  rw [if_neg (by omega)]
theorem At.unique {hs:List Hld} {x:Hld} {i j:Nat} (hi:At hs x i) (hj:At hs x j):i = j:=by
 rcases Nat.lt_trichotomy i j with h | h | h
 ·exact absurd (hj.lo i h) (hi.hi i (Nat.le_refl _) (by have:=hj.le; omega))
 ·exact h
 ·exact absurd (hi.lo j h) (hj.hi j (Nat.le_refl _) (by have:=hi.le; omega))
def misF (cs:List Cne) (hs l:List Hld) (x:Int):Int:=frF cs hs x - hdN l x
def needL (f:Int->Int):List Cne:=(((List.range 1001).map Int.ofNat).filter fun x=>decide (f x<0)).map fun x=>⟨x,0 - f x⟩
theorem ndTo_is (s:Sm) (ks:List Int):∀ i,i<=ks.length->ndTo s ks i = ((ks.take i).filter fun x=>decide (s.val [x]<0)).map (ndC s)
 | 0,_=>rfl
 | i+1,hi=>by
  have ih:=ndTo_is s ks i (by omega)
  rw [take_one (l:=ks) (i:=i) (by omega) 0,List.filter_append,List.map_append,← ih]
  simp only [ndTo]
  by_cases q:s.val [ks.getD i 0]<0
  ·rw [if_pos q]
   simp only [List.filter_cons,decide_eq_true q,if_true,List.filter_nil,List.map_cons,List.map_nil]
  ·rw [if_neg q]
   simp only [List.filter_cons,decide_eq_false q,List.filter_nil]
   simp
theorem needO_is {cs:List Cne} {hs l:List Hld} (h:Valid cs hs) (hl:∀ c,c ∈ l->hvB c = true) (n3:l.length<=100000):needO cs hs l = needL (misF cs hs l):=by
 have n1:cs.length<=100000:=by have:=h.cl; omega
 have n2:hs.length<=100000:=by have:=h.hl; omega
 have g:=take_good cs hs l h.cv h.hv hl n1 n2 n3
 unfold needO
 rw [if_neg (by rw [ckE_iff.2 h]; simp),ndTo_is _ _ _ (Nat.le_refl _),List.take_length]
 have hg:=g.2
 have r:=g.1
 generalize takeS (freeS cs hs) l l.length = s at *
 have hval:∀ x,s.val [x] = misF cs hs l x:=r.val
 have hb:∀ x,-9223372036854775808<=0 - misF cs hs l x/\0 - misF cs hs l x<=9223372036854775807:=fun x=>by
  have c1:∀ c,c ∈ cs->0<=c.l/\c.l<=1000000000:=fun c hc=>by have:=cvB_iff.1 (h.cv c hc); omega
  have c2:∀ c,c ∈ hs->0<=c.l/\c.l<=1000000000:=fun c hc=>by have:=hvB_iff.1 (h.hv c hc); omega
  have c3:∀ c,c ∈ l->0<=c.l/\c.l<=1000000000:=fun c hc=>by have:=hvB_iff.1 (hl c hc); omega
  have:=cnN_bd cs c1 x
  have:=hdN_bd hs c2 x
  have:=hdN_bd l c3 x
  unfold misF frF
  omega
 unfold ksF needL
 rw [List.filter_filter]
 have e1:(fun x=>decide (s.val [x]<0)&&s.has [x]) = fun x=>decide (misF cs hs l x<0):=by
  funext x
  rw [hval,r.has]
  show (decide (misF cs hs l x<0)&&decide (misF cs hs l x ≠ 0)) = _
  by_cases q:misF cs hs l x<0
  ·rw [decide_eq_true q,decide_eq_true (show misF cs hs l x ≠ 0 by omega)]; rfl
  ·rw [decide_eq_false q]; rfl
 rw [e1]
 refine List.map_congr_left fun x _=>?_
 unfold ndC
 rw [hval,wr64 (hb x).1 (hb x).2]
end Go.Ab

