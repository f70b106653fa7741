/- A part of the proof: nothing is assumed. -/
import Derived.Test.YtkmijhnagbjbkaaP5
import Derived.Test.YtkmijhnagbjbkaaP6
set_option linter.all false
namespace Go.Ab
open Go.Proofs
def idb (v:Nat) (g:Nat->Idd) (n:Nat):Blk:=⟨v,2,n,fun e=>(g e).c,true,false,none⟩
def tmpI (a:Idd):Blk:=⟨0,2,1,fun j=>[[T.int .u8 a.y,T.int .i64 a.n]].getD j [],true,true,none⟩
def v15 (r:T) (a:Idd) (ps:Nat->Pss) (np i:Nat):List T:=[.reg a.c,r,psV ps np none,.int .i64 np,.int .i64 i]
theorem i15a (ps:Nat->Pss) (np i n:Nat) (g:Nat->Idd) (a:Idd):iterR P05 G05 A05 noneO 0 15 [] 6 (v15 (.own 0 0 0 n (some n)) a ps np i) [bkR g n] =
(
 bif decide (Int.ofNat i<Int.ofNat np) then
 bif decide (0<=Int.ofNat i)&&decide (Int.ofNat i<Int.ofNat np) then
 bif ((0:Nat)+n).ble n then
 bif ((n+(1:Nat)) * (17:Nat)).ble 70368744177664 then
 bif (n+(1:Nat)).ble n then
 bif ((0:Nat)+n+(1:Nat)).ble n then
 some ((.normal,[.reg a.c,.own 0 0 0 (n+1) (some n),psV ps np
 none,.int .i64 (.ofNat np),.int .i64 (IntKind.i64.wrap (Int.ofNat i+1))],[.mk 0 2 n (fun j =>
 bif ((0:Nat)+n).ble j&&j.blt (0+n+1) then [[T.int .u8 (ps i).y,T.int .i64 (ps i).n]].getD ((0:Nat)+(j - (0+n))) []
 else (g j).c) true false
 none,.mk 0 2 1 (fun j=>[[T.int .u8 (ps i).y,T.int .i64 (ps i).n]].getD j []) true true
 none]))
 else none else
 some ((.normal,[.reg a.c,.own [bkR g n,Blk.mk 0 2 1 (fun j=>[[T.int .u8 (ps i).y,T.int .i64 (ps i).n]].getD j []) true true
 none].length (0:Nat) (0:Nat) (n+1)
 none,psV ps np
 none,.int .i64 (.ofNat np),.int .i64 (IntKind.i64.wrap (Int.ofNat i+1))],[bkR g n,.mk 0 2 1 (fun j=>[[T.int .u8 (ps i).y,T.int .i64 (ps i).n]].getD j []) true true
 none,.mk 0 2 (n+1) (fun j =>
 bif j.blt n then (g ((0:Nat)+j)).c
 else [[T.int .u8 (ps i).y,T.int .i64 (ps i).n]].getD ((0:Nat)+(j - n)) []) true false
 none]))
 else none else none else none else
 some ((.exit 0,[.reg a.c,.own 0 0 0 n (some n)],[bkR g n]))):=by kernel_rfl
theorem i15b (ps:Nat->Pss) (np i n v:Nat) (g:Nat->Idd) (a:Idd):iterR P05 G05 A05 noneO 0 15 [] 6 (v15 (.own 0 v 0 n none) a ps np i) [idb v g n] =
(
 bif decide (Int.ofNat i<Int.ofNat np) then
 bif decide (0<=Int.ofNat i)&&decide (Int.ofNat i<Int.ofNat np) then
 bif v==v&&true then
 bif ((0:Nat)+n).ble n then
 bif ((n+(1:Nat)) * (17:Nat)).ble 70368744177664 then
 bif ((0:Nat)+n+(1:Nat)).ble n then
 some ((.normal,[.reg a.c,.own 0 v 0 (n+1)
 none,psV ps np
 none,.int .i64 (.ofNat np),.int .i64 (IntKind.i64.wrap (Int.ofNat i+1))],[.mk v 2 n (fun j =>
 bif ((0:Nat)+n).ble j&&j.blt (0+n+1) then [[T.int .u8 (ps i).y,T.int .i64 (ps i).n]].getD ((0:Nat)+(j - (0+n))) []
 else (g j).c) true false
 none,.mk 0 2 1 (fun j=>[[T.int .u8 (ps i).y,T.int .i64 (ps i).n]].getD j []) true true
 none]))
 else
 some ((.normal,[.reg a.c,.own 0 (v+1) (0:Nat) (n+1)
 none,psV ps np
 none,.int .i64 (.ofNat np),.int .i64 (IntKind.i64.wrap (Int.ofNat i+1))],[.mk (v+1) (2:Nat) (n+1) (fun j =>
 bif j.blt n then (g ((0:Nat)+j)).c
 else [[T.int .u8 (ps i).y,T.int .i64 (ps i).n]].getD ((0:Nat)+(j - n)) []) true false
 none,.mk 0 2 1 (fun j=>[[T.int .u8 (ps i).y,T.int .i64 (ps i).n]].getD j []) true true
 none]))
 else none else none else none else none else
 some ((.exit 0,[.reg a.c,.own 0 v 0 n
 none],[idb v g n]))):=by kernel_rfl
def apB (v:Nat) (g:Nat->Idd) (n:Nat) (a:Idd):Blk:=⟨v,2,n+1,fun j=>bif Nat.blt j n then (g (0+j)).c else [[T.int .u8 a.y,T.int .i64 a.n]].getD (0+(j - n)) [],true,false,none⟩
theorem apB_same (v:Nat) (g g1:Nat->Idd) (n:Nat) (a:Idd) (h1:∀ j,j<n->g1 j = g j) (h2:g1 n = a) {h h2':Heap} (hs:SameBlks h h2'):SameBlks (apB v g n a :: h) (idb v g1 (n+1) :: h2'):=by
 refine .cons ⟨rfl,rfl,rfl,id,fun j hj=>?_⟩ hs
 show (g1 j).c = bif Nat.blt j n then (g (0+j)).c else [[T.int .u8 a.y,T.int .i64 a.n]].getD (0+(j - n)) []
 have hj:j<n+1:=hj
 by_cases q:j<n
 ·rw [bltT q,h1 j q,Nat.zero_add]; rfl
 ·obtain rfl:j = n:=by omega
  rw [bltF (Nat.le_refl _),h2,Nat.sub_self]; rfl
def rT (nt i:Nat):T:=match i with | 0=>.own 0 0 0 nt (some nt) | i+1=>.own 0 i 0 (nt+(i+1)) none
def rH (l:Lpp) (i:Nat):Heap:=match i with | 0=>[bkR l.th l.nt] | i+1=>[idb i (needI l) (l.nt+(i+1))]
theorem need_lt {l:Lpp} {j:Nat} (h:j<l.nt):needI l j = l.th j:=by unfold needI; rw [if_pos h]
theorem need_at (l:Lpp) (i:Nat):needI l (l.nt+i) = (l.ps i).id:=by unfold needI; rw [if_neg (by omega),show l.nt+i - l.nt = i by omega]
theorem base15 (l:Lpp) (hl:l.Ok) (a:Idd):BaseOk P05 G05 (A05 15) 15 0 6 (litK 0 (v15 (rT l.nt 0) a l.ps l.np 0) (rH l 0) (.exit 0) [.reg a.c,rT l.nt l.np] (rH l l.np)):=by
 have hn1:=hl.nt
 have hn2:=hl.np
 clear hl
 refine base_steps hm05 (by kernel_rfl) (fun i=>v15 (rT l.nt i) a l.ps l.np i) (fun i=>rH l i) (n:=l.np) (fun i hi=>?_) ?_
 ·refine Step.base ?_
  cases i with
  | zero =>
   refine Step.mkC (A:=A05) (m:=0) none_ok rfl rfl loops0 [2] (v1:=v15 (.own 2 0 0 (l.nt+1) none) a l.ps l.np 1) (h1:=[bkR l.th l.nt,tmpI (l.ps 0).id,apB 0 l.th l.nt (l.ps 0).id]) ?_ (by kernel_rfl) (v2:=v15 (.own 0 0 0 (l.nt+1) none) a l.ps l.np 1) rfl rfl fun nt=>.same (apB_same 0 l.th (needI l) l.nt (l.ps 0).id (fun j hj=>need_lt hj) (need_at l 0) .nil)
   show iterR P05 G05 A05 noneO 0 15 [] 6 (v15 (.own 0 0 0 l.nt (some l.nt)) a l.ps l.np 0) [bkR l.th l.nt] = _
   rw [i15a,up1 (by omega)]
   refine BT (BT (BT (BT (BF ?_))))
   rfl
  | succ i =>
   refine Step.mk (A:=A05) (m:=0) none_ok rfl rfl loops0 1 (Nat.zero_le _) (h1:=[apB (i+1) (needI l) (l.nt+(i+1)) (l.ps (i+1)).id,tmpI (l.ps (i+1)).id]) (vs':=v15 (.own 0 (i+1) 0 (l.nt+(i+1)+1) none) a l.ps l.np (i+1+1)) ?_ (by rfl) (apB_same (i+1) (needI l) (needI l) _ _ (fun _ _=>rfl) (need_at l (i+1)) .nil)
   show iterR P05 G05 A05 noneO 0 15 [] 6 (v15 (.own 0 i 0 (l.nt+(i+1)) none) a l.ps l.np (i+1)) [idb i (needI l) (l.nt+(i+1))] = _
   rw [i15b,up1 (by omega)]
   refine BT (BT (bift (by simp) (BT (BT (BF ?_)))))
   rfl
 ·refine Last.base ?_
  cases hnp:l.np with
  | zero =>
   refine Last.mk0 (A:=A05) (m:=0) none_ok rfl rfl loops0 (h1:=[bkR l.th l.nt]) (by simp) ?_ (.refl _)
   show iterR P05 G05 A05 noneO 0 15 [] 6 (v15 (.own 0 0 0 l.nt (some l.nt)) a l.ps 0 0) [bkR l.th l.nt] = _
   rw [i15a]
   exact BF rfl
  | succ i =>
   refine Last.mk0 (A:=A05) (m:=0) none_ok rfl rfl loops0 (h1:=[idb i (needI l) (l.nt+(i+1))]) (by simp) ?_ (.refl _)
   show iterR P05 G05 A05 noneO 0 15 [] 6 (v15 (.own 0 i 0 (l.nt+(i+1)) none) a l.ps (i+1) (i+1)) [idb i (needI l) (l.nt+(i+1))] = _
   rw [i15b]
   exact BF rfl
open Go.Proofs
noncomputable def l15 (x:List T->Heap->Ex->List T->Heap->Prop) (a:Idd) (r:T) (h:Heap):List (Nat × (List T->Heap->LT)):=[(6,loopF x (.ret (.exit 0) [.reg a.c,r] h))]
noncomputable def K15 (LL:List T->Nat) (GG:List T->Nat->List T) (p q:List T->T->Prop) (s u:List T->Heap->T->Heap->Prop) (H1:Heap) (r:T) (H2:Heap):Orc:=(((noneO.add 25 (callF p fun _=>some (.bool true))).add 26 (callF q fun l=>some (.fresh true 2 (LL l) (GG l) (LL l) (some (LL l))))).addRef 27 (refF s fun _ _=>some (.tup [],H1))).addRef 32 (refF u fun _ _=>some (r,H2))
noncomputable def K15n (p:List T->T->Prop):Orc:=noneO.add 25 (callF p fun _=>some (.bool false))
section
variable (LL:List T->Nat) (GG:List T->Nat->List T) (t:Tbl) (a b:Idd) (x:List T->Heap->Ex->List T->Heap->Prop) (p q:List T->T->Prop) (s u:List T->Heap->T->Heap->Prop) (g g1 g2:Nat->Idd) (n k v:Nat)
theorem k15A:Go.Ab.stepT P05 G05 A05 (K15 LL GG p q s u [bkR g1 n] (.own 0 0 0 k (some n)) [bkR g2 n]) 0 15 (l15 x a (.own 0 0 0 n (some n)) [bkR g n]) [t.v,.agg a.c] =
(
 bif decF (p [t.v,.agg a.c] (.bool true)) then
 bif decide (0<=IntKind.u8.wrap (a.y - 1))&&decide (IntKind.u8.wrap (a.y - 1)<Int.ofNat t.h) then
 bif decide (0<=a.n)&&decide (a.n<Int.ofNat (t.ln (IntKind.u8.wrap (a.y - (1:Int))).toNat)) then
 bif decF (q [idV (t.L (IntKind.u8.wrap (a.y - (1:Int))).toNat a.n.toNat).th (t.L (IntKind.u8.wrap (a.y - (1:Int))).toNat a.n.toNat).nt
 none] (.fresh true (2:Nat) (LL [idV (t.L (IntKind.u8.wrap (a.y - (1:Int))).toNat a.n.toNat).th (t.L (IntKind.u8.wrap (a.y - (1:Int))).toNat a.n.toNat).nt
 none]) (GG [idV (t.L (IntKind.u8.wrap (a.y - (1:Int))).toNat a.n.toNat).th (t.L (IntKind.u8.wrap (a.y - (1:Int))).toNat a.n.toNat).nt
 none]) (LL [idV (t.L (IntKind.u8.wrap (a.y - (1:Int))).toNat a.n.toNat).th (t.L (IntKind.u8.wrap (a.y - (1:Int))).toNat a.n.toNat).nt
 none]) (some (LL [idV (t.L (IntKind.u8.wrap (a.y - (1:Int))).toNat a.n.toNat).th (t.L (IntKind.u8.wrap (a.y - (1:Int))).toNat a.n.toNat).nt
 none])))) then
 bif decF (x [.reg a.c,.own 0 0 0 (LL [idV (t.L (IntKind.u8.wrap (a.y - (1:Int))).toNat a.n.toNat).th (t.L (IntKind.u8.wrap (a.y - (1:Int))).toNat a.n.toNat).nt
 none]) (some (LL [idV (t.L (IntKind.u8.wrap (a.y - (1:Int))).toNat a.n.toNat).th (t.L (IntKind.u8.wrap (a.y - (1:Int))).toNat a.n.toNat).nt
 none])),psV (t.L (IntKind.u8.wrap (a.y - (1:Int))).toNat a.n.toNat).ps (t.L (IntKind.u8.wrap (a.y - (1:Int))).toNat a.n.toNat).np
 none,.int .i64 (.ofNat (t.L (IntKind.u8.wrap (a.y - (1:Int))).toNat a.n.toNat).np),.int .i64 0] [.mk 0 2 (LL [idV (t.L (IntKind.u8.wrap (a.y - (1:Int))).toNat a.n.toNat).th (t.L (IntKind.u8.wrap (a.y - (1:Int))).toNat a.n.toNat).nt
 none]) (GG [idV (t.L (IntKind.u8.wrap (a.y - (1:Int))).toNat a.n.toNat).th (t.L (IntKind.u8.wrap (a.y - (1:Int))).toNat a.n.toNat).nt
 none]) true false
 none] (.exit 0) [.reg a.c,.own 0 0 0 n (some n)] [bkR g n]) then
 bif decide (0<a.n) then
 bif ((0:Nat)+n).ble n then
 bif ((n+(1:Nat)) * (17:Nat)).ble 70368744177664 then
 bif (n+(1:Nat)).ble n then
 bif ((0:Nat)+n+(1:Nat)).ble n then
 bif decF (s [.own 0 0 0 (n+1) (some n),.fn (28:Nat) []] [.mk 0 2 n (fun j =>
 bif ((0:Nat)+n).ble j&&j.blt (0+n+1) then [[T.int .u8 a.y,T.int .i64 (IntKind.i64.wrap (a.n - (1:Int)))]].getD ((0:Nat)+(j - (0+n))) []
 else (g j).c) true false
 none,.mk 0 2 1 (fun j=>[[T.int .u8 a.y,T.int .i64 (IntKind.i64.wrap (a.n - (1:Int)))]].getD j []) true true
 none] (.tup []) [bkR g1 n]) then
 bif decF (u [.own 0 0 0 (n+1) (some n)] [bkR g1 n] (.own 0 0 0 k (some n)) [bkR g2 n]) then
 bif decF (q [bif ((0:Nat)+k).ble n then idV (fun j=>g2 (0+j)) k (some n)
 else .undef] (.fresh true (2:Nat) (LL [bif ((0:Nat)+k).ble n then idV (fun j=>g2 (0+j)) k (some n)
 else .undef]) (GG [bif ((0:Nat)+k).ble n then idV (fun j=>g2 (0+j)) k (some n)
 else .undef]) (LL [bif ((0:Nat)+k).ble n then idV (fun j=>g2 (0+j)) k (some n)
 else .undef]) (some (LL [bif ((0:Nat)+k).ble n then idV (fun j=>g2 (0+j)) k (some n)
 else .undef])))) then
 some (bif ((0:Nat)+LL [bif ((0:Nat)+k).ble n then idV (fun j=>g2 ((0:Nat)+j)) k (some n)
 else T.undef]).ble (LL [bif ((0:Nat)+k).ble n then idV (fun j=>g2 (0+j)) k (some n)
 else .undef]) then .fresh true (2:Nat) (LL [bif ((0:Nat)+k).ble n then idV (fun j=>g2 (0+j)) k (some n)
 else .undef] - (0:Nat)) (fun j=>GG [bif ((0:Nat)+k).ble n then idV (fun j=>g2 (0+j)) k (some n)
 else .undef] (0+j)) (LL [bif ((0:Nat)+k).ble n then idV (fun j=>g2 (0+j)) k (some n)
 else .undef]) (some (LL [bif ((0:Nat)+k).ble n then idV (fun j=>g2 (0+j)) k (some n)
 else .undef]))
 else .undef)
 else none else none else none else none else
 bif decF (s [.own [bkR g n,Blk.mk 0 2 1 (fun j=>[[T.int .u8 a.y,T.int .i64 (IntKind.i64.wrap (a.n - (1:Int)))]].getD j []) true true
 none].length (0:Nat) (0:Nat) (n+1)
 none,.fn (28:Nat) []] [bkR g n,.mk 0 2 1 (fun j=>[[T.int .u8 a.y,T.int .i64 (IntKind.i64.wrap (a.n - (1:Int)))]].getD j []) true true
 none,.mk 0 2 (n+1) (fun j =>
 bif j.blt n then (g ((0:Nat)+j)).c
 else [[T.int .u8 a.y,T.int .i64 (IntKind.i64.wrap (a.n - (1:Int)))]].getD ((0:Nat)+(j - n)) []) true false
 none] (.tup []) [bkR g1 n]) then
 bif decF (u [.own [bkR g n,Blk.mk 0 2 1 (fun j=>[[T.int .u8 a.y,T.int .i64 (IntKind.i64.wrap (a.n - (1:Int)))]].getD j []) true true
 none].length (0:Nat) (0:Nat) (n+1)
 none] [bkR g1 n] (.own 0 0 0 k (some n)) [bkR g2 n]) then
 bif decF (q [bif ((0:Nat)+k).ble n then idV (fun j=>g2 (0+j)) k (some n)
 else .undef] (.fresh true (2:Nat) (LL [bif ((0:Nat)+k).ble n then idV (fun j=>g2 (0+j)) k (some n)
 else .undef]) (GG [bif ((0:Nat)+k).ble n then idV (fun j=>g2 (0+j)) k (some n)
 else .undef]) (LL [bif ((0:Nat)+k).ble n then idV (fun j=>g2 (0+j)) k (some n)
 else .undef]) (some (LL [bif ((0:Nat)+k).ble n then idV (fun j=>g2 (0+j)) k (some n)
 else .undef])))) then
 some (bif ((0:Nat)+LL [bif ((0:Nat)+k).ble n then idV (fun j=>g2 ((0:Nat)+j)) k (some n)
 else T.undef]).ble (LL [bif ((0:Nat)+k).ble n then idV (fun j=>g2 (0+j)) k (some n)
 else .undef]) then .fresh true (2:Nat) (LL [bif ((0:Nat)+k).ble n then idV (fun j=>g2 (0+j)) k (some n)
 else .undef] - (0:Nat)) (fun j=>GG [bif ((0:Nat)+k).ble n then idV (fun j=>g2 (0+j)) k (some n)
 else .undef] (0+j)) (LL [bif ((0:Nat)+k).ble n then idV (fun j=>g2 (0+j)) k (some n)
 else .undef]) (some (LL [bif ((0:Nat)+k).ble n then idV (fun j=>g2 (0+j)) k (some n)
 else .undef]))
 else .undef)
 else none else none else none else none else none else
 bif decF (s [.own 0 0 0 n (some n),.fn (28:Nat) []] [bkR g n] (.tup []) [bkR g1 n]) then
 bif decF (u [.own 0 0 0 n (some n)] [bkR g1 n] (.own 0 0 0 k (some n)) [bkR g2 n]) then
 bif decF (q [bif ((0:Nat)+k).ble n then idV (fun j=>g2 (0+j)) k (some n)
 else .undef] (.fresh true (2:Nat) (LL [bif ((0:Nat)+k).ble n then idV (fun j=>g2 (0+j)) k (some n)
 else .undef]) (GG [bif ((0:Nat)+k).ble n then idV (fun j=>g2 (0+j)) k (some n)
 else .undef]) (LL [bif ((0:Nat)+k).ble n then idV (fun j=>g2 (0+j)) k (some n)
 else .undef]) (some (LL [bif ((0:Nat)+k).ble n then idV (fun j=>g2 (0+j)) k (some n)
 else .undef])))) then
 some (bif ((0:Nat)+LL [bif ((0:Nat)+k).ble n then idV (fun j=>g2 ((0:Nat)+j)) k (some n)
 else T.undef]).ble (LL [bif ((0:Nat)+k).ble n then idV (fun j=>g2 (0+j)) k (some n)
 else .undef]) then .fresh true (2:Nat) (LL [bif ((0:Nat)+k).ble n then idV (fun j=>g2 (0+j)) k (some n)
 else .undef] - (0:Nat)) (fun j=>GG [bif ((0:Nat)+k).ble n then idV (fun j=>g2 (0+j)) k (some n)
 else .undef] (0+j)) (LL [bif ((0:Nat)+k).ble n then idV (fun j=>g2 (0+j)) k (some n)
 else .undef]) (some (LL [bif ((0:Nat)+k).ble n then idV (fun j=>g2 (0+j)) k (some n)
 else .undef]))
 else .undef)
 else none else none else none else none else none else none else none else
 none):=by kernel_rfl
theorem k15B:Go.Ab.stepT P05 G05 A05 (K15 LL GG p q s u [bkR g n,tmpI b,idb 0 g1 (n+1)] (.own 2 0 0 k none) [bkR g n,tmpI b,idb 0 g2 (n+1)]) 0 15 (l15 x a (.own 0 0 0 n (some n)) [bkR g n]) [t.v,.agg a.c] =
(
 bif decF (p [t.v,.agg a.c] (.bool true)) then
 bif decide (0<=IntKind.u8.wrap (a.y - 1))&&decide (IntKind.u8.wrap (a.y - 1)<Int.ofNat t.h) then
 bif decide (0<=a.n)&&decide (a.n<Int.ofNat (t.ln (IntKind.u8.wrap (a.y - (1:Int))).toNat)) then
 bif decF (q [idV (t.L (IntKind.u8.wrap (a.y - (1:Int))).toNat a.n.toNat).th (t.L (IntKind.u8.wrap (a.y - (1:Int))).toNat a.n.toNat).nt
 none] (.fresh true (2:Nat) (LL [idV (t.L (IntKind.u8.wrap (a.y - (1:Int))).toNat a.n.toNat).th (t.L (IntKind.u8.wrap (a.y - (1:Int))).toNat a.n.toNat).nt
 none]) (GG [idV (t.L (IntKind.u8.wrap (a.y - (1:Int))).toNat a.n.toNat).th (t.L (IntKind.u8.wrap (a.y - (1:Int))).toNat a.n.toNat).nt
 none]) (LL [idV (t.L (IntKind.u8.wrap (a.y - (1:Int))).toNat a.n.toNat).th (t.L (IntKind.u8.wrap (a.y - (1:Int))).toNat a.n.toNat).nt
 none]) (some (LL [idV (t.L (IntKind.u8.wrap (a.y - (1:Int))).toNat a.n.toNat).th (t.L (IntKind.u8.wrap (a.y - (1:Int))).toNat a.n.toNat).nt
 none])))) then
 bif decF (x [.reg a.c,.own 0 0 0 (LL [idV (t.L (IntKind.u8.wrap (a.y - (1:Int))).toNat a.n.toNat).th (t.L (IntKind.u8.wrap (a.y - (1:Int))).toNat a.n.toNat).nt
 none]) (some (LL [idV (t.L (IntKind.u8.wrap (a.y - (1:Int))).toNat a.n.toNat).th (t.L (IntKind.u8.wrap (a.y - (1:Int))).toNat a.n.toNat).nt
 none])),psV (t.L (IntKind.u8.wrap (a.y - (1:Int))).toNat a.n.toNat).ps (t.L (IntKind.u8.wrap (a.y - (1:Int))).toNat a.n.toNat).np
 none,.int .i64 (.ofNat (t.L (IntKind.u8.wrap (a.y - (1:Int))).toNat a.n.toNat).np),.int .i64 0] [.mk 0 2 (LL [idV (t.L (IntKind.u8.wrap (a.y - (1:Int))).toNat a.n.toNat).th (t.L (IntKind.u8.wrap (a.y - (1:Int))).toNat a.n.toNat).nt
 none]) (GG [idV (t.L (IntKind.u8.wrap (a.y - (1:Int))).toNat a.n.toNat).th (t.L (IntKind.u8.wrap (a.y - (1:Int))).toNat a.n.toNat).nt
 none]) true false
 none] (.exit 0) [.reg a.c,.own 0 0 0 n (some n)] [bkR g n]) then
 bif decide (0<a.n) then
 bif ((0:Nat)+n).ble n then
 bif ((n+(1:Nat)) * (17:Nat)).ble 70368744177664 then
 bif (n+(1:Nat)).ble n then
 bif ((0:Nat)+n+(1:Nat)).ble n then
 bif decF (s [.own 0 0 0 (n+1) (some n),.fn (28:Nat) []] [.mk 0 2 n (fun j =>
 bif ((0:Nat)+n).ble j&&j.blt (0+n+1) then [[T.int .u8 a.y,T.int .i64 (IntKind.i64.wrap (a.n - (1:Int)))]].getD ((0:Nat)+(j - (0+n))) []
 else (g j).c) true false
 none,.mk 0 2 1 (fun j=>[[T.int .u8 a.y,T.int .i64 (IntKind.i64.wrap (a.n - (1:Int)))]].getD j []) true true
 none] (.tup []) [bkR g n,tmpI b,bkR g1 (n+1)]) then
 bif decF (u [.own 0 0 0 (n+1) (some n)] [bkR g n,tmpI b,bkR g1 (n+1)] (.own 2 0 0 k
 none) [bkR g n,tmpI b,bkR g2 (n+1)]) then
 bif decF (q [bif ((0:Nat)+k).ble (n+1) then idV (fun j=>g2 (0+j)) k none else .undef] (.fresh true (2:Nat) (LL [bif ((0:Nat)+k).ble (n+1) then idV (fun j=>g2 (0+j)) k none else .undef]) (GG [bif ((0:Nat)+k).ble (n+1) then idV (fun j=>g2 (0+j)) k none else .undef]) (LL [bif ((0:Nat)+k).ble (n+1) then idV (fun j=>g2 (0+j)) k none else .undef]) (some (LL [bif ((0:Nat)+k).ble (n+1) then idV (fun j=>g2 (0+j)) k none else .undef])))) then
 some (bif ((0:Nat)+LL [bif ((0:Nat)+k).ble (n+(1:Nat)) then idV (fun j=>g2 ((0:Nat)+j)) k none else T.undef]).ble (LL [bif ((0:Nat)+k).ble (n+1) then idV (fun j=>g2 (0+j)) k none else .undef]) then .fresh true (2:Nat) (LL [bif ((0:Nat)+k).ble (n+1) then idV (fun j=>g2 (0+j)) k none else .undef] - (0:Nat)) (fun j=>GG [bif ((0:Nat)+k).ble (n+1) then idV (fun j=>g2 (0+j)) k none else .undef] (0+j)) (LL [bif ((0:Nat)+k).ble (n+1) then idV (fun j=>g2 (0+j)) k none else .undef]) (some (LL [bif ((0:Nat)+k).ble (n+1) then idV (fun j=>g2 (0+j)) k none else .undef]))
 else .undef)
 else none else none else none else none else
 bif decF (s [.own [bkR g n,Blk.mk 0 2 1 (fun j=>[[T.int .u8 a.y,T.int .i64 (IntKind.i64.wrap (a.n - (1:Int)))]].getD j []) true true
 none].length (0:Nat) (0:Nat) (n+1)
 none,.fn (28:Nat) []] [bkR g n,.mk 0 2 1 (fun j=>[[T.int .u8 a.y,T.int .i64 (IntKind.i64.wrap (a.n - (1:Int)))]].getD j []) true true
 none,.mk 0 2 (n+1) (fun j =>
 bif j.blt n then (g ((0:Nat)+j)).c
 else [[T.int .u8 a.y,T.int .i64 (IntKind.i64.wrap (a.n - (1:Int)))]].getD ((0:Nat)+(j - n)) []) true false
 none] (.tup []) [bkR g n,tmpI b,bkR g1 (n+1)]) then
 bif decF (u [.own [bkR g n,Blk.mk 0 2 1 (fun j=>[[T.int .u8 a.y,T.int .i64 (IntKind.i64.wrap (a.n - (1:Int)))]].getD j []) true true
 none].length (0:Nat) (0:Nat) (n+1)
 none] [bkR g n,tmpI b,bkR g1 (n+1)] (.own 2 0 0 k
 none) [bkR g n,tmpI b,bkR g2 (n+1)]) then
 bif decF (q [bif ((0:Nat)+k).ble (n+1) then idV (fun j=>g2 (0+j)) k none else .undef] (.fresh true (2:Nat) (LL [bif ((0:Nat)+k).ble (n+1) then idV (fun j=>g2 (0+j)) k none else .undef]) (GG [bif ((0:Nat)+k).ble (n+1) then idV (fun j=>g2 (0+j)) k none else .undef]) (LL [bif ((0:Nat)+k).ble (n+1) then idV (fun j=>g2 (0+j)) k none else .undef]) (some (LL [bif ((0:Nat)+k).ble (n+1) then idV (fun j=>g2 (0+j)) k none else .undef])))) then
 some (bif ((0:Nat)+LL [bif ((0:Nat)+k).ble (n+(1:Nat)) then idV (fun j=>g2 ((0:Nat)+j)) k none else T.undef]).ble (LL [bif ((0:Nat)+k).ble (n+1) then idV (fun j=>g2 (0+j)) k none else .undef]) then .fresh true (2:Nat) (LL [bif ((0:Nat)+k).ble (n+1) then idV (fun j=>g2 (0+j)) k none else .undef] - (0:Nat)) (fun j=>GG [bif ((0:Nat)+k).ble (n+1) then idV (fun j=>g2 (0+j)) k none else .undef] (0+j)) (LL [bif ((0:Nat)+k).ble (n+1) then idV (fun j=>g2 (0+j)) k none else .undef]) (some (LL [bif ((0:Nat)+k).ble (n+1) then idV (fun j=>g2 (0+j)) k none else .undef]))
 else .undef)
 else none else none else none else none else none else
 bif decF (s [.own 0 0 0 n (some n),.fn (28:Nat) []] [bkR g n] (.tup []) [bkR g n,tmpI b,bkR g1 (n+1)]) then
 bif decF (u [.own 0 0 0 n (some n)] [bkR g n,tmpI b,bkR g1 (n+1)] (.own 2 0 0 k
 none) [bkR g n,tmpI b,bkR g2 (n+1)]) then
 bif decF (q [bif ((0:Nat)+k).ble (n+1) then idV (fun j=>g2 (0+j)) k none else .undef] (.fresh true (2:Nat) (LL [bif ((0:Nat)+k).ble (n+1) then idV (fun j=>g2 (0+j)) k none else .undef]) (GG [bif ((0:Nat)+k).ble (n+1) then idV (fun j=>g2 (0+j)) k none else .undef]) (LL [bif ((0:Nat)+k).ble (n+1) then idV (fun j=>g2 (0+j)) k none else .undef]) (some (LL [bif ((0:Nat)+k).ble (n+1) then idV (fun j=>g2 (0+j)) k none else .undef])))) then
 some (bif ((0:Nat)+LL [bif ((0:Nat)+k).ble (n+(1:Nat)) then idV (fun j=>g2 ((0:Nat)+j)) k none else T.undef]).ble (LL [bif ((0:Nat)+k).ble (n+1) then idV (fun j=>g2 (0+j)) k none else .undef]) then .fresh true (2:Nat) (LL [bif ((0:Nat)+k).ble (n+1) then idV (fun j=>g2 (0+j)) k none else .undef] - (0:Nat)) (fun j=>GG [bif ((0:Nat)+k).ble (n+1) then idV (fun j=>g2 (0+j)) k none else .undef] (0+j)) (LL [bif ((0:Nat)+k).ble (n+1) then idV (fun j=>g2 (0+j)) k none else .undef]) (some (LL [bif ((0:Nat)+k).ble (n+1) then idV (fun j=>g2 (0+j)) k none else .undef]))
 else .undef)
 else none else none else none else none else none else none else none else
 none):=by kernel_rfl
theorem k15C:Go.Ab.stepT P05 G05 A05 (K15 LL GG p q s u [idb v g1 n] (.own 0 v 0 k none) [idb v g2 n]) 0 15 (l15 x a (.own 0 v 0 n none) [idb v g n]) [t.v,.agg a.c] =
(
 bif decF (p [t.v,.agg a.c] (.bool true)) then
 bif decide (0<=IntKind.u8.wrap (a.y - 1))&&decide (IntKind.u8.wrap (a.y - 1)<Int.ofNat t.h) then
 bif decide (0<=a.n)&&decide (a.n<Int.ofNat (t.ln (IntKind.u8.wrap (a.y - (1:Int))).toNat)) then
 bif decF (q [idV (t.L (IntKind.u8.wrap (a.y - (1:Int))).toNat a.n.toNat).th (t.L (IntKind.u8.wrap (a.y - (1:Int))).toNat a.n.toNat).nt
 none] (.fresh true (2:Nat) (LL [idV (t.L (IntKind.u8.wrap (a.y - (1:Int))).toNat a.n.toNat).th (t.L (IntKind.u8.wrap (a.y - (1:Int))).toNat a.n.toNat).nt
 none]) (GG [idV (t.L (IntKind.u8.wrap (a.y - (1:Int))).toNat a.n.toNat).th (t.L (IntKind.u8.wrap (a.y - (1:Int))).toNat a.n.toNat).nt
 none]) (LL [idV (t.L (IntKind.u8.wrap (a.y - (1:Int))).toNat a.n.toNat).th (t.L (IntKind.u8.wrap (a.y - (1:Int))).toNat a.n.toNat).nt
 none]) (some (LL [idV (t.L (IntKind.u8.wrap (a.y - (1:Int))).toNat a.n.toNat).th (t.L (IntKind.u8.wrap (a.y - (1:Int))).toNat a.n.toNat).nt
 none])))) then
 bif decF (x [.reg a.c,.own 0 0 0 (LL [idV (t.L (IntKind.u8.wrap (a.y - (1:Int))).toNat a.n.toNat).th (t.L (IntKind.u8.wrap (a.y - (1:Int))).toNat a.n.toNat).nt
 none]) (some (LL [idV (t.L (IntKind.u8.wrap (a.y - (1:Int))).toNat a.n.toNat).th (t.L (IntKind.u8.wrap (a.y - (1:Int))).toNat a.n.toNat).nt
 none])),psV (t.L (IntKind.u8.wrap (a.y - (1:Int))).toNat a.n.toNat).ps (t.L (IntKind.u8.wrap (a.y - (1:Int))).toNat a.n.toNat).np
 none,.int .i64 (.ofNat (t.L (IntKind.u8.wrap (a.y - (1:Int))).toNat a.n.toNat).np),.int .i64 0] [.mk 0 2 (LL [idV (t.L (IntKind.u8.wrap (a.y - (1:Int))).toNat a.n.toNat).th (t.L (IntKind.u8.wrap (a.y - (1:Int))).toNat a.n.toNat).nt
 none]) (GG [idV (t.L (IntKind.u8.wrap (a.y - (1:Int))).toNat a.n.toNat).th (t.L (IntKind.u8.wrap (a.y - (1:Int))).toNat a.n.toNat).nt
 none]) true false
 none] (.exit 0) [.reg a.c,.own 0 v 0 n
 none] [idb v g n]) then
 bif decide (0<a.n) then
 bif v==v&&true then
 bif ((0:Nat)+n).ble n then
 bif ((n+(1:Nat)) * (17:Nat)).ble 70368744177664 then
 bif ((0:Nat)+n+(1:Nat)).ble n then
 bif decF (s [.own 0 v 0 (n+1)
 none,.fn (28:Nat) []] [.mk v 2 n (fun j =>
 bif ((0:Nat)+n).ble j&&j.blt (0+n+1) then [[T.int .u8 a.y,T.int .i64 (IntKind.i64.wrap (a.n - (1:Int)))]].getD ((0:Nat)+(j - (0+n))) []
 else (g j).c) true false
 none,.mk 0 2 1 (fun j=>[[T.int .u8 a.y,T.int .i64 (IntKind.i64.wrap (a.n - (1:Int)))]].getD j []) true true
 none] (.tup []) [idb v g1 n]) then
 bif decF (u [.own 0 v 0 (n+1)
 none] [idb v g1 n] (.own 0 v 0 k
 none) [idb v g2 n]) then
 bif decF (q [bif v==v&&((0:Nat)+k).ble n then idV (fun j=>g2 (0+j)) k none else .undef] (.fresh true (2:Nat) (LL [bif v==v&&((0:Nat)+k).ble n then idV (fun j=>g2 (0+j)) k none else .undef]) (GG [bif v==v&&((0:Nat)+k).ble n then idV (fun j=>g2 (0+j)) k none else .undef]) (LL [bif v==v&&((0:Nat)+k).ble n then idV (fun j=>g2 (0+j)) k none else .undef]) (some (LL [bif v==v&&((0:Nat)+k).ble n then idV (fun j=>g2 (0+j)) k none else .undef])))) then
 some (bif ((0:Nat)+LL [bif v==v&&((0:Nat)+k).ble n then idV (fun j=>g2 ((0:Nat)+j)) k none else T.undef]).ble (LL [bif v==v&&((0:Nat)+k).ble n then idV (fun j=>g2 (0+j)) k none else .undef]) then .fresh true (2:Nat) (LL [bif v==v&&((0:Nat)+k).ble n then idV (fun j=>g2 (0+j)) k none else .undef] - (0:Nat)) (fun j=>GG [bif v==v&&((0:Nat)+k).ble n then idV (fun j=>g2 (0+j)) k none else .undef] (0+j)) (LL [bif v==v&&((0:Nat)+k).ble n then idV (fun j=>g2 (0+j)) k none else .undef]) (some (LL [bif v==v&&((0:Nat)+k).ble n then idV (fun j=>g2 (0+j)) k none else .undef]))
 else .undef)
 else none else none else none else
 bif decF (s [.own 0 (v+1) (0:Nat) (n+1)
 none,.fn (28:Nat) []] [.mk (v+1) (2:Nat) (n+1) (fun j =>
 bif j.blt n then (g ((0:Nat)+j)).c
 else [[T.int .u8 a.y,T.int .i64 (IntKind.i64.wrap (a.n - (1:Int)))]].getD ((0:Nat)+(j - n)) []) true false
 none,.mk 0 2 1 (fun j=>[[T.int .u8 a.y,T.int .i64 (IntKind.i64.wrap (a.n - (1:Int)))]].getD j []) true true
 none] (.tup []) [idb v g1 n]) then
 bif decF (u [.own 0 (v+1) (0:Nat) (n+1)
 none] [idb v g1 n] (.own 0 v 0 k
 none) [idb v g2 n]) then
 bif decF (q [bif v==v&&((0:Nat)+k).ble n then idV (fun j=>g2 (0+j)) k none else .undef] (.fresh true (2:Nat) (LL [bif v==v&&((0:Nat)+k).ble n then idV (fun j=>g2 (0+j)) k none else .undef]) (GG [bif v==v&&((0:Nat)+k).ble n then idV (fun j=>g2 (0+j)) k none else .undef]) (LL [bif v==v&&((0:Nat)+k).ble n then idV (fun j=>g2 (0+j)) k none else .undef]) (some (LL [bif v==v&&((0:Nat)+k).ble n then idV (fun j=>g2 (0+j)) k none else .undef])))) then
 some (bif ((0:Nat)+LL [bif v==v&&((0:Nat)+k).ble n then idV (fun j=>g2 ((0:Nat)+j)) k none else T.undef]).ble (LL [bif v==v&&((0:Nat)+k).ble n then idV (fun j=>g2 (0+j)) k none else .undef]) then .fresh true (2:Nat) (LL [bif v==v&&((0:Nat)+k).ble n then idV (fun j=>g2 (0+j)) k none else .undef] - (0:Nat)) (fun j=>GG [bif v==v&&((0:Nat)+k).ble n then idV (fun j=>g2 (0+j)) k none else .undef] (0+j)) (LL [bif v==v&&((0:Nat)+k).ble n then idV (fun j=>g2 (0+j)) k none else .undef]) (some (LL [bif v==v&&((0:Nat)+k).ble n then idV (fun j=>g2 (0+j)) k none else .undef]))
 else .undef)
 else none else none else none else none else none else none else
 bif decF (s [.own 0 v 0 n
 none,.fn (28:Nat) []] [idb v g n] (.tup []) [idb v g1 n]) then
 bif decF (u [.own 0 v 0 n
 none] [idb v g1 n] (.own 0 v 0 k
 none) [idb v g2 n]) then
 bif decF (q [bif v==v&&((0:Nat)+k).ble n then idV (fun j=>g2 (0+j)) k none else .undef] (.fresh true (2:Nat) (LL [bif v==v&&((0:Nat)+k).ble n then idV (fun j=>g2 (0+j)) k none else .undef]) (GG [bif v==v&&((0:Nat)+k).ble n then idV (fun j=>g2 (0+j)) k none else .undef]) (LL [bif v==v&&((0:Nat)+k).ble n then idV (fun j=>g2 (0+j)) k none else .undef]) (some (LL [bif v==v&&((0:Nat)+k).ble n then idV (fun j=>g2 (0+j)) k none else .undef])))) then
 some (bif ((0:Nat)+LL [bif v==v&&((0:Nat)+k).ble n then idV (fun j=>g2 ((0:Nat)+j)) k none else T.undef]).ble (LL [bif v==v&&((0:Nat)+k).ble n then idV (fun j=>g2 (0+j)) k none else .undef]) then .fresh true (2:Nat) (LL [bif v==v&&((0:Nat)+k).ble n then idV (fun j=>g2 (0+j)) k none else .undef] - (0:Nat)) (fun j=>GG [bif v==v&&((0:Nat)+k).ble n then idV (fun j=>g2 (0+j)) k none else .undef] (0+j)) (LL [bif v==v&&((0:Nat)+k).ble n then idV (fun j=>g2 (0+j)) k none else .undef]) (some (LL [bif v==v&&((0:Nat)+k).ble n then idV (fun j=>g2 (0+j)) k none else .undef]))
 else .undef)
 else none else none else none else none else none else none else none else
 none):=by kernel_rfl
theorem k15D:Go.Ab.stepT P05 G05 A05 (K15 LL GG p q s u [idb (v+1) g1 (n+1),tmpI b] (.own 0 (v+1) 0 k none) [idb (v+1) g2 (n+1),tmpI b]) 0 15 (l15 x a (.own 0 v 0 n none) [idb v g n]) [t.v,.agg a.c] =
(
 bif decF (p [t.v,.agg a.c] (.bool true)) then
 bif decide (0<=IntKind.u8.wrap (a.y - 1))&&decide (IntKind.u8.wrap (a.y - 1)<Int.ofNat t.h) then
 bif decide (0<=a.n)&&decide (a.n<Int.ofNat (t.ln (IntKind.u8.wrap (a.y - (1:Int))).toNat)) then
 bif decF (q [idV (t.L (IntKind.u8.wrap (a.y - (1:Int))).toNat a.n.toNat).th (t.L (IntKind.u8.wrap (a.y - (1:Int))).toNat a.n.toNat).nt
 none] (.fresh true (2:Nat) (LL [idV (t.L (IntKind.u8.wrap (a.y - (1:Int))).toNat a.n.toNat).th (t.L (IntKind.u8.wrap (a.y - (1:Int))).toNat a.n.toNat).nt
 none]) (GG [idV (t.L (IntKind.u8.wrap (a.y - (1:Int))).toNat a.n.toNat).th (t.L (IntKind.u8.wrap (a.y - (1:Int))).toNat a.n.toNat).nt
 none]) (LL [idV (t.L (IntKind.u8.wrap (a.y - (1:Int))).toNat a.n.toNat).th (t.L (IntKind.u8.wrap (a.y - (1:Int))).toNat a.n.toNat).nt
 none]) (some (LL [idV (t.L (IntKind.u8.wrap (a.y - (1:Int))).toNat a.n.toNat).th (t.L (IntKind.u8.wrap (a.y - (1:Int))).toNat a.n.toNat).nt
 none])))) then
 bif decF (x [.reg a.c,.own 0 0 0 (LL [idV (t.L (IntKind.u8.wrap (a.y - (1:Int))).toNat a.n.toNat).th (t.L (IntKind.u8.wrap (a.y - (1:Int))).toNat a.n.toNat).nt
 none]) (some (LL [idV (t.L (IntKind.u8.wrap (a.y - (1:Int))).toNat a.n.toNat).th (t.L (IntKind.u8.wrap (a.y - (1:Int))).toNat a.n.toNat).nt
 none])),psV (t.L (IntKind.u8.wrap (a.y - (1:Int))).toNat a.n.toNat).ps (t.L (IntKind.u8.wrap (a.y - (1:Int))).toNat a.n.toNat).np
 none,.int .i64 (.ofNat (t.L (IntKind.u8.wrap (a.y - (1:Int))).toNat a.n.toNat).np),.int .i64 0] [.mk 0 2 (LL [idV (t.L (IntKind.u8.wrap (a.y - (1:Int))).toNat a.n.toNat).th (t.L (IntKind.u8.wrap (a.y - (1:Int))).toNat a.n.toNat).nt
 none]) (GG [idV (t.L (IntKind.u8.wrap (a.y - (1:Int))).toNat a.n.toNat).th (t.L (IntKind.u8.wrap (a.y - (1:Int))).toNat a.n.toNat).nt
 none]) true false
 none] (.exit 0) [.reg a.c,.own 0 v 0 n
 none] [idb v g n]) then
 bif decide (0<a.n) then
 bif v==v&&true then
 bif ((0:Nat)+n).ble n then
 bif ((n+(1:Nat)) * (17:Nat)).ble 70368744177664 then
 bif ((0:Nat)+n+(1:Nat)).ble n then
 bif decF (s [.own 0 v 0 (n+1)
 none,.fn (28:Nat) []] [.mk v 2 n (fun j =>
 bif ((0:Nat)+n).ble j&&j.blt (0+n+1) then [[T.int .u8 a.y,T.int .i64 (IntKind.i64.wrap (a.n - (1:Int)))]].getD ((0:Nat)+(j - (0+n))) []
 else (g j).c) true false
 none,.mk 0 2 1 (fun j=>[[T.int .u8 a.y,T.int .i64 (IntKind.i64.wrap (a.n - (1:Int)))]].getD j []) true true
 none] (.tup []) [idb (v+1) g1 (n+1),tmpI b]) then
 bif decF (u [.own 0 v 0 (n+1)
 none] [idb (v+1) g1 (n+1),tmpI b] (.own 0 (v+1) (0:Nat) k
 none) [idb (v+1) g2 (n+1),tmpI b]) then
 bif decF (q [bif v+1==v+1&&((0:Nat)+k).ble (n+1) then idV (fun j=>g2 (0+j)) k none else .undef] (.fresh true (2:Nat) (LL [bif v+1==v+1&&((0:Nat)+k).ble (n+1) then idV (fun j=>g2 (0+j)) k none else .undef]) (GG [bif v+1==v+1&&((0:Nat)+k).ble (n+1) then idV (fun j=>g2 (0+j)) k none else .undef]) (LL [bif v+1==v+1&&((0:Nat)+k).ble (n+1) then idV (fun j=>g2 (0+j)) k none else .undef]) (some (LL [bif v+1==v+1&&((0:Nat)+k).ble (n+1) then idV (fun j=>g2 (0+j)) k none else .undef])))) then
 some (bif ((0:Nat)+LL [bif v+(1:Nat)==v+(1:Nat)&&((0:Nat)+k).ble (n+(1:Nat)) then idV (fun j=>g2 ((0:Nat)+j)) k none else T.undef]).ble (LL [bif v+1==v+1&&((0:Nat)+k).ble (n+1) then idV (fun j=>g2 (0+j)) k none else .undef]) then .fresh true (2:Nat) (LL [bif v+1==v+1&&((0:Nat)+k).ble (n+1) then idV (fun j=>g2 (0+j)) k none else .undef] - (0:Nat)) (fun j=>GG [bif v+1==v+1&&((0:Nat)+k).ble (n+1) then idV (fun j=>g2 (0+j)) k none else .undef] (0+j)) (LL [bif v+1==v+1&&((0:Nat)+k).ble (n+1) then idV (fun j=>g2 (0+j)) k none else .undef]) (some (LL [bif v+1==v+1&&((0:Nat)+k).ble (n+1) then idV (fun j=>g2 (0+j)) k none else .undef]))
 else .undef)
 else none else none else none else
 bif decF (s [.own 0 (v+1) (0:Nat) (n+1)
 none,.fn (28:Nat) []] [.mk (v+1) (2:Nat) (n+1) (fun j =>
 bif j.blt n then (g ((0:Nat)+j)).c
 else [[T.int .u8 a.y,T.int .i64 (IntKind.i64.wrap (a.n - (1:Int)))]].getD ((0:Nat)+(j - n)) []) true false
 none,.mk 0 2 1 (fun j=>[[T.int .u8 a.y,T.int .i64 (IntKind.i64.wrap (a.n - (1:Int)))]].getD j []) true true
 none] (.tup []) [idb (v+1) g1 (n+1),tmpI b]) then
 bif decF (u [.own 0 (v+1) (0:Nat) (n+1)
 none] [idb (v+1) g1 (n+1),tmpI b] (.own 0 (v+1) (0:Nat) k
 none) [idb (v+1) g2 (n+1),tmpI b]) then
 bif decF (q [bif v+1==v+1&&((0:Nat)+k).ble (n+1) then idV (fun j=>g2 (0+j)) k none else .undef] (.fresh true (2:Nat) (LL [bif v+1==v+1&&((0:Nat)+k).ble (n+1) then idV (fun j=>g2 (0+j)) k none else .undef]) (GG [bif v+1==v+1&&((0:Nat)+k).ble (n+1) then idV (fun j=>g2 (0+j)) k none else .undef]) (LL [bif v+1==v+1&&((0:Nat)+k).ble (n+1) then idV (fun j=>g2 (0+j)) k none else .undef]) (some (LL [bif v+1==v+1&&((0:Nat)+k).ble (n+1) then idV (fun j=>g2 (0+j)) k none else .undef])))) then
 some (bif ((0:Nat)+LL [bif v+(1:Nat)==v+(1:Nat)&&((0:Nat)+k).ble (n+(1:Nat)) then idV (fun j=>g2 ((0:Nat)+j)) k none else T.undef]).ble (LL [bif v+1==v+1&&((0:Nat)+k).ble (n+1) then idV (fun j=>g2 (0+j)) k none else .undef]) then .fresh true (2:Nat) (LL [bif v+1==v+1&&((0:Nat)+k).ble (n+1) then idV (fun j=>g2 (0+j)) k none else .undef] - (0:Nat)) (fun j=>GG [bif v+1==v+1&&((0:Nat)+k).ble (n+1) then idV (fun j=>g2 (0+j)) k none else .undef] (0+j)) (LL [bif v+1==v+1&&((0:Nat)+k).ble (n+1) then idV (fun j=>g2 (0+j)) k none else .undef]) (some (LL [bif v+1==v+1&&((0:Nat)+k).ble (n+1) then idV (fun j=>g2 (0+j)) k none else .undef]))
 else .undef)
 else none else none else none else none else none else none else
 bif decF (s [.own 0 v 0 n
 none,.fn (28:Nat) []] [idb v g n] (.tup []) [idb (v+1) g1 (n+1),tmpI b]) then
 bif decF (u [.own 0 v 0 n
 none] [idb (v+1) g1 (n+1),tmpI b] (.own 0 (v+1) (0:Nat) k
 none) [idb (v+1) g2 (n+1),tmpI b]) then
 bif decF (q [bif v+1==v+1&&((0:Nat)+k).ble (n+1) then idV (fun j=>g2 (0+j)) k none else .undef] (.fresh true (2:Nat) (LL [bif v+1==v+1&&((0:Nat)+k).ble (n+1) then idV (fun j=>g2 (0+j)) k none else .undef]) (GG [bif v+1==v+1&&((0:Nat)+k).ble (n+1) then idV (fun j=>g2 (0+j)) k none else .undef]) (LL [bif v+1==v+1&&((0:Nat)+k).ble (n+1) then idV (fun j=>g2 (0+j)) k none else .undef]) (some (LL [bif v+1==v+1&&((0:Nat)+k).ble (n+1) then idV (fun j=>g2 (0+j)) k none else .undef])))) then
 some (bif ((0:Nat)+LL [bif v+(1:Nat)==v+(1:Nat)&&((0:Nat)+k).ble (n+(1:Nat)) then idV (fun j=>g2 ((0:Nat)+j)) k none else T.undef]).ble (LL [bif v+1==v+1&&((0:Nat)+k).ble (n+1) then idV (fun j=>g2 (0+j)) k none else .undef]) then .fresh true (2:Nat) (LL [bif v+1==v+1&&((0:Nat)+k).ble (n+1) then idV (fun j=>g2 (0+j)) k none else .undef] - (0:Nat)) (fun j=>GG [bif v+1==v+1&&((0:Nat)+k).ble (n+1) then idV (fun j=>g2 (0+j)) k none else .undef] (0+j)) (LL [bif v+1==v+1&&((0:Nat)+k).ble (n+1) then idV (fun j=>g2 (0+j)) k none else .undef]) (some (LL [bif v+1==v+1&&((0:Nat)+k).ble (n+1) then idV (fun j=>g2 (0+j)) k none else .undef]))
 else .undef)
 else none else none else none else none else none else none else none else
 none):=by kernel_rfl
theorem k15n:Go.Ab.stepV P05 G05 A05 (K15n p) 0 15 [t.v,.agg a.c] =
(
 bif decF (p [t.v,.agg a.c] (.bool false)) then
 some (.nils)
 else
 none):=by kernel_rfl
end
open Go.Proofs
def lenOf:List T->Nat | [.view _ n _ _]=>n | _=>0
def getOf:List T->Nat->List T | [.view _ _ g _]=>g | _=>fun _=>[]
theorem comp00 (c:Option Nat) (g:Nat->Idd):ToldRef P05 G05 32 [.own 0 0 0 0 c] [bkR g 0] (.own 0 0 0 0 c) [bkR g 0]:=by
 obtain ⟨x,hx⟩:=is_loop P05 G05 (A05 32) 32 4
 refine stepR_told hm05 hn05 none_ok (K:=noneO) (A:=A05) (m:=0) (by kernel_rfl) (l:=l32o x .ret [.own 0 0 0 0 c,.own 0 0 0 0 c] [bkR g 0]) (loops1 (loopF_ok hx _)) ?_
 rw [k32r]
 exact bift (by decide) rfl
theorem scAt {h:Heap} {i v n:Nat} {c:Option Nat} {x:Nat->Int} (hn:n<=12) (hcc:c = none ∨ c = some n) (hB:h[i]? = some (idb v (xd x) n)) :
 ∃ (g1 g2:Nat->Idd) (z:Nat->Int) (k:Nat),(SAsc z k/\(∀ w,Mem z 0 k w ↔ Mem x 0 n w)/\k<=n/\∀ j,j<k->g2 j = dec (z j)) ∧
  ToldRef P05 G05 27 [.own i v 0 n c,.fn 28 []] h (.tup []) (h.set i (idb v g1 n))/\ToldRef P05 G05 32 [.own i v 0 n c] (h.set i (idb v g1 n)) (.own i v 0 k c) (h.set i (idb v g2 n)):=by
 have hil:i<h.length:=(List.getElem?_eq_some_iff.1 hB).1
 obtain ⟨y,⟨p1,p2⟩,t1⟩:=sort05 n c x hn
 have f1:=t1.frame (i:=i) (d:=v) hB rfl rfl rfl rfl rfl rfl
 have hB2:(h.set i (idb v (xd y) n))[i]? = some (idb v (xd y) n):=List.getElem?_set_self hil
 rcases Nat.eq_zero_or_pos n with q | q
 ·subst q
  have f2:=(comp00 c (xd y)).frame (i:=i) (d:=v) hB2 rfl rfl rfl rfl rfl rfl
  rw [List.set_set] at f2
  exact ⟨xd y,xd y,y,0,⟨fun p q h1 h2=>by omega,fun w=>⟨fun ⟨j,h1,h2,_⟩=>by omega,fun ⟨j,h1,h2,_⟩=>by omega⟩,Nat.le_refl _,fun j hj=>by omega⟩,f1,f2⟩
 ·obtain ⟨g2,z,k,hz,hg,t2⟩:=comp05 n c hcc y (by omega) q p2
  have f2:=t2.frame (i:=i) (d:=v) hB2 rfl rfl rfl rfl rfl rfl
  rw [List.set_set] at f2
  exact ⟨xd y,g2,z,k,⟨hz.asc,fun w=>(hz.mem w).trans (p1.mem w),hz.kn,hg⟩,f1,f2⟩
theorem xd_enc {g:Nat->Idd} (h:∀ j,(g j).Ok):xd (fun j=>enc (g j)) = g:=by
 funext j
 exact dec_enc (h j)
def ndX (l:Lpp) (a:Idd):Nat->Int:=fun j=>if j<l.nt+l.np then enc (needI l j) else enc ⟨a.y,a.n - 1⟩
def ndN (l:Lpp) (a:Idd):Nat:=l.nt+l.np+(if 0<a.n then 1 else 0)
def NdOk (l:Lpp) (a:Idd) (z:Nat->Int) (k:Nat):Prop:=SAsc z k/\(∀ w,Mem z 0 k w ↔ Mem (ndX l a) 0 (ndN l a) w)/\k<=12
theorem fin15 {f:FuncId} {args:List T} {k:Nat} {g2:Nat->Idd} {z:Nat->Int} (hg:∀ j,j<k->g2 j = dec (z j)) (t:ToldOk P05 G05 f args (.fresh true 2 (k - 0) (fun j=>(g2 (0+(0+j))).c) k (some k))):ToldOk P05 G05 f args (.fresh true 2 k (fun j=>(dec (z j)).c) k (some k)):=by
 refine ToldOk.resTo t (.fresh (Nat.le_refl _) (by omega) (fun m hm=>by obtain rfl:=Option.some.inj hm; omega) fun j hj=>?_)
 rw [Nat.zero_add,Nat.zero_add,hg j hj]
theorem needsA (t:Tbl) (ht:t.Ok) (a:Idd) (ha:a.Ok) (hh:t.has a = true) (l:Lpp) (hl:l = t.L (a.y - 1).toNat a.n.toNat) (h12:ndN l a<=12) (hnp:l.np = 0) (h0:¬ 0<a.n) :
 ∃ z k,NdOk l a z k/\ToldOk P05 G05 15 [t.v,.agg a.c] (.fresh true 2 k (fun j=>(dec (z j)).c) k (some k)):=by
 obtain ⟨x,hx⟩:=is_base P05 G05 (A05 15) 15 0 6
 obtain ⟨p,hp⟩:=is_val P05 G05 25
 obtain ⟨q,hq⟩:=is_val P05 G05 26
 obtain ⟨s,hs⟩:=is_ref P05 G05 27
 obtain ⟨u,hu⟩:=is_ref P05 G05 32
 have t1:=hasT t ht a ha
 rw [hh] at t1
 have hlo:l.Ok:=by rw [hl]; exact ht.L _ _
 have hb:=base15 l hlo a
 have t2:=copyIdT l.th l.nt none (by have:=hlo.nt; omega)
 have hN:ndN l a = l.nt:=by unfold ndN; rw [if_neg h0,hnp]; rfl
 rw [hN] at h12
 rw [show rT l.nt l.np = .own 0 0 0 l.nt (some l.nt) by rw [hnp]; rfl,show rH l l.np = [bkR l.th l.nt] by rw [hnp]; rfl] at hb
 have hxd:=xd_enc hlo.th
 obtain ⟨g1,g2,z,k,⟨m1,m2,m3,m4⟩,f1,f2⟩:=scAt (h:=[bkR l.th l.nt]) (i:=0) (v:=0) (n:=l.nt) (c:=some l.nt) (x:=fun j=>enc (l.th j)) h12 (.inr rfl) (by rw [hxd]; rfl)
 have t3:=copyIdT (fun j=>g2 (0+j)) k (some l.nt) (by omega)
 refine ⟨z,k,⟨m1,fun w=>(m2 w).trans ?_,by omega⟩,fin15 m4 ?_⟩
 ·rw [hN]
  exact mem_congr (y:=ndX l a) (z:=fun j=>enc (l.th j)) fun j _ hj=>by unfold ndX; rw [if_pos (by omega),need_lt hj]
 ·have hth:=ht.h
  have hyy:=ha.y
  unfold Tbl.has at hh
  simp only [Bool.and_eq_true,decide_eq_true_eq] at hh
  obtain ⟨⟨⟨r1,r2⟩,r3⟩,r4⟩:=hh
  have hw:IntKind.u8.wrap (a.y - 1) = (((a.y - 1).toNat:Nat):Int):=by rw [wr8 (by omega) (by omega)]; omega
  clear m1 m2 m4 hxd hN h12 hlo ht ha
  refine stepT_told hm05 hn05 (K:=K15 lenOf getOf p q s u [bkR g1 l.nt] (.own 0 0 0 k (some l.nt)) [bkR g2 l.nt]) (told_addRef (told_addRef (told_add (told_add none_ok (callF_told hp)) (callF_told hq)) (refF_told hs)) (refF_told hu)) (A:=A05) (m:=0) (l:=l15 x a (.own 0 0 0 l.nt (some l.nt)) [bkR l.th l.nt]) (by kernel_rfl) (bases1 (baseF_ok hx _)) ?_
  rw [k15A lenOf getOf t a x p q s u l.th g1 g2 l.nt k]
  rw [hw]
  simp only [Int.toNat_natCast,show Nat.ble (0+k) l.nt = true from bleT (by omega),cond_true]
  rw [← hl]
  refine BS (BT (BT (bift (decF_iff.2 (callF_y hq t2)) ?_)))
  refine bift (baseF_yes hx hb) ?_
  refine BF (bift (decF_iff.2 (refF_y hs f1)) (bift (decF_iff.2 (refF_y hu f2)) (bift (decF_iff.2 (callF_y hq t3)) ?_)))
  show some (bif Nat.ble (0+k) k then _ else _) = _
  rw [bleT (by omega)]
  rfl
open Go.Proofs
def apR (g:Nat->Idd) (n:Nat) (b:Idd):Nat->Idd:=fun j=>if j<n then g j else b
theorem apR_lt {g:Nat->Idd} {n:Nat} {b:Idd} {j:Nat} (h:j<n):apR g n b j = g j:=if_pos h
theorem apR_at (g:Nat->Idd) (n:Nat) (b:Idd):apR g n b n = b:=if_neg (by omega)
theorem apR_ok {g:Nat->Idd} {n:Nat} {b:Idd} (hg:∀ j,(g j).Ok) (hb:b.Ok) (j:Nat):(apR g n b j).Ok:=by
 unfold apR
 by_cases h:j<n
 ·rw [if_pos h]; exact hg j
 ·rw [if_neg h]; exact hb
theorem prevOk {a:Idd} (ha:a.Ok) (h0:0<a.n):(⟨a.y,a.n - 1⟩:Idd).Ok:=⟨ha.y,by have:=ha.n; show _<=a.n - 1/\a.n - 1<=_; omega⟩
theorem has_bd {t:Tbl} {a:Idd} (hh:t.has a = true):1<=a.y/\a.y<=t.h/\0<=a.n/\a.n<(t.ln (a.y - 1).toNat:Int):=by
 unfold Tbl.has at hh
 simp only [Bool.and_eq_true,decide_eq_true_eq] at hh
 obtain ⟨⟨⟨r1,r2⟩,r3⟩,r4⟩:=hh
 exact ⟨r1,r2,r3,r4⟩
theorem needsB (t:Tbl) (ht:t.Ok) (a:Idd) (ha:a.Ok) (hh:t.has a = true) (l:Lpp) (hl:l = t.L (a.y - 1).toNat a.n.toNat) (h12:ndN l a<=12) (hnp:l.np = 0) (h0:0<a.n) :
 ∃ z k,NdOk l a z k/\ToldOk P05 G05 15 [t.v,.agg a.c] (.fresh true 2 k (fun j=>(dec (z j)).c) k (some k)):=by
 obtain ⟨x,hx⟩:=is_base P05 G05 (A05 15) 15 0 6
 obtain ⟨p,hp⟩:=is_val P05 G05 25
 obtain ⟨q,hq⟩:=is_val P05 G05 26
 obtain ⟨s,hs⟩:=is_ref P05 G05 27
 obtain ⟨u,hu⟩:=is_ref P05 G05 32
 have t1:=hasT t ht a ha
 rw [hh] at t1
 have hlo:l.Ok:=by rw [hl]; exact ht.L _ _
 have hb:=base15 l hlo a
 have t2:=copyIdT l.th l.nt none (by have:=hlo.nt; omega)
 have hN:ndN l a = l.nt+1:=by unfold ndN; rw [if_pos h0,hnp]
 rw [hN] at h12
 rw [show rT l.nt l.np = .own 0 0 0 l.nt (some l.nt) by rw [hnp]; rfl,show rH l l.np = [bkR l.th l.nt] by rw [hnp]; rfl] at hb
 have hxd:=xd_enc (apR_ok (n:=l.nt) hlo.th (prevOk ha h0))
 obtain ⟨g1,g2,z,k,⟨m1,m2,m3,m4⟩,f1,f2⟩:=scAt (h:=[bkR l.th l.nt,tmpI ⟨a.y,a.n - 1⟩,idb 0 (apR l.th l.nt ⟨a.y,a.n - 1⟩) (l.nt+1)]) (i:=2) (v:=0) (n:=l.nt+1) (c:=none) (x:=fun j=>enc (apR l.th l.nt ⟨a.y,a.n - 1⟩ j)) h12 (.inl rfl) (by rw [hxd]; rfl)
 have t3:=copyIdT (fun j=>g2 (0+j)) k none (by omega)
 have f1:=f1.same (h:=[bkR l.th l.nt,tmpI ⟨a.y,a.n - 1⟩,apB 0 l.th l.nt ⟨a.y,a.n - 1⟩]) (.cons ⟨rfl,rfl,rfl,id,fun _ _=>rfl⟩ (.cons ⟨rfl,rfl,rfl,id,fun _ _=>rfl⟩ (apB_same 0 l.th _ l.nt ⟨a.y,a.n - 1⟩ (fun j hj=>apR_lt hj) (apR_at _ _ _) .nil)))
 refine ⟨z,k,⟨m1,fun w=>(m2 w).trans ?_,by omega⟩,fin15 m4 ?_⟩
 ·rw [hN]
  refine mem_congr (y:=ndX l a) (z:=fun j=>enc (apR l.th l.nt ⟨a.y,a.n - 1⟩ j)) fun j _ hj=>?_
  unfold ndX
  by_cases q:j<l.nt
  ·rw [if_pos (by omega),need_lt q,apR_lt q]
  ·obtain rfl:j = l.nt:=by omega
   rw [if_neg (by omega),apR_at]
 ·have hth:=ht.h
  have hyy:=ha.y
  have hnn:=ha.n
  obtain ⟨r1,r2,r3,r4⟩:=has_bd hh
  have hw:IntKind.u8.wrap (a.y - 1) = (((a.y - 1).toNat:Nat):Int):=by rw [wr8 (by omega) (by omega)]; omega
  have hw2:IntKind.i64.wrap (a.n - 1) = a.n - 1:=wr64 (by omega) (by omega)
  clear m1 m2 m4 hxd hN hlo ht ha
  refine stepT_told hm05 hn05 (K:=K15 lenOf getOf p q s u [bkR l.th l.nt,tmpI ⟨a.y,a.n - 1⟩,idb 0 g1 (l.nt+1)] (.own 2 0 0 k none) [bkR l.th l.nt,tmpI ⟨a.y,a.n - 1⟩,idb 0 g2 (l.nt+1)]) (told_addRef (told_addRef (told_add (told_add none_ok (callF_told hp)) (callF_told hq)) (refF_told hs)) (refF_told hu)) (A:=A05) (m:=0) (l:=l15 x a (.own 0 0 0 l.nt (some l.nt)) [bkR l.th l.nt]) (by kernel_rfl) (bases1 (baseF_ok hx _)) ?_
  rw [k15B]
  rw [hw]
  simp only [hw2,Int.toNat_natCast,show Nat.ble (0+k) (l.nt+1) = true from bleT (by omega),cond_true]
  rw [← hl]
  refine BS (BT (BT (bift (decF_iff.2 (callF_y hq t2)) ?_)))
  refine bift (baseF_yes hx hb) ?_
  refine BT (BT (BT (BF (bift (decF_iff.2 (refF_y hs f1)) (bift (decF_iff.2 (refF_y hu f2)) (bift (decF_iff.2 (callF_y hq t3)) ?_))))))
  show some (bif Nat.ble (0+k) k then _ else _) = _
  rw [bleT (by omega)]
  rfl
theorem needsC (t:Tbl) (ht:t.Ok) (a:Idd) (ha:a.Ok) (hh:t.has a = true) (l:Lpp) (hl:l = t.L (a.y - 1).toNat a.n.toNat) (h12:ndN l a<=12) (v:Nat) (hnp:l.np = v+1) (h0:¬ 0<a.n) :
 ∃ z k,NdOk l a z k/\ToldOk P05 G05 15 [t.v,.agg a.c] (.fresh true 2 k (fun j=>(dec (z j)).c) k (some k)):=by
 obtain ⟨x,hx⟩:=is_base P05 G05 (A05 15) 15 0 6
 obtain ⟨p,hp⟩:=is_val P05 G05 25
 obtain ⟨q,hq⟩:=is_val P05 G05 26
 obtain ⟨s,hs⟩:=is_ref P05 G05 27
 obtain ⟨u,hu⟩:=is_ref P05 G05 32
 have t1:=hasT t ht a ha
 rw [hh] at t1
 have hlo:l.Ok:=by rw [hl]; exact ht.L _ _
 have hb:=base15 l hlo a
 have t2:=copyIdT l.th l.nt none (by have:=hlo.nt; omega)
 have hN:ndN l a = l.nt+(v+1):=by unfold ndN; rw [if_neg h0,hnp]; rfl
 rw [hN] at h12
 rw [show rT l.nt l.np = .own 0 v 0 (l.nt+(v+1)) none by rw [hnp]; rfl,show rH l l.np = [idb v (needI l) (l.nt+(v+1))] by rw [hnp]; rfl] at hb
 have hxd:=xd_enc (needOk hlo)
 obtain ⟨g1,g2,z,k,⟨m1,m2,m3,m4⟩,f1,f2⟩:=scAt (h:=[idb v (needI l) (l.nt+(v+1))]) (i:=0) (v:=v) (n:=l.nt+(v+1)) (c:=none) (x:=fun j=>enc (needI l j)) h12 (.inl rfl) (by rw [hxd]; rfl)
 have t3:=copyIdT (fun j=>g2 (0+j)) k none (by omega)
 refine ⟨z,k,⟨m1,fun w=>(m2 w).trans ?_,by omega⟩,fin15 m4 ?_⟩
 ·rw [hN]
  exact mem_congr (y:=ndX l a) (z:=fun j=>enc (needI l j)) fun j _ hj=>by unfold ndX; rw [if_pos (by omega)]
 ·have hth:=ht.h
  have hyy:=ha.y
  obtain ⟨r1,r2,r3,r4⟩:=has_bd hh
  have hw:IntKind.u8.wrap (a.y - 1) = (((a.y - 1).toNat:Nat):Int):=by rw [wr8 (by omega) (by omega)]; omega
  clear m1 m2 m4 hxd hN hlo ht ha
  refine stepT_told hm05 hn05 (K:=K15 lenOf getOf p q s u [idb v g1 (l.nt+(v+1))] (.own 0 v 0 k none) [idb v g2 (l.nt+(v+1))]) (told_addRef (told_addRef (told_add (told_add none_ok (callF_told hp)) (callF_told hq)) (refF_told hs)) (refF_told hu)) (A:=A05) (m:=0) (l:=l15 x a (.own 0 v 0 (l.nt+(v+1)) none) [idb v (needI l) (l.nt+(v+1))]) (by kernel_rfl) (bases1 (baseF_ok hx _)) ?_
  rw [k15C]
  rw [hw]
  simp only [Int.toNat_natCast,show Nat.ble (0+k) (l.nt+(v+1)) = true from bleT (by omega),cond_true,beq_self_eq_true,Bool.and_self]
  rw [← hl]
  refine BS (BT (BT (bift (decF_iff.2 (callF_y hq t2)) ?_)))
  refine bift (baseF_yes hx hb) ?_
  refine BF (bift (decF_iff.2 (refF_y hs f1)) (bift (decF_iff.2 (refF_y hu f2)) (bift (decF_iff.2 (callF_y hq t3)) ?_)))
  show some (bif Nat.ble (0+k) k then _ else _) = _
  rw [bleT (by omega)]
  rfl
theorem needsD (t:Tbl) (ht:t.Ok) (a:Idd) (ha:a.Ok) (hh:t.has a = true) (l:Lpp) (hl:l = t.L (a.y - 1).toNat a.n.toNat) (h12:ndN l a<=12) (v:Nat) (hnp:l.np = v+1) (h0:0<a.n) :
 ∃ z k,NdOk l a z k/\ToldOk P05 G05 15 [t.v,.agg a.c] (.fresh true 2 k (fun j=>(dec (z j)).c) k (some k)):=by
 obtain ⟨x,hx⟩:=is_base P05 G05 (A05 15) 15 0 6
 obtain ⟨p,hp⟩:=is_val P05 G05 25
 obtain ⟨q,hq⟩:=is_val P05 G05 26
 obtain ⟨s,hs⟩:=is_ref P05 G05 27
 obtain ⟨u,hu⟩:=is_ref P05 G05 32
 have t1:=hasT t ht a ha
 rw [hh] at t1
 have hlo:l.Ok:=by rw [hl]; exact ht.L _ _
 have hb:=base15 l hlo a
 have t2:=copyIdT l.th l.nt none (by have:=hlo.nt; omega)
 have hN:ndN l a = l.nt+(v+1)+1:=by unfold ndN; rw [if_pos h0,hnp]
 rw [hN] at h12
 rw [show rT l.nt l.np = .own 0 v 0 (l.nt+(v+1)) none by rw [hnp]; rfl,show rH l l.np = [idb v (needI l) (l.nt+(v+1))] by rw [hnp]; rfl] at hb
 generalize hm:l.nt+(v+1) = m at *
 have hxd:=xd_enc (apR_ok (n:=m) (needOk hlo) (prevOk ha h0))
 obtain ⟨g1,g2,z,k,⟨m1,m2,m3,m4⟩,f1,f2⟩:=scAt (h:=[idb (v+1) (apR (needI l) m ⟨a.y,a.n - 1⟩) (m+1),tmpI ⟨a.y,a.n - 1⟩]) (i:=0) (v:=v+1) (n:=m+1) (c:=none) (x:=fun j=>enc (apR (needI l) m ⟨a.y,a.n - 1⟩ j)) h12 (.inl rfl) (by rw [hxd]; rfl)
 have t3:=copyIdT (fun j=>g2 (0+j)) k none (by omega)
 have f1:=f1.same (h:=[apB (v+1) (needI l) m ⟨a.y,a.n - 1⟩,tmpI ⟨a.y,a.n - 1⟩]) (apB_same (v+1) (needI l) _ m ⟨a.y,a.n - 1⟩ (fun j hj=>apR_lt hj) (apR_at _ _ _) (.cons ⟨rfl,rfl,rfl,id,fun _ _=>rfl⟩ .nil))
 refine ⟨z,k,⟨m1,fun w=>(m2 w).trans ?_,by omega⟩,fin15 m4 ?_⟩
 ·rw [hN]
  refine mem_congr (y:=ndX l a) (z:=fun j=>enc (apR (needI l) m ⟨a.y,a.n - 1⟩ j)) fun j _ hj=>?_
  unfold ndX
  by_cases q:j<m
  ·rw [if_pos (by omega),apR_lt q]
  ·obtain rfl:j = m:=by omega
   rw [if_neg (by omega),apR_at]
 ·have hth:=ht.h
  have hyy:=ha.y
  have hnn:=ha.n
  obtain ⟨r1,r2,r3,r4⟩:=has_bd hh
  have hw:IntKind.u8.wrap (a.y - 1) = (((a.y - 1).toNat:Nat):Int):=by rw [wr8 (by omega) (by omega)]; omega
  have hw2:IntKind.i64.wrap (a.n - 1) = a.n - 1:=wr64 (by omega) (by omega)
  clear m1 m2 m4 hxd hN hlo ht ha
  refine stepT_told hm05 hn05 (K:=K15 lenOf getOf p q s u [idb (v+1) g1 (m+1),tmpI ⟨a.y,a.n - 1⟩] (.own 0 (v+1) 0 k none) [idb (v+1) g2 (m+1),tmpI ⟨a.y,a.n - 1⟩]) (told_addRef (told_addRef (told_add (told_add none_ok (callF_told hp)) (callF_told hq)) (refF_told hs)) (refF_told hu)) (A:=A05) (m:=0) (l:=l15 x a (.own 0 v 0 m none) [idb v (needI l) m]) (by kernel_rfl) (bases1 (baseF_ok hx _)) ?_
  rw [k15D]
  rw [hw]
  simp only [hw2,Int.toNat_natCast,show Nat.ble (0+k) (m+1) = true from bleT (by omega),cond_true,beq_self_eq_true,Bool.and_self]
  rw [← hl]
  refine BS (BT (BT (bift (decF_iff.2 (callF_y hq t2)) ?_)))
  refine bift (baseF_yes hx hb) ?_
  refine BT ?_
  refine BT (BT (BF (bift (decF_iff.2 (refF_y hs f1)) (bift (decF_iff.2 (refF_y hu f2)) (bift (decF_iff.2 (callF_y hq t3)) ?_)))))
  show some (bif Nat.ble (0+k) k then _ else _) = _
  rw [bleT (by omega)]
  rfl
theorem needsT (t:Tbl) (ht:t.Ok) (a:Idd) (ha:a.Ok) (hh:t.has a = true) (h12:ndN (t.L (a.y - 1).toNat a.n.toNat) a<=12) :
 ∃ z k,NdOk (t.L (a.y - 1).toNat a.n.toNat) a z k/\ToldOk P05 G05 15 [t.v,.agg a.c] (.fresh true 2 k (fun j=>(dec (z j)).c) k (some k)):=by
 cases hnp:(t.L (a.y - 1).toNat a.n.toNat).np with
 | zero =>
  by_cases h0:0<a.n
  ·exact needsB t ht a ha hh _ rfl h12 hnp h0
  ·exact needsA t ht a ha hh _ rfl h12 hnp h0
 | succ v =>
  by_cases h0:0<a.n
  ·exact needsD t ht a ha hh _ rfl h12 v hnp h0
  ·exact needsC t ht a ha hh _ rfl h12 v hnp h0
theorem needsN (t:Tbl) (ht:t.Ok) (a:Idd) (ha:a.Ok) (hh:t.has a = false):ToldOk P05 G05 15 [t.v,.agg a.c] .nils:=by
 obtain ⟨p,hp⟩:=is_val P05 G05 25
 have t1:=hasT t ht a ha
 rw [hh] at t1
 refine stepV_told hm05 hn05 (K:=K15n p) (told_add none_ok (callF_told hp)) (A:=A05) (m:=0) ?_
 rw [k15n]
 exact BS rfl
end Go.Ab

