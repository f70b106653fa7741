/- A part of the proof: nothing is assumed. -/
import Derived.Test.YteoamlekamflbaaP15
import Derived.Test.YteoamlekamflbaaP16
set_option linter.all false
namespace Go.Ab
open Go.Proofs
theorem zr (n:Nat) (R:Nat->Nat->Int) (ln:Nat->Nat) (rc:Nat->Option Nat):resK P18 G18 (A18 19).prom Try.f19 (mkSt [2,3] [.own 0 n 0 n (some n),.int .i64 0] [pcB n n R ln rc]) (fun v=>some (give [pcB n n R ln rc] v)) =
(
 some (.tup [bif n==n&&((0:Nat)+n).ble n then .fresh false (1:Nat) n (fun j=>pcG R ln rc (0+j)) n (some n)
 else .undef,.int .i64 0])):=by kernel_rfl
theorem z0 (s:List UInt8):codeL P18 G18 A18 noneO 0 19 [] (nav [1]) [0] [.str s] [] [0] =
(
 some ((.normal,[.str s],[]))):=by kernel_rfl
theorem z1 (s:List UInt8):codeL P18 G18 A18 noneO 0 19 [] (nav [1,2]) [0] [.str s] [] [0,4] =
(
 some ((.normal,[.str s,.nils],[]))):=by kernel_rfl
theorem start19 (s:List UInt8) (R:Nat->Nat->Int) (ln:Nat->Nat) (rc:Nat->Option Nat):Pz P18 G18 A18 19 [] [1,2] [0] [.str s] [] .normal [0,4] [.str s,.own 0 0 0 0 none] [pcB 0 0 R ln rc] :=
 Pz.post (Pz.run hm18 none_ok (m:=0) (by kernel_rfl) loops0 (z1 s)) fun nt=>.gh [pcB 0 0 R ln rc] (fun b hb=>by simp at hb; subst hb; exact ⟨rfl,rfl⟩) (.cons (.refl _) (.cons (.inl (.own (b:=pcB 0 0 R ln rc) (Nat.le_refl 0) rfl rfl)) .nil)) (.refl _)
def rvR (L:List (List UInt8)) (j:Nat):Nat->Int:=RL L (sgR L.length (L.length / 2) (0+j))
def rvL (L:List (List UInt8)) (j:Nat):Nat:=lL L (sgR L.length (L.length / 2) (0+j))
def rvC (L:List (List UInt8)) (j:Nat):Option Nat:=cL L (sgR L.length (L.length / 2) (0+j))
theorem parseL (s:List UInt8) (L:List (List UInt8)) (hL:Lines s L) (h0:0<L.length) (hs:s.length<=1000) (hl:L.length<=1000) (hll:∀ i,i<L.length->rvL L i<=1000) (hR:∀ i j,0<=rvR L i j/\rvR L i j<256) :
 ToldOk P18 G18 19 [.str s] (if pcE (rvR L) (rvL L) L.length = 0 then .tup [.fresh false 1 L.length (fun j=>pcG (rvR L) (rvL L) (rvC L) j) L.length (some L.length),.int .i64 0] else .tup [.nils,.int .i64 4]):=by
 obtain ⟨p,hp⟩:∃ p:List T->Heap->T->Heap->Prop,p = ToldRef P18 G18 32:=⟨_,rfl⟩
 obtain ⟨q,hq⟩:∃ q:List T->T->Prop,q = ToldOk P18 G18 29:=⟨_,rfl⟩
 have tr:=revP L.length L.length L.length (RL L) (lL L) (cL L) h0 (Nat.le_refl _) (by omega)
 have tc:=checkGT (rvR L) (rvL L) L.length (rvC L) none (by omega) hll (fun i _ j _=>hR i j)
 have lp:=loop19 L s hL (by omega) (by omega)
 have k14:=(e14 p L.length L.length L.length (RL L) (fun j=>RL L (sgR L.length (L.length / 2) j)) (lL L) (fun j=>lL L (sgR L.length (L.length / 2) j)) (cL L) (fun j=>cL L (sgR L.length (L.length / 2) j))).trans (bift (refF_yes hp tr) rfl)
 have bl:(L.length==L.length&&Nat.ble (0+L.length) L.length) = true:=by rw [bleT (by omega)]; simp
 have bb:(L.length==L.length&&true) = true:=by simp
 have k15:=e15 q (pcE (rvR L) (rvL L) L.length) L.length L.length L.length (fun j=>RL L (sgR L.length (L.length / 2) j)) (fun j=>lL L (sgR L.length (L.length / 2) j)) (fun j=>cL L (sgR L.length (L.length / 2) j))
 rw [bl] at k15
 have p0:Pz P18 G18 A18 19 [] [1] [0] [.str s] [] .normal [0] [.str s] []:=Pz.run hm18 none_ok (m:=0) (by kernel_rfl) loops0 (z0 s)
 have pl:Pz P18 G18 A18 19 [] [1,2,2] [0,4] [.str s,.own 0 0 0 0 none] [pcB 0 0 (RL L) (lL L) (cL L)] .normal [4] [.own 0 L.length 0 L.length none] [pcB L.length L.length (RL L) (lL L) (cL L)]:=Pz.blk (id:=0) (by kernel_rfl) rfl lp
 have p14:Pz P18 G18 A18 19 [] [1,2,2,2] [4] [.own 0 L.length 0 L.length none] [pcB L.length L.length (RL L) (lL L) (cL L)] .normal [4] [.own 0 L.length 0 L.length none] [pcB L.length L.length (fun j=>RL L (sgR L.length (L.length / 2) j)) (fun j=>lL L (sgR L.length (L.length / 2) j)) (fun j=>cL L (sgR L.length (L.length / 2) j))]:=Pz.run hm18 (told_addRef none_ok (refF_told hp)) (m:=0) (by kernel_rfl) loops0 k14
 by_cases hz:pcE (rvR L) (rvL L) L.length = 0
 ·rw [if_pos hz]
  rw [hz] at tc k15
  have k15:=k15.trans (bift (callF_yes hq tc) (biff (by simp) rfl))
  have k17:=(e17 L.length L.length L.length (fun j=>RL L (sgR L.length (L.length / 2) j)) (fun j=>lL L (sgR L.length (L.length / 2) j)) (fun j=>cL L (sgR L.length (L.length / 2) j))).trans (bift bb (bift bb (bift bb (bift (by simp) rfl))))
  refine Pz.told (A:=A18) hn18 Try.func19 (by kernel_rfl) (by kernel_rfl) (l:=[0]) rfl
   (Pz.seq (by kernel_rfl) p0 (Pz.seq (by kernel_rfl) (start19 s (RL L) (lL L) (cL L)) (Pz.seq (by kernel_rfl) pl (Pz.seq (by kernel_rfl) p14 (Pz.seq (by kernel_rfl) (Pz.only (Pz.run hm18 (told_add none_ok (callF_told hq)) (m:=0) (by kernel_rfl) loops0 k15) (l2:=[4]) rfl) (Pz.run hm18 (told_inl hm18 hn18 none_ok none_ok) (m:=0) (by kernel_rfl) loops0 k17)))))) ((zr L.length _ _ _).trans ?_)
  rw [bl]
  rfl
 ·rw [if_neg hz]
  have k15:=k15.trans (bift (callF_yes hq tc) (bift (by simpa using hz) rfl))
  exact Pz.told (A:=A18) hn18 Try.func19 (by kernel_rfl) (by kernel_rfl) (l:=[0]) rfl
   (Pz.seq (by kernel_rfl) p0 (Pz.seq (by kernel_rfl) (start19 s (RL L) (lL L) (cL L)) (Pz.seq (by kernel_rfl) pl (Pz.seq (by kernel_rfl) p14 (Pz.seqX (by kernel_rfl) (by simp) (Pz.only (Pz.run hm18 (told_add none_ok (callF_told hq)) (m:=0) (by kernel_rfl) loops0 k15) (l2:=[2,3]) rfl)))))) rfl
theorem parseN (s:List UInt8) (hL:NoLines s) (hs:s.length<=1000):ToldOk P18 G18 19 [.str s] (.tup [.nils,.int .i64 4]):=by
 obtain ⟨h1,lp⟩:=loop19b s hL hs (fun _ _=>0) (fun _=>0) (fun _=>none)
 exact Pz.told (A:=A18) hn18 Try.func19 (by kernel_rfl) (by kernel_rfl) (l:=[0]) rfl
  (Pz.seq (by kernel_rfl) (Pz.run hm18 none_ok (m:=0) (by kernel_rfl) loops0 (z0 s)) (Pz.seq (by kernel_rfl) (start19 s (fun _ _=>0) (fun _=>0) (fun _=>none)) (Pz.seqX (by kernel_rfl) (by simp) (Pz.blk (id:=0) (e:=.ret) (by kernel_rfl) rfl lp)))) rfl
open Go.Proofs
theorem parseZ:ToldOk P18 G18 19 [.str []] (.tup [.nils,.int .i64 4]):=by
 obtain ⟨p,hp⟩:∃ p:List T->T->Prop,p = ToldOk P18 G18 29:=⟨_,rfl⟩
 have t:=checkGT (fun _ _=>0) (fun _=>0) 0 (fun _=>none) none (by omega) (fun i hi=>by omega) (fun i hi=>by omega)
 rw [show pcE (fun _ _=>0) (fun _=>0) 0 = 1 from rfl] at t
 have t2:ToldOk P18 G18 29 [.nils] (.int .i64 1):=t.sim (.cons (.nilv _ _ (.inl rfl)) .nil)
 exact stepV_told hm18 hn18 (told_add (told_inl hm18 hn18 none_ok none_ok) (callF_told hp)) (A:=A18) (m:=1) ((e19n p 1).trans (bift (callF_yes hp t2) (bift (by simp) rfl)))
open Go.Proofs
theorem w1 (s W:List UInt8) (i k h:Nat) (R:Nat->Nat->Int) (ln:Nat->Nat) (rc:Nat->Option Nat) (c:Option Nat):codeL P18 G18 A18 noneO 0 6 [] (nav [0,0,2,1,0,1,2,0,0,2,1,2,2,2,2]) [1,5,6,7,8] [.str s,pgV R ln h rc c,.str W,.int .i64 (i:Nat),.int .i64 (k:Nat)] [] [1,5,6,7,8] =
(
 bif decide (0<=Int.ofNat i)&&decide (Int.ofNat i<Int.ofNat h) then
 bif decide (Int.ofNat k<Int.ofNat (ln i)) then
 bif decide (0<=Int.ofNat i)&&decide (Int.ofNat i<Int.ofNat h) then
 bif decide (0<=Int.ofNat k)&&decide (Int.ofNat k<Int.ofNat (ln i)) then
 bif (W.length+(1:Nat)).ble 9223372036854775807 then
 some ((.normal,[.str s,pgV R ln h rc c,.str (W ++ strF (fun j=>[[T.int .u8 (IntKind.u8.wrap ((48:Int)+R i k))]].getD (0+j) []) (1:Nat)),.int .i64 (.ofNat i),.int .i64 (IntKind.i64.wrap (Int.ofNat k+1))],[.mk 0 1 1 (fun j=>[[T.int .u8 (IntKind.u8.wrap ((48:Int)+R i k))]].getD j []) true true
 none]))
 else none else none else none else
 some ((.exit 2,[.str s,pgV R ln h rc c,.str W,.int .i64 (.ofNat i),.int .i64 (.ofNat k)],[]))
 else
 none):=by kernel_rfl
theorem w2 (s W:List UInt8) (i h:Nat) (R:Nat->Nat->Int) (ln:Nat->Nat) (rc:Nat->Option Nat) (c:Option Nat):codeL P18 G18 A18 noneO 0 6 [] (nav [2,0,1,2,0,0,2,1,2,2,2,2]) [1,5,6,7] [.str s,pgV R ln h rc c,.str W,.int .i64 (i:Nat)] [] [1,5,6,7] =
(
 bif (W.length+(1:Nat)).ble 9223372036854775807 then
 some ((.normal,[.str s,pgV R ln h rc c,.str (W ++ [(10:UInt8)]),.int .i64 (.ofNat i)],[]))
 else
 none):=by kernel_rfl
theorem w3 (s W:List UInt8) (i:Int) (h:Nat) (R:Nat->Nat->Int) (ln:Nat->Nat) (rc:Nat->Option Nat) (c:Option Nat):codeL P18 G18 A18 noneO 0 6 [] (nav [1,0,0,2,1,2,2,2,2]) [1,5,6,7] [.str s,pgV R ln h rc c,.str W,.int .i64 i] [] [1,5,6,7] =
(
 bif decide (0<=i) then
 some ((.normal,[.str s,pgV R ln h rc c,.str W,.int .i64 i],[]))
 else
 some ((.exit 0,[.str s,pgV R ln h rc c,.str W,.int .i64 i],[]))):=by kernel_rfl
theorem w4 (s W:List UInt8) (i h:Nat) (R:Nat->Nat->Int) (ln:Nat->Nat) (rc:Nat->Option Nat) (c:Option Nat):codeL P18 G18 A18 noneO 0 6 [] (nav [2,2,0,0,2,1,2,2,2,2]) [1,5,6,7] [.str s,pgV R ln h rc c,.str W,.int .i64 (i:Nat)] [] [1,5,6,7] =
(
 some ((.normal,[.str s,pgV R ln h rc c,.str W,.int .i64 (IntKind.i64.wrap (Int.ofNat i - 1))],[]))):=by kernel_rfl
theorem strF1 (x:Int) (h0:0<=x) (h1:x<256):strF (fun j=>[[T.int IntKind.u8 x]].getD (0+j) []) 1 = [UInt8.ofNat x.toNat]:=by
 obtain ⟨n,rfl⟩:∃ n:Nat,x = n:=⟨x.toNat,by omega⟩
 rfl
theorem wrow6 (s W:List UInt8) (i h:Nat) (R:Nat->Nat->Int) (ln:Nat->Nat) (rc:Nat->Option Nat) (c:Option Nat) (hi:i<h) (hh:h<=1000) (hl:ln i<=1000) (hW:W.length<=10000000) (hR:∀ j,0<=R i j/\R i j<=100) :
 Pz P18 G18 A18 6 [] [0,2,1,0,1,2,0,0,2,1,2,2,2,2] [1,5,6,7,8] [.str s,pgV R ln h rc c,.str (W ++ rowB (colN R) ln i 0),.int .i64 (i:Nat),.int .i64 (0:Nat)] [] (.exit 2) [1,5,6,7,8] [.str s,pgV R ln h rc c,.str (W ++ rowB (colN R) ln i (ln i)),.int .i64 (i:Nat),.int .i64 (ln i:Nat)] []:=by
 have b1:(decide ((0:Int)<=Int.ofNat i)&&decide (Int.ofNat i<Int.ofNat h)) = true:=by simp; omega
 refine Pz.count (by kernel_rfl) (fun k=>[.str s,pgV R ln h rc c,.str (W ++ rowB (colN R) ln i k),.int .i64 (i:Nat),.int .i64 (k:Nat)]) (fun _=>[]) (n:=ln i) (by simp) (fun k hk=>?_) ?_
 ·have hk:k<ln i:=hk
  have q:=w1 s (W ++ rowB (colN R) ln i k) i k h R ln rc c
  have hr:=hR k
  rw [up1 (by omega),wr8 (by omega) (by omega),strF1 _ (by omega) (by omega)] at q
  have e:W ++ rowB (colN R) ln i k ++ [UInt8.ofNat (48+R i k).toNat] = W ++ rowB (colN R) ln i (k+1):=by
   rw [rowB_succ,List.append_assoc]
   have:(48+R i k).toNat = 48+colN R i k:=by unfold colN; omega
   rw [this]
  rw [e] at q
  have b2:decide (Int.ofNat k<Int.ofNat (ln i)) = true:=by simp; omega
  have b3:(decide ((0:Int)<=Int.ofNat k)&&decide (Int.ofNat k<Int.ofNat (ln i))) = true:=by simp; omega
  have b4:Nat.ble ((W ++ rowB (colN R) ln i k).length+1) 9223372036854775807 = true:=bleT (by rw [List.length_append]; simp only [rowB,List.length_map,List.length_range]; omega)
  exact Pz.post (Pz.run hm18 none_ok (m:=0) (by kernel_rfl) loops0 (q.trans (bift b1 (bift b2 (bift b1 (bift b3 (bift b4 rfl))))))) fun nt=>.canonS [] rfl rfl rfl .nil
 ·have q:=w1 s (W ++ rowB (colN R) ln i (ln i)) i (ln i) h R ln rc c
  exact Pz.run hm18 none_ok (m:=0) (by kernel_rfl) loops0 (q.trans (bift b1 (biff (by simp) rfl)))
open Go.Proofs
theorem w5 (s W:List UInt8) (i h:Nat) (R:Nat->Nat->Int) (ln:Nat->Nat) (rc:Nat->Option Nat) (c:Option Nat):codeL P18 G18 A18 noneO 0 6 [] (nav [1,1,0,1,2,0,0,2,1,2,2,2,2]) [1,5,6,7] [.str s,pgV R ln h rc c,.str W,.int .i64 (i:Nat)] [] [1,5,6,7,8] =
(
 some ((.normal,[.str s,pgV R ln h rc c,.str W,.int .i64 (.ofNat i),.int .i64 0],[]))):=by kernel_rfl
theorem want6 (s:List UInt8) (h:Nat) (R:Nat->Nat->Int) (ln:Nat->Nat) (rc:Nat->Option Nat) (c:Option Nat) (hh:h<=1000) (hl:∀ i,ln i<=1000) (hR:∀ i j,0<=R i j/\R i j<=100) :
 Pz P18 G18 A18 6 [] [0,2,1,2,2,2,2] [1,5,6,7] [.str s,pgV R ln h rc c,.str [],.int .i64 ((h:Int) - 1 - (0:Nat))] [] (.exit 0) [1,5,6,7] [.str s,pgV R ln h rc c,.str (txtR R ln h),.int .i64 ((h:Int) - 1 - (h:Nat))] []:=by
 refine Pz.count (by kernel_rfl) (fun r=>[.str s,pgV R ln h rc c,.str (txtB (colN R) ln h r),.int .i64 ((h:Int) - 1 - (r:Nat))]) (fun _=>[]) (n:=h) (by simp) (fun r hr=>?_) ?_
 ·have hr:r<h:=hr
  have e0:(h:Int) - 1 - (r:Nat) = ((h - 1 - r:Nat):Int):=by omega
  have e1:(h:Int) - 1 - ((r+1:Nat):Int) = ((h - 1 - r:Nat):Int) - 1:=by omega
  have hlen:=txtB_len (colN R) ln h hl r
  have hk:r * 1001<=1001000:=by omega
  have q3:=(w3 s (txtB (colN R) ln h r) ((h - 1 - r:Nat):Int) h R ln rc c).trans (bift (by simp) rfl)
  have q5:=w5 s (txtB (colN R) ln h r) (h - 1 - r) h R ln rc c
  have pr:=wrow6 s (txtB (colN R) ln h r) (h - 1 - r) h R ln rc c (by omega) hh (hl _) (by omega) (hR _)
  rw [show txtB (colN R) ln h r ++ rowB (colN R) ln (h - 1 - r) 0 = txtB (colN R) ln h r by simp [rowB]] at pr
  have q2:=(w2 s (txtB (colN R) ln h r ++ rowB (colN R) ln (h - 1 - r) (ln (h - 1 - r))) (h - 1 - r) h R ln rc c).trans (bift (bleT (by
   have:=hl (h - 1 - r)
   rw [List.length_append]
   simp only [rowB,List.length_map,List.length_range]
   omega)) rfl)
  have q4:=w4 s (txtB (colN R) ln h (r+1)) (h - 1 - r) h R ln rc c
  rw [wr64 (by rw [ofNatE]; omega) (by rw [ofNatE]; omega)] at q4
  rw [List.append_assoc] at q2
  show Pz P18 G18 A18 6 [] [0,0,2,1,2,2,2,2] [1,5,6,7] [.str s,pgV R ln h rc c,.str (txtB (colN R) ln h r),.int .i64 ((h:Int) - 1 - (r:Nat))] [] .normal [1,5,6,7] [.str s,pgV R ln h rc c,.str (txtB (colN R) ln h (r+1)),.int .i64 ((h:Int) - 1 - ((r+1:Nat):Int))] []
  rw [e0,e1]
  exact Pz.seq (by kernel_rfl) (Pz.run hm18 none_ok (m:=0) (by kernel_rfl) loops0 q3) (Pz.seq (by kernel_rfl) (Pz.blk (id:=1) (e:=.normal) (by kernel_rfl) rfl
   (Pz.seq (by kernel_rfl) (Pz.seq (by kernel_rfl) (Pz.run hm18 none_ok (m:=0) (by kernel_rfl) loops0 q5) (Pz.blk (id:=2) (by kernel_rfl) rfl (Pz.only pr (l2:=[1,5,6,7]) rfl))) (Pz.run hm18 none_ok (m:=0) (by kernel_rfl) loops0 q2)))
   (Pz.run hm18 none_ok (m:=0) (by kernel_rfl) loops0 q4))
 ·exact Pz.seqX (by kernel_rfl) (by simp) (Pz.run hm18 none_ok (m:=0) (by kernel_rfl) loops0 ((w3 s (txtB (colN R) ln h h) ((h:Int) - 1 - (h:Nat)) h R ln rc c).trans (biff (by simp; omega) rfl)))
open Go.Proofs
def kPar (h:Nat) (R:Nat->Nat->Int) (ln:Nat->Nat) (rc:Nat->Option Nat) (_:List T):Option T:=some (.tup [.view 1 h (pcG R ln rc) (some h),.int .i64 0])
def kStr (s:List UInt8) (_:List T):Option T:=some (.str s)
theorem ty13 (p:List T->T->Prop) (s W:List UInt8) (h h2:Nat) (R R2:Nat->Nat->Int) (ln l2:Nat->Nat) (rc r2:Nat->Option Nat) (c:Option Nat):codeL P18 G18 A18 (noneO.add 19 (callF p (kPar h2 R2 l2 r2))) 0 6 [] (nav [1,2,2,2,2,2]) [1,5,6] [.str s,pgV R ln h rc c,.str W] [] [1,5,6,9,10] =
(
 bif decF (p [.str W] (.tup [pgV R2 l2 h2 r2 (some h2),.int .i64 0])) then
 some ((.normal,[.str s,pgV R ln h rc c,.str W,pgV R2 l2 h2 r2 (some h2),.int .i64 0],[]))
 else
 none):=by kernel_rfl
theorem ty14 (p q:List T->T->Prop) (s W W2:List UInt8) (d:Int) (h h2:Nat) (R R2:Nat->Nat->Int) (ln l2:Nat->Nat) (rc r2:Nat->Option Nat) (c:Option Nat):codeL P18 G18 A18 ((noneO.add 20 (callF p (kStr W2))).add 16 (callF q (kInt d))) 0 6 [] (nav [1,2,2,2,2,2,2]) [1,5,6,9,10] [.str s,pgV R ln h rc c,.str W,pgV R2 l2 h2 r2 (some h2),.int .i64 0] [] [1,4] =
(
 bif decF (p [pgV R ln h rc c] (.str W2)) then
 bif !decide (W2 = W) then
 some ((.ret,[.str s,.bool false],[]))
 else
 bif decF (q [pgV R2 l2 h2 r2 (some h2),pgV R ln h rc c] (.int .i64 d)) then
 bif !decide (d = 0) then
 some ((.ret,[.str s,.bool false],[]))
 else
 bif !decide (Int.ofNat h2 = Int.ofNat h2) then
 some ((.ret,[.str s,.bool false],[]))
 else
 some ((.normal,[.str s,.undef],[]))
 else none else
 none):=by kernel_rfl
theorem cutL_line (a b:List UInt8) (h:∀ x,x ∈ a->x ≠ 10):cutL (a ++ 10 :: b) = (a,b,true):=by
 induction a with
 | nil=>simp [cutL]
 | cons x a ih =>
  have hx:=h x (by simp)
  rw [List.cons_append,cutL,if_neg (by simpa using hx),ih fun y hy=>h y (by simp [hy])]
def flatL:List (List UInt8)->List UInt8
 | []=>[]
 | a :: L=>a ++ 10 :: flatL L
theorem lines_flat:∀ L:List (List UInt8),(∀ a,a ∈ L->∀ x,x ∈ a->x ≠ 10)->Lines (flatL L) L
 | [],_=>.nil
 | a :: L,h=>by
  have hc:=cutL_line a (flatL L) (h a (by simp))
  have tl:=lines_flat L fun b hb=>h b (by simp [hb])
  unfold flatL
  cases a with
  | nil=>exact .cons 10 (flatL L) _ _ L hc tl
  | cons x a=>exact .cons x (a ++ 10 :: flatL L) _ _ L hc tl
theorem flatL_snoc (L:List (List UInt8)) (a:List UInt8):flatL (L ++ [a]) = flatL L ++ (a ++ [10]):=by
 induction L with
 | nil=>simp [flatL]
 | cons b L ih=>simp [flatL,ih]
def rowsL (R:Nat->Nat->Nat) (ln:Nat->Nat) (h r:Nat):List (List UInt8):=(List.range r).map fun k=>rowB R ln (h - 1 - k) (ln (h - 1 - k))
theorem txtB_flat (R:Nat->Nat->Nat) (ln:Nat->Nat) (h:Nat):∀ r,txtB R ln h r = flatL (rowsL R ln h r)
 | 0=>rfl
 | r+1=>by
  rw [rowsL,List.range_succ,List.map_append,List.map_cons,List.map_nil,flatL_snoc,txtB,txtB_flat R ln h r]
  rfl
theorem rowB_ten (R:Nat->Nat->Nat) (ln:Nat->Nat) (i k:Nat) (hR:∀ j,R i j<=100):∀ x,x ∈ rowB R ln i k->x ≠ 10:=by
 intro x hx
 unfold rowB at hx
 obtain ⟨j,_,rfl⟩:=List.mem_map.1 hx
 intro e
 have q:=congrArg UInt8.toNat e
 rw [UInt8.toNat_ofNat'] at q
 have:=hR j
 have:(10:UInt8).toNat = 10:=rfl
 omega
theorem lines_txt (R:Nat->Nat->Nat) (ln:Nat->Nat) (h:Nat) (hR:∀ i j,R i j<=100):Lines (txtB R ln h h) (rowsL R ln h h):=by
 rw [txtB_flat]
 refine lines_flat _ fun a ha=>?_
 unfold rowsL at ha
 obtain ⟨k,_,rfl⟩:=List.mem_map.1 ha
 exact rowB_ten R ln _ _ (hR _)
theorem lines_eq {s:List UInt8} {L:List (List UInt8)} (h:Lines s L):s = flatL L:=by
 induction h with
 | nil=>rfl
 | cons c t a b L hc tl ih =>
  rcases cutL_ix (c :: t) with ⟨_,h2⟩ | ⟨i,h1,h2,h3⟩
  ·rw [hc] at h2
   simp at h2
  ·rw [hc] at h3
   simp only [Prod.mk.injEq] at h3
   obtain ⟨q1,q2,_⟩:=h3
   have q:=(Lib.indexByte_some h1).1
   unfold flatL
   rw [← ih,q1,q2]
   obtain ⟨q3,q4⟩:=List.getElem?_eq_some_iff.1 q
   rw [← q4,← List.drop_eq_getElem_cons q3,List.take_append_drop]
theorem cutL_no {s a b:List UInt8} (h:cutL s = (a,b,true)):∀ x,x ∈ a->x ≠ 10:=by
 induction s generalizing a with
 | nil=>simp [cutL] at h
 | cons c t ih =>
  unfold cutL at h
  by_cases q:(c==10) = true
  ·rw [if_pos q] at h
   simp only [Prod.mk.injEq] at h
   obtain ⟨rfl,_⟩:=h
   simp
  ·rw [if_neg q] at h
   simp only [Prod.mk.injEq] at h
   obtain ⟨rfl,h2,h3⟩:=h
   intro x hx
   rcases List.mem_cons.1 hx with rfl | hx
   ·simpa using q
   ·exact ih (a:=(cutL t).1) (by rw [← h2,← h3]) x hx
theorem cutL_none {s:List UInt8} (h:cutL s = (s,[],false)):∀ x,x ∈ s->x ≠ 10:=by
 induction s with
 | nil=>simp
 | cons c t ih =>
  unfold cutL at h
  by_cases q:(c==10) = true
  ·rw [if_pos q] at h
   simp at h
  ·rw [if_neg q] at h
   simp only [Prod.mk.injEq,List.cons.injEq,true_and] at h
   obtain ⟨h1,h2,h3⟩:=h
   intro x hx
   rcases List.mem_cons.1 hx with rfl | hx
   ·simpa using q
   ·exact ih (Prod.ext h1 (Prod.ext h2 h3)) x hx
theorem lines_no {s:List UInt8} {L:List (List UInt8)} (h:Lines s L):∀ a,a ∈ L->∀ x,x ∈ a->x ≠ 10:=by
 induction h with
 | nil=>simp
 | cons c t a b L hc tl ih =>
  intro y hy
  rcases List.mem_cons.1 hy with rfl | hy
  ·exact cutL_no hc
  ·exact ih y hy
def stp (q:List (List UInt8) × List UInt8) (c:UInt8):List (List UInt8) × List UInt8:=if c = 10 then (q.2 :: q.1,[]) else (q.1,q.2 ++ [c])
def scan (s:List UInt8) (i:Nat):List (List UInt8) × List UInt8:=(s.take i).foldl stp ([],[])
theorem scan_zero (s:List UInt8):scan s 0 = ([],[]):=rfl
theorem scan_succ {s:List UInt8} {i:Nat} (hi:i<s.length):scan s (i+1) = stp (scan s i) (s.getD i 0):=by
 unfold scan
 rw [List.take_succ_eq_append_getElem hi,List.foldl_append]
 simp [List.getD,List.getElem?_eq_getElem hi]
theorem scan_le (s:List UInt8):∀ i,i<=s.length->(scan s i).1.length<=i/\(scan s i).2.length<=i/\∀ a,a ∈ (scan s i).1->a.length<=i
 | 0,_=>by simp [scan_zero]
 | i+1,h=>by
  obtain ⟨q1,q2,q3⟩:=scan_le s i (by omega)
  rw [scan_succ (by omega)]
  unfold stp
  by_cases q:s.getD i 0 = 10
  ·rw [if_pos q]
   refine ⟨by simp only [List.length_cons]; omega,by simp,fun a ha=>?_⟩
   rcases List.mem_cons.1 ha with rfl | ha
   ·omega
   ·have:=q3 a ha
    omega
  ·rw [if_neg q]
   refine ⟨by dsimp only; omega,by simp only [List.length_append,List.length_cons,List.length_nil]; omega,fun a ha=>?_⟩
   have:=q3 a ha
   omega
theorem foldl_no (a:List UInt8) (h:∀ x,x ∈ a->x ≠ 10):∀ d c,a.foldl stp (d,c) = (d,c ++ a):=by
 induction a with
 | nil=>simp
 | cons x a ih =>
  intro d c
  rw [List.foldl_cons,stp,if_neg (h x (by simp)),ih fun y hy=>h y (by simp [hy])]
  simp
theorem foldl_flat:∀ (L:List (List UInt8)),(∀ a,a ∈ L->∀ x,x ∈ a->x ≠ 10)->∀ d,(flatL L).foldl stp (d,[]) = (L.reverse ++ d,[])
 | [],_,d=>rfl
 | a :: L,h,d=>by
  unfold flatL
  rw [List.foldl_append,foldl_no a (h a (by simp)),List.foldl_cons,stp,if_pos rfl,foldl_flat L fun b hb=>h b (by simp [hb])]
  simp
theorem scan_lines {s:List UInt8} {L:List (List UInt8)} (h:Lines s L):scan s s.length = (L.reverse,[]):=by
 have e:=lines_eq h
 unfold scan
 rw [List.take_length,e,foldl_flat L (lines_no h),List.append_nil]
theorem last_lines {s:List UInt8} {L:List (List UInt8)} (h:Lines s L) (hL:L ≠ []):s ≠ []/\s.getD (s.length - 1) 0 = 10:=by
 have e:=lines_eq h
 have q:L = L.dropLast ++ [L.getLast hL]:=(List.dropLast_concat_getLast hL).symm
 rw [q,flatL_snoc,← List.append_assoc] at e
 rw [e]
 constructor
 ·simp
 ·rw [List.getD_eq_getElem?_getD,List.length_append,List.getElem?_append_right (by simp)]
  simp
theorem last_none {s:List UInt8} (h:NoLines s):s ≠ []/\s.getD (s.length - 1) 0 ≠ 10:=by
 induction h with
 | here c t hc =>
  refine ⟨by simp,?_⟩
  have q:(c :: t).length - 1<(c :: t).length:=by simp
  rw [List.getD_eq_getElem?_getD,List.getElem?_eq_getElem q]
  exact cutL_none hc _ (List.getElem_mem q)
 | step c t a b hc tl ih =>
  refine ⟨by simp,?_⟩
  rcases cutL_ix (c :: t) with ⟨_,h2⟩ | ⟨i,h1,h2,h3⟩
  ·rw [hc] at h2
   simp at h2
  ·rw [hc] at h3
   simp only [Prod.mk.injEq] at h3
   obtain ⟨q1,q2,_⟩:=h3
   obtain ⟨i1,i2⟩:=ih
   have hb:b.length ≠ 0:=fun q=>i1 (List.length_eq_zero_iff.1 q)
   rw [q2,List.length_drop] at hb
   have e:(c :: t).getD ((c :: t).length - 1) 0 = b.getD (b.length - 1) 0:=by
    rw [List.getD_eq_getElem?_getD,List.getD_eq_getElem?_getD,q2,List.getElem?_drop,List.length_drop]
    congr 2
    omega
   rw [e]
   exact i2
open Go.Proofs
theorem tz20 (s:List UInt8) (x:T) (e:Int) (n v l i:Nat) (g:Nat->Int) (R:Nat->Nat->Int) (ln:Nat->Nat) (rc:Nat->Option Nat):codeL P18 G18 A18 noneO 0 6 [] (nav [1,0,0,2,1,2,2,2,2,2,2,2,2,2,2]) [1,11,12,13,14,15] [.str s,x,.int .i64 e,pgV R ln n rc none,.own 0 v 0 l none,.int .i64 (i:Nat)] [ub v l g] [1,11,12,13,14,15] =
(
 bif decide (Int.ofNat i<Int.ofNat s.length) then
 some ((.normal,[.str s,x,.int .i64 e,pgV R ln n rc
 none,.own 0 v 0 l
 none,.int .i64 (.ofNat i)],[ub v l g]))
 else
 some ((.exit 4,[.str s,x,.int .i64 e,pgV R ln n rc
 none,.own 0 v 0 l
 none,.int .i64 (.ofNat i)],[ub v l g]))):=by kernel_rfl
theorem tz22 (s:List UInt8) (x:T) (e:Int) (n v l i:Nat) (g:Nat->Int) (R:Nat->Nat->Int) (ln:Nat->Nat) (rc:Nat->Option Nat):codeL P18 G18 A18 noneO 0 6 [] (nav [1,0,1,2,0,0,2,1,2,2,2,2,2,2,2,2,2,2]) [1,11,12,13,14,15] [.str s,x,.int .i64 e,pgV R ln n rc none,.own 0 v 0 l none,.int .i64 (i:Nat)] [ub v l g] [1,11,12,13,14,15,93] =
(
 bif decide (0<=Int.ofNat i)&&decide (Int.ofNat i<Int.ofNat s.length) then
 bif decide (Int.ofNat (s.getD i (0:UInt8)).toNat = 10) then
 some ((.normal,[.str s,x,.int .i64 e,pgV R ln n rc
 none,.own 0 v 0 l
 none,.int .i64 (.ofNat i),.bool true],[ub v l g]))
 else
 some ((.normal,[.str s,x,.int .i64 e,pgV R ln n rc
 none,.own 0 v 0 l
 none,.int .i64 (.ofNat i),.bool false],[ub v l g]))
 else
 none):=by kernel_rfl
theorem tz23 (s:List UInt8) (x:T) (e:Int) (n l i:Nat) (g:Nat->Int) (R:Nat->Nat->Int) (ln:Nat->Nat) (rc:Nat->Option Nat):codeL P18 G18 A18 noneO 0 6 [] (nav [2,0,1,2,0,0,2,1,2,2,2,2,2,2,2,2,2,2]) [1,11,12,13,14,15,93] [.str s,x,.int .i64 e,pgV R ln n rc none,.view 1 l (fun j=>[.int .u8 (g j)]) none,.int .i64 (i:Nat),.bool true] [] [1,11,12,13,14,15] =
(
 bif n==(0:Nat) then
 some ((.normal,[.str s,x,.int .i64 e,.own 0 0 0 1 (some 1),.own 1 0 0 0 (some 0),.int .i64 (.ofNat i)],[.mk 0 1 1 (fun j=>[[rowV g l
 none]].getD j []) false true
 none,.mk 0 1 0 (fun j=>[]) true true
 none]))
 else
 bif (((1:Nat)+n) * (25:Nat)).ble 70368744177664 then
 bif ((1:Nat)+n).ble 1 then
 bif ((1:Nat)+n).ble 1 then
 some ((.normal,[.str s,x,.int .i64 e,.own 0 0 0 (1+n) (some 1),.own 1 0 0 0 (some 0),.int .i64 (.ofNat i)],[.mk 0 1 1 (fun j =>
 bif Nat.ble 1 j&&j.blt (1+n) then pcG R ln rc (j - 1)
 else [[rowV g l
 none]].getD j []) false true
 none,.mk 0 1 0 (fun j=>[]) true true
 none]))
 else none else
 some ((.normal,[.str s,x,.int .i64 e,.own 1 0 0 (1+n)
 none,.own 2 0 0 0 (some 0),.int .i64 (.ofNat i)],[.mk 0 1 1 (fun j=>[[rowV g l
 none]].getD j []) false true
 none,.mk 0 1 (1+n) (fun j =>
 bif j.blt 1 then [[rowV g l
 none]].getD (0+j) []
 else pcG R ln rc (j - 1)) false false
 none,.mk 0 1 0 (fun j=>[]) true true
 none]))
 else
 none):=by kernel_rfl
theorem tz25 (s:List UInt8) (x:T) (e:Int) (n v l i:Nat) (g:Nat->Int) (R:Nat->Nat->Int) (ln:Nat->Nat) (rc:Nat->Option Nat):codeL P18 G18 A18 noneO 0 6 [] (nav [2,0,1,2,0,0,2,1,2,2,2,2,2,2,2,2,2,2]) [1,11,12,13,14,15,93] [.str s,x,.int .i64 e,pgV R ln n rc none,.own 0 v 0 l none,.int .i64 (i:Nat),.bool false] [ub v l g] [1,11,12,13,14,15] =
(
 bif decide (0<=Int.ofNat i)&&decide (Int.ofNat i<Int.ofNat s.length) then
 bif v==v&&true then
 bif ((0:Nat)+l).ble l then
 bif ((l+(1:Nat)) * (2:Nat)).ble 70368744177664 then
 bif ((0:Nat)+l+(1:Nat)).ble l then
 some ((.normal,[.str s,x,.int .i64 e,pgV R ln n rc
 none,.own 0 v 0 (l+1)
 none,.int .i64 (.ofNat i)],[.mk v 1 l (fun j =>
 bif ((0:Nat)+l).ble j&&j.blt (0+l+1) then [[T.int .u8 (IntKind.u8.wrap (Int.ofNat (s.getD i (0:UInt8)).toNat - (48:Int)))]].getD ((0:Nat)+(j - (0+l))) []
 else [.int .u8 (g j)]) true false
 none,.mk 0 1 1 (fun j=>[[T.int .u8 (IntKind.u8.wrap (Int.ofNat (s.getD i (0:UInt8)).toNat - (48:Int)))]].getD j []) true true
 none]))
 else
 some ((.normal,[.str s,x,.int .i64 e,pgV R ln n rc
 none,.own 0 (v+1) (0:Nat) (l+1)
 none,.int .i64 (.ofNat i)],[.mk (v+1) (1:Nat) (l+1) (fun j =>
 bif j.blt l then [.int .u8 (g (0+j))]
 else [[T.int .u8 (IntKind.u8.wrap (Int.ofNat (s.getD i (0:UInt8)).toNat - (48:Int)))]].getD ((0:Nat)+(j - l)) []) true false
 none,.mk 0 1 1 (fun j=>[[T.int .u8 (IntKind.u8.wrap (Int.ofNat (s.getD i (0:UInt8)).toNat - (48:Int)))]].getD j []) true true
 none]))
 else none else none else none else
 none):=by kernel_rfl
theorem tz21 (s:List UInt8) (x:T) (e:Int) (n v l i:Nat) (g:Nat->Int) (R:Nat->Nat->Int) (ln:Nat->Nat) (rc:Nat->Option Nat):codeL P18 G18 A18 noneO 0 6 [] (nav [2,2,0,0,2,1,2,2,2,2,2,2,2,2,2,2]) [1,11,12,13,14,15] [.str s,x,.int .i64 e,pgV R ln n rc none,.own 0 v 0 l none,.int .i64 (i:Nat)] [ub v l g] [1,11,12,13,14,15] =
(
 some ((.normal,[.str s,x,.int .i64 e,pgV R ln n rc
 none,.own 0 v 0 l
 none,.int .i64 (IntKind.i64.wrap (Int.ofNat i+1))],[ub v l g]))):=by kernel_rfl
end Go.Ab

