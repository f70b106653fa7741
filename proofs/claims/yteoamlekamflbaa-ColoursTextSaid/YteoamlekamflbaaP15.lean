/- A part of the proof: nothing is assumed. -/
import Derived.Test.YteoamlekamflbaaP13
import Derived.Test.YteoamlekamflbaaP14
import Derived.Test.YteoamlekamflbaaP6
set_option linter.all false
namespace Go.Ab
open Go.Proofs
def pcG (R:Nat->Nat->Int) (ln:Nat->Nat) (rc:Nat->Option Nat) (j:Nat):List T:=[.view 1 (ln j) (fun e=>[.int .u8 (R j e)]) (rc j)]
def pcB (v m:Nat) (R:Nat->Nat->Int) (ln:Nat->Nat) (rc:Nat->Option Nat):Blk:=⟨v,1,m,pcG R ln rc,false,false,none⟩
theorem r32 (v m n a b:Nat) (R:Nat->Nat->Int) (ln:Nat->Nat) (rc:Nat->Option Nat):codeL P18 G18 A18 noneO 0 32 [] (nav [0,0,2]) [0,2,3] [.own 0 v 0 n none,.int .i64 (a:Nat),.int .i64 (b:Nat)] [pcB v m R ln rc] [0,2,3] =
(
 bif decide (Int.ofNat a<Int.ofNat b) then
 bif v==v&&true then
 bif decide (0<=Int.ofNat b)&&decide (Int.ofNat b<Int.ofNat n) then
 bif v==v&&true then
 bif ((0:Nat)+b).blt m then
 bif v==v&&true then
 bif decide (0<=Int.ofNat a)&&decide (Int.ofNat a<Int.ofNat n) then
 bif v==v&&true then
 bif ((0:Nat)+a).blt m then
 bif v==v&&true then
 bif decide (0<=Int.ofNat a)&&decide (Int.ofNat a<Int.ofNat n) then
 bif v==v&&true then
 bif ((0:Nat)+a).blt m&&true&&true&&true then
 bif v==v&&true then
 bif decide (0<=Int.ofNat b)&&decide (Int.ofNat b<Int.ofNat n) then
 bif v==v&&true then
 bif ((0:Nat)+b).blt m&&true&&true&&true then
 some ((.normal,[.own 0 v 0 n
 none,.int .i64 (IntKind.i64.wrap (Int.ofNat a+1)),.int .i64 (IntKind.i64.wrap (Int.ofNat b - 1))],[.mk v 1 m (fun e=>[bif e==0+b then rowV (R (0+a)) (ln (0+a)) (rc (0+a))
 else
 bif e==0+a then rowV (R (0+b)) (ln (0+b)) (rc (0+b))
 else rowV (R e) (ln e) (rc e)]) false false
 none]))
 else none else none else none else none else none else none else none else none else none else none else none else none else none else none else none else none else
 some ((.exit 0,[.own 0 v 0 n
 none,.int .i64 (.ofNat a),.int .i64 (.ofNat b)],[pcB v m R ln rc]))):=by kernel_rfl
theorem r32s (v m n:Nat) (R:Nat->Nat->Int) (ln:Nat->Nat) (rc:Nat->Option Nat):codeL P18 G18 A18 noneO 0 32 [] (nav [1]) [0] [.own 0 v 0 n none] [pcB v m R ln rc] [0,2,3] =
(
 bif v==v&&true then
 some ((.normal,[.own 0 v 0 n
 none,.int .i64 0,.int .i64 (IntKind.i64.wrap (Int.ofNat n - 1))],[pcB v m R ln rc]))
 else
 none):=by kernel_rfl
def sgR (n i j:Nat):Nat:=if j<i ∨ (n<=j+i/\j<n) then n - 1 - j else j
theorem revP (v m n:Nat) (R:Nat->Nat->Int) (ln:Nat->Nat) (rc:Nat->Option Nat) (h1:1<=n) (hm:n<=m) (hb:m<=100000) :
 ToldRef P18 G18 32 [.own 0 v 0 n none] [pcB v m R ln rc] (.tup []) [pcB v m (fun j=>R (sgR n (n / 2) j)) (fun j=>ln (sgR n (n / 2) j)) (fun j=>rc (sgR n (n / 2) j))]:=by
 have hl:Pz P18 G18 A18 32 [pcB v m R ln rc] [0,2] [0,2,3] [.own 0 v 0 n none,.int .i64 (0:Nat),.int .i64 ((n - 1 - 0:Nat):Int)] [pcB v m (fun j=>R (sgR n 0 j)) (fun j=>ln (sgR n 0 j)) (fun j=>rc (sgR n 0 j))] (.exit 0) [0,2,3] [.own 0 v 0 n none,.int .i64 ((n / 2:Nat):Int),.int .i64 ((n - 1 - n / 2:Nat):Int)] [pcB v m (fun j=>R (sgR n (n / 2) j)) (fun j=>ln (sgR n (n / 2) j)) (fun j=>rc (sgR n (n / 2) j))]:=by
  refine Pz.count (by kernel_rfl) (fun i=>[.own 0 v 0 n none,.int .i64 (i:Nat),.int .i64 ((n - 1 - i:Nat):Int)]) (fun i=>[pcB v m (fun j=>R (sgR n i j)) (fun j=>ln (sgR n i j)) (fun j=>rc (sgR n i j))]) (n:=n / 2) (by simp) (fun i hi=>?_) ?_
  ·have hi:i<n / 2:=hi
   have c:=r32 v m n i (n - 1 - i) (fun j=>R (sgR n i j)) (fun j=>ln (sgR n i j)) (fun j=>rc (sgR n i j))
   have e1:IntKind.i64.wrap (Int.ofNat i+1) = ((i+1:Nat):Int):=up1 (by omega)
   have e2:IntKind.i64.wrap (Int.ofNat (n - 1 - i) - 1) = ((n - 1 - (i+1):Nat):Int):=by
    rw [wr64 (by rw [ofNatE]; omega) (by rw [ofNatE]; omega),ofNatE]
    omega
   rw [e1,e2] at c
   have bb:(v==v&&true) = true:=by simp
   have b1:(decide ((0:Int)<=Int.ofNat (n - 1 - i))&&decide (Int.ofNat (n - 1 - i)<Int.ofNat n)) = true:=by simp; omega
   have b2:Nat.blt (0+(n - 1 - i)) m = true:=bltT (by omega)
   have b3:(decide ((0:Int)<=Int.ofNat i)&&decide (Int.ofNat i<Int.ofNat n)) = true:=by simp; omega
   have b4:Nat.blt (0+i) m = true:=bltT (by omega)
   have b5:(Nat.blt (0+i) m&&true&&true&&true) = true:=by rw [b4]; rfl
   have b6:(Nat.blt (0+(n - 1 - i)) m&&true&&true&&true) = true:=by rw [b2]; rfl
   have b0:decide (Int.ofNat i<Int.ofNat (n - 1 - i)) = true:=by simp; omega
   have c2:=c.trans (bift b0 (bift bb (bift b1 (bift bb (bift b2 (bift bb (bift b3 (bift bb (bift b4 (bift bb (bift b3 (bift bb (bift b5 (bift bb (bift b1 (bift bb (bift b6 rfl)))))))))))))))))
   refine Pz.post (Pz.run hm18 none_ok (m:=0) (by kernel_rfl) loops0 c2) fun nt=>.same (.cons ⟨rfl,rfl,rfl,id,fun e he=>?_⟩ .nil)
   have he:e<m:=he
   show [rowV (R (sgR n (i+1) e)) (ln (sgR n (i+1) e)) (rc (sgR n (i+1) e))] = [bif e==0+(n - 1 - i) then rowV (R (sgR n i (0+i))) (ln (sgR n i (0+i))) (rc (sgR n i (0+i))) else bif e==0+i then rowV (R (sgR n i (0+(n - 1 - i)))) (ln (sgR n i (0+(n - 1 - i)))) (rc (sgR n i (0+(n - 1 - i)))) else rowV (R (sgR n i e)) (ln (sgR n i e)) (rc (sgR n i e))]
   rw [Nat.zero_add,Nat.zero_add]
   by_cases q1:e = n - 1 - i
   ·rw [show (e==n - 1 - i) = true by simpa using q1,cond_true,show sgR n (i+1) e = sgR n i i by unfold sgR; rw [if_pos (by omega),if_neg (by omega)]; omega]
   ·rw [show (e==n - 1 - i) = false by simpa using q1,cond_false]
    by_cases q2:e = i
    ·rw [show (e==i) = true by simpa using q2,cond_true,show sgR n (i+1) e = sgR n i (n - 1 - i) by unfold sgR; rw [if_pos (by omega),if_neg (by omega)]; omega]
    ·have e3:sgR n (i+1) e = sgR n i e:=by
      unfold sgR
      by_cases q3:e<i ∨ (n<=e+i/\e<n)
      ·rw [if_pos q3,if_pos (by omega)]
      ·rw [if_neg q3,if_neg (by omega)]
     rw [show (e==i) = false by simpa using q2,cond_false,e3]
  ·have c:=r32 v m n (n / 2) (n - 1 - n / 2) (fun j=>R (sgR n (n / 2) j)) (fun j=>ln (sgR n (n / 2) j)) (fun j=>rc (sgR n (n / 2) j))
   have b0:¬ decide (Int.ofNat (n / 2)<Int.ofNat (n - 1 - n / 2)) = true:=by simp; omega
   exact Pz.run hm18 none_ok (m:=0) (by kernel_rfl) loops0 (c.trans (biff b0 rfl))
 have s0:=r32s v m n R ln rc
 have e0:IntKind.i64.wrap (Int.ofNat n - 1) = ((n - 1 - 0:Nat):Int):=by
  rw [wr64 (by rw [ofNatE]; omega) (by rw [ofNatE]; omega),ofNatE]
  omega
 rw [e0] at s0
 have s1:=s0.trans (bift (by simp) rfl)
 have z:sgR n 0 = fun j=>j:=by
  funext j
  unfold sgR
  rw [if_neg (by omega)]
 rw [z] at hl
 exact Pz.toldRefN hn18 Try.func32 (by kernel_rfl) (by kernel_rfl) (l:=[0]) rfl (Pz.seq (by kernel_rfl) (Pz.run hm18 none_ok (m:=0) (by kernel_rfl) loops0 s1) (Pz.blk (id:=0) (by kernel_rfl) rfl (Pz.only hl (l2:=[]) rfl))) (by kernel_rfl)
open Go.Proofs
def kCut (a b:List UInt8) (f:Bool) (_:List T):Option T:=some (.tup [.str a,.str b,.bool f])
def bB (n:Nat) (x:Nat->Int):Blk:=⟨0,1,n,fun j=>[.int .u8 (x j)],true,false,none⟩
theorem u1 (c:UInt8) (t:List UInt8) (v m n:Nat) (R:Nat->Nat->Int) (ln:Nat->Nat) (rc:Nat->Option Nat):codeL P18 G18 A18 noneO 0 19 [] (nav [1,0,0,1,2,2]) [0,4] [.str (c :: t),.own 0 v 0 n none] [pcB v m R ln rc] [0,4] =
(
 some ((.normal,[.str (c :: t),.own 0 v 0 n
 none],[pcB v m R ln rc]))):=by kernel_rfl
theorem u2 (p:List T->T->Prop) (s a b:List UInt8) (f:Bool) (v m n:Nat) (R:Nat->Nat->Int) (ln:Nat->Nat) (rc:Nat->Option Nat):codeL P18 G18 A18 (noneO.add 31 (callF p (kCut a b f))) 0 19 [] (nav [1,0,2,0,0,1,2,2]) [0,4] [.str s,.own 0 v 0 n none] [pcB v m R ln rc] [4,5,6,7] =
(
 bif decF (p [.str s,.str [(10:UInt8)]] (.tup [.str a,.str b,.bool f])) then
 bif f then
 some ((.normal,[.own 0 v 0 n
 none,.str a,.str b,.bool true],[pcB v m R ln rc]))
 else
 some ((.normal,[.own 0 v 0 n
 none,.str a,.str b,.bool false],[pcB v m R ln rc]))
 else
 none):=by kernel_rfl
theorem u3 (a b:List UInt8) (v m n:Nat) (R:Nat->Nat->Int) (ln:Nat->Nat) (rc:Nat->Option Nat):codeL P18 G18 A18 noneO 0 19 [] (nav [1,2,0,2,0,0,1,2,2]) [4,5,6,7] [.own 0 v 0 n none,.str a,.str b,.bool true] [pcB v m R ln rc] [4,5,6] =
(
 some ((.normal,[.own 0 v 0 n
 none,.str a,.str b],[pcB v m R ln rc]))):=by kernel_rfl
theorem u6 (a b:List UInt8) (v m n:Nat) (R:Nat->Nat->Int) (ln:Nat->Nat) (rc:Nat->Option Nat):codeL P18 G18 A18 noneO 0 19 [] (nav [1,2,2,0,2,0,0,1,2,2]) [4,5,6] [.own 0 v 0 n none,.str a,.str b] [pcB v m R ln rc] [4,5,6,8] =
(
 bif decide (0<=Int.ofNat a.length)&&decide (Int.ofNat a.length<=Int.ofNat a.length)&&decide (Int.ofNat a.length * 1<=140737488355328)&&decide (Int.ofNat a.length<=9223372036854775807) then
 some ((.normal,[.own 0 v 0 n
 none,.str a,.str b,.own 1 0 0 a.length (some a.length)],[pcB v m R ln rc,bB a.length fun j=>(0:Int)]))
 else
 none):=by kernel_rfl
theorem u8 (a b:List UInt8) (l i:Nat) (x:Nat->Int) (v m n:Nat) (R:Nat->Nat->Int) (ln:Nat->Nat) (rc:Nat->Option Nat):codeL P18 G18 A18 noneO 0 19 [] (nav [0,0,2,1,2,2,2,0,2,0,0,1,2,2]) [4,5,6,8,24,25] [.own 0 v 0 n none,.str a,.str b,.own 1 0 0 l (some l),.int .i64 (l:Nat),.int .i64 (i:Nat)] [pcB v m R ln rc,bB l x] [4,5,6,8,24,25] =
(
 bif decide (Int.ofNat i<Int.ofNat l) then
 bif decide (0<=Int.ofNat i)&&decide (Int.ofNat i<Int.ofNat a.length) then
 bif decide (0<=Int.ofNat i)&&decide (Int.ofNat i<Int.ofNat l) then
 bif ((0:Nat)+i).blt l&&true&&true&&true then
 some ((.normal,[.own 0 v 0 n
 none,.str a,.str b,.own 1 0 0 l (some l),.int .i64 (.ofNat l),.int .i64 (IntKind.i64.wrap (Int.ofNat i+1))],[pcB v m R ln rc,bB l fun j =>
 bif j==0+i then IntKind.u8.wrap (Int.ofNat (a.getD i (0:UInt8)).toNat - 48)
 else x j]))
 else none else none else none else
 some ((.exit 2,[.own 0 v 0 n
 none,.str a,.str b,.own 1 0 0 l (some l),.int .i64 (.ofNat l),.int .i64 (.ofNat i)],[pcB v m R ln rc,bB l x]))):=by kernel_rfl
theorem u12 (b:List UInt8) (l k:Nat) (v m n:Nat) (R:Nat->Nat->Int) (ln:Nat->Nat) (rc:Nat->Option Nat) (x:Nat->Int):codeL P18 G18 A18 noneO 0 19 [] (nav [1,2,2,2,2,0,2,0,0,1,2,2]) [4,6,8] [.own 0 v 0 n none,.str b,.view 1 l (fun j=>[.int .u8 (x j)]) (some k)] [pcB v m R ln rc] [4,6] =
(
 bif v==v&&true then
 bif ((0:Nat)+n).ble m then
 bif ((n+(1:Nat)) * (25:Nat)).ble 70368744177664 then
 bif ((0:Nat)+n+(1:Nat)).ble m then
 some ((.normal,[.own 0 v 0 (n+1)
 none,.str b],[.mk v 1 m (fun j =>
 bif ((0:Nat)+n).ble j&&j.blt (0+n+1) then [[rowV x l (some k)]].getD ((0:Nat)+(j - (0+n))) []
 else pcG R ln rc j) false false
 none,.mk 0 1 1 (fun j=>[[rowV x l (some k)]].getD j []) false true
 none]))
 else
 some ((.normal,[.own 0 (v+1) (0:Nat) (n+1)
 none,.str b],[.mk (v+1) (1:Nat) (n+1) (fun j =>
 bif j.blt n then pcG R ln rc (0+j)
 else [[rowV x l (some k)]].getD ((0:Nat)+(j - n)) []) false false
 none,.mk 0 1 1 (fun j=>[[rowV x l (some k)]].getD j []) false true
 none]))
 else none else none else
 none):=by kernel_rfl
theorem u7 (a b:List UInt8) (l:Nat) (x:Nat->Int) (v m n:Nat) (R:Nat->Nat->Int) (ln:Nat->Nat) (rc:Nat->Option Nat):codeL P18 G18 A18 noneO 0 19 [] (nav [1,1,2,2,2,0,2,0,0,1,2,2]) [4,5,6,8] [.own 0 v 0 n none,.str a,.str b,.own 1 0 0 l (some l)] [pcB v m R ln rc,bB l x] [4,5,6,8,24,25] =
(
 some ((.normal,[.own 0 v 0 n
 none,.str a,.str b,.own 1 0 0 l (some l),.int .i64 (.ofNat l),.int .i64 0],[pcB v m R ln rc,bB l x]))):=by kernel_rfl
theorem u13 (b:List UInt8) (v m n:Nat) (R:Nat->Nat->Int) (ln:Nat->Nat) (rc:Nat->Option Nat):codeL P18 G18 A18 noneO 0 19 [] (nav [2,2,2,2,2,0,2,0,0,1,2,2]) [4,6] [.own 0 v 0 n none,.str b] [pcB v m R ln rc] [0,4] =
(
 some ((.normal,[.str b,.own 0 v 0 n
 none],[pcB v m R ln rc]))):=by kernel_rfl
def dig (a:List UInt8) (j:Nat):Int:=IntKind.u8.wrap (Int.ofNat (a.getD j 0).toNat - 48)
def digU (a:List UInt8) (i j:Nat):Int:=if j<i then dig a j else 0
theorem fill19 (a b:List UInt8) (v m n:Nat) (R:Nat->Nat->Int) (ln:Nat->Nat) (rc:Nat->Option Nat) (ha:a.length<=1000000) :
 Pz P18 G18 A18 19 [] [0,2,1,2,2,2,0,2,0,0,1,2,2] [4,5,6,8,24,25] [.own 0 v 0 n none,.str a,.str b,.own 1 0 0 a.length (some a.length),.int .i64 (a.length:Nat),.int .i64 (0:Nat)] [pcB v m R ln rc,bB a.length (digU a 0)] (.exit 2) [4,5,6,8,24,25]
  [.own 0 v 0 n none,.str a,.str b,.own 1 0 0 a.length (some a.length),.int .i64 (a.length:Nat),.int .i64 (a.length:Nat)] [pcB v m R ln rc,bB a.length (digU a a.length)]:=by
 refine Pz.count (by kernel_rfl) (fun i=>[.own 0 v 0 n none,.str a,.str b,.own 1 0 0 a.length (some a.length),.int .i64 (a.length:Nat),.int .i64 (i:Nat)]) (fun i=>[pcB v m R ln rc,bB a.length (digU a i)]) (n:=a.length) (by simp) (fun i hi=>?_) ?_
 ·have hi:i<a.length:=hi
  have c:=u8 a b a.length i (digU a i) v m n R ln rc
  rw [up1 (by omega)] at c
  have b1:decide (Int.ofNat i<Int.ofNat a.length) = true:=by simp; omega
  have b2:(decide ((0:Int)<=Int.ofNat i)&&decide (Int.ofNat i<Int.ofNat a.length)) = true:=by simp; omega
  have b3:(Nat.blt (0+i) a.length&&true&&true&&true) = true:=by rw [bltT (by omega)]; rfl
  refine Pz.post (Pz.run hm18 none_ok (m:=0) (by kernel_rfl) loops0 (c.trans (bift b1 (bift b2 (bift b2 (bift b3 rfl)))))) fun nt=>.same (.cons ⟨rfl,rfl,rfl,id,fun _ _=>rfl⟩ (.cons ⟨rfl,rfl,rfl,id,fun j hj=>?_⟩ .nil))
  show [T.int .u8 (digU a (i+1) j)] = [T.int .u8 (bif j==0+i then dig a i else digU a i j)]
  rw [Nat.zero_add]
  by_cases q:j = i
  ·rw [show (j==i) = true by simpa using q,cond_true,q,digU,if_pos (by omega)]
  ·rw [show (j==i) = false by simpa using q,cond_false]
   unfold digU
   by_cases q2:j<i
   ·rw [if_pos (by omega),if_pos q2]
   ·rw [if_neg (by omega),if_neg q2]
 ·have c:=u8 a b a.length a.length (digU a a.length) v m n R ln rc
  exact Pz.run hm18 none_ok (m:=0) (by kernel_rfl) loops0 (c.trans (biff (by simp) rfl))
open Go.Proofs
def rowX (a:List UInt8) (j:Nat):Int:=digU a a.length (0+j)
def exR (n:Nat) (R:Nat->Nat->Int) (a:List UInt8) (j:Nat):Nat->Int:=if j<n then R j else rowX a
def exL (n:Nat) (ln:Nat->Nat) (a:List UInt8) (j:Nat):Nat:=if j<n then ln j else a.length
def exC (n:Nat) (rc:Nat->Option Nat) (a:List UInt8) (j:Nat):Option Nat:=if j<n then rc j else some a.length
theorem zz19 (n l:Nat) (x:Nat->Int) (R:Nat->Nat->Int) (ln:Nat->Nat) (rc:Nat->Option Nat):some (ren [0] [pcB n n R ln rc,bB l x] (.own 1 0 0 l (some l))) =
(
 some (bif ((0:Nat)+l).ble l then wrow l fun j=>x (0+j)
 else .undef)):=by kernel_rfl
theorem round19 (c:UInt8) (t a b:List UInt8) (n:Nat) (R:Nat->Nat->Int) (ln:Nat->Nat) (rc:Nat->Option Nat) (hn:n<=1000000) (hs:(c :: t).length<=1000000) (ha:a.length<=1000000) (hc:cutL (c :: t) = (a,b,true)) :
 Pz P18 G18 A18 19 [] [0,0,1,2,2] [0,4] [.str (c :: t),.own 0 n 0 n none] [pcB n n R ln rc] .normal [0,4] [.str b,.own 0 (n+1) 0 (n+1) none] [pcB (n+1) (n+1) (exR n R a) (exL n ln a) (exC n rc a)]:=by
 obtain ⟨p,hp⟩:∃ p:List T->T->Prop,p = ToldOk P18 G18 31:=⟨_,rfl⟩
 have t31:=cut31 (c :: t) hs
 unfold cutT at t31
 rw [hc] at t31
 have z:(fun _=>(0:Int)) = digU a 0:=by funext j; simp [digU]
 have w6:=u6 a b n n n R ln rc
 rw [z] at w6
 have k6:=w6.trans (bift (by simp; omega) rfl)
 have k2:=(u2 p (c :: t) a b true n n n R ln rc).trans (bift (callF_yes hp t31) rfl)
 have bb:(n==n&&true) = true:=by simp
 have b1:Nat.ble (0+n) n = true:=bleT (by omega)
 have b2:Nat.ble ((n+1) * 25) 70368744177664 = true:=bleT (by omega)
 have b3:¬ Nat.ble (0+n+1) n = true:=by rw [bleF (by omega)]; simp
 have r1:ren [0] [pcB n n R ln rc,bB a.length (digU a a.length)] (.own 1 0 0 a.length (some a.length)) = .view 1 a.length (fun j=>[.int .u8 (rowX a j)]) (some a.length):=by
  have q:=zz19 n a.length (digU a a.length) R ln rc
  rw [bleT (show 0+a.length<=a.length by omega)] at q
  exact Option.some.inj q
 have k12:=(u12 b a.length a.length n n n R ln rc (rowX a)).trans (bift bb (bift b1 (bift b2 (biff b3 rfl))))
 refine Pz.seq (by kernel_rfl) (Pz.run hm18 none_ok (m:=0) (by kernel_rfl) loops0 (u1 c t n n n R ln rc)) (Pz.blk (id:=1) (e:=.normal) (by kernel_rfl) rfl ?_)
 refine Pz.seq (by kernel_rfl) (Pz.run hm18 (told_add none_ok (callF_told hp)) (m:=0) (by kernel_rfl) loops0 k2) (Pz.seq (by kernel_rfl) (Pz.run hm18 none_ok (m:=0) (by kernel_rfl) loops0 (u3 a b n n n R ln rc)) ?_)
 refine Pz.seq (by kernel_rfl) (Pz.run hm18 none_ok (m:=0) (by kernel_rfl) loops0 k6) (Pz.seq (by kernel_rfl) (l1:=[4,6,8]) (v1:=[.own 0 n 0 n none,.str b,.view 1 a.length (fun j=>[.int .u8 (rowX a j)]) (some a.length)]) (h1:=[pcB n n R ln rc]) ?_ ?_)
 ·refine Pz.seq (by kernel_rfl) (Pz.run hm18 none_ok (m:=0) (by kernel_rfl) loops0 (u7 a b a.length (digU a 0) n n n R ln rc)) (Pz.blk (id:=2) (by kernel_rfl) rfl (Pz.post (Pz.only (fill19 a b n n n R ln rc ha) (l2:=[4,6,8]) rfl) fun nt=>.canonS [0] rfl (by
   show [ren [0] [pcB n n R ln rc,bB a.length (digU a a.length)] (.own 0 n 0 n none),ren [0] [pcB n n R ln rc,bB a.length (digU a a.length)] (.str b),ren [0] [pcB n n R ln rc,bB a.length (digU a a.length)] (.own 1 0 0 a.length (some a.length))] = _
   rw [r1]
   rfl) rfl (.cons ⟨rfl,rfl,rfl,id,fun _ _=>rfl⟩ .nil)))
 ·refine Pz.seq (by kernel_rfl) (Pz.post (Pz.run hm18 none_ok (m:=0) (by kernel_rfl) loops0 k12) (v2:=[.own 0 (n+1) 0 (n+1) none,.str b]) (h2:=[pcB (n+1) (n+1) (exR n R a) (exL n ln a) (exC n rc a)]) fun nt=>.canonS [0] rfl rfl rfl (.cons ⟨rfl,rfl,rfl,id,fun j hj=>?_⟩ .nil)) (Pz.run hm18 none_ok (m:=0) (by kernel_rfl) loops0 (u13 b (n+1) (n+1) (n+1) (exR n R a) (exL n ln a) (exC n rc a)))
  have hj:j<n+1:=hj
  show pcG (exR n R a) (exL n ln a) (exC n rc a) j = List.map (ren0 [0] _) (bif Nat.blt j n then pcG R ln rc (0+j) else [[rowV (rowX a) a.length (some a.length)]].getD (0+(j - n)) [])
  unfold pcG exR exL exC
  by_cases q:j<n
  ·rw [bltT q,cond_true,Nat.zero_add,if_pos q,if_pos q,if_pos q]
   rfl
  ·obtain rfl:j = n:=by omega
   rw [bltF (Nat.le_refl _),cond_false,Nat.sub_self,if_neg q,if_neg q,if_neg q]
   rfl
open Go.Proofs
inductive Lines:List UInt8->List (List UInt8)->Prop
 | nil:Lines [] []
 | cons (c:UInt8) (t a b:List UInt8) (L:List (List UInt8)) (h:cutL (c :: t) = (a,b,true)) (tl:Lines b L):Lines (c :: t) (a :: L)
def rwL (L:List (List UInt8)) (j:Nat):List UInt8:=L.getD j []
def RL (L:List (List UInt8)) (j:Nat):Nat->Int:=rowX (rwL L j)
def lL (L:List (List UInt8)) (j:Nat):Nat:=(rwL L j).length
def cL (L:List (List UInt8)) (j:Nat):Option Nat:=some (rwL L j).length
theorem cutL_len {s a b:List UInt8} {f:Bool} (h:cutL s = (a,b,f)):a.length<=s.length/\b.length<=s.length:=by
 rcases cutL_ix s with ⟨_,h2⟩ | ⟨i,_,h2,h3⟩
 ·rw [h] at h2
  simp only [Prod.mk.injEq] at h2
  obtain ⟨rfl,rfl,_⟩:=h2
  simp
 ·rw [h] at h3
  simp only [Prod.mk.injEq] at h3
  obtain ⟨rfl,rfl,_⟩:=h3
  simp only [List.length_take,List.length_drop]
  omega
theorem u0 (v m n:Nat) (R:Nat->Nat->Int) (ln:Nat->Nat) (rc:Nat->Option Nat):codeL P18 G18 A18 noneO 0 19 [] (nav [1,0,0,1,2,2]) [0,4] [.str [],.own 0 v 0 n none] [pcB v m R ln rc] [4] =
(
 some ((.exit 0,[.own 0 v 0 n
 none],[pcB v m R ln rc]))):=by kernel_rfl
theorem loop19 (L:List (List UInt8)) (s:List UInt8) (hL:Lines s L) (hs:s.length<=1000000) (hl:L.length<=1000000) :
 Pz P18 G18 A18 19 [] [0,1,2,2] [0,4] [.str s,.own 0 0 0 0 none] [pcB 0 0 (RL L) (lL L) (cL L)] (.exit 0) [4] [.own 0 L.length 0 L.length none] [pcB L.length L.length (RL L) (lL L) (cL L)]:=by
 obtain ⟨e',vs',h',⟨rfl,rfl,rfl⟩,q⟩:=Pz.loop (P:=P18) (G:=G18) (A:=A18) (f:=19) (h0:=[]) (p:=[0,1,2,2]) (l:=[0,4]) (l1:=[4]) (by kernel_rfl)
  (fun m vs h=>∃ n s,Lines s (L.drop n)/\m = L.length - n/\n<=L.length/\s.length<=1000000/\vs = [.str s,.own 0 n 0 n none]/\h = [pcB n n (RL L) (lL L) (cL L)])
  (fun e' vs' h'=>e' = .exit 0/\vs' = [.own 0 L.length 0 L.length none]/\h' = [pcB L.length L.length (RL L) (lL L) (cL L)]) (fun m vs h hI=>by
  obtain ⟨n,s,hLn,rfl,hn,hsl,rfl,rfl⟩:=hI
  generalize hM:L.drop n = M at hLn
  cases hLn with
  | nil =>
   have:n = L.length:=by
    have:=List.drop_eq_nil_iff.1 hM
    omega
   subst this
   exact .inr ⟨.exit 0,_,_,by simp,Pz.seqX (by kernel_rfl) (by simp) (Pz.run hm18 none_ok (m:=0) (by kernel_rfl) loops0 (u0 L.length L.length L.length (RL L) (lL L) (cL L))),rfl,rfl,rfl⟩
  | cons c t a b M2 hc tl =>
   obtain ⟨k1,k2⟩:=cutL_len hc
   have hlt:n<L.length:=by
    rcases Nat.lt_or_ge n L.length with q | q
    ·exact q
    ·rw [List.drop_eq_nil_of_le q] at hM; cases hM
   have ha:rwL L n = a:=by
    have e:(L.drop n)[0]? = L[n]?:=by rw [List.getElem?_drop,Nat.add_zero]
    rw [hM] at e
    unfold rwL
    rw [List.getD_eq_getElem?_getD,← e]
    rfl
   have h2:L.drop (n+1) = M2:=by
    rw [← List.drop_drop,hM]
    rfl
   refine .inl ⟨L.length - (n+1),[.str b,.own 0 (n+1) 0 (n+1) none],[pcB (n+1) (n+1) (RL L) (lL L) (cL L)],by omega,?_,n+1,b,by rw [h2]; exact tl,rfl,by omega,by omega,rfl,rfl⟩
   refine Pz.post (round19 c t a b n (RL L) (lL L) (cL L) (by omega) hsl (by omega) hc) fun nt=>.same (.cons ⟨rfl,rfl,rfl,id,fun j hj=>?_⟩ .nil)
   have hj:j<n+1:=hj
   show pcG (RL L) (lL L) (cL L) j = pcG (exR n (RL L) a) (exL n (lL L) a) (exC n (cL L) a) j
   unfold pcG exR exL exC
   by_cases q:j<n
   ·rw [if_pos q,if_pos q,if_pos q]
   ·obtain rfl:j = n:=by omega
    rw [if_neg q,if_neg q,if_neg q]
    unfold RL lL cL
    rw [ha]) (n:=L.length - 0) ⟨0,s,hL,rfl,Nat.zero_le _,hs,rfl,rfl⟩
 exact q
open Go.Proofs
inductive NoLines:List UInt8->Prop
 | here (c:UInt8) (t:List UInt8) (h:cutL (c :: t) = (c :: t,[],false)):NoLines (c :: t)
 | step (c:UInt8) (t a b:List UInt8) (h:cutL (c :: t) = (a,b,true)) (tl:NoLines b):NoLines (c :: t)
theorem cutL_lt {s a b:List UInt8} (h:cutL s = (a,b,true)):b.length<s.length:=by
 rcases cutL_ix s with ⟨_,h2⟩ | ⟨i,_,h2,h3⟩
 ·rw [h] at h2
  simp at h2
 ·rw [h] at h3
  simp only [Prod.mk.injEq] at h3
  obtain ⟨rfl,rfl,_⟩:=h3
  simp only [List.length_drop]
  omega
theorem lines_or:∀ (n:Nat) (s:List UInt8),s.length<=n->(∃ L,Lines s L/\L.length<=s.length) ∨ NoLines s
 | _,[],_=>.inl ⟨[],.nil,Nat.le_refl _⟩
 | 0,c :: t,h=>by simp at h
 | n+1,c :: t,h=>by
  rcases cutL_ix (c :: t) with ⟨_,h2⟩ | ⟨i,_,h2,h3⟩
  ·exact .inr (.here c t h2)
  ·have hb:=cutL_lt h3
   rcases lines_or n ((c :: t).drop (i+1)) (by omega) with ⟨L,h4,h5⟩ | h4
   ·exact .inl ⟨_,.cons c t _ _ L h3 h4,by simp only [List.length_cons] at *; omega⟩
   ·exact .inr (.step c t _ _ h3 h4)
theorem u3f (a b:List UInt8) (v m n:Nat) (R:Nat->Nat->Int) (ln:Nat->Nat) (rc:Nat->Option Nat):codeL P18 G18 A18 noneO 0 19 [] (nav [1,2,0,2,0,0,1,2,2]) [4,5,6,7] [.own 0 v 0 n none,.str a,.str b,.bool false] [pcB v m R ln rc] [2,3] =
(
 some ((.ret,[.nils,.int .i64 4],[pcB v m R ln rc]))):=by kernel_rfl
theorem loop19b (s:List UInt8) (hL:NoLines s) (hs:s.length<=1000) (R:Nat->Nat->Int) (ln:Nat->Nat) (rc:Nat->Option Nat) :
 ∃ h1,Pz P18 G18 A18 19 [] [0,1,2,2] [0,4] [.str s,.own 0 0 0 0 none] [pcB 0 0 R ln rc] .ret [2,3] [.nils,.int .i64 4] h1:=by
 obtain ⟨e',vs',h',⟨rfl,rfl⟩,q⟩:=Pz.loop (P:=P18) (G:=G18) (A:=A18) (f:=19) (h0:=[]) (p:=[0,1,2,2]) (l:=[0,4]) (l1:=[2,3]) (by kernel_rfl)
  (fun m vs h=>∃ n s R ln rc,NoLines s/\m = s.length/\n+s.length<=1000/\vs = [.str s,.own 0 n 0 n none]/\h = [pcB n n R ln rc])
  (fun e' vs' _=>e' = .ret/\vs' = [.nils,.int .i64 4]) (fun m vs h hI=>by
  obtain ⟨n,s,R,ln,rc,hN,rfl,hn,rfl,rfl⟩:=hI
  cases hN with
  | here c t hc =>
   obtain ⟨p,hp⟩:∃ p:List T->T->Prop,p = ToldOk P18 G18 31:=⟨_,rfl⟩
   have t31:=cut31 (c :: t) (by omega)
   unfold cutT at t31
   rw [hc] at t31
   have k2:=(u2 p (c :: t) (c :: t) [] false n n n R ln rc).trans (bift (callF_yes hp t31) (biff (by simp) rfl))
   refine .inr ⟨.ret,_,[pcB n n R ln rc],by simp,?_,rfl,rfl⟩
   exact Pz.seq (by kernel_rfl) (Pz.run hm18 none_ok (m:=0) (by kernel_rfl) loops0 (u1 c t n n n R ln rc)) (Pz.blk (id:=1) (e:=.ret) (by kernel_rfl) rfl
    (Pz.seq (by kernel_rfl) (Pz.run hm18 (told_add none_ok (callF_told hp)) (m:=0) (by kernel_rfl) loops0 k2) (Pz.seqX (by kernel_rfl) (by simp) (Pz.run hm18 none_ok (m:=0) (by kernel_rfl) loops0 (u3f (c :: t) [] n n n R ln rc)))))
  | step c t a b hc tl =>
   obtain ⟨k1,k2⟩:=cutL_len hc
   have k3:=cutL_lt hc
   exact .inl ⟨b.length,_,_,k3,round19 c t a b n R ln rc (by omega) (by omega) (by omega) hc,n+1,b,_,_,_,tl,rfl,by omega,rfl,rfl⟩) (n:=s.length) ⟨0,s,R,ln,rc,hL,rfl,by omega,rfl,rfl⟩
 exact ⟨h',q⟩
open Go.Proofs
def kRev (b:Blk) (_:List T) (_:Heap):Option (T × Heap):=some (.tup [],[b])
theorem e14 (p:List T->Heap->T->Heap->Prop) (v m n:Nat) (R R2:Nat->Nat->Int) (ln l2:Nat->Nat) (rc r2:Nat->Option Nat):codeL P18 G18 A18 (noneO.addRef 32 (refF p (kRev (pcB v m R2 l2 r2)))) 0 19 [] (nav [1,2,2,2]) [4] [.own 0 v 0 n none] [pcB v m R ln rc] [4] =
(
 bif decF (p [.own 0 v 0 n
 none] [pcB v m R ln rc] (.tup []) [pcB v m R2 l2 r2]) then
 some ((.normal,[.own 0 v 0 n
 none],[pcB v m R2 l2 r2]))
 else
 none):=by kernel_rfl
theorem e15 (p:List T->T->Prop) (k:Int) (v m n:Nat) (R:Nat->Nat->Int) (ln:Nat->Nat) (rc:Nat->Option Nat):codeL P18 G18 A18 (noneO.add 29 (callF p (kInt k))) 0 19 [] (nav [1,2,2,2,2]) [4] [.own 0 v 0 n none] [pcB v m R ln rc] [2,3,4] =
(
 bif decF (p [bif v==v&&((0:Nat)+n).ble m then pgV (fun i=>R (0+i)) (fun i=>ln (0+i)) n (fun i=>rc (0+i)) none else .undef] (.int .i64 k)) then
 bif !decide (k = 0) then
 some ((.ret,[.nils,.int .i64 4,.own 0 v 0 n
 none],[pcB v m R ln rc]))
 else
 some ((.normal,[.undef,.undef,.own 0 v 0 n
 none],[pcB v m R ln rc]))
 else
 none):=by kernel_rfl
theorem e17 (v m n:Nat) (R:Nat->Nat->Int) (ln:Nat->Nat) (rc:Nat->Option Nat):codeL P18 G18 A18 (noneO.inl P18 G18 A18 noneO 0 33) 0 19 [] (nav [2,2,2,2,2]) [4] [.own 0 v 0 n none] [pcB v m R ln rc] [2,3] =
(
 bif v==v&&true then
 bif v==v&&true then
 bif v==v&&true then
 bif decide (0<=Int.ofNat n)&&decide (Int.ofNat n<=Int.ofNat n)&&decide (Int.ofNat n<=Int.ofNat m) then
 some ((.ret,[.own 0 v 0 n (some n),.int .i64 0],[pcB v m R ln rc]))
 else none else none else none else
 none):=by kernel_rfl
theorem e19n (p:List T->T->Prop) (k:Int):stepV P18 G18 A18 ((noneO.inl P18 G18 A18 noneO 1 32).add 29 (callF p (kInt k))) 1 19 [.str []] =
(
 bif decF (p [.nils] (.int .i64 k)) then
 bif !decide (k = 0) then
 some (.tup [.nils,.int .i64 4])
 else none else
 none):=by kernel_rfl
end Go.Ab

