/- A part of the proof: nothing is assumed. -/
import Derived.Test.YtifccdcnhibceaaGreatDoorP11
import Derived.Test.YtifccdcnhibceaaGreatDoorP12
import Derived.Test.YtifccdcnhibceaaGreatDoorP9
import Derived.Test.YtifccdcnhibceaaGreatDoorP4
set_option linter.all false
namespace Go.Ab
open Go.Proofs
def ea0:T:=vw 1 none [[.str [107]],[.str [107]]]
def er0:T:=.tup [vw 2 (some 2) [[uu 0,vw 2 (some 1) [[uu 1,ii 3]]],[uu 0,vw 2 (some 1) [[uu 1,ii 2]]]],.agg [uu 0,.bool false,vw 2 (some 1) [[uu 1,ii 0]],vw 4 (some 0) []],.agg [uu 0,.bool false,.nils,.nils],vw 5 (some 0) []]
theorem ex16a:ToldOk P16 G16 41 [ea0] er0:=told_lit (o:=stepZ P16 G16 A16 sq16 Z16 K16i 40 41 [ea0]) (d:=9) (fun r h=>stepZ_told (m:=40) hm16 hn16 K16i_ok sq16_ok h) (by kernel_rfl)
open Go.Proofs
def ea1:T:=vw 1 none [[.str [107,50]],[.str [107]]]
def er1:T:=.tup [vw 2 (some 2) [[uu 0,vw 2 (some 1) [[uu 2,ii 0]]],[uu 0,vw 2 (some 1) [[uu 1,ii 2]]]],.agg [uu 0,.bool false,vw 2 (some 1) [[uu 1,ii 1]],vw 4 (some 0) []],.agg [uu 0,.bool true,vw 2 (some 1) [[uu 1,ii 0]],vw 4 (some 1) [[uu 1,ii 2,.bool false,uu 0]]],vw 5 (some 0) []]
theorem ex16b:ToldOk P16 G16 41 [ea1] er1:=told_lit (o:=stepZ P16 G16 A16 sq16 Z16 K16i 40 41 [ea1]) (d:=9) (fun r h=>stepZ_told (m:=40) hm16 hn16 K16i_ok sq16_ok h) (by kernel_rfl)
open Go.Proofs
def ea2:T:=vw 1 none [[.str [112,50]],[.str [107]]]
def er2:T:=.tup [vw 2 (some 2) [[uu 1,vw 2 (some 1) [[uu 2,ii 0]]],[uu 0,vw 2 (some 1) [[uu 1,ii 2]]]],.agg [uu 0,.bool false,vw 2 (some 1) [[uu 1,ii 1]],vw 4 (some 0) []],.agg [uu 1,.bool true,vw 2 (some 1) [[uu 1,ii 0]],vw 4 (some 1) [[uu 1,ii 2,.bool false,uu 0]]],vw 5 (some 0) []]
theorem ex16c:ToldOk P16 G16 41 [ea2] er2:=told_lit (o:=stepZ P16 G16 A16 sq16 Z16 K16i 40 41 [ea2]) (d:=9) (fun r h=>stepZ_told (m:=40) hm16 hn16 K16i_ok sq16_ok h) (by kernel_rfl)
open Go.Proofs
def ea3:T:=vw 1 none [[.str [99,49,49,70]]]
def er3:T:=.tup [vw 2 (some 2) [[uu 0,vw 2 (some 1) [[uu 1,ii 3]]],[uu 0,vw 2 (some 1) [[uu 1,ii 2]]]],.agg [uu 0,.bool false,vw 2 (some 1) [[uu 1,ii 1]],vw 4 (some 0) []],.agg [uu 0,.bool false,.nils,.nils],vw 5 (some 1) [[uu 1,ii 0,uu 1,ii 1,ii 1]]]
theorem ex16d:ToldOk P16 G16 41 [ea3] er3:=told_lit (o:=stepZ P16 G16 A16 sq16 Z16 K16i 40 41 [ea3]) (d:=9) (fun r h=>stepZ_told (m:=40) hm16 hn16 K16i_ok sq16_ok h) (by kernel_rfl)
open Go.Proofs
def ea4:T:=vw 1 none [[.str [111]],[.str [47]]]
def er4:T:=.tup [vw 2 (some 2) [[uu 0,vw 2 (some 1) [[uu 1,ii 3]]],[uu 0,vw 2 (some 1) [[uu 1,ii 2]]]],.agg [uu 0,.bool false,vw 2 (some 0) [],vw 4 (some 0) []],.agg [uu 0,.bool false,.nils,.nils],vw 5 (some 0) []]
theorem ex16e:ToldOk P16 G16 41 [ea4] er4:=told_lit (o:=stepZ P16 G16 A16 sq16 Z16 K16i 40 41 [ea4]) (d:=9) (fun r h=>stepZ_told (m:=40) hm16 hn16 K16i_ok sq16_ok h) (by kernel_rfl)
open Go.Proofs
def ea5:T:=vw 1 none [[.str [116]],[.str [115]]]
def er5:T:=.tup [vw 2 (some 2) [[uu 0,vw 2 (some 2) [[uu 1,ii 0],[uu 1,ii 2]]],[uu 0,vw 2 (some 1) [[uu 1,ii 1]]]],.agg [uu 0,.bool false,vw 2 (some 0) [],vw 4 (some 1) [[uu 1,ii 1,.bool false,uu 0]]],.agg [uu 0,.bool false,.nils,.nils],vw 5 (some 0) []]
theorem ex16f:ToldOk P16 G16 41 [ea5] er5:=told_lit (o:=stepZ P16 G16 A16 sq16 Z16 K16i 40 41 [ea5]) (d:=9) (fun r h=>stepZ_told (m:=40) hm16 hn16 K16i_ok sq16_ok h) (by kernel_rfl)
open Go.Proofs
def mm16:Memo:=[(41,[ea0],er0),(41,[ea1],er1),(41,[ea2],er2),(41,[ea3],er3),(41,[ea4],er4),(41,[ea5],er5)]
theorem mm16_ok:MemoOk P16 G16 mm16:=⟨ex16a,ex16b,ex16c,ex16d,ex16e,ex16f,trivial⟩
theorem lives16:ToldOk P16 G16 14 [] (.bool true):=stepZ_told (A:=A16) (Z:=Z16) (K:=memoO 9 mm16 K16i) (m:=40) hm16 hn16 (memoO_ok mm16_ok K16i_ok) sq16_ok (by kernel_rfl)
open Go.Proofs
structure T2 where
 (bd:Nat->Int) (nb:Nat) (L:Nat->Nat->Int) (ln:Nat->Nat) (nl:Nat)
def u8V (g:Nat->Int) (n:Nat) (c:Option Nat):T:=.view 1 n (fun j=>[.int .u8 (g j)]) c
def T2.c (x:T2):List T:=[u8V x.bd x.nb none,.view 1 x.nl (fun i=>[u8V (x.L i) (x.ln i) none]) none]
def slB (v:Nat) (l:List Slo):Blk:=⟨v,2,l.length,fun j=>(l.getD j sl0).c,false,false,none⟩
def s6 (rt:Bool) (X:T2) (sl:List Slo) (v i:Nat):List T:=[.bool rt,.reg X.c,.own 0 v 0 sl.length none,.int .i64 i]
def L6:List Nat:=[0,0,2,1,2,2,2]
def B6:List Nat:=0 :: 1 :: 2 :: L6
def LB6:List Nat:=0 :: 0 :: 2 :: 1 :: 2 :: B6
noncomputable def K6i (p:List T->T->Prop) (y n:Int):Orc:=noneO.add 23 (callF p fun _=>some (.agg [.int .u8 y,.int .i64 n]))
theorem idT (y n:Int):ToldOk P16 G16 23 [.int .u8 y,.int .i64 n] (.agg [.int .u8 y,.int .i64 n]):=by
 refine stepV_told hm16 hn16 none_ok (K:=noneO) (A:=A16) (m:=0) ?_
 rw [(show stepV P16 G16 A16 noneO 0 23 [.int .u8 y,.int .i64 n] =
(
 some (.agg (idv y n))) from by kernel_rfl)]
 rfl
theorem g6a (rt:Bool) (X:T2) (sl:List Slo) (v i:Nat):codeL P16 G16 A16 (noneO) 0 6 [] (nav (1 :: L6)) [1,2,5,6] (s6 rt X sl v i) [slB v sl] [1,2,5,6] =
(
 bif decide (Int.ofNat i<Int.ofNat X.nb) then
 some ((.normal,s6 rt X sl v i,[slB v sl]))
 else
 some ((.exit 0,s6 rt X sl v i,[slB v sl]))):=by kernel_rfl
theorem g6b (rt:Bool) (X:T2) (sl:List Slo) (v i:Nat):codeL P16 G16 A16 (noneO) 0 6 [] (nav (1 :: B6)) [1,2,5,6] (s6 rt X sl v i) [slB v sl] [1,2,5,6,7] =
(
 bif decide (0<=Int.ofNat i)&&decide (Int.ofNat i<Int.ofNat X.nb) then
 some ((.normal,[.bool rt,.reg X.c,.own 0 v 0 sl.length
 none,.int .i64 (.ofNat i),.reg [.int .u8 ((X.bd i).tmod 2),.nils]],[slB v sl]))
 else
 none):=by kernel_rfl
theorem g6c (rt:Bool) (X:T2) (sl:List Slo) (v i:Nat) (b:Int):codeL P16 G16 A16 (noneO) 0 6 [] (nav (1 :: 1 :: 2 :: B6)) [1,2,5,6,7] (s6 rt X sl v i ++ [.reg [.int .u8 b,.nils]]) [slB v sl] [1,2,5,6,7,8] =
(
 some ((.normal,[.bool rt,.reg X.c,.own 0 v 0 sl.length
 none,.int .i64 (.ofNat i),.reg [.int .u8 b,.nils],.int .i64 0],[slB v sl]))):=by kernel_rfl
theorem g6d (rt:Bool) (X:T2) (sl:List Slo) (v i:Nat) (b:Int) (o:List Idd) (u k:Nat):codeL P16 G16 A16 (noneO) 0 6 [] (nav (1 :: LB6)) [1,2,5,6,7,8] (s6 rt X sl v i ++ [.reg [.int .u8 b,.own 1 u 0 o.length none],.int .i64 k]) [slB v sl,idB u o] [1,2,5,6,7,8] =
(
 bif decide (Int.ofNat i<Int.ofNat X.nl) then
 bif decide (0<=Int.ofNat i)&&decide (Int.ofNat i<Int.ofNat X.nl) then
 bif decide (Int.ofNat k<Int.ofNat (X.ln i)) then
 bif decide (Int.ofNat k<6) then
 some ((.normal,[.bool rt,.reg X.c,.own 0 v 0 sl.length
 none,.int .i64 (.ofNat i),.reg [.int .u8 b,.own 1 u 0 o.length
 none],.int .i64 (.ofNat k)],[slB v sl,idB u o]))
 else
 some ((.exit 2,[.bool rt,.reg X.c,.own 0 v 0 sl.length
 none,.int .i64 (.ofNat i),.reg [.int .u8 b,.own 1 u 0 o.length
 none],.int .i64 (.ofNat k)],[slB v sl,idB u o]))
 else
 some ((.exit 2,[.bool rt,.reg X.c,.own 0 v 0 sl.length
 none,.int .i64 (.ofNat i),.reg [.int .u8 b,.own 1 u 0 o.length
 none],.int .i64 (.ofNat k)],[slB v sl,idB u o]))
 else none else
 some ((.exit 2,[.bool rt,.reg X.c,.own 0 v 0 sl.length
 none,.int .i64 (.ofNat i),.reg [.int .u8 b,.own 1 u 0 o.length
 none],.int .i64 (.ofNat k)],[slB v sl,idB u o]))):=by kernel_rfl
theorem g6e (rt:Bool) (X:T2) (sl:List Slo) (v i:Nat) (b:Int) (o:List Idd) (u k:Nat) (p:List T->T->Prop) (y n:Int):codeL P16 G16 A16 (K6i p y n) 0 6 [] (nav (0 :: 1 :: 2 :: LB6)) [1,2,5,6,7,8] (s6 rt X sl v i ++ [.reg [.int .u8 b,.own 1 u 0 o.length none],.int .i64 k]) [slB v sl,idB u o] [1,2,5,6,7,8] =
(
 bif decide (0<=Int.ofNat i)&&decide (Int.ofNat i<Int.ofNat X.nl) then
 bif decide (0<=Int.ofNat k)&&decide (Int.ofNat k<Int.ofNat (X.ln i)) then
 bif decide (0<=Int.ofNat i)&&decide (Int.ofNat i<Int.ofNat X.nl) then
 bif decide (0<=Int.ofNat k)&&decide (Int.ofNat k<Int.ofNat (X.ln i)) then
 bif decF (p (idv (IntKind.u8.wrap ((1:Int)+(X.L i k).tmod 6)) (IntKind.i64.wrap (IntKind.u8.wrap ((X.L i k).tdiv 6)))) (.agg (idv y n))) then
 bif u==u&&true then
 bif ((0:Nat)+o.length).ble o.length then
 bif ((o.length+(1:Nat)) * (17:Nat)).ble 70368744177664 then
 bif ((0:Nat)+o.length+(1:Nat)).ble o.length then
 some ((.normal,[.bool rt,.reg X.c,.own 0 v 0 sl.length
 none,.int .i64 (.ofNat i),.reg [.int .u8 b,.own 1 u 0 (o.length+1)
 none],.int .i64 (.ofNat k)],[slB v sl,.mk u 2 o.length (fun j =>
 bif ((0:Nat)+o.length).ble j&&j.blt (0+o.length+1) then [idv y n].getD ((0:Nat)+(j - (0+o.length))) []
 else (o.getD j (Idd.mk (0:Int) (0:Int))).c) true false
 none,.mk 0 2 1 (fun j=>[idv y n].getD j []) true true
 none]))
 else
 some ((.normal,[.bool rt,.reg X.c,.own 0 v 0 sl.length
 none,.int .i64 (.ofNat i),.reg [.int .u8 b,.own 1 (u+1) (0:Nat) (o.length+1)
 none],.int .i64 (.ofNat k)],[slB v sl,.mk (u+1) (2:Nat) (o.length+1) (fun j =>
 bif j.blt o.length then (o.getD ((0:Nat)+j) (Idd.mk (0:Int) (0:Int))).c
 else [idv y n].getD ((0:Nat)+(j - o.length)) []) true false
 none,.mk 0 2 1 (fun j=>[idv y n].getD j []) true true
 none]))
 else none else none else none else none else none else none else none else
 none):=by kernel_rfl
theorem g6f (rt:Bool) (X:T2) (sl:List Slo) (v i:Nat) (b:Int) (o:List Idd) (u k:Nat):codeL P16 G16 A16 (noneO) 0 6 [] (nav (2 :: 2 :: LB6)) [1,2,5,6,7,8] (s6 rt X sl v i ++ [.reg [.int .u8 b,.own 1 u 0 o.length none],.int .i64 k]) [slB v sl,idB u o] [1,2,5,6,7,8] =
(
 some ((.normal,[.bool rt,.reg X.c,.own 0 v 0 sl.length
 none,.int .i64 (.ofNat i),.reg [.int .u8 b,.own 1 u 0 o.length
 none],.int .i64 (IntKind.i64.wrap (Int.ofNat k+1))],[slB v sl,idB u o]))):=by kernel_rfl
theorem g6g (rt:Bool) (X:T2) (sl:List Slo) (v i:Nat) (b:Int) (o:List Idd) (u k:Nat):codeL P16 G16 A16 (noneO) 0 6 [] (nav (2 :: 2 :: B6)) [1,2,5,6,7,8] (s6 rt X sl v i ++ [.reg [.int .u8 b,idL o],.int .i64 k]) [slB v sl] [1,2,5,6] =
(
 bif v==v&&true then
 bif ((0:Nat)+sl.length).ble sl.length then
 bif ((sl.length+(1:Nat)) * (33:Nat)).ble 70368744177664 then
 bif ((0:Nat)+sl.length+(1:Nat)).ble sl.length then
 some ((.normal,[.bool rt,.reg X.c,.own 0 v 0 (sl.length+1)
 none,.int .i64 (.ofNat i)],[.mk v 2 sl.length (fun j =>
 bif ((0:Nat)+sl.length).ble j&&j.blt (0+sl.length+1) then [[T.int .u8 b,idL o]].getD ((0:Nat)+(j - (0+sl.length))) []
 else (sl.getD j (Slo.mk (0:Int) [])).c) false false
 none,.mk 0 2 1 (fun j=>[[T.int .u8 b,idL o]].getD j []) false true
 none]))
 else
 some ((.normal,[.bool rt,.reg X.c,.own 0 (v+1) (0:Nat) (sl.length+1)
 none,.int .i64 (.ofNat i)],[.mk (v+1) (2:Nat) (sl.length+1) (fun j =>
 bif j.blt sl.length then (sl.getD ((0:Nat)+j) (Slo.mk (0:Int) [])).c
 else [[T.int .u8 b,idL o]].getD ((0:Nat)+(j - sl.length)) []) false false
 none,.mk 0 2 1 (fun j=>[[T.int .u8 b,idL o]].getD j []) false true
 none]))
 else none else none else
 none):=by kernel_rfl
theorem g6h (rt:Bool) (X:T2) (sl:List Slo) (v i:Nat):codeL P16 G16 A16 (noneO) 0 6 [] (nav (2 :: 2 :: L6)) [1,2,5,6] (s6 rt X sl v i) [slB v sl] [1,2,5,6] =
(
 some ((.normal,[.bool rt,.reg X.c,.own 0 v 0 sl.length
 none,.int .i64 (IntKind.i64.wrap (Int.ofNat i+1))],[slB v sl]))):=by kernel_rfl
def idsF (g:Nat->Int):Nat->List Idd
 | 0=>[]
 | k+1=>idsF g k ++ [⟨1+g k % 6,g k / 6⟩]
theorem idsF_len (g:Nat->Int):∀ k,(idsF g k).length = k
 | 0=>rfl
 | k+1=>by simp [idsF,idsF_len g k]
def T2.cnt (x:T2) (i:Nat):Nat:=if i<x.nl then min (x.ln i) 6 else 0
def T2.slot (x:T2) (i:Nat):Slo:=⟨x.bd i % 2,idsF (x.L i) (x.cnt i)⟩
def T2.sls (x:T2):Nat->List Slo
 | 0=>[]
 | i+1=>x.sls i ++ [x.slot i]
theorem T2.sls_len (x:T2):∀ i,(x.sls i).length = i
 | 0=>rfl
 | i+1=>by simp [T2.sls,T2.sls_len x i]
structure T2.Ok (x:T2):Prop where
 bd:∀ j,0<=x.bd j/\x.bd j<256
 L:∀ i k,0<=x.L i k/\x.L i k<256
abbrev P6:=Pz P16 G16 A16 6 []
theorem run6 {p l l1:List Nat} {vs v1:List T} {h h1:Heap} {e:Ex} (hk:codeL P16 G16 A16 noneO 0 6 [] (nav p) l vs h l1 = some (e,v1,h1)):P6 p l vs h e l1 v1 h1 :=
 Pz.run hm16 none_ok (by kernel_rfl) loops0 hk
theorem run6W {K:Orc} (hK:OrcOk P16 G16 K) {p l l1:List Nat} {vs v1 v2:List T} {h h1 h2:Heap} {e:Ex} {x:Option (Ex × List T × Heap)} (hk:codeL P16 G16 A16 K 0 6 [] (nav p) l vs h l1 = x) (hx:x = some (e,v1,h1)) (w:Wk G16 A16 6 0 l1 v1 h1 v2 h2):P6 p l vs h e l1 v2 h2 :=
 Pz.post (Pz.run hm16 hK (by kernel_rfl) loops0 (hk.trans hx)) w
section
variable {rt:Bool} {X:T2} {sl:List Slo} {v i:Nat} {b:Int} {o:List Idd} {u k:Nat}
theorem p6a (h:i<X.nb):P6 (1 :: L6) [1,2,5,6] (s6 rt X sl v i) [slB v sl] .normal [1,2,5,6] (s6 rt X sl v i) [slB v sl]:=by
 refine run6 ?_
 rw [g6a]
 exact BT rfl
theorem p6a' (h:¬ i<X.nb):P6 (1 :: L6) [1,2,5,6] (s6 rt X sl v i) [slB v sl] (.exit 0) [1,2,5,6] (s6 rt X sl v i) [slB v sl]:=by
 refine run6 ?_
 rw [g6a]
 exact BF rfl
theorem p6b (h:i<X.nb) (hX:X.Ok):P6 (1 :: B6) [1,2,5,6] (s6 rt X sl v i) [slB v sl] .normal [1,2,5,6,7] (s6 rt X sl v i ++ [.reg [.int .u8 (X.bd i % 2),.nils]]) [slB v sl]:=by
 refine run6 ?_
 have:=hX.bd i
 rw [g6b,Int.tmod_eq_emod_of_nonneg this.1]
 exact BT rfl
theorem w6c:Wk G16 A16 6 0 [1,2,5,6,7,8] (s6 rt X sl v i ++ [.reg [.int .u8 b,.nils],.int .i64 0]) [slB v sl] (s6 rt X sl v i ++ [.reg [.int .u8 b,.own 1 0 0 0 none],.int .i64 0]) [slB v sl,idB 0 []]:=fun nt=>by
 refine WeakTo.ghost [idB 0 []] (by simp [idB]) rfl (fun k x z hx hz=>?_) (NilBs.refl _)
 rcases k with _ | _ | _ | _ | _ | _ | k <;> simp only [s6,List.cons_append,List.nil_append,List.getElem?_cons_zero,List.getElem?_cons_succ,List.getElem?_nil,Option.some.injEq,reduceCtorEq] at hx hz
 case succ.succ.succ.succ.zero =>
  subst hx hz
  exact .reg (.cons (.refl _) (.cons (NilT.own (b:=idB 0 []) (Nat.le_refl 1) rfl rfl) (.refl _)))
 all_goals (subst hx; subst hz; exact .refl _)
theorem p6c:P6 (1 :: 1 :: 2 :: B6) [1,2,5,6,7] (s6 rt X sl v i ++ [.reg [.int .u8 b,.nils]]) [slB v sl] .normal [1,2,5,6,7,8] (s6 rt X sl v i ++ [.reg [.int .u8 b,.own 1 0 0 0 none],.int .i64 0]) [slB v sl,idB 0 []] :=
 Pz.post (run6 (by rw [g6c]; rfl)) w6c
theorem p6d (h1:i<X.nl) (h2:k<X.ln i) (h3:k<6):P6 (1 :: LB6) [1,2,5,6,7,8] (s6 rt X sl v i ++ [.reg [.int .u8 b,.own 1 u 0 o.length none],.int .i64 k]) [slB v sl,idB u o] .normal [1,2,5,6,7,8] (s6 rt X sl v i ++ [.reg [.int .u8 b,.own 1 u 0 o.length none],.int .i64 k]) [slB v sl,idB u o]:=by
 refine run6 ?_
 rw [g6d]
 exact BT (BT (BT (BT rfl)))
theorem p6d' (h:¬ (i<X.nl/\k<X.ln i/\k<6)):P6 (1 :: LB6) [1,2,5,6,7,8] (s6 rt X sl v i ++ [.reg [.int .u8 b,.own 1 u 0 o.length none],.int .i64 k]) [slB v sl,idB u o] (.exit 2) [1,2,5,6,7,8] (s6 rt X sl v i ++ [.reg [.int .u8 b,.own 1 u 0 o.length none],.int .i64 k]) [slB v sl,idB u o]:=by
 refine run6 ?_
 rw [g6d]
 by_cases q1:i<X.nl
 ·by_cases q2:k<X.ln i
  ·exact BT (BT (BT (BF rfl)))
  ·exact BT (BT (BF rfl))
 ·exact BF rfl
theorem p6e (h1:i<X.nl) (h2:k<X.ln i) (ho:o.length<=1000) (hX:X.Ok):P6 (0 :: 1 :: 2 :: LB6) [1,2,5,6,7,8] (s6 rt X sl v i ++ [.reg [.int .u8 b,.own 1 u 0 o.length none],.int .i64 k]) [slB v sl,idB u o] .normal [1,2,5,6,7,8] (s6 rt X sl v i ++ [.reg [.int .u8 b,.own 1 (u+1) 0 (o ++ [(⟨1+X.L i k % 6,X.L i k / 6⟩:Idd)]).length none],.int .i64 k]) [slB v sl,idB (u+1) (o ++ [(⟨1+X.L i k % 6,X.L i k / 6⟩:Idd)])]:=by
 obtain ⟨p,hp⟩:=is_val P16 G16 23
 have hL:=hX.L i k
 have t1:=idT (1+X.L i k % 6) (X.L i k / 6)
 apply run6W (K:=K6i p (1+X.L i k % 6) (X.L i k / 6)) (told_add none_ok (callF_told hp))
 ·apply g6e
 ·rw [Int.tmod_eq_emod_of_nonneg hL.1,Int.tdiv_eq_ediv_of_nonneg hL.1,wr8 (x:=X.L i k / 6) (by omega) (by omega),wr64 (x:=X.L i k / 6) (by omega) (by omega),wr8 (x:=1+X.L i k % 6) (by omega) (by omega)]
  exact BT (BT (BT (BT (bift (callF_yes hp t1) (BT (BT (BT (BF rfl))) (by simp))))))
 ·intro nt
  refine WeakTo.canonS [0,1] rfl ?_ rfl (.cons ⟨rfl,rfl,rfl,id,fun _ _=>rfl⟩ (.cons ⟨rfl,rfl,?_,id,fun j hj=>?_⟩ .nil))
  ·rw [List.length_append]; rfl
  ·show (o ++ [_]).length = _
   rw [List.length_append]; rfl
  ·have hj':j<o.length+1:=hj
   exact app_idB j hj'
theorem p6f (h:k<=1000):P6 (2 :: 2 :: LB6) [1,2,5,6,7,8] (s6 rt X sl v i ++ [.reg [.int .u8 b,.own 1 u 0 o.length none],.int .i64 k]) [slB v sl,idB u o] .normal [1,2,5,6,7,8] (s6 rt X sl v i ++ [.reg [.int .u8 b,.own 1 u 0 o.length none],.int .i64 ((k+1:Nat):Int)]) [slB v sl,idB u o]:=by
 refine run6 ?_
 rw [g6f,up1 (by omega)]
 rfl
theorem res6:resolve 4 [0] [slB v sl,idB u o] (.own 1 u 0 o.length none) = idL o:=by
 have e:resolve 4 [0] [slB v sl,idB u o] (.own 1 u 0 o.length none) = bif u==u&&(0+o.length).ble o.length then .view 2 o.length (fun j=>(o.getD (0+j) id0).c) none else .undef:=by kernel_rfl
 rw [e,beq_self_eq_true,Nat.zero_add,bleT (Nat.le_refl _)]
 simp only [Nat.zero_add]
 rfl
theorem w6g {z:T} (hz:z = .int .i64 k):Wk G16 A16 6 0 [1,2,5,6,7,8] (s6 rt X sl v i ++ [.reg [.int .u8 b,.own 1 u 0 o.length none],z]) [slB v sl,idB u o] (s6 rt X sl v i ++ [.reg [.int .u8 b,idL o],.int .i64 k]) [slB v sl]:=fun nt=>by
 subst hz
 refine WeakTo.canonS [0] rfl ?_ rfl (.cons ⟨rfl,rfl,rfl,id,fun _ _=>rfl⟩ .nil)
 show s6 rt X sl v i ++ [.reg [.int .u8 b,resolve 4 [0] [slB v sl,idB u o] (.own 1 u 0 o.length none)],.int .i64 k] = _
 rw [res6]
theorem lp6 (hX:X.Ok):∃ k':Nat,P6 (2 :: 1 :: 2 :: B6) [1,2,5,6,7,8] (s6 rt X sl v i ++ [.reg [.int .u8 b,.own 1 0 0 0 none],.int .i64 0]) [slB v sl,idB 0 []] .normal [1,2,5,6,7,8] (s6 rt X sl v i ++ [.reg [.int .u8 b,idL (idsF (X.L i) (X.cnt i))],.int .i64 k']) [slB v sl]:=by
 obtain ⟨e,vs',h',⟨u',k',rfl,rfl,rfl⟩,hg⟩:=Pz.loop (P:=P16) (G:=G16) (A:=A16) (f:=6) (h0:=[]) (p:=0 :: 2 :: 1 :: 2 :: B6) (l:=[1,2,5,6,7,8]) (l1:=[1,2,5,6,7,8]) (by kernel_rfl)
  (fun m vs h=>∃ k,k<=X.cnt i/\m = 6 - k/\vs = s6 rt X sl v i ++ [.reg [.int .u8 b,.own 1 k 0 (idsF (X.L i) k).length none],.int .i64 k]/\h = [slB v sl,idB k (idsF (X.L i) k)])
  (fun e vs h=>∃ u' k':Nat,e = .exit 2/\vs = s6 rt X sl v i ++ [.reg [.int .u8 b,.own 1 u' 0 (idsF (X.L i) (X.cnt i)).length none],.int .i64 k']/\h = [slB v sl,idB u' (idsF (X.L i) (X.cnt i))])
  (fun m vs h hI=>by
   obtain ⟨k,hk,rfl,rfl,rfl⟩:=hI
   have hlen:=idsF_len (X.L i) k
   by_cases hc:i<X.nl/\k<X.ln i/\k<6
   ·have hk6:k<X.cnt i:=by unfold T2.cnt; rw [if_pos hc.1]; omega
    exact .inl ⟨6 - (k+1),_,_,by omega,Pz.seq (by kernel_rfl) (p6d hc.1 hc.2.1 hc.2.2) (Pz.seq (by kernel_rfl) (Pz.blk (id:=3) (e:=.normal) (by kernel_rfl) rfl (p6e hc.1 hc.2.1 (by have:=hc.2.2; omega) hX)) (p6f (by have:=hc.2.2; omega))),k+1,by omega,rfl,rfl,rfl⟩
   ·have e:X.cnt i = k:=by
     unfold T2.cnt at hk ⊢
     split
     ·rename_i q; rw [if_pos q] at hk; omega
     ·rename_i q; rw [if_neg q] at hk; omega
    rw [e]
    exact .inr ⟨.exit 2,_,_,(by simp),Pz.seqX (by kernel_rfl) (by simp) (p6d' hc),k,k,rfl,rfl,rfl⟩) (n:=6) ⟨0,Nat.zero_le _,rfl,rfl,rfl⟩
 exact ⟨k',Pz.post (Pz.blk (id:=2) (e:=.exit 2) (by kernel_rfl) rfl hg) (w6g rfl)⟩
theorem p6g (hl:sl.length<=1000):P6 (2 :: 2 :: B6) [1,2,5,6,7,8] (s6 rt X sl v i ++ [.reg [.int .u8 b,idL o],.int .i64 k]) [slB v sl] .normal [1,2,5,6] (s6 rt X (sl ++ [⟨b,o⟩]) (v+1) i) [slB (v+1) (sl ++ [⟨b,o⟩])]:=by
 apply run6W none_ok
 ·apply g6g (u:=0)
 ·exact BT (BT (BT (BF rfl))) (by simp)
 ·intro nt
  refine WeakTo.canonS [0] rfl ?_ rfl (.cons ⟨rfl,rfl,?_,id,fun j hj=>?_⟩ .nil)
  ·unfold s6
   rw [List.length_append]; rfl
  ·show (sl ++ [_]).length = _
   rw [List.length_append]; rfl
  ·have hj':j<sl.length+1:=hj
   have e:=app_get (enc:=Slo.c) (d:=sl0) (x:=⟨b,o⟩) (g2:=fun k=>[[T.int .u8 b,idL o]].getD (0+k) []) (l:=sl) rfl hj'
   exact Eq.trans rfl (congrArg (List.map (ren0 [0] _)) e)
theorem p6h (h:i<=1000):P6 (2 :: 2 :: L6) [1,2,5,6] (s6 rt X sl v i) [slB v sl] .normal [1,2,5,6] (s6 rt X sl v (i+1)) [slB v sl]:=by
 refine run6 ?_
 rw [g6h,up1 (by omega)]
 rfl
theorem rd6 (h:i<X.nb) (hn:X.nb<=12) (hX:X.Ok):P6 L6 [1,2,5,6] (s6 rt X (X.sls i) i i) [slB i (X.sls i)] .normal [1,2,5,6] (s6 rt X (X.sls (i+1)) (i+1) (i+1)) [slB (i+1) (X.sls (i+1))]:=by
 have hlen:=X.sls_len i
 obtain ⟨k',hg⟩:=lp6 (rt:=rt) (X:=X) (sl:=X.sls i) (v:=i) (i:=i) (b:=X.bd i % 2) hX
 exact Pz.seq (by kernel_rfl) (p6a h) (Pz.seq (by kernel_rfl) (Pz.blk (id:=1) (e:=.normal) (by kernel_rfl) rfl (Pz.seq (by kernel_rfl) (p6b h hX) (Pz.seq (by kernel_rfl) (Pz.seq (by kernel_rfl) p6c hg) (p6g (by omega))))) (p6h (by omega)))
end
open Go.Proofs
def t6 (rt:Bool) (l:List Slo) (d r:Int) (w:List Pss) (v i:Nat):List T:=[.bool rt,slV l none,.own 0 v 0 w.length none,.int .u8 d,.int .i64 r,.int .i64 i]
def L6b:List Nat:=[0,0,2,1,2,2,2,2,2,2,2]
def B6b:List Nat:=0 :: 1 :: 2 :: L6b
noncomputable def K6b (p:List T->T->Prop) (ps:List Pss):Orc:=noneO.add 24 (callF p fun _=>some (psL ps))
def T1:List Nat:=[2,2,2,2]
def L6c:List Nat:=[0,0,2,1,2,2,2,2,2,2,2,2,2,2,2]
def B6c:List Nat:=0 :: 1 :: 2 :: L6c
def fB (N:Nat) (f:Nat->Pss):Blk:=⟨0,4,N,fun j=>(f j).c,true,false,none⟩
noncomputable def K6c (p:List T->T->Prop) (N:Nat) (f:Nat->Pss):Orc:=noneO.add 25 (callF p fun _=>some (.fresh true 4 N (fun j=>(f j).c) N (some N)))
noncomputable def K6d (p:List T->T->Prop):Orc:=noneO.add 14 (callF p fun _=>some (.bool true))
def c6 (w:List Pss) (N:Nat) (i:Nat):List T:=[psL w,.own 0 0 0 N (some N),.own 1 0 0 N (some N),.int .i64 i]
theorem g6i (rt:Bool) (l:List Slo) (d r:Int) (w:List Pss) (v i:Nat):codeL P16 G16 A16 (noneO) 0 6 [] (nav (1 :: L6b)) [1,5,9,10,11,12] (t6 rt l d r w v i) [psB v w] [1,5,9,10,11,12] =
(
 bif decide (Int.ofNat i<Int.ofNat l.length) then
 some ((.normal,t6 rt l d r w v i,[psB v w]))
 else
 some ((.exit 4,t6 rt l d r w v i,[psB v w]))):=by kernel_rfl
theorem g6j (rt:Bool) (l:List Slo) (d r:Int) (w:List Pss) (v i:Nat):codeL P16 G16 A16 (noneO) 0 6 [] (nav (1 :: B6b)) [1,5,9,10,11,12] (t6 rt l d r w v i) [psB v w] [1,5,9,10,11,12,13] =
(
 some ((.normal,[.bool rt,slV l
 none,.own 0 v 0 w.length
 none,.int .u8 d,.int .i64 r,.int .i64 (.ofNat i),.int .i64 (.ofNat i)],[psB v w]))):=by kernel_rfl
theorem g6k (rt:Bool) (l:List Slo) (d r:Int) (w:List Pss) (v i:Nat) (k:Nat):codeL P16 G16 A16 (noneO) 0 6 [] (nav (1 :: 2 :: B6b)) [1,5,9,10,11,12,13] (t6 rt l d r w v i ++ [.int .i64 k]) [psB v w] [1,5,9,10,11,12,13] =
(
 bif rt then
 some ((.normal,[.bool rt,slV l
 none,.own 0 v 0 w.length
 none,.int .u8 d,.int .i64 r,.int .i64 (.ofNat i),.int .i64 (.ofNat k)],[psB v w]))
 else
 some ((.normal,[.bool rt,slV l
 none,.own 0 v 0 w.length
 none,.int .u8 d,.int .i64 r,.int .i64 (.ofNat i),.int .i64 (IntKind.i64.wrap (IntKind.i64.wrap (Int.ofNat l.length - 1) - Int.ofNat i))],[psB v w]))):=by kernel_rfl
theorem g6l (rt:Bool) (l:List Slo) (d r:Int) (w:List Pss) (v i:Nat) (k:Nat) (p:List T->T->Prop) (ps:List Pss):codeL P16 G16 A16 (K6b p ps) 0 6 [] (nav (2 :: 2 :: B6b)) [1,5,9,10,11,12,13] (t6 rt l d r w v i ++ [.int .i64 k]) [psB v w] [1,5,9,10,11,12] =
(
 bif decide (0<=Int.ofNat k)&&decide (Int.ofNat k<Int.ofNat l.length) then
 bif decF (p [.agg (l.getD k (Slo.mk (0:Int) [])).c,.int .i64 r] (psL ps)) then
 bif v==v&&true then
 bif ((0:Nat)+w.length).ble w.length then
 bif ps.length==(0:Nat) then
 some ((.normal,t6 rt l d r w v i,[psB v w]))
 else
 bif ((w.length+ps.length) * (25:Nat)).ble 70368744177664 then
 bif ((0:Nat)+w.length+ps.length).ble w.length then
 some ((.normal,[.bool rt,slV l
 none,.own 0 v 0 (w.length+ps.length)
 none,.int .u8 d,.int .i64 r,.int .i64 (.ofNat i)],[.mk v 4 w.length (fun j =>
 bif ((0:Nat)+w.length).ble j&&j.blt (0+w.length+ps.length) then (ps.getD (j - ((0:Nat)+w.length)) (Pss.mk (0:Int) (0:Int) false (0:Int))).c
 else (w.getD j (Pss.mk (0:Int) (0:Int) false (0:Int))).c) true false
 none]))
 else
 some ((.normal,[.bool rt,slV l
 none,.own 0 (v+1) (0:Nat) (w.length+ps.length)
 none,.int .u8 d,.int .i64 r,.int .i64 (.ofNat i)],[.mk (v+1) (4:Nat) (w.length+ps.length) (fun j =>
 bif j.blt w.length then (w.getD ((0:Nat)+j) (Pss.mk (0:Int) (0:Int) false (0:Int))).c
 else (ps.getD (j - w.length) (Pss.mk (0:Int) (0:Int) false (0:Int))).c) true false
 none]))
 else none else none else none else none else
 none):=by kernel_rfl
theorem g6m (rt:Bool) (l:List Slo) (d r:Int) (w:List Pss) (v i:Nat):codeL P16 G16 A16 (noneO) 0 6 [] (nav (2 :: 2 :: L6b)) [1,5,9,10,11,12] (t6 rt l d r w v i) [psB v w] [1,5,9,10,11,12] =
(
 some ((.normal,[.bool rt,slV l
 none,.own 0 v 0 w.length
 none,.int .u8 d,.int .i64 r,.int .i64 (IntKind.i64.wrap (Int.ofNat i+1))],[psB v w]))):=by kernel_rfl
theorem g6n (rt:Bool) (l:List Slo):codeL P16 G16 A16 (noneO) 0 6 [] (nav (1 :: T1)) [1,5] ([.bool rt,slV l none]) [] [1,5,9] =
(
 some ((.normal,[.bool rt,slV l
 none,.nils],[]))):=by kernel_rfl
theorem g6o (rt:Bool) (l:List Slo):codeL P16 G16 A16 (noneO) 0 6 [] (nav (1 :: 2 :: T1)) [1,5,9] ([.bool rt,slV l none,.nils]) [] [1,5,9,10,11] =
(
 some ((.normal,.bool rt :: slV l
 none :: .nils :: idv (0:Int) (0:Int),[]))):=by kernel_rfl
theorem g6p (rt:Bool) (l:List Slo):codeL P16 G16 A16 (noneO) 0 6 [] (nav (1 :: 2 :: 2 :: T1)) [1,5,9,10,11] ([.bool rt,slV l none,.nils,.int .u8 0,.int .i64 0]) [] [1,5,9,10,11] =
(
 bif rt then
 some ((.normal,.bool rt :: slV l
 none :: .nils :: idv (1:Int) (1:Int),[]))
 else
 some ((.normal,.bool rt :: slV l
 none :: .nils :: idv (0:Int) (0:Int),[]))):=by kernel_rfl
theorem g6q (rt:Bool) (l:List Slo) (d r:Int):codeL P16 G16 A16 (noneO) 0 6 [] (nav (1 :: 1 :: 2 :: 2 :: 2 :: T1)) [1,5,9,10,11] ([.bool rt,slV l none,.nils,.int .u8 d,.int .i64 r]) [] [1,5,9,10,11,12] =
(
 some ((.normal,[.bool rt,slV l
 none,.nils,.int .u8 d,.int .i64 r,.int .i64 0],[]))):=by kernel_rfl
theorem g6s (l:List Slo) (w:List Pss) (d:Int) (N:Nat) (f:Nat->Pss) (p:List T->T->Prop):codeL P16 G16 A16 (K6c p N f) 0 6 [] (nav (1 :: 2 :: 2 :: 2 :: 2 :: T1)) [5,9,10] ([slV l none,psL w,.int .u8 d]) [] [5,9,10,14] =
(
 bif decF (p [slV l
 none,.int .u8 d] (.fresh true (4:Nat) N (fun j=>(f j).c) N (some N))) then
 some ((.normal,[slV l
 none,psL w,.int .u8 d,.own 0 0 0 N (some N)],[fB N f]))
 else
 none):=by kernel_rfl
theorem g6t (l:List Slo) (w:List Pss) (d:Int) (N:Nat) (f f2:Nat->Pss) (p:List T->T->Prop):codeL P16 G16 A16 (K6c p N f2) 0 6 [] (nav (1 :: 2 :: 2 :: 2 :: 2 :: 2 :: T1)) [5,9,10,14] ([slV l none,psL w,.int .u8 d,.own 0 0 0 N (some N)]) [fB N f] [9,14,15] =
(
 bif decF (p [slV l
 none,.int .u8 (IntKind.u8.wrap (1 - d))] (.fresh true (4:Nat) N (fun j=>(f2 j).c) N (some N))) then
 some ((.normal,[psL w,.own 0 0 0 N (some N),.own 1 0 0 N (some N)],[fB N f,fB N f2]))
 else
 none):=by kernel_rfl
theorem g6u (w:List Pss) (N:Nat) (f f2:Nat->Pss):codeL P16 G16 A16 (noneO) 0 6 [] (nav (1 :: 2 :: 2 :: 2 :: 2 :: 2 :: 2 :: T1)) [9,14,15] ([psL w,.own 0 0 0 N (some N),.own 1 0 0 N (some N)]) [fB N f,fB N f2] [9,14,15] =
(
 bif !decide (Int.ofNat N = Int.ofNat w.length) then
 some ((.ret,[psL w,.own 0 0 0 N (some N),.own 1 0 0 N (some N)],[fB N f,fB N f2]))
 else
 bif !decide (Int.ofNat N = Int.ofNat N) then
 some ((.ret,[psL w,.own 0 0 0 N (some N),.own 1 0 0 N (some N)],[fB N f,fB N f2]))
 else
 bif !decide (Int.ofNat N = Int.ofNat N) then
 some ((.ret,[psL w,.own 0 0 0 N (some N),.own 1 0 0 N (some N)],[fB N f,fB N f2]))
 else
 some ((.normal,[psL w,.own 0 0 0 N (some N),.own 1 0 0 N (some N)],[fB N f,fB N f2]))):=by kernel_rfl
theorem g6v (w:List Pss) (N:Nat) (f f2:Nat->Pss):codeL P16 G16 A16 (noneO) 0 6 [] (nav (1 :: 1 :: 2 :: 2 :: 2 :: 2 :: 2 :: 2 :: 2 :: T1)) [9,14,15] ([psL w,.own 0 0 0 N (some N),.own 1 0 0 N (some N)]) [fB N f,fB N f2] [9,14,15,16] =
(
 some ((.normal,c6 w N (nat_lit 0),[fB N f,fB N f2]))):=by kernel_rfl
theorem g6w (w:List Pss) (N i:Nat) (f f2:Nat->Pss):codeL P16 G16 A16 (noneO) 0 6 [] (nav (1 :: L6c)) [9,14,15,16] (c6 w N i) [fB N f,fB N f2] [9,14,15,16] =
(
 bif decide (Int.ofNat i<Int.ofNat N) then
 some ((.normal,c6 w N i,[fB N f,fB N f2]))
 else
 some ((.exit 6,c6 w N i,[fB N f,fB N f2]))):=by kernel_rfl
theorem g6x (w:List Pss) (N i:Nat) (f f2:Nat->Pss):codeL P16 G16 A16 (noneO) 0 6 [] (nav (1 :: B6c)) [9,14,15,16] (c6 w N i) [fB N f,fB N f2] [9,14,15,16,17,18] =
(
 bif decide (0<=Int.ofNat i)&&decide (Int.ofNat i<Int.ofNat N) then
 bif ((0:Nat)+i).blt N then
 bif decide (0<=IntKind.i64.wrap (IntKind.i64.wrap (Int.ofNat N - 1) - Int.ofNat i))&&decide (IntKind.i64.wrap (IntKind.i64.wrap (Int.ofNat N - 1) - Int.ofNat i)<Int.ofNat N) then
 bif ((0:Nat)+(IntKind.i64.wrap (IntKind.i64.wrap (Int.ofNat N - (1:Int)) - Int.ofNat i)).toNat).blt N then
 some ((.normal,[psL w,.own 0 0 0 N (some N),.own 1 0 0 N (some N),.int .i64 (.ofNat i),.reg (f ((0:Nat)+i)).c,.reg (f2 ((0:Nat)+(IntKind.i64.wrap (IntKind.i64.wrap (Int.ofNat N - (1:Int)) - Int.ofNat i)).toNat)).c],[fB N f,fB N f2]))
 else none else none else none else
 none):=by kernel_rfl
theorem g6y (w:List Pss) (N i:Nat) (f f2:Nat->Pss) (a b:Pss):codeL P16 G16 A16 (noneO) 0 6 [] (nav (2 :: B6c)) [9,14,15,16,17,18] (c6 w N i ++ [.reg a.c,.reg b.c]) [fB N f,fB N f2] [9,14,15,16] =
(
 bif decide (0<=Int.ofNat i)&&decide (Int.ofNat i<Int.ofNat w.length) then
 bif decide (a.y = (w.getD i (Pss.mk (0:Int) (0:Int) false (0:Int))).y) then
 bif decide (a.n = (w.getD i (Pss.mk (0:Int) (0:Int) false (0:Int))).n) then
 bif
 bif a.f then (w.getD i (Pss.mk (0:Int) (0:Int) false (0:Int))).f
 else !(w.getD i (Pss.mk (0:Int) (0:Int) false (0:Int))).f then
 bif decide (a.d = (w.getD i (Pss.mk (0:Int) (0:Int) false (0:Int))).d) then
 bif decide (a.y = b.y) then
 bif decide (a.n = b.n) then
 bif a.f then
 bif b.f then
 bif decide (a.d = b.d) then
 some ((.ret,c6 w N i,[fB N f,fB N f2]))
 else
 some ((.normal,c6 w N i,[fB N f,fB N f2]))
 else
 some ((.ret,c6 w N i,[fB N f,fB N f2]))
 else
 bif b.f then
 some ((.ret,c6 w N i,[fB N f,fB N f2]))
 else
 bif decide (a.d = b.d) then
 some ((.ret,c6 w N i,[fB N f,fB N f2]))
 else
 some ((.normal,c6 w N i,[fB N f,fB N f2]))
 else
 some ((.ret,c6 w N i,[fB N f,fB N f2]))
 else
 some ((.ret,c6 w N i,[fB N f,fB N f2]))
 else
 some ((.ret,c6 w N i,[fB N f,fB N f2]))
 else
 some ((.ret,c6 w N i,[fB N f,fB N f2]))
 else
 some ((.ret,c6 w N i,[fB N f,fB N f2]))
 else
 some ((.ret,c6 w N i,[fB N f,fB N f2]))
 else
 none):=by kernel_rfl
theorem g6z (w:List Pss) (N i:Nat) (f f2:Nat->Pss):codeL P16 G16 A16 (noneO) 0 6 [] (nav (2 :: 2 :: L6c)) [9,14,15,16] (c6 w N i) [fB N f,fB N f2] [9,14,15,16] =
(
 some ((.normal,[psL w,.own 0 0 0 N (some N),.own 1 0 0 N (some N),.int .i64 (IntKind.i64.wrap (Int.ofNat i+1))],[fB N f,fB N f2]))):=by kernel_rfl
theorem g6zz (w:List Pss) (N i:Nat) (f f2:Nat->Pss) (p:List T->T->Prop):codeL P16 G16 A16 (K6d p) 0 6 [] (nav (2 :: 2 :: 2 :: 2 :: 2 :: 2 :: 2 :: 2 :: T1)) [9,14,15,16] (c6 w N i) [fB N f,fB N f2] [4] =
(
 bif decF (p [] (.bool true)) then
 some ((.ret,[.bool true],[fB N f,fB N f2]))
 else
 none):=by kernel_rfl
def dirI (rt:Bool):Int:=if rt = true then 1 else 0
def kI (rt:Bool) (n i:Nat):Nat:=if rt = true then i else n - 1 - i
def wtF (rt:Bool) (l:List Slo):Nat->List Pss
 | 0=>[]
 | i+1=>wtF rt l i ++ ps24 (l.getD (kI rt l.length i) sl0).b (dirI rt) (l.getD (kI rt l.length i) sl0).l (l.getD (kI rt l.length i) sl0).l.length
section
variable {rt:Bool} {l:List Slo} {d r:Int} {w:List Pss} {v i k:Nat}
theorem q6i (h:i<l.length):P6 (1 :: L6b) [1,5,9,10,11,12] (t6 rt l d r w v i) [psB v w] .normal [1,5,9,10,11,12] (t6 rt l d r w v i) [psB v w]:=by
 refine run6 ?_
 rw [g6i]
 exact BT rfl
theorem q6i' (h:¬ i<l.length):P6 (1 :: L6b) [1,5,9,10,11,12] (t6 rt l d r w v i) [psB v w] (.exit 4) [1,5,9,10,11,12] (t6 rt l d r w v i) [psB v w]:=by
 refine run6 ?_
 rw [g6i]
 exact BF rfl
theorem q6j:P6 (1 :: B6b) [1,5,9,10,11,12] (t6 rt l d r w v i) [psB v w] .normal [1,5,9,10,11,12,13] (t6 rt l d r w v i ++ [.int .i64 i]) [psB v w]:=run6 (by rw [g6j]; rfl)
theorem q6k (h:i<l.length) (hl:l.length<=1000000):P6 (1 :: 2 :: B6b) [1,5,9,10,11,12,13] (t6 rt l d r w v i ++ [.int .i64 i]) [psB v w] .normal [1,5,9,10,11,12,13] (t6 rt l d r w v i ++ [.int .i64 (kI rt l.length i)]) [psB v w]:=by
 refine run6 ?_
 rw [g6k]
 cases rt
 ·rw [cond_false,wr64 (x:=Int.ofNat l.length - 1) (by show (_:Int)<=(l.length:Int) - 1; omega) (by show (l.length:Int) - 1<=_; omega),wr64 (x:=Int.ofNat l.length - 1 - Int.ofNat i) (by show (_:Int)<=(l.length:Int) - 1 - (i:Int); omega) (by show (l.length:Int) - 1 - (i:Int)<=_; omega)]
  have e:Int.ofNat l.length - 1 - Int.ofNat i = Int.ofNat (kI false l.length i):=by
   show (l.length:Int) - 1 - (i:Int) = ((l.length - 1 - i:Nat):Int); omega
  rw [e]; rfl
 ·rfl
theorem q6l (h:k<l.length) (hd:0<=r/\r<=255) (hs:(l.getD k sl0).l.length<=100) (hw:w.length<=100000):∃ v',P6 (2 :: 2 :: B6b) [1,5,9,10,11,12,13] (t6 rt l d r w v i ++ [.int .i64 k]) [psB v w] .normal [1,5,9,10,11,12] (t6 rt l d r (w ++ ps24 (l.getD k sl0).b r (l.getD k sl0).l (l.getD k sl0).l.length) v' i) [psB v' (w ++ ps24 (l.getD k sl0).b r (l.getD k sl0).l (l.getD k sl0).l.length)]:=by
 obtain ⟨p,hp⟩:=is_val P16 G16 24
 have t1:=refPastT (b:=(l.getD k sl0).b) (l:=(l.getD k sl0).l) (r:=r) (by omega) hd
 have hlen:=ps24_len (l.getD k sl0).b r (l.getD k sl0).l (l.getD k sl0).l.length
 generalize ps24 (l.getD k sl0).b r (l.getD k sl0).l (l.getD k sl0).l.length = ps at *
 by_cases h0:ps.length = 0
 ·obtain rfl:=List.eq_nil_of_length_eq_zero h0
  refine ⟨v,?_⟩
  rw [List.append_nil]
  refine Pz.run hm16 (told_add none_ok (callF_told hp)) (K:=K6b p []) (m:=0) (by kernel_rfl) loops0 ?_
  rw [g6l]
  exact BT (bift (callF_yes hp t1) (BT (BT rfl) (by simp)))
 ·refine ⟨v+1,?_⟩
  apply run6W (K:=K6b p ps) (told_add none_ok (callF_told hp))
  ·apply g6l
  ·exact BT (bift (callF_yes hp t1) (BT (BT (biff (by simpa using h0) (BT (BF rfl)))) (by simp)))
  ·intro nt
   refine WeakTo.canonS [0] rfl ?_ rfl (.cons ⟨rfl,rfl,?_,id,fun j hj=>?_⟩ .nil)
   ·unfold t6
    rw [List.length_append]; rfl
   ·show (w ++ ps).length = _
    rw [List.length_append]; rfl
   ·show ((w ++ ps).getD j ps0).c = (bif j.blt w.length then (w.getD (0+j) ps0).c else (ps.getD (j - w.length) ps0).c)
    rw [Nat.zero_add,getD_app]
    by_cases q:j<w.length
    ·rw [if_pos q,bltT q]; rfl
    ·rw [if_neg q,show j.blt w.length = false from by rw [← Bool.not_eq_true,nblt]; omega]; rfl
theorem q6m (h:i<=1000):P6 (2 :: 2 :: L6b) [1,5,9,10,11,12] (t6 rt l d r w v i) [psB v w] .normal [1,5,9,10,11,12] (t6 rt l d r w v (i+1)) [psB v w]:=by
 refine run6 ?_
 rw [g6m,up1 (by omega)]
 rfl
theorem wtF_len (hs:∀ j,(l.getD j sl0).l.length<=100):∀ i,(wtF rt l i).length<=100 * i
 | 0=>Nat.le_refl _
 | i+1=>by
  have h1:=wtF_len hs i
  have h2:=hs (kI rt l.length i)
  simp only [wtF,List.length_append,ps24_len]
  omega
theorem lq6 (hl:l.length<=100) (hs:∀ j,(l.getD j sl0).l.length<=100):∃ v',P6 (2 :: 1 :: 2 :: 2 :: 2 :: T1) [1,5,9,10,11,12] (t6 rt l (dirI rt) (dirI rt) [] 0 0) [psB 0 []] .normal [1,5,9,10,11,12] (t6 rt l (dirI rt) (dirI rt) (wtF rt l l.length) v' l.length) [psB v' (wtF rt l l.length)]:=by
 have hd:0<=dirI rt/\dirI rt<=255:=by unfold dirI; split <;> omega
 obtain ⟨e,vs',h',⟨v',rfl,rfl,rfl⟩,hg⟩:=Pz.loop (P:=P16) (G:=G16) (A:=A16) (f:=6) (h0:=[]) (p:=0 :: 2 :: 1 :: 2 :: 2 :: 2 :: T1) (l:=[1,5,9,10,11,12]) (l1:=[1,5,9,10,11,12]) (by kernel_rfl)
  (fun m vs h=>∃ i v,i<=l.length/\m = l.length - i/\vs = t6 rt l (dirI rt) (dirI rt) (wtF rt l i) v i/\h = [psB v (wtF rt l i)])
  (fun e vs h=>∃ v',e = .exit 4/\vs = t6 rt l (dirI rt) (dirI rt) (wtF rt l l.length) v' l.length/\h = [psB v' (wtF rt l l.length)])
  (fun m vs h hI=>by
   obtain ⟨i,v,hi,rfl,rfl,rfl⟩:=hI
   by_cases hc:i<l.length
   ·have hw:=wtF_len (rt:=rt) hs i
    have hk:kI rt l.length i<l.length:=by unfold kI; split <;> omega
    obtain ⟨v2,hq⟩:=q6l (rt:=rt) (l:=l) (d:=dirI rt) (r:=dirI rt) (w:=wtF rt l i) (v:=v) (i:=i) hk hd (hs _) (by omega)
    exact .inl ⟨l.length - (i+1),_,_,by omega,Pz.seq (by kernel_rfl) (q6i hc) (Pz.seq (by kernel_rfl) (Pz.blk (id:=5) (e:=.normal) (by kernel_rfl) rfl (Pz.seq (by kernel_rfl) q6j (Pz.seq (by kernel_rfl) (q6k hc (by omega)) hq))) (q6m (by omega))),i+1,v2,by omega,rfl,rfl,rfl⟩
   ·obtain rfl:i = l.length:=by omega
    exact .inr ⟨.exit 4,_,_,(by simp),Pz.seqX (by kernel_rfl) (by simp) (q6i' hc),v,rfl,rfl,rfl⟩) (n:=l.length) ⟨0,0,Nat.zero_le _,rfl,rfl,rfl⟩
 exact ⟨v',Pz.blk (id:=4) (e:=.exit 4) (by kernel_rfl) rfl hg⟩
end
open Go.Proofs
theorem ps24_one (b:Int) (l:List Idd):∀ i,i<=l.length->ps24 b 1 l i = (l.take i).map (psOf b 1)
 | 0,_=>rfl
 | i+1,h=>by
  have ih:=ps24_one b l i (by omega)
  rw [take_map l (psOf b 1) id0 (by omega),← ih]
  simp [ps24]
theorem ps24_zero (b:Int) (l:List Idd):∀ i,i<=l.length->ps24 b 0 l i = (l.reverse.take i).map (psOf b 0)
 | 0,_=>rfl
 | i+1,h=>by
  have ih:=ps24_zero b l i (by omega)
  rw [take_map l.reverse (psOf b 0) id0 (by simp; omega),← ih]
  have e:l.reverse.getD i id0 = l.getD (l.length - 1 - i) id0:=by
   rw [List.getD_eq_getElem?_getD,List.getD_eq_getElem?_getD,List.getElem?_reverse (by omega)]
  simp only [ps24,if_true,e]
theorem ps24_all (rt:Bool) (s:Slo):ps24 s.b (dirI rt) s.l s.l.length = if rt = true then psS 1 s else (psS 0 s).reverse:=by
 cases rt
 ·show ps24 s.b 0 s.l s.l.length = (psS 0 s).reverse
  rw [ps24_zero s.b s.l _ (Nat.le_refl _)]
  unfold psS
  rw [← List.map_reverse,← List.length_reverse,List.take_length]
 ·show ps24 s.b 1 s.l s.l.length = psS 1 s
  rw [ps24_one s.b s.l _ (Nat.le_refl _),List.take_length]
  rfl
theorem wtF_one (l:List Slo):∀ i,i<=l.length->wtF true l i = psA 1 (l.take i)
 | 0,_=>rfl
 | i+1,h=>by
  have ih:=wtF_one l i (by omega)
  rw [psA_take 1 l (by omega),← ih]
  have:=ps24_all true (l.getD i sl0)
  simp only [wtF,kI,if_true]
  rw [this]
  rfl
theorem wtF_zero (l:List Slo):∀ i,i<=l.length->wtF false l i = ((l.reverse.take i).map fun s=>(psS 0 s).reverse).flatten
 | 0,_=>rfl
 | i+1,h=>by
  have ih:=wtF_zero l i (by omega)
  rw [take_map l.reverse (fun s=>(psS 0 s).reverse) sl0 (by simp; omega),List.flatten_append,← ih]
  have e:l.reverse.getD i sl0 = l.getD (l.length - 1 - i) sl0:=by
   rw [List.getD_eq_getElem?_getD,List.getD_eq_getElem?_getD,List.getElem?_reverse (by omega)]
  have:=ps24_all false (l.getD (l.length - 1 - i) sl0)
  rw [e]
  simp only [wtF,kI]
  rw [if_neg (by simp)]
  rw [this]
  simp
theorem wtF_all (rt:Bool) (l:List Slo):wtF rt l l.length = pastF (dirI rt) l:=by
 cases rt
 ·rw [wtF_zero l _ (Nat.le_refl _)]
  show _ = (psA 0 l).reverse
  rw [← List.length_reverse,List.take_length]
  unfold psA
  rw [List.reverse_flatten,List.map_map,List.map_reverse]
  rfl
 ·rw [wtF_one l _ (Nat.le_refl _),List.take_length]
  rfl
def bas (l:List Slo):List (Int × Idd):=(l.map fun s=>s.l.map fun a=>(s.b,a)).flatten
theorem psA_bas (d:Int) (l:List Slo):psA d l = (bas l).map fun x=>psOf x.1 d x.2:=by
 unfold psA bas
 rw [List.map_flatten,List.map_map]
 congr 1
 apply List.map_congr_left
 intro s _
 simp [psS,Function.comp_def]
theorem bas_len (l:List Slo):(bas l).length = (hel l).length:=by rw [← psA_len 0 l,psA_bas,List.length_map]
theorem pair_at (rt:Bool) (l:List Slo) {i:Nat} (h:i<(hel l).length):∃ b a,(pastF (dirI rt) l).getD i ps0 = psOf b (dirI rt) a/\(pastF (1 - dirI rt) l).getD ((hel l).length - 1 - i) ps0 = psOf b (1 - dirI rt) a:=by
 have hl:=bas_len l
 have key:∀ d j,j<(hel l).length->(psA d l).getD j ps0 = psOf ((bas l).getD j (0,id0)).1 d ((bas l).getD j (0,id0)).2:=fun d j hj=>by
  rw [psA_bas,List.getD_eq_getElem?_getD,List.getElem?_map,List.getD_eq_getElem?_getD,List.getElem?_eq_getElem (by omega)]
  rfl
 have rev:∀ d j,j<(hel l).length->(psA d l).reverse.getD j ps0 = (psA d l).getD ((hel l).length - 1 - j) ps0:=fun d j hj=>by
  have:=psA_len d l
  rw [List.getD_eq_getElem?_getD,List.getD_eq_getElem?_getD,List.getElem?_reverse (by omega),this]
 cases rt
 ·refine ⟨((bas l).getD ((hel l).length - 1 - i) (0,id0)).1,((bas l).getD ((hel l).length - 1 - i) (0,id0)).2,?_,?_⟩
  ·show ((psA 0 l).reverse).getD i ps0 = _
   rw [rev 0 i h,key 0 _ (by omega)]
   rfl
  ·show (psA 1 l).getD _ ps0 = _
   rw [key 1 _ (by omega)]
   rfl
 ·refine ⟨((bas l).getD i (0,id0)).1,((bas l).getD i (0,id0)).2,?_,?_⟩
  ·show (psA 1 l).getD i ps0 = _
   rw [key 1 i h]
   rfl
  ·show ((psA 0 l).reverse).getD _ ps0 = _
   rw [rev 0 _ (by omega),show (hel l).length - 1 - ((hel l).length - 1 - i) = i by omega,key 0 i h]
   rfl
section
variable {w:List Pss} {N i:Nat} {f f2:Nat->Pss}
theorem q6w (h:i<N):P6 (1 :: L6c) [9,14,15,16] (c6 w N i) [fB N f,fB N f2] .normal [9,14,15,16] (c6 w N i) [fB N f,fB N f2]:=by
 refine run6 ?_
 rw [g6w]
 exact BT rfl
theorem q6w' (h:¬ i<N):P6 (1 :: L6c) [9,14,15,16] (c6 w N i) [fB N f,fB N f2] (.exit 6) [9,14,15,16] (c6 w N i) [fB N f,fB N f2]:=by
 refine run6 ?_
 rw [g6w]
 exact BF rfl
theorem q6x (h:i<N) (hN:N<=1000000):P6 (1 :: B6c) [9,14,15,16] (c6 w N i) [fB N f,fB N f2] .normal [9,14,15,16,17,18] (c6 w N i ++ [.reg (f i).c,.reg (f2 (N - 1 - i)).c]) [fB N f,fB N f2]:=by
 refine run6 ?_
 have e:IntKind.i64.wrap (IntKind.i64.wrap (Int.ofNat N - (1:Int)) - Int.ofNat i) = Int.ofNat (N - 1 - i):=by
  rw [wr64 (x:=Int.ofNat N - 1) (by show (_:Int)<=(N:Int) - 1; omega) (by show (N:Int) - 1<=_; omega),wr64 (x:=Int.ofNat N - 1 - Int.ofNat i) (by show (_:Int)<=(N:Int) - 1 - (i:Int); omega) (by show (N:Int) - 1 - (i:Int)<=_; omega)]
  show (N:Int) - 1 - (i:Int) = ((N - 1 - i:Nat):Int); omega
 have e2:(Int.ofNat (N - 1 - i)).toNat = N - 1 - i:=rfl
 rw [g6x,e,e2]
 simp only [Nat.zero_add]
 exact BT (BT (BT (BT rfl)))
theorem q6y {a b:Pss} (h:i<w.length) (h1:a = w.getD i ps0) (h2:a.y = b.y) (h3:a.n = b.n) (h4:a.f = b.f) (h5:a.d ≠ b.d):P6 (2 :: B6c) [9,14,15,16,17,18] (c6 w N i ++ [.reg a.c,.reg b.c]) [fB N f,fB N f2] .normal [9,14,15,16] (c6 w N i) [fB N f,fB N f2]:=by
 refine run6 ?_
 rw [g6y,← show a = w.getD i ⟨0,0,false,0⟩ from h1]
 refine BT (BT (BT (bift (by cases a.f <;> rfl) (BT (BT (BT ?_))))))
 cases ha:a.f
 ·exact biff (by simp) (biff (by rw [← h4,ha]; simp) (BF rfl))
 ·exact bift rfl (bift (by rw [← h4,ha]) (BF rfl))
theorem q6z (h:i<=1000000):P6 (2 :: 2 :: L6c) [9,14,15,16] (c6 w N i) [fB N f,fB N f2] .normal [9,14,15,16] (c6 w N (i+1)) [fB N f,fB N f2]:=by
 refine run6 ?_
 rw [g6z,up1 (by omega)]
 rfl
theorem cq6 (hN:N<=1000000) (hw:w.length = N) (hp:∀ i,i<N->f i = w.getD i ps0/\(f i).y = (f2 (N - 1 - i)).y/\(f i).n = (f2 (N - 1 - i)).n/\(f i).f = (f2 (N - 1 - i)).f/\(f i).d ≠ (f2 (N - 1 - i)).d) :
 P6 (2 :: 1 :: 2 :: 2 :: 2 :: 2 :: 2 :: 2 :: 2 :: T1) [9,14,15,16] (c6 w N 0) [fB N f,fB N f2] .normal [9,14,15,16] (c6 w N N) [fB N f,fB N f2]:=by
 refine Pz.blk (id:=6) (e:=.exit 6) (by kernel_rfl) rfl (Pz.count (by kernel_rfl) (fun i=>c6 w N i) (fun _=>[fB N f,fB N f2]) (n:=N) (by simp) (fun i hi=>?_) (Pz.seqX (by kernel_rfl) (by simp) (q6w' (Nat.lt_irrefl _))))
 obtain ⟨h1,h2,h3,h4,h5⟩:=hp i hi
 exact Pz.seq (by kernel_rfl) (q6w hi) (Pz.seq (by kernel_rfl) (Pz.blk (id:=7) (e:=.normal) (by kernel_rfl) rfl (Pz.seq (by kernel_rfl) (q6x hi hN) (q6y (by omega) h1 h2 h3 h4 h5))) (q6z (by omega)))
end
section
variable {rt:Bool} {X:T2}
theorem w6l {sl:List Slo} {v:Nat}:Wk G16 A16 6 0 [1,5] [.bool rt,.own 0 v 0 sl.length none] [slB v sl] [.bool rt,slV sl none] []:=fun nt=>by
 refine WeakTo.canonS [] rfl ?_ rfl .nil
 show [T.bool rt,resolve 4 [] [slB v sl] (.own 0 v 0 sl.length none)] = _
 have e:resolve 4 [] [slB v sl] (.own 0 v 0 sl.length none) = bif v==v&&(0+sl.length).ble sl.length then .view 2 sl.length (fun j=>(sl.getD (0+j) sl0).c) none else .undef:=by kernel_rfl
 rw [e,beq_self_eq_true,Nat.zero_add,bleT (Nat.le_refl _)]
 simp only [Nat.zero_add]
 rfl
theorem w6m {l:List Slo} {d:Int} {w:List Pss} {v:Nat}:Wk G16 A16 6 0 [5,9,10] [slV l none,.own 0 v 0 w.length none,.int .u8 d] [psB v w] [slV l none,psL w,.int .u8 d] []:=fun nt=>by
 refine WeakTo.canonS [] rfl ?_ rfl .nil
 show [slV l none,resolve 4 [] [psB v w] (.own 0 v 0 w.length none),T.int .u8 d] = _
 have e:resolve 4 [] [psB v w] (.own 0 v 0 w.length none) = bif v==v&&(0+w.length).ble w.length then .view 4 w.length (fun j=>(w.getD (0+j) ps0).c) none else .undef:=by kernel_rfl
 rw [e,beq_self_eq_true,Nat.zero_add,bleT (Nat.le_refl _)]
 simp only [Nat.zero_add]
 rfl
theorem w6s:Wk G16 A16 6 0 [1,2,5,6] [.bool rt,.reg X.c,.nils,.int .i64 0] [] (s6 rt X [] 0 0) [slB 0 []]:=fun nt=>by
 refine WeakTo.ghost [slB 0 []] (by simp [slB]) rfl (fun k x z hx hz=>?_) (NilBs.refl _)
 rcases k with _ | _ | _ | _ | k <;> simp only [s6,List.getElem?_cons_zero,List.getElem?_cons_succ,List.getElem?_nil,Option.some.injEq,reduceCtorEq] at hx hz
 case succ.succ.zero =>
  subst hx hz
  exact .inl (NilT.own (b:=slB 0 []) (by decide) rfl rfl)
 all_goals (subst hx; subst hz; exact .refl _)
theorem w6t {l:List Slo} {d r:Int}:Wk G16 A16 6 0 [1,5,9,10,11,12] [.bool rt,slV l none,.nils,.int .u8 d,.int .i64 r,.int .i64 0] [] (t6 rt l d r [] 0 0) [psB 0 []]:=fun nt=>by
 refine WeakTo.ghost [psB 0 []] (by simp [psB]) rfl (fun k x z hx hz=>?_) (NilBs.refl _)
 rcases k with _ | _ | _ | _ | _ | _ | k <;> simp only [t6,List.getElem?_cons_zero,List.getElem?_cons_succ,List.getElem?_nil,Option.some.injEq,reduceCtorEq] at hx hz
 case succ.succ.zero =>
  subst hx hz
  exact .inl (NilT.own (b:=psB 0 []) (by decide) rfl rfl)
 all_goals (subst hx; subst hz; exact .refl _)
end
theorem fin6 {w:List Pss} {N i:Nat} {f f2:Nat->Pss}:P6 (2 :: 2 :: 2 :: 2 :: 2 :: 2 :: 2 :: 2 :: T1) [9,14,15,16] (c6 w N i) [fB N f,fB N f2] .ret [4] [.bool true] [fB N f,fB N f2]:=by
 obtain ⟨p,hp⟩:=is_val P16 G16 14
 refine Pz.run hm16 (told_add none_ok (callF_told hp)) (K:=K6d p) (m:=0) (by kernel_rfl) loops0 ?_
 rw [g6zz]
 exact bift (callF_yes hp lives16) rfl
theorem slot_len (X:T2) (i:Nat):(X.slot i).l.length<=6:=by
 show (idsF (X.L i) (X.cnt i)).length<=6
 rw [idsF_len]
 unfold T2.cnt
 split <;> omega
theorem sls_get (X:T2):∀ n j,((X.sls n).getD j sl0).l.length<=6
 | 0,j=>by simp [T2.sls,sl0]
 | n+1,j=>by
  have h1:=sls_get X n j
  have h2:=slot_len X n
  simp only [T2.sls]
  rw [getD_app]
  split
  ·exact h1
  ·rcases Nat.eq_zero_or_pos (j - (X.sls n).length) with q | q
   ·rw [q]; exact h2
   ·rw [getD_out _ _ (by simp only [List.length_singleton]; omega)]; simp [sl0]
theorem hel_le (X:T2):∀ n,(hel (X.sls n)).length<=6 * n
 | 0=>Nat.le_refl _
 | n+1=>by
  have h1:=hel_le X n
  have h2:=slot_len X n
  have e:hel (X.sls (n+1)) = hel (X.sls n) ++ (X.slot n).l:=by simp [hel,T2.sls]
  rw [e,List.length_append]
  omega
theorem law6T (X:T2) (rt:Bool) (hX:X.Ok) (hn:X.nb<=12) (hl:X.nl<=12):ToldOk P16 G16 6 [.agg X.c,.bool rt] (.bool true):=by
 obtain ⟨p,hp⟩:=is_val P16 G16 25
 have hlen:=X.sls_len X.nb
 have hsl:=sls_get X X.nb
 have hh:=hel_le X X.nb
 have c1:=Pz.count (P:=P16) (G:=G16) (A:=A16) (f:=6) (h0:=[]) (p:=[0,2,1,2,2,2]) (l:=[1,2,5,6]) (l1:=[1,2,5,6]) (e:=.exit 0) (by kernel_rfl) (fun i=>s6 rt X (X.sls i) i i) (fun i=>[slB i (X.sls i)]) (n:=X.nb) (by simp)
  (fun i hi=>rd6 hi hn hX) (Pz.seqX (by kernel_rfl) (by simp) (p6a' (Nat.lt_irrefl _)))
 obtain ⟨v',c2⟩:=lq6 (rt:=rt) (l:=X.sls X.nb) (by omega) (fun j=>by have:=hsl j; omega)
 rw [wtF_all] at c2
 have t1:=pastT (X.sls X.nb) none (dirI rt) (by omega) (by omega)
 have t2:=pastT (X.sls X.nb) none (1 - dirI rt) (by omega) (by omega)
 have hp2:∀ i,i<(hel (X.sls X.nb)).length->(pastF (dirI rt) (X.sls X.nb)).getD i ps0 = (pastF (dirI rt) (X.sls X.nb)).getD i ps0/\((pastF (dirI rt) (X.sls X.nb)).getD i ps0).y = ((pastF (1 - dirI rt) (X.sls X.nb)).getD ((hel (X.sls X.nb)).length - 1 - i) ps0).y/\((pastF (dirI rt) (X.sls X.nb)).getD i ps0).n = ((pastF (1 - dirI rt) (X.sls X.nb)).getD ((hel (X.sls X.nb)).length - 1 - i) ps0).n/\((pastF (dirI rt) (X.sls X.nb)).getD i ps0).f = ((pastF (1 - dirI rt) (X.sls X.nb)).getD ((hel (X.sls X.nb)).length - 1 - i) ps0).f/\((pastF (dirI rt) (X.sls X.nb)).getD i ps0).d ≠ ((pastF (1 - dirI rt) (X.sls X.nb)).getD ((hel (X.sls X.nb)).length - 1 - i) ps0).d:=fun i hi=>by
  obtain ⟨b,a,e1,e2⟩:=pair_at rt (X.sls X.nb) hi
  rw [e1,e2]
  refine ⟨rfl,rfl,rfl,rfl,?_⟩
  show dirI rt ≠ 1 - dirI rt
  unfold dirI
  split <;> omega
 have hwl:(pastF (dirI rt) (X.sls X.nb)).length = (hel (X.sls X.nb)).length:=by
  unfold pastF
  split
  ·exact psA_len _ _
  ·rw [List.length_reverse]; exact psA_len _ _
 have hd:IntKind.u8.wrap (1 - dirI rt) = 1 - dirI rt:=wr8 (by unfold dirI; split <;> omega) (by unfold dirI; split <;> omega)
 generalize pastF (dirI rt) (X.sls X.nb) = W at *
 generalize hel (X.sls X.nb) = H at *
 have hgo:P6 [] [0,1] [.agg X.c,.bool rt] [] .ret [4] [.bool true] [fB H.length (fun j=>W.getD j ps0),fB H.length (fun j=>(pastF (1 - dirI rt) (X.sls X.nb)).getD j ps0)]:=by
  refine Pz.seq (by kernel_rfl) (run6 (v1:=[.bool rt,.reg X.c,.bool false]) (h1:=[]) (l1:=[1,2,4]) (by kernel_rfl)) ?_
  refine Pz.seq (l1:=[1,2]) (v1:=[.bool rt,.reg X.c]) (h1:=[]) (by kernel_rfl) ?_ ?_
  ·refine run6 ?_
   have e:codeL P16 G16 A16 noneO 0 6 [] (nav (1 :: [2])) [1,2,4] [.bool rt,.reg X.c,.bool false] [] [1,2] = bif decide (12<Int.ofNat X.nb) then some (.ret,[.bool rt,.reg X.c],[]) else bif decide (12<Int.ofNat X.nl) then some (.ret,[.bool rt,.reg X.c],[]) else some (.normal,[.bool rt,.reg X.c],[]):=by kernel_rfl
   rw [e]
   exact BF (BF rfl)
  refine Pz.seq (l1:=[1,2,5]) (v1:=[.bool rt,.reg X.c,.nils]) (h1:=[]) (by kernel_rfl) (run6 (by kernel_rfl)) ?_
  refine Pz.seq (by kernel_rfl) (Pz.seq (by kernel_rfl) (Pz.post (run6 (v1:=[.bool rt,.reg X.c,.nils,.int .i64 0]) (h1:=[]) (l1:=[1,2,5,6]) (by kernel_rfl)) w6s) (Pz.post (Pz.only (l2:=[1,5]) (Pz.blk (id:=0) (e:=.exit 0) (by kernel_rfl) rfl c1) rfl) w6l)) ?_
  refine Pz.seq (by kernel_rfl) (run6 (g6n rt _)) (Pz.seq (by kernel_rfl) (run6 (g6o rt _)) ?_)
  refine Pz.seq (l1:=[1,5,9,10,11]) (v1:=[.bool rt,slV (X.sls X.nb) none,.nils,.int .u8 (dirI rt),.int .i64 (dirI rt)]) (h1:=[]) (by kernel_rfl) (run6 (by (have:=g6p rt (X.sls X.nb)); refine this.trans ?_; cases rt <;> rfl)) ?_
  refine Pz.seq (by kernel_rfl) (Pz.seq (by kernel_rfl) (Pz.post (run6 (g6q rt (X.sls X.nb) (dirI rt) (dirI rt))) w6t) (Pz.post (Pz.only (l2:=[5,9,10]) c2 rfl) w6m)) ?_
  refine Pz.seq (by kernel_rfl) (Pz.run (K:=K6c p H.length (fun j=>W.getD j ps0)) (m:=0) hm16 (told_add none_ok (callF_told hp)) (by kernel_rfl) loops0 ((g6s _ _ _ _ _ p).trans (bift (callF_yes hp t1) rfl))) ?_
  refine Pz.seq (by kernel_rfl) (Pz.run (K:=K6c p H.length (fun j=>(pastF (1 - dirI rt) (X.sls X.nb)).getD j ps0)) (m:=0) hm16 (told_add none_ok (callF_told hp)) (by kernel_rfl) loops0 ((g6t _ _ _ _ _ _ p).trans (bift (by rw [hd]; exact callF_yes hp t2) rfl))) ?_
  refine Pz.seq (by kernel_rfl) (run6 ((g6u _ _ _ _).trans (biff (by simp [hwl]) (biff (by simp) (biff (by simp) rfl))))) ?_
  refine Pz.seq (by kernel_rfl) (Pz.seq (by kernel_rfl) (run6 (g6v _ _ _ _)) (cq6 (by omega) hwl hp2)) fin6
 exact Pz.told (A:=A16) (l:=[0,1]) hn16 Tryz.func6 (by kernel_rfl) (by kernel_rfl) (by kernel_rfl) hgo (by kernel_rfl)
open Go.Proofs
theorem law6A (X:T2) (rt:Bool) (hX:X.Ok):ToldOk P16 G16 6 [.agg X.c,.bool rt] (.bool true):=by
 by_cases hc:X.nb<=12/\X.nl<=12
 ·exact law6T X rt hX hc.1 hc.2
 ·have hgo:P6 [] [0,1] [.agg X.c,.bool rt] [] .ret [4] [.bool true] []:=by
   refine Pz.seq (by kernel_rfl) (run6 (v1:=[.bool rt,.reg X.c,.bool false]) (h1:=[]) (l1:=[1,2,4]) (by kernel_rfl)) ?_
   refine Pz.seqX (by kernel_rfl) (by simp) (run6 ?_)
   have e:codeL P16 G16 A16 noneO 0 6 [] (nav (1 :: [2])) [1,2,4] [.bool rt,.reg X.c,.bool false] [] [4] = bif decide (12<Int.ofNat X.nb) then some (.ret,[.bool true],[]) else bif decide (12<Int.ofNat X.nl) then some (.ret,[.bool true],[]) else some (.normal,[.bool false],[]):=by kernel_rfl
   refine e.trans ?_
   clear e
   by_cases q:X.nb<=12
   ·exact BF (BT rfl)
   ·exact BT rfl
  exact Pz.told (A:=A16) (l:=[0,1]) hn16 Tryz.func6 (by kernel_rfl) (by kernel_rfl) (by kernel_rfl) hgo (by kernel_rfl)
open Go.Proofs
section
variable {Hp:Type}
theorem cells5_16:P16.cellsOf 5 = 1:=by kernel_rfl
theorem cells71_16:P16.cellsOf 71 = 1:=by kernel_rfl
theorem agg73_16:aggTy P16 73 = true:=by kernel_rfl
def cI16 (l:List T):Int:=match l with | [.int _ z]=>z | _=>0
theorem inv5_16 {ts:List T} {d:DataW Hp} (h:CT P16 5 ts d):∃ a:Int,ts = [.int .u8 a]/\0<=a/\a<256:=by
 obtain ⟨a,rfl,rfl,w⟩:=h.int_inv Tryz.underlying5
 have w:=wf_u8 w
 exact ⟨a,rfl,by omega,by omega⟩
theorem row16 {ts:List T} {d:DataW Hp} (h:CT P16 71 ts d):∃ (r:Nat->Int) (n:Nat),(∀ j,0<=r j/\r j<256)/\∃ x,ts = [x]/\Sim x (u8V r n none):=by
 rcases h.slice_inv Tryz.underlying71 (by rw [cells5_16]; omega) with ⟨rfl,rfl⟩ | ⟨n,c,g,elems,spare,rfl,rfl,he,hs,hn,hc,hg⟩
 ·exact ⟨fun _=>0,0,fun _=>⟨Int.le_refl 0,(by decide:(0:Int)<256)⟩,_,rfl,.nilv _ _ (.inl rfl)⟩
 ·have key:∀ j,j<n->∃ a:Int,g j = [.int .u8 a]/\0<=a/\a<256:=fun j hj=>inv5_16 (hg j elems[j] (by simp [show j<elems.length by omega]))
  refine ⟨fun j=>if j<n then cI16 (g j) else 0,n,fun j=>?_,_,rfl,?_⟩
  ·dsimp only
   split
   ·rename_i hj
    obtain ⟨a,q,q1,q2⟩:=key j hj
    rw [q]
    exact ⟨q1,q2⟩
   ·omega
  ·rw [cells5_16]
   refine .view (.inr rfl) fun j hj=>?_
   obtain ⟨a,q,_⟩:=key j hj
   show Sims (g j) [.int .u8 (if j<n then cI16 (g j) else 0)]
   rw [if_pos hj,q]
   exact .refl _
theorem rows16 {ts:List T} {d:DataW Hp} (h:CT P16 41 ts d):∃ (L:Nat->Nat->Int) (ln:Nat->Nat) (n:Nat),(∀ i k,0<=L i k/\L i k<256)/\∃ x,ts = [x]/\Sim x (.view 1 n (fun i=>[u8V (L i) (ln i) none]) none):=by
 rcases h.slice_inv Tryz.underlying41 (by rw [cells71_16]; omega) with ⟨rfl,rfl⟩ | ⟨n,c,g,elems,spare,rfl,rfl,he,hs,hn,hc,hg⟩
 ·exact ⟨fun _ _=>0,fun _=>0,0,fun _ _=>⟨Int.le_refl 0,(by decide:(0:Int)<256)⟩,_,rfl,.nilv _ _ (.inl rfl)⟩
 ·have key:∀ j,∃ (p:(Nat->Int) × Nat),(∀ k,0<=p.1 k/\p.1 k<256)/\(j<n->Sims (g j) [u8V p.1 p.2 none]):=fun j=>by
   by_cases hj:j<n
   ·obtain ⟨r,m,h1,x,h2,h3⟩:=row16 (hg j elems[j] (by simp [show j<elems.length by omega]))
    exact ⟨(r,m),h1,fun _=>by rw [h2]; exact .cons h3 .nil⟩
   ·exact ⟨(fun _=>0,0),fun _=>⟨Int.le_refl 0,(by decide:(0:Int)<256)⟩,fun h=>absurd h hj⟩
  refine ⟨fun j=>(key j).choose.1,fun j=>(key j).choose.2,n,fun i k=>(key i).choose_spec.1 k,_,rfl,?_⟩
  rw [cells71_16]
  exact .view (.inr rfl) fun j hj=>(key j).choose_spec.2 hj
theorem inv73_16 {ts:List T} {d:DataW Hp} (h:CT P16 73 ts d):∃ X:T2,X.Ok/\Sim (topT P16 73 ts) (.agg X.c):=by
 obtain ⟨parts,ds,rfl,rfl,hs⟩:=CT.struct_inv Tryz.underlying73 h; clear h; rename _=>h
 change CTs P16 [71,41] parts ds at h
 obtain ⟨p1,_,d1,_,rfl,rfl,h1,h⟩:=h.cons
 obtain ⟨p2,_,d2,_,rfl,rfl,h2,h⟩:=h.cons
 obtain ⟨rfl,rfl⟩:=h.nil
 obtain ⟨r,n,hr,x,rfl,sx⟩:=row16 h1
 obtain ⟨L,ln,m,hL,y,rfl,sy⟩:=rows16 h2
 refine ⟨⟨r,n,L,ln,m⟩,⟨hr,hL⟩,?_⟩
 rw [show topT P16 73 ([[x],[y]].flatten) = .agg [x,y] by simp [topT,agg73_16]]
 exact .agg (.cons sx (.cons sy .nil))
end
end Go.Ab

