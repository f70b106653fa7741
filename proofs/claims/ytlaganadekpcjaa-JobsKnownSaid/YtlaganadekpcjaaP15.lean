/- A part of the proof: nothing is assumed. -/
import Derived.Test.YtlaganadekpcjaaP14
set_option linter.all false
namespace Go.Ab
open Go.Proofs
set_option maxHeartbeats 1000000 in
theorem r5 (L:JL) (hL:L.Ok) (o:Nat->Nat) (i:Nat) (s:Nat->Bool) (v len nd:Nat) (d:Nat->Nat) (hn:L.n<=40) (hi:i<L.n) (ho:o i<L.n) (h0:0<len) (h1:len<=nd) (h2:len<=300) (hd:∀ j,j<len->d j<L.n) (g:Nat) (hg:g = lgst (fun j=>L.tm (apD d len (o i) j)) (len+1)) :
 (tms L (apD d len (o i)) (len+1)<=L.du (o i)->∃ v' nd',len+1<=nd'/\Step P41 G41 (A41 5) 5 8 1 (v8 L o (.own 1 v 0 len none) i) [bb 40 s,nb v nd d] (v8 L o (.own 1 v' 0 (len+1) none) (i+1:Nat)) [bb 40 s,nb v' nd' (apD d len (o i))]) ∧
 (¬ tms L (apD d len (o i)) (len+1)<=L.du (o i)->∃ v',Step P41 G41 (A41 5) 5 8 1 (v8 L o (.own 1 v 0 len none) i) [bb 40 s,nb v nd d] (v8 L o (.own 1 v' 0 len none) (i+1:Nat)) [bb 40 (aU s (apD d len (o i) g)),nb v' len (delD (apD d len (o i)) g len)]):=by
 have htm:=hL.tm (o i) ho
 have hgl:g<len+1:=by rw [hg]; exact lgst_lt _ _ (by omega)
 have hda:∀ j,j<len+1->apD d len (o i) j<L.n:=fun j hj=>by
  unfold apD
  by_cases q:j = len
  ·rw [if_pos q]; exact ho
  ·rw [if_neg q]; exact hd j (by omega)
 have hlm:=lgst_max (fun j=>L.tm (apD d len (o i) j)) (len+1)
 rw [← hg] at hlm
 have hmx:=mxd_lgst L (apD d len (o i)) (len+1) (fun j hj=>by have:=hL.tm _ (hda j hj); omega) (by omega)
 rw [← hg] at hmx
 have hx:=hda g hgl
 have hset:=apD_set (d:=d) (len:=len) (x:=o i)
 have hget:=fun (j:Nat) (hj:j<len+1)=>apD_get (d:=d) (x:=o i) hj
 have wi:IntKind.i64.wrap (Int.ofNat i+(1:Int)) = ((i+1:Nat):Int):=by rw [wr64 (by rw [ofNatE]; omega) (by rw [ofNatE]; omega)]; rfl
 have wg:IntKind.i64.wrap (Int.ofNat g+(1:Int)) = ((g+1:Nat):Int):=by rw [wr64 (by rw [ofNatE]; omega) (by rw [ofNatE]; omega)]; rfl
 have wl:IntKind.i64.wrap (Int.ofNat (len+1) - (1:Int)) = (len:Int):=by rw [wr64 (by rw [ofNatE]; omega) (by rw [ofNatE]; omega),ofNatE]; omega
 have ed:∀ j,j<len->delD (apD d len (o i)) g len j = if j<g then apD d len (o i) j else apD d len (o i) (j+1):=fun j hj=>by
  unfold delD
  by_cases q:j<g
  ·rw [if_pos q,if_pos q]
  ·rw [if_neg q,if_pos hj,if_neg q]
 generalize apD d len (o i) = dA at *
 have core:∀ v2 nd2,(len+1<=nd/\v2 = v/\nd2 = nd) ∨ (nd<len+1/\v2 = v+1/\nd2 = len+1)->len+1<=nd2 →
  (tms L dA (len+1)<=L.du (o i)->Step P41 G41 (A41 5) 5 8 1 (v8 L o (.own 1 v 0 len none) i) [bb 40 s,nb v nd d] (v8 L o (.own 1 v2 0 (len+1) none) (i+1:Nat)) [bb 40 s,nb v2 nd2 dA]) ∧
  (¬ tms L dA (len+1)<=L.du (o i)->∃ v',Step P41 G41 (A41 5) 5 8 1 (v8 L o (.own 1 v 0 len none) i) [bb 40 s,nb v nd d] (v8 L o (.own 1 v' 0 len none) (i+1:Nat)) [bb 40 (aU s (dA g)),nb v' len (delD dA g len)]):=by
  intro v2 nd2 hcase hnd2
  have la:=l13p L hL o i (bb 40 s) v2 (len+1) nd2 dA [tb (o i)] hnd2 (by omega) hda
  have lb:=l19p L o i (bb 40 s) v2 (len+1) nd2 g dA [tb (o i)] (by omega) hnd2 (by omega) hda (mxd L dA (len+1)) hgl hmx.symm (fun j q1 q2=>by rw [hmx]; exact hlm.2 j q1 q2)
  rw [show len+1 - 1 = len from rfl] at lb
  clear hmx hlm hg
  generalize tms L dA (len+1) = t at *
  generalize mxd L dA (len+1) = x at *
  have tree:=(show iterR P41 G41 A41 noneO 0 5 [(13,litS (v13' L o (.own 1 v2 0 (len+1) none) i 0 0 0) [bb 40 s,nb v2 nd2 dA,tb (o i)] (.exit 2) (e13' L o (.own 1 v2 0 (len+1) none) i t x) [bb 40 s,nb v2 nd2 dA,tb (o i)]),(19,litS (v19p L o (.own 1 v2 0 (len+1) none) i x (len:Nat)) [bb 40 s,nb v2 nd2 dA,tb (o i)] (.exit 4) (e19p L o (.own 1 v2 0 (len+1) none) i (g:Nat)) [bb 40 s,nb v2 nd2 dA,tb (o i)])] 8 (v8 L o (.own 1 v 0 len none) i) [bb 40 s,nb v nd d] =
(
 bif decide (Int.ofNat i<Int.ofNat L.n) then
 bif decide (0<=Int.ofNat i)&&decide (Int.ofNat i<Int.ofNat L.n) then
 bif v==v then
 bif ((0:Nat)+len).ble nd then
 bif ((len+(1:Nat)) * (9:Nat)).ble 70368744177664 then
 bif ((0:Nat)+len+(1:Nat)).ble nd then
 bif weakF [jv L
 none,ov L.n o (some L.n),.own 1 v 0 (len+1)
 none,.ptr 0 0 0 0,.int .i64 (.ofNat i),.int .i64 0,.int .i64 0,.int .i64 0] [bb 40 s,.mk v 1 nd (fun j =>
 bif ((0:Nat)+len).ble j&&j.blt (0+len+1) then [[T.int .i64 (Int.ofNat (o i))]].getD ((0:Nat)+(j - (0+len))) []
 else [.int .i64 (.ofNat (d j))]) true false,.mk 0 1 1 (fun j=>[[T.int .i64 (Int.ofNat (o i))]].getD j []) true true] [jv L
 none,ov L.n o (some L.n),.own 1 v2 0 (len+1)
 none,.ptr 0 0 0 0,.int .i64 (.ofNat i),.int .i64 0,.int .i64 0,.int .i64 0] [bb 40 s,nb v2 nd2 dA,.mk 0 1 1 (fun j=>[[T.int .i64 (Int.ofNat (o i))]].getD j []) true true] then
 bif decide (0<=Int.ofNat i)&&decide (Int.ofNat i<Int.ofNat L.n) then
 bif decide (0<=Int.ofNat (o i))&&decide (Int.ofNat (o i)<Int.ofNat L.n) then
 bif decide (t<=L.du (o i)) then
 some ((.normal,[jv L
 none,ov L.n o (some L.n),.own 1 v2 0 (len+1)
 none,.ptr 0 0 0 0,.int .i64 (IntKind.i64.wrap (Int.ofNat i+1))],[bb 40 s,nb v2 nd2 dA,.mk 0 1 1 (fun j=>[[T.int .i64 (Int.ofNat (o i))]].getD j []) true true]))
 else
 bif v2==v2 then
 bif weakF [jv L
 none,ov L.n o (some L.n),.own 1 v2 0 (len+1)
 none,.ptr 0 0 0 0,.int .i64 (.ofNat i),.int .i64 x,.int .i64 (IntKind.i64.wrap (Int.ofNat (len+1) - (1:Int)))] [bb 40 s,nb v2 nd2 dA,.mk 0 1 1 (fun j=>[[T.int .i64 (Int.ofNat (o i))]].getD j []) true true] [jv L
 none,ov L.n o (some L.n),.own 1 v2 0 (len+1)
 none,.ptr 0 0 0 0,.int .i64 (.ofNat i),.int .i64 x,.int .i64 (.ofNat len)] [bb 40 s,nb v2 nd2 dA,.mk 0 1 1 (fun j=>[[T.int .i64 (Int.ofNat (o i))]].getD j []) true true] then
 bif v2==v2 then
 bif decide (0<=Int.ofNat g)&&decide (Int.ofNat g<Int.ofNat (len+1)) then
 bif v2==v2 then
 bif ((0:Nat)+g).blt nd2 then
 bif decide (0<=Int.ofNat (dA (0+g)))&&decide (Int.ofNat (dA (0+g))<(40:Int)) then
 bif ((0:Nat)+dA ((0:Nat)+g)).blt 40&&true&&true&&true then
 bif v2==v2 then
 bif decide (0<=Int.ofNat g)&&decide (Int.ofNat g<=Int.ofNat (nd2 - 0)) then
 bif v2==v2 then
 bif ((0:Nat)+(g - (0:Nat))).ble nd2 then
 bif g - 0==(0:Nat) then
 bif v2==v2 then
 bif decide (0<=IntKind.i64.wrap (Int.ofNat g+1))&&decide (IntKind.i64.wrap (Int.ofNat g+1)<=Int.ofNat (len+1))&&decide (Int.ofNat (len+1)<=Int.ofNat (nd2 - 0)) then
 bif v2==v2 then
 bif ((0:Nat)+(IntKind.i64.wrap (Int.ofNat g+(1:Int))).toNat+(len+(1:Nat) - (IntKind.i64.wrap (Int.ofNat g+(1:Int))).toNat)).ble nd2 then
 bif len+1 - (IntKind.i64.wrap (Int.ofNat g+(1:Int))).toNat==(0:Nat) then
 some ((.normal,[jv L
 none,ov L.n o (some L.n),.own [Blk.mk 0 1 40 (fun e=>[T.bool (bif e==(0:Nat)+dA ((0:Nat)+g) then true
 else s e)]) true false,nb v2 nd2 dA,Blk.mk 0 1 1 (fun j=>[[T.int .i64 (Int.ofNat (o i))]].getD j []) true true].length (0:Nat) (0:Nat) (0:Nat) (some 0),.ptr 0 0 0 0,.int .i64 (IntKind.i64.wrap (Int.ofNat i+1))],[.mk 0 1 40 (fun e=>[.bool (bif e==0+dA (0+g) then true
 else s e)]) true false,nb v2 nd2 dA,.mk 0 1 1 (fun j=>[[T.int .i64 (Int.ofNat (o i))]].getD j []) true true,.mk 0 1 0 (fun j=>[]) true true]))
 else
 bif (((0:Nat)+(len+(1:Nat) - (IntKind.i64.wrap (Int.ofNat g+(1:Int))).toNat)) * (9:Nat)).ble 70368744177664 then
 bif ((0:Nat)+(len+(1:Nat) - (IntKind.i64.wrap (Int.ofNat g+(1:Int))).toNat)).ble 0 then
 bif ((0:Nat)+(len+(1:Nat) - (IntKind.i64.wrap (Int.ofNat g+(1:Int))).toNat)).ble 0 then
 some ((.normal,[jv L
 none,ov L.n o (some L.n),.own [Blk.mk 0 1 40 (fun e=>[T.bool (bif e==(0:Nat)+dA ((0:Nat)+g) then true
 else s e)]) true false,nb v2 nd2 dA,Blk.mk 0 1 1 (fun j=>[[T.int .i64 (Int.ofNat (o i))]].getD j []) true true].length (0:Nat) (0:Nat) ((0:Nat)+(len+1 - (IntKind.i64.wrap (Int.ofNat g+(1:Int))).toNat)) (some 0),.ptr 0 0 0 0,.int .i64 (IntKind.i64.wrap (Int.ofNat i+1))],[.mk 0 1 40 (fun e=>[.bool (bif e==0+dA (0+g) then true
 else s e)]) true false,nb v2 nd2 dA,.mk 0 1 1 (fun j=>[[T.int .i64 (Int.ofNat (o i))]].getD j []) true true,.mk 0 1 0 (fun j =>
 bif Nat.ble 0 j&&j.blt ((0:Nat)+(len+1 - (IntKind.i64.wrap (Int.ofNat g+(1:Int))).toNat)) then [.int .i64 (.ofNat (dA ((0:Nat)+(IntKind.i64.wrap (Int.ofNat g+(1:Int))).toNat+(j - 0))))]
 else []) true true]))
 else none else
 some ((.normal,[jv L
 none,ov L.n o (some L.n),.own [Blk.mk 0 1 40 (fun e=>[T.bool (bif e==(0:Nat)+dA ((0:Nat)+g) then true
 else s e)]) true false,nb v2 nd2 dA,Blk.mk 0 1 1 (fun j=>[[T.int .i64 (Int.ofNat (o i))]].getD j []) true true,Blk.mk 0 1 0 (fun j=>[]) true true].length (0:Nat) (0:Nat) ((0:Nat)+(len+1 - (IntKind.i64.wrap (Int.ofNat g+(1:Int))).toNat))
 none,.ptr 0 0 0 0,.int .i64 (IntKind.i64.wrap (Int.ofNat i+1))],[.mk 0 1 40 (fun e=>[.bool (bif e==0+dA (0+g) then true
 else s e)]) true false,nb v2 nd2 dA,.mk 0 1 1 (fun j=>[[T.int .i64 (Int.ofNat (o i))]].getD j []) true true,.mk 0 1 0 (fun j=>[]) true true,.mk 0 1 ((0:Nat)+(len+1 - (IntKind.i64.wrap (Int.ofNat g+(1:Int))).toNat)) (fun j=>[.int .i64 (.ofNat (dA ((0:Nat)+(IntKind.i64.wrap (Int.ofNat g+(1:Int))).toNat+(j - 0))))]) true false]))
 else none else none else none else none else none else
 bif (((0:Nat)+(g - (0:Nat))) * (9:Nat)).ble 70368744177664 then
 bif ((0:Nat)+(g - (0:Nat))).ble 0 then
 bif ((0:Nat)+(g - (0:Nat))).ble 0 then
 bif v2==v2 then
 bif decide (0<=IntKind.i64.wrap (Int.ofNat g+1))&&decide (IntKind.i64.wrap (Int.ofNat g+1)<=Int.ofNat (len+1))&&decide (Int.ofNat (len+1)<=Int.ofNat (nd2 - 0)) then
 bif v2==v2 then
 bif ((0:Nat)+(IntKind.i64.wrap (Int.ofNat g+(1:Int))).toNat+(len+(1:Nat) - (IntKind.i64.wrap (Int.ofNat g+(1:Int))).toNat)).ble nd2 then
 bif ((0:Nat)+((0:Nat)+(g - (0:Nat)))).ble 0 then
 bif len+1 - (IntKind.i64.wrap (Int.ofNat g+(1:Int))).toNat==(0:Nat) then
 some ((.normal,[jv L
 none,ov L.n o (some L.n),.own [Blk.mk 0 1 40 (fun e=>[T.bool (bif e==(0:Nat)+dA ((0:Nat)+g) then true
 else s e)]) true false,nb v2 nd2 dA,Blk.mk 0 1 1 (fun j=>[[T.int .i64 (Int.ofNat (o i))]].getD j []) true true].length (0:Nat) (0:Nat) ((0:Nat)+(g - 0)) (some 0),.ptr 0 0 0 0,.int .i64 (IntKind.i64.wrap (Int.ofNat i+1))],[.mk 0 1 40 (fun e=>[.bool (bif e==0+dA (0+g) then true
 else s e)]) true false,nb v2 nd2 dA,.mk 0 1 1 (fun j=>[[T.int .i64 (Int.ofNat (o i))]].getD j []) true true,.mk 0 1 0 (fun j =>
 bif Nat.ble 0 j&&j.blt ((0:Nat)+(g - 0)) then [.int .i64 (.ofNat (dA ((0:Nat)+(j - 0))))]
 else []) true true]))
 else
 bif (((0:Nat)+(g - (0:Nat))+(len+(1:Nat) - (IntKind.i64.wrap (Int.ofNat g+(1:Int))).toNat)) * (9:Nat)).ble 70368744177664 then
 bif ((0:Nat)+(g - (0:Nat))+(len+(1:Nat) - (IntKind.i64.wrap (Int.ofNat g+(1:Int))).toNat)).ble 0 then
 bif ((0:Nat)+((0:Nat)+(g - (0:Nat)))+(len+(1:Nat) - (IntKind.i64.wrap (Int.ofNat g+(1:Int))).toNat)).ble 0 then
 some ((.normal,[jv L
 none,ov L.n o (some L.n),.own [Blk.mk 0 1 40 (fun e=>[T.bool (bif e==(0:Nat)+dA ((0:Nat)+g) then true
 else s e)]) true false,nb v2 nd2 dA,Blk.mk 0 1 1 (fun j=>[[T.int .i64 (Int.ofNat (o i))]].getD j []) true true].length (0:Nat) (0:Nat) ((0:Nat)+(g - 0)+(len+1 - (IntKind.i64.wrap (Int.ofNat g+(1:Int))).toNat)) (some 0),.ptr 0 0 0 0,.int .i64 (IntKind.i64.wrap (Int.ofNat i+1))],[.mk 0 1 40 (fun e=>[.bool (bif e==0+dA (0+g) then true
 else s e)]) true false,nb v2 nd2 dA,.mk 0 1 1 (fun j=>[[T.int .i64 (Int.ofNat (o i))]].getD j []) true true,.mk 0 1 0 (fun j =>
 bif ((0:Nat)+((0:Nat)+(g - (0:Nat)))).ble j&&j.blt ((0:Nat)+((0:Nat)+(g - 0))+(len+1 - (IntKind.i64.wrap (Int.ofNat g+(1:Int))).toNat)) then [.int .i64 (.ofNat (dA ((0:Nat)+(IntKind.i64.wrap (Int.ofNat g+(1:Int))).toNat+(j - ((0:Nat)+((0:Nat)+(g - 0)))))))]
 else
 bif Nat.ble 0 j&&j.blt ((0:Nat)+(g - 0)) then [.int .i64 (.ofNat (dA ((0:Nat)+(j - 0))))]
 else []) true true]))
 else none else
 some ((.normal,[jv L
 none,ov L.n o (some L.n),.own [Blk.mk 0 1 40 (fun e=>[T.bool (bif e==(0:Nat)+dA ((0:Nat)+g) then true
 else s e)]) true false,nb v2 nd2 dA,Blk.mk 0 1 1 (fun j=>[[T.int .i64 (Int.ofNat (o i))]].getD j []) true true,Blk.mk 0 1 0 (fun j =>
 bif Nat.ble 0 j&&j.blt ((0:Nat)+(g - (0:Nat))) then [T.int .i64 (Int.ofNat (dA ((0:Nat)+(j - (0:Nat)))))]
 else []) true true].length (0:Nat) (0:Nat) ((0:Nat)+(g - 0)+(len+1 - (IntKind.i64.wrap (Int.ofNat g+(1:Int))).toNat))
 none,.ptr 0 0 0 0,.int .i64 (IntKind.i64.wrap (Int.ofNat i+1))],[.mk 0 1 40 (fun e=>[.bool (bif e==0+dA (0+g) then true
 else s e)]) true false,nb v2 nd2 dA,.mk 0 1 1 (fun j=>[[T.int .i64 (Int.ofNat (o i))]].getD j []) true true,.mk 0 1 0 (fun j =>
 bif Nat.ble 0 j&&j.blt ((0:Nat)+(g - 0)) then [.int .i64 (.ofNat (dA ((0:Nat)+(j - 0))))]
 else []) true true,.mk 0 1 ((0:Nat)+(g - 0)+(len+1 - (IntKind.i64.wrap (Int.ofNat g+(1:Int))).toNat)) (fun j =>
 bif j.blt ((0:Nat)+(g - 0)) then
 bif Nat.ble 0 (0+j)&&((0:Nat)+j).blt ((0:Nat)+(g - 0)) then [.int .i64 (.ofNat (dA ((0:Nat)+(0+j - 0))))]
 else []
 else [.int .i64 (.ofNat (dA ((0:Nat)+(IntKind.i64.wrap (Int.ofNat g+(1:Int))).toNat+(j - ((0:Nat)+(g - 0))))))]) true false]))
 else none else none else none else none else none else none else none else
 bif v2==v2 then
 bif decide (0<=IntKind.i64.wrap (Int.ofNat g+1))&&decide (IntKind.i64.wrap (Int.ofNat g+1)<=Int.ofNat (len+1))&&decide (Int.ofNat (len+1)<=Int.ofNat (nd2 - 0)) then
 bif v2==v2 then
 bif ((0:Nat)+(IntKind.i64.wrap (Int.ofNat g+(1:Int))).toNat+(len+(1:Nat) - (IntKind.i64.wrap (Int.ofNat g+(1:Int))).toNat)).ble nd2 then
 bif ((0:Nat)+((0:Nat)+(g - (0:Nat)))).ble ((0:Nat)+(g - 0)) then
 bif len+1 - (IntKind.i64.wrap (Int.ofNat g+(1:Int))).toNat==(0:Nat) then
 some ((.normal,[jv L
 none,ov L.n o (some L.n),.own [Blk.mk 0 1 40 (fun e=>[T.bool (bif e==(0:Nat)+dA ((0:Nat)+g) then true
 else s e)]) true false,nb v2 nd2 dA,Blk.mk 0 1 1 (fun j=>[[T.int .i64 (Int.ofNat (o i))]].getD j []) true true,Blk.mk 0 1 0 (fun j=>[]) true true].length (0:Nat) (0:Nat) ((0:Nat)+(g - 0))
 none,.ptr 0 0 0 0,.int .i64 (IntKind.i64.wrap (Int.ofNat i+1))],[.mk 0 1 40 (fun e=>[.bool (bif e==0+dA (0+g) then true
 else s e)]) true false,nb v2 nd2 dA,.mk 0 1 1 (fun j=>[[T.int .i64 (Int.ofNat (o i))]].getD j []) true true,.mk 0 1 0 (fun j=>[]) true true,.mk 0 1 ((0:Nat)+(g - 0)) (fun j=>[.int .i64 (.ofNat (dA ((0:Nat)+(j - 0))))]) true false]))
 else
 bif (((0:Nat)+(g - (0:Nat))+(len+(1:Nat) - (IntKind.i64.wrap (Int.ofNat g+(1:Int))).toNat)) * (9:Nat)).ble 70368744177664 then
 bif ((0:Nat)+((0:Nat)+(g - (0:Nat)))+(len+(1:Nat) - (IntKind.i64.wrap (Int.ofNat g+(1:Int))).toNat)).ble ((0:Nat)+(g - 0)) then
 some ((.normal,[jv L
 none,ov L.n o (some L.n),.own [Blk.mk 0 1 40 (fun e=>[T.bool (bif e==(0:Nat)+dA ((0:Nat)+g) then true
 else s e)]) true false,nb v2 nd2 dA,Blk.mk 0 1 1 (fun j=>[[T.int .i64 (Int.ofNat (o i))]].getD j []) true true,Blk.mk 0 1 0 (fun j=>[]) true true].length (0:Nat) (0:Nat) ((0:Nat)+(g - 0)+(len+1 - (IntKind.i64.wrap (Int.ofNat g+(1:Int))).toNat))
 none,.ptr 0 0 0 0,.int .i64 (IntKind.i64.wrap (Int.ofNat i+1))],[.mk 0 1 40 (fun e=>[.bool (bif e==0+dA (0+g) then true
 else s e)]) true false,nb v2 nd2 dA,.mk 0 1 1 (fun j=>[[T.int .i64 (Int.ofNat (o i))]].getD j []) true true,.mk 0 1 0 (fun j=>[]) true true,.mk 0 1 ((0:Nat)+(g - 0)) (fun j =>
 bif ((0:Nat)+((0:Nat)+(g - (0:Nat)))).ble j&&j.blt ((0:Nat)+((0:Nat)+(g - 0))+(len+1 - (IntKind.i64.wrap (Int.ofNat g+(1:Int))).toNat)) then [.int .i64 (.ofNat (dA ((0:Nat)+(IntKind.i64.wrap (Int.ofNat g+(1:Int))).toNat+(j - ((0:Nat)+((0:Nat)+(g - 0)))))))]
 else [.int .i64 (.ofNat (dA ((0:Nat)+(j - 0))))]) true false]))
 else
 some ((.normal,[jv L
 none,ov L.n o (some L.n),.own [Blk.mk 0 1 40 (fun e=>[T.bool (bif e==(0:Nat)+dA ((0:Nat)+g) then true
 else s e)]) true false,nb v2 nd2 dA,Blk.mk 0 1 1 (fun j=>[[T.int .i64 (Int.ofNat (o i))]].getD j []) true true,Blk.mk 0 1 0 (fun j=>[]) true true].length (1:Nat) (0:Nat) ((0:Nat)+(g - 0)+(len+1 - (IntKind.i64.wrap (Int.ofNat g+(1:Int))).toNat))
 none,.ptr 0 0 0 0,.int .i64 (IntKind.i64.wrap (Int.ofNat i+1))],[.mk 0 1 40 (fun e=>[.bool (bif e==0+dA (0+g) then true
 else s e)]) true false,nb v2 nd2 dA,.mk 0 1 1 (fun j=>[[T.int .i64 (Int.ofNat (o i))]].getD j []) true true,.mk 0 1 0 (fun j=>[]) true true,.mk 1 1 ((0:Nat)+(g - 0)+(len+1 - (IntKind.i64.wrap (Int.ofNat g+(1:Int))).toNat)) (fun j =>
 bif j.blt ((0:Nat)+(g - 0)) then [.int .i64 (.ofNat (dA ((0:Nat)+(0+j - 0))))]
 else [.int .i64 (.ofNat (dA ((0:Nat)+(IntKind.i64.wrap (Int.ofNat g+(1:Int))).toNat+(j - ((0:Nat)+(g - 0))))))]) true false]))
 else none else none else none else none else none else none else none else none else none else none else none else none else none else none else none else none else none else none else none else none else none else none else
 bif weakF [jv L
 none,ov L.n o (some L.n),.own 1 (v+1) (0:Nat) (len+1)
 none,.ptr 0 0 0 0,.int .i64 (.ofNat i),.int .i64 0,.int .i64 0,.int .i64 0] [bb 40 s,.mk (v+1) (1:Nat) (len+1) (fun j =>
 bif j.blt len then [.int .i64 (.ofNat (d (0+j)))]
 else [[T.int .i64 (Int.ofNat (o i))]].getD ((0:Nat)+(j - len)) []) true false,.mk 0 1 1 (fun j=>[[T.int .i64 (Int.ofNat (o i))]].getD j []) true true] [jv L
 none,ov L.n o (some L.n),.own 1 v2 0 (len+1)
 none,.ptr 0 0 0 0,.int .i64 (.ofNat i),.int .i64 0,.int .i64 0,.int .i64 0] [bb 40 s,nb v2 nd2 dA,.mk 0 1 1 (fun j=>[[T.int .i64 (Int.ofNat (o i))]].getD j []) true true] then
 bif decide (0<=Int.ofNat i)&&decide (Int.ofNat i<Int.ofNat L.n) then
 bif decide (0<=Int.ofNat (o i))&&decide (Int.ofNat (o i)<Int.ofNat L.n) then
 bif decide (t<=L.du (o i)) then
 some ((.normal,[jv L
 none,ov L.n o (some L.n),.own 1 v2 0 (len+1)
 none,.ptr 0 0 0 0,.int .i64 (IntKind.i64.wrap (Int.ofNat i+1))],[bb 40 s,nb v2 nd2 dA,.mk 0 1 1 (fun j=>[[T.int .i64 (Int.ofNat (o i))]].getD j []) true true]))
 else
 bif v2==v2 then
 bif weakF [jv L
 none,ov L.n o (some L.n),.own 1 v2 0 (len+1)
 none,.ptr 0 0 0 0,.int .i64 (.ofNat i),.int .i64 x,.int .i64 (IntKind.i64.wrap (Int.ofNat (len+1) - (1:Int)))] [bb 40 s,nb v2 nd2 dA,.mk 0 1 1 (fun j=>[[T.int .i64 (Int.ofNat (o i))]].getD j []) true true] [jv L
 none,ov L.n o (some L.n),.own 1 v2 0 (len+1)
 none,.ptr 0 0 0 0,.int .i64 (.ofNat i),.int .i64 x,.int .i64 (.ofNat len)] [bb 40 s,nb v2 nd2 dA,.mk 0 1 1 (fun j=>[[T.int .i64 (Int.ofNat (o i))]].getD j []) true true] then
 bif v2==v2 then
 bif decide (0<=Int.ofNat g)&&decide (Int.ofNat g<Int.ofNat (len+1)) then
 bif v2==v2 then
 bif ((0:Nat)+g).blt nd2 then
 bif decide (0<=Int.ofNat (dA (0+g)))&&decide (Int.ofNat (dA (0+g))<(40:Int)) then
 bif ((0:Nat)+dA ((0:Nat)+g)).blt 40&&true&&true&&true then
 bif v2==v2 then
 bif decide (0<=Int.ofNat g)&&decide (Int.ofNat g<=Int.ofNat (nd2 - 0)) then
 bif v2==v2 then
 bif ((0:Nat)+(g - (0:Nat))).ble nd2 then
 bif g - 0==(0:Nat) then
 bif v2==v2 then
 bif decide (0<=IntKind.i64.wrap (Int.ofNat g+1))&&decide (IntKind.i64.wrap (Int.ofNat g+1)<=Int.ofNat (len+1))&&decide (Int.ofNat (len+1)<=Int.ofNat (nd2 - 0)) then
 bif v2==v2 then
 bif ((0:Nat)+(IntKind.i64.wrap (Int.ofNat g+(1:Int))).toNat+(len+(1:Nat) - (IntKind.i64.wrap (Int.ofNat g+(1:Int))).toNat)).ble nd2 then
 bif len+1 - (IntKind.i64.wrap (Int.ofNat g+(1:Int))).toNat==(0:Nat) then
 some ((.normal,[jv L
 none,ov L.n o (some L.n),.own [Blk.mk 0 1 40 (fun e=>[T.bool (bif e==(0:Nat)+dA ((0:Nat)+g) then true
 else s e)]) true false,nb v2 nd2 dA,Blk.mk 0 1 1 (fun j=>[[T.int .i64 (Int.ofNat (o i))]].getD j []) true true].length (0:Nat) (0:Nat) (0:Nat) (some 0),.ptr 0 0 0 0,.int .i64 (IntKind.i64.wrap (Int.ofNat i+1))],[.mk 0 1 40 (fun e=>[.bool (bif e==0+dA (0+g) then true
 else s e)]) true false,nb v2 nd2 dA,.mk 0 1 1 (fun j=>[[T.int .i64 (Int.ofNat (o i))]].getD j []) true true,.mk 0 1 0 (fun j=>[]) true true]))
 else
 bif (((0:Nat)+(len+(1:Nat) - (IntKind.i64.wrap (Int.ofNat g+(1:Int))).toNat)) * (9:Nat)).ble 70368744177664 then
 bif ((0:Nat)+(len+(1:Nat) - (IntKind.i64.wrap (Int.ofNat g+(1:Int))).toNat)).ble 0 then
 bif ((0:Nat)+(len+(1:Nat) - (IntKind.i64.wrap (Int.ofNat g+(1:Int))).toNat)).ble 0 then
 some ((.normal,[jv L
 none,ov L.n o (some L.n),.own [Blk.mk 0 1 40 (fun e=>[T.bool (bif e==(0:Nat)+dA ((0:Nat)+g) then true
 else s e)]) true false,nb v2 nd2 dA,Blk.mk 0 1 1 (fun j=>[[T.int .i64 (Int.ofNat (o i))]].getD j []) true true].length (0:Nat) (0:Nat) ((0:Nat)+(len+1 - (IntKind.i64.wrap (Int.ofNat g+(1:Int))).toNat)) (some 0),.ptr 0 0 0 0,.int .i64 (IntKind.i64.wrap (Int.ofNat i+1))],[.mk 0 1 40 (fun e=>[.bool (bif e==0+dA (0+g) then true
 else s e)]) true false,nb v2 nd2 dA,.mk 0 1 1 (fun j=>[[T.int .i64 (Int.ofNat (o i))]].getD j []) true true,.mk 0 1 0 (fun j =>
 bif Nat.ble 0 j&&j.blt ((0:Nat)+(len+1 - (IntKind.i64.wrap (Int.ofNat g+(1:Int))).toNat)) then [.int .i64 (.ofNat (dA ((0:Nat)+(IntKind.i64.wrap (Int.ofNat g+(1:Int))).toNat+(j - 0))))]
 else []) true true]))
 else none else
 some ((.normal,[jv L
 none,ov L.n o (some L.n),.own [Blk.mk 0 1 40 (fun e=>[T.bool (bif e==(0:Nat)+dA ((0:Nat)+g) then true
 else s e)]) true false,nb v2 nd2 dA,Blk.mk 0 1 1 (fun j=>[[T.int .i64 (Int.ofNat (o i))]].getD j []) true true,Blk.mk 0 1 0 (fun j=>[]) true true].length (0:Nat) (0:Nat) ((0:Nat)+(len+1 - (IntKind.i64.wrap (Int.ofNat g+(1:Int))).toNat))
 none,.ptr 0 0 0 0,.int .i64 (IntKind.i64.wrap (Int.ofNat i+1))],[.mk 0 1 40 (fun e=>[.bool (bif e==0+dA (0+g) then true
 else s e)]) true false,nb v2 nd2 dA,.mk 0 1 1 (fun j=>[[T.int .i64 (Int.ofNat (o i))]].getD j []) true true,.mk 0 1 0 (fun j=>[]) true true,.mk 0 1 ((0:Nat)+(len+1 - (IntKind.i64.wrap (Int.ofNat g+(1:Int))).toNat)) (fun j=>[.int .i64 (.ofNat (dA ((0:Nat)+(IntKind.i64.wrap (Int.ofNat g+(1:Int))).toNat+(j - 0))))]) true false]))
 else none else none else none else none else none else
 bif (((0:Nat)+(g - (0:Nat))) * (9:Nat)).ble 70368744177664 then
 bif ((0:Nat)+(g - (0:Nat))).ble 0 then
 bif ((0:Nat)+(g - (0:Nat))).ble 0 then
 bif v2==v2 then
 bif decide (0<=IntKind.i64.wrap (Int.ofNat g+1))&&decide (IntKind.i64.wrap (Int.ofNat g+1)<=Int.ofNat (len+1))&&decide (Int.ofNat (len+1)<=Int.ofNat (nd2 - 0)) then
 bif v2==v2 then
 bif ((0:Nat)+(IntKind.i64.wrap (Int.ofNat g+(1:Int))).toNat+(len+(1:Nat) - (IntKind.i64.wrap (Int.ofNat g+(1:Int))).toNat)).ble nd2 then
 bif ((0:Nat)+((0:Nat)+(g - (0:Nat)))).ble 0 then
 bif len+1 - (IntKind.i64.wrap (Int.ofNat g+(1:Int))).toNat==(0:Nat) then
 some ((.normal,[jv L
 none,ov L.n o (some L.n),.own [Blk.mk 0 1 40 (fun e=>[T.bool (bif e==(0:Nat)+dA ((0:Nat)+g) then true
 else s e)]) true false,nb v2 nd2 dA,Blk.mk 0 1 1 (fun j=>[[T.int .i64 (Int.ofNat (o i))]].getD j []) true true].length (0:Nat) (0:Nat) ((0:Nat)+(g - 0)) (some 0),.ptr 0 0 0 0,.int .i64 (IntKind.i64.wrap (Int.ofNat i+1))],[.mk 0 1 40 (fun e=>[.bool (bif e==0+dA (0+g) then true
 else s e)]) true false,nb v2 nd2 dA,.mk 0 1 1 (fun j=>[[T.int .i64 (Int.ofNat (o i))]].getD j []) true true,.mk 0 1 0 (fun j =>
 bif Nat.ble 0 j&&j.blt ((0:Nat)+(g - 0)) then [.int .i64 (.ofNat (dA ((0:Nat)+(j - 0))))]
 else []) true true]))
 else
 bif (((0:Nat)+(g - (0:Nat))+(len+(1:Nat) - (IntKind.i64.wrap (Int.ofNat g+(1:Int))).toNat)) * (9:Nat)).ble 70368744177664 then
 bif ((0:Nat)+(g - (0:Nat))+(len+(1:Nat) - (IntKind.i64.wrap (Int.ofNat g+(1:Int))).toNat)).ble 0 then
 bif ((0:Nat)+((0:Nat)+(g - (0:Nat)))+(len+(1:Nat) - (IntKind.i64.wrap (Int.ofNat g+(1:Int))).toNat)).ble 0 then
 some ((.normal,[jv L
 none,ov L.n o (some L.n),.own [Blk.mk 0 1 40 (fun e=>[T.bool (bif e==(0:Nat)+dA ((0:Nat)+g) then true
 else s e)]) true false,nb v2 nd2 dA,Blk.mk 0 1 1 (fun j=>[[T.int .i64 (Int.ofNat (o i))]].getD j []) true true].length (0:Nat) (0:Nat) ((0:Nat)+(g - 0)+(len+1 - (IntKind.i64.wrap (Int.ofNat g+(1:Int))).toNat)) (some 0),.ptr 0 0 0 0,.int .i64 (IntKind.i64.wrap (Int.ofNat i+1))],[.mk 0 1 40 (fun e=>[.bool (bif e==0+dA (0+g) then true
 else s e)]) true false,nb v2 nd2 dA,.mk 0 1 1 (fun j=>[[T.int .i64 (Int.ofNat (o i))]].getD j []) true true,.mk 0 1 0 (fun j =>
 bif ((0:Nat)+((0:Nat)+(g - (0:Nat)))).ble j&&j.blt ((0:Nat)+((0:Nat)+(g - 0))+(len+1 - (IntKind.i64.wrap (Int.ofNat g+(1:Int))).toNat)) then [.int .i64 (.ofNat (dA ((0:Nat)+(IntKind.i64.wrap (Int.ofNat g+(1:Int))).toNat+(j - ((0:Nat)+((0:Nat)+(g - 0)))))))]
 else
 bif Nat.ble 0 j&&j.blt ((0:Nat)+(g - 0)) then [.int .i64 (.ofNat (dA ((0:Nat)+(j - 0))))]
 else []) true true]))
 else none else
 some ((.normal,[jv L
 none,ov L.n o (some L.n),.own [Blk.mk 0 1 40 (fun e=>[T.bool (bif e==(0:Nat)+dA ((0:Nat)+g) then true
 else s e)]) true false,nb v2 nd2 dA,Blk.mk 0 1 1 (fun j=>[[T.int .i64 (Int.ofNat (o i))]].getD j []) true true,Blk.mk 0 1 0 (fun j =>
 bif Nat.ble 0 j&&j.blt ((0:Nat)+(g - (0:Nat))) then [T.int .i64 (Int.ofNat (dA ((0:Nat)+(j - (0:Nat)))))]
 else []) true true].length (0:Nat) (0:Nat) ((0:Nat)+(g - 0)+(len+1 - (IntKind.i64.wrap (Int.ofNat g+(1:Int))).toNat))
 none,.ptr 0 0 0 0,.int .i64 (IntKind.i64.wrap (Int.ofNat i+1))],[.mk 0 1 40 (fun e=>[.bool (bif e==0+dA (0+g) then true
 else s e)]) true false,nb v2 nd2 dA,.mk 0 1 1 (fun j=>[[T.int .i64 (Int.ofNat (o i))]].getD j []) true true,.mk 0 1 0 (fun j =>
 bif Nat.ble 0 j&&j.blt ((0:Nat)+(g - 0)) then [.int .i64 (.ofNat (dA ((0:Nat)+(j - 0))))]
 else []) true true,.mk 0 1 ((0:Nat)+(g - 0)+(len+1 - (IntKind.i64.wrap (Int.ofNat g+(1:Int))).toNat)) (fun j =>
 bif j.blt ((0:Nat)+(g - 0)) then
 bif Nat.ble 0 (0+j)&&((0:Nat)+j).blt ((0:Nat)+(g - 0)) then [.int .i64 (.ofNat (dA ((0:Nat)+(0+j - 0))))]
 else []
 else [.int .i64 (.ofNat (dA ((0:Nat)+(IntKind.i64.wrap (Int.ofNat g+(1:Int))).toNat+(j - ((0:Nat)+(g - 0))))))]) true false]))
 else none else none else none else none else none else none else none else
 bif v2==v2 then
 bif decide (0<=IntKind.i64.wrap (Int.ofNat g+1))&&decide (IntKind.i64.wrap (Int.ofNat g+1)<=Int.ofNat (len+1))&&decide (Int.ofNat (len+1)<=Int.ofNat (nd2 - 0)) then
 bif v2==v2 then
 bif ((0:Nat)+(IntKind.i64.wrap (Int.ofNat g+(1:Int))).toNat+(len+(1:Nat) - (IntKind.i64.wrap (Int.ofNat g+(1:Int))).toNat)).ble nd2 then
 bif ((0:Nat)+((0:Nat)+(g - (0:Nat)))).ble ((0:Nat)+(g - 0)) then
 bif len+1 - (IntKind.i64.wrap (Int.ofNat g+(1:Int))).toNat==(0:Nat) then
 some ((.normal,[jv L
 none,ov L.n o (some L.n),.own [Blk.mk 0 1 40 (fun e=>[T.bool (bif e==(0:Nat)+dA ((0:Nat)+g) then true
 else s e)]) true false,nb v2 nd2 dA,Blk.mk 0 1 1 (fun j=>[[T.int .i64 (Int.ofNat (o i))]].getD j []) true true,Blk.mk 0 1 0 (fun j=>[]) true true].length (0:Nat) (0:Nat) ((0:Nat)+(g - 0))
 none,.ptr 0 0 0 0,.int .i64 (IntKind.i64.wrap (Int.ofNat i+1))],[.mk 0 1 40 (fun e=>[.bool (bif e==0+dA (0+g) then true
 else s e)]) true false,nb v2 nd2 dA,.mk 0 1 1 (fun j=>[[T.int .i64 (Int.ofNat (o i))]].getD j []) true true,.mk 0 1 0 (fun j=>[]) true true,.mk 0 1 ((0:Nat)+(g - 0)) (fun j=>[.int .i64 (.ofNat (dA ((0:Nat)+(j - 0))))]) true false]))
 else
 bif (((0:Nat)+(g - (0:Nat))+(len+(1:Nat) - (IntKind.i64.wrap (Int.ofNat g+(1:Int))).toNat)) * (9:Nat)).ble 70368744177664 then
 bif ((0:Nat)+((0:Nat)+(g - (0:Nat)))+(len+(1:Nat) - (IntKind.i64.wrap (Int.ofNat g+(1:Int))).toNat)).ble ((0:Nat)+(g - 0)) then
 some ((.normal,[jv L
 none,ov L.n o (some L.n),.own [Blk.mk 0 1 40 (fun e=>[T.bool (bif e==(0:Nat)+dA ((0:Nat)+g) then true
 else s e)]) true false,nb v2 nd2 dA,Blk.mk 0 1 1 (fun j=>[[T.int .i64 (Int.ofNat (o i))]].getD j []) true true,Blk.mk 0 1 0 (fun j=>[]) true true].length (0:Nat) (0:Nat) ((0:Nat)+(g - 0)+(len+1 - (IntKind.i64.wrap (Int.ofNat g+(1:Int))).toNat))
 none,.ptr 0 0 0 0,.int .i64 (IntKind.i64.wrap (Int.ofNat i+1))],[.mk 0 1 40 (fun e=>[.bool (bif e==0+dA (0+g) then true
 else s e)]) true false,nb v2 nd2 dA,.mk 0 1 1 (fun j=>[[T.int .i64 (Int.ofNat (o i))]].getD j []) true true,.mk 0 1 0 (fun j=>[]) true true,.mk 0 1 ((0:Nat)+(g - 0)) (fun j =>
 bif ((0:Nat)+((0:Nat)+(g - (0:Nat)))).ble j&&j.blt ((0:Nat)+((0:Nat)+(g - 0))+(len+1 - (IntKind.i64.wrap (Int.ofNat g+(1:Int))).toNat)) then [.int .i64 (.ofNat (dA ((0:Nat)+(IntKind.i64.wrap (Int.ofNat g+(1:Int))).toNat+(j - ((0:Nat)+((0:Nat)+(g - 0)))))))]
 else [.int .i64 (.ofNat (dA ((0:Nat)+(j - 0))))]) true false]))
 else
 some ((.normal,[jv L
 none,ov L.n o (some L.n),.own [Blk.mk 0 1 40 (fun e=>[T.bool (bif e==(0:Nat)+dA ((0:Nat)+g) then true
 else s e)]) true false,nb v2 nd2 dA,Blk.mk 0 1 1 (fun j=>[[T.int .i64 (Int.ofNat (o i))]].getD j []) true true,Blk.mk 0 1 0 (fun j=>[]) true true].length (1:Nat) (0:Nat) ((0:Nat)+(g - 0)+(len+1 - (IntKind.i64.wrap (Int.ofNat g+(1:Int))).toNat))
 none,.ptr 0 0 0 0,.int .i64 (IntKind.i64.wrap (Int.ofNat i+1))],[.mk 0 1 40 (fun e=>[.bool (bif e==0+dA (0+g) then true
 else s e)]) true false,nb v2 nd2 dA,.mk 0 1 1 (fun j=>[[T.int .i64 (Int.ofNat (o i))]].getD j []) true true,.mk 0 1 0 (fun j=>[]) true true,.mk 1 1 ((0:Nat)+(g - 0)+(len+1 - (IntKind.i64.wrap (Int.ofNat g+(1:Int))).toNat)) (fun j =>
 bif j.blt ((0:Nat)+(g - 0)) then [.int .i64 (.ofNat (dA ((0:Nat)+(0+j - 0))))]
 else [.int .i64 (.ofNat (dA ((0:Nat)+(IntKind.i64.wrap (Int.ofNat g+(1:Int))).toNat+(j - ((0:Nat)+(g - 0))))))]) true false]))
 else none else none else none else none else none else none else none else none else none else none else none else none else none else none else none else none else none else none else none else none else none else none else none else none else none else none else
 some ((.exit 0,[jv L
 none,.own 1 v 0 len
 none,.ptr 0 0 0 0],[bb 40 s,nb v nd d]))) from by kernel_rfl)
  simp only [Nat.zero_add,Nat.sub_zero,wi,wg,wl,toNatE] at tree
  constructor
  ·intro hq
   refine Step.mkC (A:=A41) (m:=0) none_ok rfl rfl (loopsC la (loops1 lb)) [0,1] (v1:=v8 L o (.own 1 v2 0 (len+1) none) (i+1:Nat)) (h1:=[bb 40 s,nb v2 nd2 dA,tb (o i)]) (v2:=v8 L o (.own 1 v2 0 (len+1) none) (i+1:Nat)) (h2:=[bb 40 s,nb v2 nd2 dA]) (Eq.trans tree ?_) (by rfl) (by rfl) (by rfl) fun nt=>.same (.refl _)
   clear tree la lb
   rcases hcase with ⟨q,rfl,rfl⟩ | ⟨q,rfl,rfl⟩
   all_goals
    (repeat (first | (refine bift (by first | assumption | omega | (simp (disch:=omega) only [wr64,wr8,wr16,wr32,ofNatE,toNatE,toNatE1,Bool.and_eq_true,Bool.or_eq_true,Bool.not_eq_true',decide_eq_true_eq,decide_eq_false_iff_not,nble,nblt,nbeq,Nat.zero_add,Nat.add_zero,Int.zero_add,Int.add_zero,List.length_cons,List.length_nil,true_and,and_true,Nat.reduceAdd,and_self,beq_self_eq_true]; done) | (simp (disch:=omega) only [wr64,wr8,wr16,wr32,ofNatE,toNatE,toNatE1,Bool.and_eq_true,Bool.or_eq_true,Bool.not_eq_true',decide_eq_true_eq,decide_eq_false_iff_not,nble,nblt,nbeq,Nat.zero_add,Nat.add_zero,Int.zero_add,Int.add_zero,List.length_cons,List.length_nil,true_and,and_true,Nat.reduceAdd,and_self,beq_self_eq_true]; omega)) ?_) | (refine biff (by first | assumption | (simp (disch:=omega) only [wr64,wr8,wr16,wr32,ofNatE,toNatE,toNatE1,Bool.and_eq_true,Bool.or_eq_true,Bool.not_eq_true',decide_eq_true_eq,decide_eq_false_iff_not,nble,nblt,nbeq,Nat.zero_add,Nat.add_zero,Int.zero_add,Int.add_zero,List.length_cons,List.length_nil,true_and,and_true,Nat.reduceAdd,and_self,beq_self_eq_true]; done) | (simp (disch:=omega) only [wr64,wr8,wr16,wr32,ofNatE,toNatE,toNatE1,Bool.and_eq_true,Bool.or_eq_true,Bool.not_eq_true',decide_eq_true_eq,decide_eq_false_iff_not,nble,nblt,nbeq,Nat.zero_add,Nat.add_zero,Int.zero_add,Int.add_zero,List.length_cons,List.length_nil,true_and,and_true,Nat.reduceAdd,and_self,beq_self_eq_true]; omega)) ?_)))
    refine bift (weakF_of ⟨rfl,.cons ⟨rfl,rfl,rfl,id,fun _ _=>rfl⟩ (.cons ⟨rfl,rfl,rfl,id,fun j hj=>?_⟩ (.refl _))⟩) ?_
    ·first
      | exact hset j
      | exact hget j hj
    (repeat (first | (refine bift (by first | assumption | omega | (simp (disch:=omega) only [wr64,wr8,wr16,wr32,ofNatE,toNatE,toNatE1,Bool.and_eq_true,Bool.or_eq_true,Bool.not_eq_true',decide_eq_true_eq,decide_eq_false_iff_not,nble,nblt,nbeq,Nat.zero_add,Nat.add_zero,Int.zero_add,Int.add_zero,List.length_cons,List.length_nil,true_and,and_true,Nat.reduceAdd,and_self,beq_self_eq_true]; done) | (simp (disch:=omega) only [wr64,wr8,wr16,wr32,ofNatE,toNatE,toNatE1,Bool.and_eq_true,Bool.or_eq_true,Bool.not_eq_true',decide_eq_true_eq,decide_eq_false_iff_not,nble,nblt,nbeq,Nat.zero_add,Nat.add_zero,Int.zero_add,Int.add_zero,List.length_cons,List.length_nil,true_and,and_true,Nat.reduceAdd,and_self,beq_self_eq_true]; omega)) ?_) | (refine biff (by first | assumption | (simp (disch:=omega) only [wr64,wr8,wr16,wr32,ofNatE,toNatE,toNatE1,Bool.and_eq_true,Bool.or_eq_true,Bool.not_eq_true',decide_eq_true_eq,decide_eq_false_iff_not,nble,nblt,nbeq,Nat.zero_add,Nat.add_zero,Int.zero_add,Int.add_zero,List.length_cons,List.length_nil,true_and,and_true,Nat.reduceAdd,and_self,beq_self_eq_true]; done) | (simp (disch:=omega) only [wr64,wr8,wr16,wr32,ofNatE,toNatE,toNatE1,Bool.and_eq_true,Bool.or_eq_true,Bool.not_eq_true',decide_eq_true_eq,decide_eq_false_iff_not,nble,nblt,nbeq,Nat.zero_add,Nat.add_zero,Int.zero_add,Int.add_zero,List.length_cons,List.length_nil,true_and,and_true,Nat.reduceAdd,and_self,beq_self_eq_true]; omega)) ?_)))
    rfl
  ·intro hq
   have fin:∀ (v':Nat) (dB:Nat->Nat) (m:Nat) (v1:List T) (h1:Heap),m = len->(∀ j,j<len->dB j = delD dA g len j) →
    iterR P41 G41 A41 noneO 0 5 [(13,litS (v13' L o (.own 1 v2 0 (len+1) none) i 0 0 0) [bb 40 s,nb v2 nd2 dA,tb (o i)] (.exit 2) (e13' L o (.own 1 v2 0 (len+1) none) i t x) [bb 40 s,nb v2 nd2 dA,tb (o i)]),(19,litS (v19p L o (.own 1 v2 0 (len+1) none) i x (len:Nat)) [bb 40 s,nb v2 nd2 dA,tb (o i)] (.exit 4) (e19p L o (.own 1 v2 0 (len+1) none) i (g:Nat)) [bb 40 s,nb v2 nd2 dA,tb (o i)])] 8 (v8 L o (.own 1 v 0 len none) i) [bb 40 s,nb v nd d] = some (.normal,v8 L o (.own 4 v' 0 m none) (i+1:Nat),[bb 40 (aU s (dA g)),nb v2 nd2 dA,tb (o i),eb 0,nb v' m dB]) →
    ∃ v',Step P41 G41 (A41 5) 5 8 1 (v8 L o (.own 1 v 0 len none) i) [bb 40 s,nb v nd d] (v8 L o (.own 1 v' 0 len none) (i+1:Nat)) [bb 40 (aU s (dA g)),nb v' len (delD dA g len)]:=by
    intro v' dB m v1 h1 hm hB hr
    subst hm
    exact ⟨v',Step.mkC (A:=A41) (m:=0) none_ok rfl rfl (loopsC la (loops1 lb)) [0,4] hr (v2:=v8 L o (.own 1 v' 0 m none) (i+1:Nat)) (h2:=[bb 40 (aU s (dA g)),nb v' m dB]) (by rfl) (by rfl) (by rfl) fun nt=>.same (.cons ⟨rfl,rfl,rfl,id,fun _ _=>rfl⟩ (.cons ⟨rfl,rfl,rfl,id,fun j hj=>by
     show [T.int .i64 ((delD dA g m j:Nat):Int)] = [T.int .i64 ((dB j:Nat):Int)]
     rw [hB j hj]⟩ .nil))⟩
   by_cases g0:g = 0
   ·refine fin 0 (fun j=>dA (g+1+j)) (len+1 - (g+1)) [] [] (by omega) (fun j hj=>by
     have e1:¬ j<g:=by omega
     have e2:g+1+j = j+1:=by omega
     rw [ed j hj,if_neg e1,e2]) (Eq.trans tree ?_)
    clear tree la lb fin
    rcases hcase with ⟨q,rfl,rfl⟩ | ⟨q,rfl,rfl⟩
    all_goals
     (repeat (first | (refine bift (by first | assumption | omega | (simp (disch:=omega) only [wr64,wr8,wr16,wr32,ofNatE,toNatE,toNatE1,Bool.and_eq_true,Bool.or_eq_true,Bool.not_eq_true',decide_eq_true_eq,decide_eq_false_iff_not,nble,nblt,nbeq,Nat.zero_add,Nat.add_zero,Int.zero_add,Int.add_zero,List.length_cons,List.length_nil,true_and,and_true,Nat.reduceAdd,and_self,beq_self_eq_true]; done) | (simp (disch:=omega) only [wr64,wr8,wr16,wr32,ofNatE,toNatE,toNatE1,Bool.and_eq_true,Bool.or_eq_true,Bool.not_eq_true',decide_eq_true_eq,decide_eq_false_iff_not,nble,nblt,nbeq,Nat.zero_add,Nat.add_zero,Int.zero_add,Int.add_zero,List.length_cons,List.length_nil,true_and,and_true,Nat.reduceAdd,and_self,beq_self_eq_true]; omega)) ?_) | (refine biff (by first | assumption | (simp (disch:=omega) only [wr64,wr8,wr16,wr32,ofNatE,toNatE,toNatE1,Bool.and_eq_true,Bool.or_eq_true,Bool.not_eq_true',decide_eq_true_eq,decide_eq_false_iff_not,nble,nblt,nbeq,Nat.zero_add,Nat.add_zero,Int.zero_add,Int.add_zero,List.length_cons,List.length_nil,true_and,and_true,Nat.reduceAdd,and_self,beq_self_eq_true]; done) | (simp (disch:=omega) only [wr64,wr8,wr16,wr32,ofNatE,toNatE,toNatE1,Bool.and_eq_true,Bool.or_eq_true,Bool.not_eq_true',decide_eq_true_eq,decide_eq_false_iff_not,nble,nblt,nbeq,Nat.zero_add,Nat.add_zero,Int.zero_add,Int.add_zero,List.length_cons,List.length_nil,true_and,and_true,Nat.reduceAdd,and_self,beq_self_eq_true]; omega)) ?_)))
     refine bift (weakF_of ⟨rfl,.cons ⟨rfl,rfl,rfl,id,fun _ _=>rfl⟩ (.cons ⟨rfl,rfl,rfl,id,fun j hj=>?_⟩ (.refl _))⟩) ?_
     ·first
       | exact hset j
       | exact hget j hj
     (repeat (first | (refine bift (by first | assumption | omega | (simp (disch:=omega) only [wr64,wr8,wr16,wr32,ofNatE,toNatE,toNatE1,Bool.and_eq_true,Bool.or_eq_true,Bool.not_eq_true',decide_eq_true_eq,decide_eq_false_iff_not,nble,nblt,nbeq,Nat.zero_add,Nat.add_zero,Int.zero_add,Int.add_zero,List.length_cons,List.length_nil,true_and,and_true,Nat.reduceAdd,and_self,beq_self_eq_true]; done) | (simp (disch:=omega) only [wr64,wr8,wr16,wr32,ofNatE,toNatE,toNatE1,Bool.and_eq_true,Bool.or_eq_true,Bool.not_eq_true',decide_eq_true_eq,decide_eq_false_iff_not,nble,nblt,nbeq,Nat.zero_add,Nat.add_zero,Int.zero_add,Int.add_zero,List.length_cons,List.length_nil,true_and,and_true,Nat.reduceAdd,and_self,beq_self_eq_true]; omega)) ?_) | (refine biff (by first | assumption | (simp (disch:=omega) only [wr64,wr8,wr16,wr32,ofNatE,toNatE,toNatE1,Bool.and_eq_true,Bool.or_eq_true,Bool.not_eq_true',decide_eq_true_eq,decide_eq_false_iff_not,nble,nblt,nbeq,Nat.zero_add,Nat.add_zero,Int.zero_add,Int.add_zero,List.length_cons,List.length_nil,true_and,and_true,Nat.reduceAdd,and_self,beq_self_eq_true]; done) | (simp (disch:=omega) only [wr64,wr8,wr16,wr32,ofNatE,toNatE,toNatE1,Bool.and_eq_true,Bool.or_eq_true,Bool.not_eq_true',decide_eq_true_eq,decide_eq_false_iff_not,nble,nblt,nbeq,Nat.zero_add,Nat.add_zero,Int.zero_add,Int.add_zero,List.length_cons,List.length_nil,true_and,and_true,Nat.reduceAdd,and_self,beq_self_eq_true]; omega)) ?_)))
     refine bift (weakF_of ⟨rfl,.refl _⟩) ?_
     (repeat (first | (refine bift (by first | assumption | omega | (simp (disch:=omega) only [wr64,wr8,wr16,wr32,ofNatE,toNatE,toNatE1,Bool.and_eq_true,Bool.or_eq_true,Bool.not_eq_true',decide_eq_true_eq,decide_eq_false_iff_not,nble,nblt,nbeq,Nat.zero_add,Nat.add_zero,Int.zero_add,Int.add_zero,List.length_cons,List.length_nil,true_and,and_true,Nat.reduceAdd,and_self,beq_self_eq_true]; done) | (simp (disch:=omega) only [wr64,wr8,wr16,wr32,ofNatE,toNatE,toNatE1,Bool.and_eq_true,Bool.or_eq_true,Bool.not_eq_true',decide_eq_true_eq,decide_eq_false_iff_not,nble,nblt,nbeq,Nat.zero_add,Nat.add_zero,Int.zero_add,Int.add_zero,List.length_cons,List.length_nil,true_and,and_true,Nat.reduceAdd,and_self,beq_self_eq_true]; omega)) ?_) | (refine biff (by first | assumption | (simp (disch:=omega) only [wr64,wr8,wr16,wr32,ofNatE,toNatE,toNatE1,Bool.and_eq_true,Bool.or_eq_true,Bool.not_eq_true',decide_eq_true_eq,decide_eq_false_iff_not,nble,nblt,nbeq,Nat.zero_add,Nat.add_zero,Int.zero_add,Int.add_zero,List.length_cons,List.length_nil,true_and,and_true,Nat.reduceAdd,and_self,beq_self_eq_true]; done) | (simp (disch:=omega) only [wr64,wr8,wr16,wr32,ofNatE,toNatE,toNatE1,Bool.and_eq_true,Bool.or_eq_true,Bool.not_eq_true',decide_eq_true_eq,decide_eq_false_iff_not,nble,nblt,nbeq,Nat.zero_add,Nat.add_zero,Int.zero_add,Int.add_zero,List.length_cons,List.length_nil,true_and,and_true,Nat.reduceAdd,and_self,beq_self_eq_true]; omega)) ?_)))
     rfl
   ·by_cases gl:g = len
    ·refine fin 0 dA g [] [] gl (fun j hj=>by
     have e1:j<g:=by omega
     rw [ed j hj,if_pos e1]) (Eq.trans tree ?_)
     clear tree la lb fin
     rcases hcase with ⟨q,rfl,rfl⟩ | ⟨q,rfl,rfl⟩
     all_goals
      (repeat (first | (refine bift (by first | assumption | omega | (simp (disch:=omega) only [wr64,wr8,wr16,wr32,ofNatE,toNatE,toNatE1,Bool.and_eq_true,Bool.or_eq_true,Bool.not_eq_true',decide_eq_true_eq,decide_eq_false_iff_not,nble,nblt,nbeq,Nat.zero_add,Nat.add_zero,Int.zero_add,Int.add_zero,List.length_cons,List.length_nil,true_and,and_true,Nat.reduceAdd,and_self,beq_self_eq_true]; done) | (simp (disch:=omega) only [wr64,wr8,wr16,wr32,ofNatE,toNatE,toNatE1,Bool.and_eq_true,Bool.or_eq_true,Bool.not_eq_true',decide_eq_true_eq,decide_eq_false_iff_not,nble,nblt,nbeq,Nat.zero_add,Nat.add_zero,Int.zero_add,Int.add_zero,List.length_cons,List.length_nil,true_and,and_true,Nat.reduceAdd,and_self,beq_self_eq_true]; omega)) ?_) | (refine biff (by first | assumption | (simp (disch:=omega) only [wr64,wr8,wr16,wr32,ofNatE,toNatE,toNatE1,Bool.and_eq_true,Bool.or_eq_true,Bool.not_eq_true',decide_eq_true_eq,decide_eq_false_iff_not,nble,nblt,nbeq,Nat.zero_add,Nat.add_zero,Int.zero_add,Int.add_zero,List.length_cons,List.length_nil,true_and,and_true,Nat.reduceAdd,and_self,beq_self_eq_true]; done) | (simp (disch:=omega) only [wr64,wr8,wr16,wr32,ofNatE,toNatE,toNatE1,Bool.and_eq_true,Bool.or_eq_true,Bool.not_eq_true',decide_eq_true_eq,decide_eq_false_iff_not,nble,nblt,nbeq,Nat.zero_add,Nat.add_zero,Int.zero_add,Int.add_zero,List.length_cons,List.length_nil,true_and,and_true,Nat.reduceAdd,and_self,beq_self_eq_true]; omega)) ?_)))
      refine bift (weakF_of ⟨rfl,.cons ⟨rfl,rfl,rfl,id,fun _ _=>rfl⟩ (.cons ⟨rfl,rfl,rfl,id,fun j hj=>?_⟩ (.refl _))⟩) ?_
      ·first
        | exact hset j
        | exact hget j hj
      (repeat (first | (refine bift (by first | assumption | omega | (simp (disch:=omega) only [wr64,wr8,wr16,wr32,ofNatE,toNatE,toNatE1,Bool.and_eq_true,Bool.or_eq_true,Bool.not_eq_true',decide_eq_true_eq,decide_eq_false_iff_not,nble,nblt,nbeq,Nat.zero_add,Nat.add_zero,Int.zero_add,Int.add_zero,List.length_cons,List.length_nil,true_and,and_true,Nat.reduceAdd,and_self,beq_self_eq_true]; done) | (simp (disch:=omega) only [wr64,wr8,wr16,wr32,ofNatE,toNatE,toNatE1,Bool.and_eq_true,Bool.or_eq_true,Bool.not_eq_true',decide_eq_true_eq,decide_eq_false_iff_not,nble,nblt,nbeq,Nat.zero_add,Nat.add_zero,Int.zero_add,Int.add_zero,List.length_cons,List.length_nil,true_and,and_true,Nat.reduceAdd,and_self,beq_self_eq_true]; omega)) ?_) | (refine biff (by first | assumption | (simp (disch:=omega) only [wr64,wr8,wr16,wr32,ofNatE,toNatE,toNatE1,Bool.and_eq_true,Bool.or_eq_true,Bool.not_eq_true',decide_eq_true_eq,decide_eq_false_iff_not,nble,nblt,nbeq,Nat.zero_add,Nat.add_zero,Int.zero_add,Int.add_zero,List.length_cons,List.length_nil,true_and,and_true,Nat.reduceAdd,and_self,beq_self_eq_true]; done) | (simp (disch:=omega) only [wr64,wr8,wr16,wr32,ofNatE,toNatE,toNatE1,Bool.and_eq_true,Bool.or_eq_true,Bool.not_eq_true',decide_eq_true_eq,decide_eq_false_iff_not,nble,nblt,nbeq,Nat.zero_add,Nat.add_zero,Int.zero_add,Int.add_zero,List.length_cons,List.length_nil,true_and,and_true,Nat.reduceAdd,and_self,beq_self_eq_true]; omega)) ?_)))
      refine bift (weakF_of ⟨rfl,.refl _⟩) ?_
      (repeat (first | (refine bift (by first | assumption | omega | (simp (disch:=omega) only [wr64,wr8,wr16,wr32,ofNatE,toNatE,toNatE1,Bool.and_eq_true,Bool.or_eq_true,Bool.not_eq_true',decide_eq_true_eq,decide_eq_false_iff_not,nble,nblt,nbeq,Nat.zero_add,Nat.add_zero,Int.zero_add,Int.add_zero,List.length_cons,List.length_nil,true_and,and_true,Nat.reduceAdd,and_self,beq_self_eq_true]; done) | (simp (disch:=omega) only [wr64,wr8,wr16,wr32,ofNatE,toNatE,toNatE1,Bool.and_eq_true,Bool.or_eq_true,Bool.not_eq_true',decide_eq_true_eq,decide_eq_false_iff_not,nble,nblt,nbeq,Nat.zero_add,Nat.add_zero,Int.zero_add,Int.add_zero,List.length_cons,List.length_nil,true_and,and_true,Nat.reduceAdd,and_self,beq_self_eq_true]; omega)) ?_) | (refine biff (by first | assumption | (simp (disch:=omega) only [wr64,wr8,wr16,wr32,ofNatE,toNatE,toNatE1,Bool.and_eq_true,Bool.or_eq_true,Bool.not_eq_true',decide_eq_true_eq,decide_eq_false_iff_not,nble,nblt,nbeq,Nat.zero_add,Nat.add_zero,Int.zero_add,Int.add_zero,List.length_cons,List.length_nil,true_and,and_true,Nat.reduceAdd,and_self,beq_self_eq_true]; done) | (simp (disch:=omega) only [wr64,wr8,wr16,wr32,ofNatE,toNatE,toNatE1,Bool.and_eq_true,Bool.or_eq_true,Bool.not_eq_true',decide_eq_true_eq,decide_eq_false_iff_not,nble,nblt,nbeq,Nat.zero_add,Nat.add_zero,Int.zero_add,Int.add_zero,List.length_cons,List.length_nil,true_and,and_true,Nat.reduceAdd,and_self,beq_self_eq_true]; omega)) ?_)))
      rfl
    ·refine fin 1 (fun j=>bif Nat.blt j g then dA j else dA (g+1+(j - g))) (g+(len+1 - (g+1))) [] [] (by omega) (fun j hj=>by
      rw [ed j hj]
      by_cases q:j<g
      ·rw [if_pos q,bltT q]; rfl
      ·have e2:g+1+(j - g) = j+1:=by omega
       rw [if_neg q,bltF (show g<=j by omega),cond_false,e2]) (Eq.trans tree ?_)
     clear tree la lb fin
     have ef:(fun j=>[T.int .i64 ((bif Nat.blt j g then dA j else dA (g+1+(j - g)):Nat):Int)]) = fun j=>bif Nat.blt j g then [T.int .i64 (Int.ofNat (dA j))] else [T.int .i64 (Int.ofNat (dA (g+1+(j - g))))]:=funext fun j=>by cases Nat.blt j g <;> rfl
     have en:nb 1 (g+(len+1 - (g+1))) (fun j=>bif Nat.blt j g then dA j else dA (g+1+(j - g))) = ⟨1,1,g+(len+1 - (g+1)),fun j=>bif Nat.blt j g then [T.int .i64 (Int.ofNat (dA j))] else [T.int .i64 (Int.ofNat (dA (g+1+(j - g))))],true,false⟩:=by
      unfold nb
      rw [ef]
     rw [en]
     clear ef en
     rcases hcase with ⟨q,rfl,rfl⟩ | ⟨q,rfl,rfl⟩
     all_goals
      (repeat (first | (refine bift (by first | assumption | omega | (simp (disch:=omega) only [wr64,wr8,wr16,wr32,ofNatE,toNatE,toNatE1,Bool.and_eq_true,Bool.or_eq_true,Bool.not_eq_true',decide_eq_true_eq,decide_eq_false_iff_not,nble,nblt,nbeq,Nat.zero_add,Nat.add_zero,Int.zero_add,Int.add_zero,List.length_cons,List.length_nil,true_and,and_true,Nat.reduceAdd,and_self,beq_self_eq_true]; done) | (simp (disch:=omega) only [wr64,wr8,wr16,wr32,ofNatE,toNatE,toNatE1,Bool.and_eq_true,Bool.or_eq_true,Bool.not_eq_true',decide_eq_true_eq,decide_eq_false_iff_not,nble,nblt,nbeq,Nat.zero_add,Nat.add_zero,Int.zero_add,Int.add_zero,List.length_cons,List.length_nil,true_and,and_true,Nat.reduceAdd,and_self,beq_self_eq_true]; omega)) ?_) | (refine biff (by first | assumption | (simp (disch:=omega) only [wr64,wr8,wr16,wr32,ofNatE,toNatE,toNatE1,Bool.and_eq_true,Bool.or_eq_true,Bool.not_eq_true',decide_eq_true_eq,decide_eq_false_iff_not,nble,nblt,nbeq,Nat.zero_add,Nat.add_zero,Int.zero_add,Int.add_zero,List.length_cons,List.length_nil,true_and,and_true,Nat.reduceAdd,and_self,beq_self_eq_true]; done) | (simp (disch:=omega) only [wr64,wr8,wr16,wr32,ofNatE,toNatE,toNatE1,Bool.and_eq_true,Bool.or_eq_true,Bool.not_eq_true',decide_eq_true_eq,decide_eq_false_iff_not,nble,nblt,nbeq,Nat.zero_add,Nat.add_zero,Int.zero_add,Int.add_zero,List.length_cons,List.length_nil,true_and,and_true,Nat.reduceAdd,and_self,beq_self_eq_true]; omega)) ?_)))
      refine bift (weakF_of ⟨rfl,.cons ⟨rfl,rfl,rfl,id,fun _ _=>rfl⟩ (.cons ⟨rfl,rfl,rfl,id,fun j hj=>?_⟩ (.refl _))⟩) ?_
      ·first
        | exact hset j
        | exact hget j hj
      (repeat (first | (refine bift (by first | assumption | omega | (simp (disch:=omega) only [wr64,wr8,wr16,wr32,ofNatE,toNatE,toNatE1,Bool.and_eq_true,Bool.or_eq_true,Bool.not_eq_true',decide_eq_true_eq,decide_eq_false_iff_not,nble,nblt,nbeq,Nat.zero_add,Nat.add_zero,Int.zero_add,Int.add_zero,List.length_cons,List.length_nil,true_and,and_true,Nat.reduceAdd,and_self,beq_self_eq_true]; done) | (simp (disch:=omega) only [wr64,wr8,wr16,wr32,ofNatE,toNatE,toNatE1,Bool.and_eq_true,Bool.or_eq_true,Bool.not_eq_true',decide_eq_true_eq,decide_eq_false_iff_not,nble,nblt,nbeq,Nat.zero_add,Nat.add_zero,Int.zero_add,Int.add_zero,List.length_cons,List.length_nil,true_and,and_true,Nat.reduceAdd,and_self,beq_self_eq_true]; omega)) ?_) | (refine biff (by first | assumption | (simp (disch:=omega) only [wr64,wr8,wr16,wr32,ofNatE,toNatE,toNatE1,Bool.and_eq_true,Bool.or_eq_true,Bool.not_eq_true',decide_eq_true_eq,decide_eq_false_iff_not,nble,nblt,nbeq,Nat.zero_add,Nat.add_zero,Int.zero_add,Int.add_zero,List.length_cons,List.length_nil,true_and,and_true,Nat.reduceAdd,and_self,beq_self_eq_true]; done) | (simp (disch:=omega) only [wr64,wr8,wr16,wr32,ofNatE,toNatE,toNatE1,Bool.and_eq_true,Bool.or_eq_true,Bool.not_eq_true',decide_eq_true_eq,decide_eq_false_iff_not,nble,nblt,nbeq,Nat.zero_add,Nat.add_zero,Int.zero_add,Int.add_zero,List.length_cons,List.length_nil,true_and,and_true,Nat.reduceAdd,and_self,beq_self_eq_true]; omega)) ?_)))
      refine bift (weakF_of ⟨rfl,.refl _⟩) ?_
      (repeat (first | (refine bift (by first | assumption | omega | (simp (disch:=omega) only [wr64,wr8,wr16,wr32,ofNatE,toNatE,toNatE1,Bool.and_eq_true,Bool.or_eq_true,Bool.not_eq_true',decide_eq_true_eq,decide_eq_false_iff_not,nble,nblt,nbeq,Nat.zero_add,Nat.add_zero,Int.zero_add,Int.add_zero,List.length_cons,List.length_nil,true_and,and_true,Nat.reduceAdd,and_self,beq_self_eq_true]; done) | (simp (disch:=omega) only [wr64,wr8,wr16,wr32,ofNatE,toNatE,toNatE1,Bool.and_eq_true,Bool.or_eq_true,Bool.not_eq_true',decide_eq_true_eq,decide_eq_false_iff_not,nble,nblt,nbeq,Nat.zero_add,Nat.add_zero,Int.zero_add,Int.add_zero,List.length_cons,List.length_nil,true_and,and_true,Nat.reduceAdd,and_self,beq_self_eq_true]; omega)) ?_) | (refine biff (by first | assumption | (simp (disch:=omega) only [wr64,wr8,wr16,wr32,ofNatE,toNatE,toNatE1,Bool.and_eq_true,Bool.or_eq_true,Bool.not_eq_true',decide_eq_true_eq,decide_eq_false_iff_not,nble,nblt,nbeq,Nat.zero_add,Nat.add_zero,Int.zero_add,Int.add_zero,List.length_cons,List.length_nil,true_and,and_true,Nat.reduceAdd,and_self,beq_self_eq_true]; done) | (simp (disch:=omega) only [wr64,wr8,wr16,wr32,ofNatE,toNatE,toNatE1,Bool.and_eq_true,Bool.or_eq_true,Bool.not_eq_true',decide_eq_true_eq,decide_eq_false_iff_not,nble,nblt,nbeq,Nat.zero_add,Nat.add_zero,Int.zero_add,Int.add_zero,List.length_cons,List.length_nil,true_and,and_true,Nat.reduceAdd,and_self,beq_self_eq_true]; omega)) ?_)))
      rfl
 by_cases q:len+1<=nd
 ·have:=core v nd (.inl ⟨q,rfl,rfl⟩) q
  exact ⟨fun h=>⟨v,nd,q,this.1 h⟩,this.2⟩
 ·have:=core (v+1) (len+1) (.inr ⟨by omega,rfl,rfl⟩) (Nat.le_refl _)
  exact ⟨fun h=>⟨v+1,len+1,Nat.le_refl _,this.1 h⟩,this.2⟩
open Go.Proofs
def asd (L:JL) (i:Nat):Nat->Bool:=fun e=>decide (e ∈ (pst L (oN L) i).2.2)
inductive P8 (L:JL) (i:Nat):List T->Heap->Prop
 | z (hi:i = 0):P8 L i (v8 L (oN L) .nils i) [bb 40 (asd L i)]
 | e (h:(pst L (oN L) i).1 = []):P8 L i (v8 L (oN L) (.own 1 0 0 0 (some 0)) i) [bb 40 (asd L i),nb 0 0 fun _=>0]
 | a (v nd:Nat) (d:Nat->Nat) (h0:0<(pst L (oN L) i).1.length) (hn:(pst L (oN L) i).1.length<=nd) (hd:like d (pst L (oN L) i).1):P8 L i (v8 L (oN L) (.own 1 v 0 (pst L (oN L) i).1.length none) i) [bb 40 (asd L i),nb v nd d]
inductive E8 (L:JL):List T->Heap->Prop
 | z (hi:L.n = 0):E8 L (e8 L .nils) [bb 40 (asd L L.n)]
 | a (v nd:Nat) (d:Nat->Nat) (cap:Option Nat) (hc:cap = none ∨ (cap = some 0/\(pst L (oN L) L.n).1.length = 0/\nd = 0)) (hn:(pst L (oN L) L.n).1.length<=nd) (hd:like d (pst L (oN L) L.n).1):E8 L (e8 L (.own 1 v 0 (pst L (oN L) L.n).1.length cap)) [bb 40 (asd L L.n),nb v nd d]
theorem asd_in (L:JL) (i:Nat) (h:(pst L (oN L) i).2.1+L.tm (oN L i)<=L.du (oN L i)):(pst L (oN L) (i+1)).1 = (pst L (oN L) i).1 ++ [oN L i]/\asd L (i+1) = asd L i:=by
 have e:pst L (oN L) (i+1) = pstep L (pst L (oN L) i) (oN L i):=rfl
 unfold asd
 rw [e]
 unfold pstep
 rw [if_pos h]
 exact ⟨rfl,rfl⟩
theorem asd_out (L:JL) (i:Nat) (h:¬ (pst L (oN L) i).2.1+L.tm (oN L i)<=L.du (oN L i)) (g:Nat) (hg:g = lgst (fun j=>L.tm (((pst L (oN L) i).1 ++ [oN L i]).getD j 0)) ((pst L (oN L) i).1.length+1)) :
 (pst L (oN L) (i+1)).1 = ((pst L (oN L) i).1 ++ [oN L i]).eraseIdx g/\asd L (i+1) = aU (asd L i) (((pst L (oN L) i).1 ++ [oN L i]).getD g 0):=by
 have e:pst L (oN L) (i+1) = pstep L (pst L (oN L) i) (oN L i):=rfl
 unfold asd aU
 rw [e]
 unfold pstep
 rw [if_neg h,← hg]
 refine ⟨rfl,funext fun e=>?_⟩
 dsimp only
 generalize ((pst L (oN L) i).1 ++ [oN L i]).getD g 0 = y
 by_cases q:e = y
 ·subst q; simp
 ·rw [beq_eq_false_iff_ne.2 q]; simp [q]
theorem step8 (L:JL) (hL:L.Ok) (hn:L.n<=40) (i:Nat) (hi:i<L.n) (vs:List T) (h:Heap) (hp:P8 L i vs h):∃ vs' h',Step P41 G41 (A41 5) 5 8 1 vs h vs' h'/\P8 L (i+1) vs' h':=by
 have ho:=oN_lt (L:=L) hi
 have hm:=pst_mok L hL i (by omega)
 have hk:=pst_ok (L:=L) (o:=oN L) i (fun j hj=>oN_lt (by omega))
 have hlen:=hk.ld
 have htot:=hm.t
 have empty:(pst L (oN L) i).1 = []->((L.tm (oN L i)<=L.du (oN L i))->(pst L (oN L) (i+1)).1 = [oN L i]/\asd L (i+1) = asd L i)/\(¬ (L.tm (oN L i)<=L.du (oN L i))->(pst L (oN L) (i+1)).1 = []/\asd L (i+1) = aU (asd L i) (oN L i)):=by
  intro he
  rw [he] at htot
  have ht0:(pst L (oN L) i).2.1 = 0:=htot
  constructor
  ·intro q
   obtain ⟨q1,q2⟩:=asd_in L i (by rw [ht0]; omega)
   rw [he] at q1
   exact ⟨q1,q2⟩
  ·intro q
   obtain ⟨q1,q2⟩:=asd_out L i (by rw [ht0]; omega) 0 (by rw [he]; simp [lgst])
   rw [he] at q1 q2
   exact ⟨q1,q2⟩
 have done1:(pst L (oN L) (i+1)).1 = [oN L i]->asd L (i+1) = asd L i->P8 L (i+1) (v8 L (oN L) (.own 1 0 0 1 none) (i+1:Nat)) [bb 40 (asd L i),nb 0 1 fun _=>oN L i]:=by
  intro q1 q2
  have:=P8.a (L:=L) (i:=i+1) 0 1 (fun _=>oN L i) (by rw [q1]; simp) (by rw [q1]; simp) (by rw [q1]; exact like1 _)
  rw [q1,q2] at this
  exact this
 have done0:(pst L (oN L) (i+1)).1 = []->asd L (i+1) = aU (asd L i) (oN L i)->P8 L (i+1) (v8 L (oN L) (.own 1 0 0 0 (some 0)) (i+1:Nat)) [bb 40 (aU (asd L i) (oN L i)),nb 0 0 fun _=>0]:=by
  intro q1 q2
  have:=P8.e (L:=L) (i:=i+1) q1
  rw [q2] at this
  exact this
 cases hp with
 | z hi0 =>
  subst hi0
  have he:(pst L (oN L) 0).1 = []:=rfl
  by_cases q:L.tm (oN L 0)<=L.du (oN L 0)
  ·obtain ⟨q1,q2⟩:=(empty he).1 q
   exact ⟨_,_,(r5z L hL (oN L) 0 _ hn hi ho).1 q,done1 q1 q2⟩
  ·obtain ⟨q1,q2⟩:=(empty he).2 q
   exact ⟨_,_,(r5z L hL (oN L) 0 _ hn hi ho).2 q,done0 q1 q2⟩
 | e he =>
  by_cases q:L.tm (oN L i)<=L.du (oN L i)
  ·obtain ⟨q1,q2⟩:=(empty he).1 q
   exact ⟨_,_,(r5e L hL (oN L) i _ _ hn hi ho).1 q,done1 q1 q2⟩
  ·obtain ⟨q1,q2⟩:=(empty he).2 q
   exact ⟨_,_,(r5e L hL (oN L) i _ _ hn hi ho).2 q,done0 q1 q2⟩
 | a v nd d h0 hnd hd =>
  have hdl:∀ j,j<(pst L (oN L) i).1.length->d j<L.n:=fun j hj=>by
   rw [hd j hj]; exact hk.d _ (getD_mem hj)
  have hA:=like_app hd (oN L i)
  have hll:((pst L (oN L) i).1 ++ [oN L i]).length = (pst L (oN L) i).1.length+1:=by simp
  have hAj:∀ j,j<(pst L (oN L) i).1.length+1->apD d (pst L (oN L) i).1.length (oN L i) j = ((pst L (oN L) i).1 ++ [oN L i]).getD j 0:=fun j hj=>hA j (by omega)
  have hg:lgst (fun j=>L.tm (((pst L (oN L) i).1 ++ [oN L i]).getD j 0)) ((pst L (oN L) i).1.length+1) = lgst (fun j=>L.tm (apD d (pst L (oN L) i).1.length (oN L i) j)) ((pst L (oN L) i).1.length+1) :=
   lgst_congr _ fun j hj=>by rw [hAj j hj]
  have hgl:=lgst_lt (fun j=>L.tm (apD d (pst L (oN L) i).1.length (oN L i) j)) ((pst L (oN L) i).1.length+1) (by omega)
  have r:=r5 L hL (oN L) i (asd L i) v (pst L (oN L) i).1.length nd d hn hi ho h0 hnd (by omega) hdl _ rfl
  have htms:tms L (apD d (pst L (oN L) i).1.length (oN L i)) ((pst L (oN L) i).1.length+1) = (pst L (oN L) i).2.1+L.tm (oN L i):=by
   have e1:tms L (fun j=>((pst L (oN L) i).1 ++ [oN L i]).getD j 0) ((pst L (oN L) i).1.length+1) = tot L.tm ((pst L (oN L) i).1 ++ [oN L i]):=by
    rw [tms_done _ _ _ (by omega),List.take_of_length_le (by omega)]
   have e2:∀ k,k<=(pst L (oN L) i).1.length+1->tms L (apD d (pst L (oN L) i).1.length (oN L i)) k = tms L (fun j=>((pst L (oN L) i).1 ++ [oN L i]).getD j 0) k:=by
    intro k
    induction k with
    | zero=>intro _; rfl
    | succ k ih=>intro hk; simp only [tms]; rw [ih (by omega),hAj k (by omega)]
   rw [e2 _ (Nat.le_refl _),e1,tot_app,tot_one,htot]
  rw [htms] at r
  generalize hG:lgst (fun j=>L.tm (apD d (pst L (oN L) i).1.length (oN L i) j)) ((pst L (oN L) i).1.length+1) = g at *
  by_cases q:(pst L (oN L) i).2.1+L.tm (oN L i)<=L.du (oN L i)
  ·obtain ⟨v',nd',q1,q2⟩:=r.1 q
   obtain ⟨c1,c2⟩:=asd_in L i q
   refine ⟨_,_,q2,?_⟩
   have:=P8.a (L:=L) (i:=i+1) v' nd' (apD d (pst L (oN L) i).1.length (oN L i)) (by rw [c1]; simp) (by rw [c1]; simpa using q1) (by rw [c1]; exact hA)
   rw [c1,c2] at this
   simpa using this
  ·obtain ⟨v',q2⟩:=r.2 q
   obtain ⟨c1,c2⟩:=asd_out L i q g hg.symm
   refine ⟨_,_,q2,?_⟩
   have hel:(((pst L (oN L) i).1 ++ [oN L i]).eraseIdx g).length = (pst L (oN L) i).1.length:=by rw [List.length_eraseIdx_of_lt (by omega),hll]; rfl
   have:=P8.a (L:=L) (i:=i+1) v' (pst L (oN L) i).1.length (delD (apD d (pst L (oN L) i).1.length (oN L i)) g (pst L (oN L) i).1.length) (by rw [c1,hel]; exact h0) (by rw [c1,hel]; exact Nat.le_refl _) (by rw [c1]; exact like_del hA hll hgl)
   rw [c1,c2,hel] at this
   rw [hAj g hgl]
   exact this
open Go.Proofs
def v25p (L:JL) (x6 x13:T) (i:Int):List T:=[jv L none,x6,.ptr 0 0 0 0,x13,.int .i64 i]
def e25p (L:JL) (x6 x13:T):List T:=[jv L none,x6,x13]
noncomputable def K5 (p9 p10 p13 p15 p12:List T->Prop) (xF x6 a b:T):Orc :=
 ((((noneO.add 9 (callP p9 (.new xF))).add 10 (callP p10 (.tup [x6,.int .i64 0]))).add 13 (callP p13 (.tup [.new a,.new b,.int .i64 0]))).add 15 (callP p15 (.bool true))).add 12 (callP p12 (.bool true))
open Go.Proofs
def ltS (s:Nat->Bool) (i:Nat):List Nat:=(List.range i).filter s
inductive P25 (L:JL) (s:Nat->Bool) (v len nd:Nat) (cap:Option Nat) (d:Nat->Nat) (i:Nat):List T->Heap->Prop
 | z (h:ltS s i = []):P25 L s v len nd cap d i (v25p L (.own 1 v 0 len cap) .nils i) [bb 40 s,nb v nd d]
 | a (u nl:Nat) (e:Nat->Nat) (hn:(ltS s i).length<=nl) (he:like e (ltS s i)):P25 L s v len nd cap d i (v25p L (.own 1 v 0 len cap) (.own 2 u 0 (ltS s i).length none) i) [bb 40 s,nb v nd d,nb u nl e]
inductive E25 (L:JL) (s:Nat->Bool) (v len nd:Nat) (cap:Option Nat) (d:Nat->Nat):List T->Heap->Prop
 | z (h:ltS s L.n = []):E25 L s v len nd cap d (e25p L (.own 1 v 0 len cap) .nils) [bb 40 s,nb v nd d]
 | a (u nl:Nat) (e:Nat->Nat) (hn:(ltS s L.n).length<=nl) (he:like e (ltS s L.n)):E25 L s v len nd cap d (e25p L (.own 1 v 0 len cap) (.own 2 u 0 (ltS s L.n).length none)) [bb 40 s,nb v nd d,nb u nl e]
theorem ltS_succ (s:Nat->Bool) (i:Nat):ltS s (i+1) = if s i = true then ltS s i ++ [i] else ltS s i:=by
 unfold ltS
 rw [List.range_succ,List.filter_append]
 by_cases h:s i = true
 ·rw [if_pos h]; simp [h]
 ·rw [if_neg h]; simp [h]
theorem ltS_len (s:Nat->Bool) (i:Nat):(ltS s i).length<=i:=by
 have:=List.length_filter_le s (List.range i)
 simpa [ltS] using this
theorem step25 (L:JL) (s:Nat->Bool) (v len nd:Nat) (cap:Option Nat) (d:Nat->Nat) (i:Nat) (hi:i<L.n) (hn:L.n<=40) (vs:List T) (h:Heap) (hp:P25 L s v len nd cap d i vs h):∃ vs' h',Step P41 G41 (A41 5) 5 25 2 vs h vs' h'/\P25 L s v len nd cap d (i+1) vs' h':=by
 have wi:IntKind.i64.wrap (Int.ofNat i+(1:Int)) = ((i+1:Nat):Int):=by rw [wr64 (by rw [ofNatE]; omega) (by rw [ofNatE]; omega)]; rfl
 have hs:=ltS_succ s i
 have hl:=ltS_len s i
 cases hp with
 | z h0 =>
  have tree:=(show iterR P41 G41 A41 noneO 0 5 [] 25 (v25p L (.own 1 v 0 len cap) .nils i) [bb 40 s,nb v nd d] =
(
 bif decide (Int.ofNat i<Int.ofNat L.n) then
 bif decide (0<=Int.ofNat i)&&decide (Int.ofNat i<40) then
 bif ((0:Nat)+i).blt 40 then
 bif s (0+i) then
 some ((.normal,[jv L
 none,.own 1 v 0 len cap,.ptr 0 0 0 0,.own [bb 40 s,nb v nd d,Blk.mk 0 1 1 (fun j=>[[T.int .i64 (Int.ofNat i)]].getD j []) true true].length (0:Nat) (0:Nat) (1:Nat)
 none,.int .i64 (IntKind.i64.wrap (Int.ofNat i+1))],[bb 40 s,nb v nd d,.mk 0 1 1 (fun j=>[[T.int .i64 (Int.ofNat i)]].getD j []) true true,.mk 0 1 1 (fun j=>[[T.int .i64 (Int.ofNat i)]].getD (0+j) []) true false]))
 else
 some ((.normal,[jv L
 none,.own 1 v 0 len cap,.ptr 0 0 0 0,.nils,.int .i64 (IntKind.i64.wrap (Int.ofNat i+1))],[bb 40 s,nb v nd d]))
 else none else none else
 some ((.exit 6,[jv L
 none,.own 1 v 0 len cap,.nils],[bb 40 s,nb v nd d]))) from by kernel_rfl)
  simp only [Nat.zero_add,wi] at tree
  by_cases q:s i = true
  ·rw [if_pos q,h0] at hs
   refine ⟨v25p L (.own 1 v 0 len cap) (.own 2 0 0 1 none) (i+1:Nat),[bb 40 s,nb v nd d,nb 0 1 fun _=>i],Step.mkC (A:=A41) (m:=0) none_ok rfl rfl loops0 [0,1,3] (v1:=v25p L (.own 1 v 0 len cap) (.own 3 0 0 1 none) (i+1:Nat)) (h1:=[bb 40 s,nb v nd d,tb i,lb1 i]) (v2:=v25p L (.own 1 v 0 len cap) (.own 2 0 0 1 none) (i+1:Nat)) (h2:=[bb 40 s,nb v nd d,lb1 i]) (Eq.trans tree ?_) (by rfl) (by rfl) (by rfl) fun nt=>.same (.cons ⟨rfl,rfl,rfl,id,fun _ _=>rfl⟩ (.cons ⟨rfl,rfl,rfl,id,fun _ _=>rfl⟩ (.cons ⟨rfl,rfl,rfl,id,fun j hj=>by
    have hj':j<1:=hj
    obtain rfl:j = 0:=by omega
    rfl⟩ .nil))),?_⟩
   ·clear tree
    (repeat (first | (refine bift (by first | assumption | omega | (simp (disch:=omega) only [wr64,wr8,wr16,wr32,ofNatE,toNatE,toNatE1,Bool.and_eq_true,Bool.or_eq_true,Bool.not_eq_true',decide_eq_true_eq,decide_eq_false_iff_not,nble,nblt,nbeq,Nat.zero_add,Nat.add_zero,Int.zero_add,Int.add_zero,List.length_cons,List.length_nil,true_and,and_true,Nat.reduceAdd,and_self]; done) | (simp (disch:=omega) only [wr64,wr8,wr16,wr32,ofNatE,toNatE,toNatE1,Bool.and_eq_true,Bool.or_eq_true,Bool.not_eq_true',decide_eq_true_eq,decide_eq_false_iff_not,nble,nblt,nbeq,Nat.zero_add,Nat.add_zero,Int.zero_add,Int.add_zero,List.length_cons,List.length_nil,true_and,and_true,Nat.reduceAdd,and_self]; omega)) ?_) | (refine biff (by first | assumption | (simp (disch:=omega) only [wr64,wr8,wr16,wr32,ofNatE,toNatE,toNatE1,Bool.and_eq_true,Bool.or_eq_true,Bool.not_eq_true',decide_eq_true_eq,decide_eq_false_iff_not,nble,nblt,nbeq,Nat.zero_add,Nat.add_zero,Int.zero_add,Int.add_zero,List.length_cons,List.length_nil,true_and,and_true,Nat.reduceAdd,and_self]; done) | (simp (disch:=omega) only [wr64,wr8,wr16,wr32,ofNatE,toNatE,toNatE1,Bool.and_eq_true,Bool.or_eq_true,Bool.not_eq_true',decide_eq_true_eq,decide_eq_false_iff_not,nble,nblt,nbeq,Nat.zero_add,Nat.add_zero,Int.zero_add,Int.add_zero,List.length_cons,List.length_nil,true_and,and_true,Nat.reduceAdd,and_self]; omega)) ?_)))
    simp only [lb1,Nat.zero_add]
    rfl
   ·have:=P25.a (L:=L) (s:=s) (v:=v) (len:=len) (nd:=nd) (cap:=cap) (d:=d) (i:=i+1) 0 1 (fun _=>i) (by rw [hs]; simp) (by rw [hs]; exact like1 i)
    rw [hs] at this
    exact this
  ·rw [if_neg q,h0] at hs
   refine ⟨_,_,Step.mk0 (A:=A41) (m:=0) none_ok rfl rfl loops0 (h1:=[bb 40 s,nb v nd d]) (Eq.trans tree ?_) (.refl _),.z hs⟩
   clear tree
   rw [Bool.not_eq_true] at q
   rw [q]
   (repeat (first | (refine bift (by first | assumption | omega | (simp (disch:=omega) only [wr64,wr8,wr16,wr32,ofNatE,toNatE,toNatE1,Bool.and_eq_true,Bool.or_eq_true,Bool.not_eq_true',decide_eq_true_eq,decide_eq_false_iff_not,nble,nblt,nbeq,Nat.zero_add,Nat.add_zero,Int.zero_add,Int.add_zero,List.length_cons,List.length_nil,true_and,and_true,Nat.reduceAdd,and_self]; done) | (simp (disch:=omega) only [wr64,wr8,wr16,wr32,ofNatE,toNatE,toNatE1,Bool.and_eq_true,Bool.or_eq_true,Bool.not_eq_true',decide_eq_true_eq,decide_eq_false_iff_not,nble,nblt,nbeq,Nat.zero_add,Nat.add_zero,Int.zero_add,Int.add_zero,List.length_cons,List.length_nil,true_and,and_true,Nat.reduceAdd,and_self]; omega)) ?_) | (refine biff (by first | assumption | (simp (disch:=omega) only [wr64,wr8,wr16,wr32,ofNatE,toNatE,toNatE1,Bool.and_eq_true,Bool.or_eq_true,Bool.not_eq_true',decide_eq_true_eq,decide_eq_false_iff_not,nble,nblt,nbeq,Nat.zero_add,Nat.add_zero,Int.zero_add,Int.add_zero,List.length_cons,List.length_nil,true_and,and_true,Nat.reduceAdd,and_self]; done) | (simp (disch:=omega) only [wr64,wr8,wr16,wr32,ofNatE,toNatE,toNatE1,Bool.and_eq_true,Bool.or_eq_true,Bool.not_eq_true',decide_eq_true_eq,decide_eq_false_iff_not,nble,nblt,nbeq,Nat.zero_add,Nat.add_zero,Int.zero_add,Int.add_zero,List.length_cons,List.length_nil,true_and,and_true,Nat.reduceAdd,and_self]; omega)) ?_)))
   rfl
 | a u nl e hn' he =>
  generalize hq:(ltS s i).length = q at *
  have tree:=(show iterR P41 G41 A41 noneO 0 5 [] 25 (v25p L (.own 1 v 0 len cap) (.own 2 u 0 q none) i) [bb 40 s,nb v nd d,nb u nl e] =
(
 bif decide (Int.ofNat i<Int.ofNat L.n) then
 bif decide (0<=Int.ofNat i)&&decide (Int.ofNat i<40) then
 bif ((0:Nat)+i).blt 40 then
 bif s (0+i) then
 bif u==u then
 bif ((0:Nat)+q).ble nl then
 bif ((q+(1:Nat)) * (9:Nat)).ble 70368744177664 then
 bif ((0:Nat)+q+(1:Nat)).ble nl then
 some ((.normal,[jv L
 none,.own 1 v 0 len cap,.ptr 0 0 0 0,.own 2 u 0 (q+1)
 none,.int .i64 (IntKind.i64.wrap (Int.ofNat i+1))],[bb 40 s,nb v nd d,.mk u 1 nl (fun j =>
 bif ((0:Nat)+q).ble j&&j.blt (0+q+1) then [[T.int .i64 (Int.ofNat i)]].getD ((0:Nat)+(j - (0+q))) []
 else [.int .i64 (.ofNat (e j))]) true false,.mk 0 1 1 (fun j=>[[T.int .i64 (Int.ofNat i)]].getD j []) true true]))
 else
 some ((.normal,[jv L
 none,.own 1 v 0 len cap,.ptr 0 0 0 0,.own 2 (u+1) (0:Nat) (q+1)
 none,.int .i64 (IntKind.i64.wrap (Int.ofNat i+1))],[bb 40 s,nb v nd d,.mk (u+1) (1:Nat) (q+1) (fun j =>
 bif j.blt q then [.int .i64 (.ofNat (e (0+j)))]
 else [[T.int .i64 (Int.ofNat i)]].getD ((0:Nat)+(j - q)) []) true false,.mk 0 1 1 (fun j=>[[T.int .i64 (Int.ofNat i)]].getD j []) true true]))
 else none else none else none else
 some ((.normal,[jv L
 none,.own 1 v 0 len cap,.ptr 0 0 0 0,.own 2 u 0 q
 none,.int .i64 (IntKind.i64.wrap (Int.ofNat i+1))],[bb 40 s,nb v nd d,nb u nl e]))
 else none else none else
 some ((.exit 6,[jv L
 none,.own 1 v 0 len cap,.own 2 u 0 q
 none],[bb 40 s,nb v nd d,nb u nl e]))) from by kernel_rfl)
  simp only [Nat.zero_add,wi] at tree
  by_cases qs:s i = true
  ·rw [if_pos qs] at hs
   have hset:=apD_set (d:=e) (len:=q) (x:=i)
   have hget:=fun (j:Nat) (hj:j<q+1)=>apD_get (d:=e) (x:=i) hj
   have hA:=like_app he i
   rw [hq] at hA
   have hll:(ltS s i ++ [i]).length = q+1:=by simp [hq]
   have core:∀ u2 nl2 (gt:Nat->List T),q+1<=nl2->(∀ j,j<nl2->[T.int .i64 ((apD e q i j:Nat):Int)] = gt j)->iterR P41 G41 A41 noneO 0 5 [] 25 (v25p L (.own 1 v 0 len cap) (.own 2 u 0 q none) i) [bb 40 s,nb v nd d,nb u nl e] = some (.normal,v25p L (.own 1 v 0 len cap) (.own 2 u2 0 (q+1) none) (i+1:Nat),[bb 40 s,nb v nd d,⟨u2,1,nl2,gt,true,false⟩,tb i]) →
    ∃ vs' h',Step P41 G41 (A41 5) 5 25 2 (v25p L (.own 1 v 0 len cap) (.own 2 u 0 q none) i) [bb 40 s,nb v nd d,nb u nl e] vs' h'/\P25 L s v len nd cap d (i+1) vs' h':=by
    intro u2 nl2 gt h1 h2 hr
    refine ⟨v25p L (.own 1 v 0 len cap) (.own 2 u2 0 (q+1) none) (i+1:Nat),[bb 40 s,nb v nd d,nb u2 nl2 (apD e q i)],Step.mkC (A:=A41) (m:=0) none_ok rfl rfl loops0 [0,1,2] (v2:=v25p L (.own 1 v 0 len cap) (.own 2 u2 0 (q+1) none) (i+1:Nat)) (h2:=[bb 40 s,nb v nd d,⟨u2,1,nl2,gt,true,false⟩]) hr (by rfl) (by rfl) (by rfl) fun nt=>.same (.cons ⟨rfl,rfl,rfl,id,fun _ _=>rfl⟩ (.cons ⟨rfl,rfl,rfl,id,fun _ _=>rfl⟩ (.cons ⟨rfl,rfl,rfl,id,fun j hj=>h2 j hj⟩ .nil))),?_⟩
    have:=P25.a (L:=L) (s:=s) (v:=v) (len:=len) (nd:=nd) (cap:=cap) (d:=d) (i:=i+1) u2 nl2 (apD e q i) (by rw [hs,hll]; exact h1) (by rw [hs]; exact hA)
    rw [hs,hll] at this
    exact this
   by_cases qn:q+1<=nl
   ·refine core u nl _ qn (fun j _=>hset j) (Eq.trans tree ?_)
    clear tree core
    (repeat (first | (refine bift (by first | assumption | omega | (simp (disch:=omega) only [wr64,wr8,wr16,wr32,ofNatE,toNatE,toNatE1,Bool.and_eq_true,Bool.or_eq_true,Bool.not_eq_true',decide_eq_true_eq,decide_eq_false_iff_not,nble,nblt,nbeq,Nat.zero_add,Nat.add_zero,Int.zero_add,Int.add_zero,List.length_cons,List.length_nil,true_and,and_true,Nat.reduceAdd,and_self,beq_self_eq_true]; done) | (simp (disch:=omega) only [wr64,wr8,wr16,wr32,ofNatE,toNatE,toNatE1,Bool.and_eq_true,Bool.or_eq_true,Bool.not_eq_true',decide_eq_true_eq,decide_eq_false_iff_not,nble,nblt,nbeq,Nat.zero_add,Nat.add_zero,Int.zero_add,Int.add_zero,List.length_cons,List.length_nil,true_and,and_true,Nat.reduceAdd,and_self,beq_self_eq_true]; omega)) ?_) | (refine biff (by first | assumption | (simp (disch:=omega) only [wr64,wr8,wr16,wr32,ofNatE,toNatE,toNatE1,Bool.and_eq_true,Bool.or_eq_true,Bool.not_eq_true',decide_eq_true_eq,decide_eq_false_iff_not,nble,nblt,nbeq,Nat.zero_add,Nat.add_zero,Int.zero_add,Int.add_zero,List.length_cons,List.length_nil,true_and,and_true,Nat.reduceAdd,and_self,beq_self_eq_true]; done) | (simp (disch:=omega) only [wr64,wr8,wr16,wr32,ofNatE,toNatE,toNatE1,Bool.and_eq_true,Bool.or_eq_true,Bool.not_eq_true',decide_eq_true_eq,decide_eq_false_iff_not,nble,nblt,nbeq,Nat.zero_add,Nat.add_zero,Int.zero_add,Int.add_zero,List.length_cons,List.length_nil,true_and,and_true,Nat.reduceAdd,and_self,beq_self_eq_true]; omega)) ?_)))
    rfl
   ·refine core (u+1) (q+1) _ (Nat.le_refl _) (fun j hj=>hget j hj) (Eq.trans tree ?_)
    clear tree core
    (repeat (first | (refine bift (by first | assumption | omega | (simp (disch:=omega) only [wr64,wr8,wr16,wr32,ofNatE,toNatE,toNatE1,Bool.and_eq_true,Bool.or_eq_true,Bool.not_eq_true',decide_eq_true_eq,decide_eq_false_iff_not,nble,nblt,nbeq,Nat.zero_add,Nat.add_zero,Int.zero_add,Int.add_zero,List.length_cons,List.length_nil,true_and,and_true,Nat.reduceAdd,and_self,beq_self_eq_true]; done) | (simp (disch:=omega) only [wr64,wr8,wr16,wr32,ofNatE,toNatE,toNatE1,Bool.and_eq_true,Bool.or_eq_true,Bool.not_eq_true',decide_eq_true_eq,decide_eq_false_iff_not,nble,nblt,nbeq,Nat.zero_add,Nat.add_zero,Int.zero_add,Int.add_zero,List.length_cons,List.length_nil,true_and,and_true,Nat.reduceAdd,and_self,beq_self_eq_true]; omega)) ?_) | (refine biff (by first | assumption | (simp (disch:=omega) only [wr64,wr8,wr16,wr32,ofNatE,toNatE,toNatE1,Bool.and_eq_true,Bool.or_eq_true,Bool.not_eq_true',decide_eq_true_eq,decide_eq_false_iff_not,nble,nblt,nbeq,Nat.zero_add,Nat.add_zero,Int.zero_add,Int.add_zero,List.length_cons,List.length_nil,true_and,and_true,Nat.reduceAdd,and_self,beq_self_eq_true]; done) | (simp (disch:=omega) only [wr64,wr8,wr16,wr32,ofNatE,toNatE,toNatE1,Bool.and_eq_true,Bool.or_eq_true,Bool.not_eq_true',decide_eq_true_eq,decide_eq_false_iff_not,nble,nblt,nbeq,Nat.zero_add,Nat.add_zero,Int.zero_add,Int.add_zero,List.length_cons,List.length_nil,true_and,and_true,Nat.reduceAdd,and_self,beq_self_eq_true]; omega)) ?_)))
    rfl
  ·rw [if_neg qs] at hs
   have:=P25.a (L:=L) (s:=s) (v:=v) (len:=len) (nd:=nd) (cap:=cap) (d:=d) (i:=i+1) u nl e (by rw [hs,hq]; exact hn') (by rw [hs]; exact he)
   rw [hs,hq] at this
   refine ⟨_,_,Step.mk0 (A:=A41) (m:=0) none_ok rfl rfl loops0 (h1:=[bb 40 s,nb v nd d,nb u nl e]) (Eq.trans tree ?_) (.refl _),this⟩
   clear tree this
   rw [Bool.not_eq_true] at qs
   rw [qs]
   (repeat (first | (refine bift (by first | assumption | omega | (simp (disch:=omega) only [wr64,wr8,wr16,wr32,ofNatE,toNatE,toNatE1,Bool.and_eq_true,Bool.or_eq_true,Bool.not_eq_true',decide_eq_true_eq,decide_eq_false_iff_not,nble,nblt,nbeq,Nat.zero_add,Nat.add_zero,Int.zero_add,Int.add_zero,List.length_cons,List.length_nil,true_and,and_true,Nat.reduceAdd,and_self]; done) | (simp (disch:=omega) only [wr64,wr8,wr16,wr32,ofNatE,toNatE,toNatE1,Bool.and_eq_true,Bool.or_eq_true,Bool.not_eq_true',decide_eq_true_eq,decide_eq_false_iff_not,nble,nblt,nbeq,Nat.zero_add,Nat.add_zero,Int.zero_add,Int.add_zero,List.length_cons,List.length_nil,true_and,and_true,Nat.reduceAdd,and_self]; omega)) ?_) | (refine biff (by first | assumption | (simp (disch:=omega) only [wr64,wr8,wr16,wr32,ofNatE,toNatE,toNatE1,Bool.and_eq_true,Bool.or_eq_true,Bool.not_eq_true',decide_eq_true_eq,decide_eq_false_iff_not,nble,nblt,nbeq,Nat.zero_add,Nat.add_zero,Int.zero_add,Int.add_zero,List.length_cons,List.length_nil,true_and,and_true,Nat.reduceAdd,and_self]; done) | (simp (disch:=omega) only [wr64,wr8,wr16,wr32,ofNatE,toNatE,toNatE1,Bool.and_eq_true,Bool.or_eq_true,Bool.not_eq_true',decide_eq_true_eq,decide_eq_false_iff_not,nble,nblt,nbeq,Nat.zero_add,Nat.add_zero,Int.zero_add,Int.add_zero,List.length_cons,List.length_nil,true_and,and_true,Nat.reduceAdd,and_self]; omega)) ?_)))
   rfl
theorem lst25a (L:JL) (v len nd u q nl:Nat) (cap:Option Nat) (d e:Nat->Nat) (s:Nat->Bool):Last P41 G41 (A41 5) 5 25 2 (v25p L (.own 1 v 0 len cap) (.own 2 u 0 q none) L.n) [bb 40 s,nb v nd d,nb u nl e] (.exit 6) (e25p L (.own 1 v 0 len cap) (.own 2 u 0 q none)) [bb 40 s,nb v nd d,nb u nl e]:=by
 refine Last.mk0 (A:=A41) (m:=0) none_ok rfl rfl loops0 (by simp) (h1:=[bb 40 s,nb v nd d,nb u nl e]) (Eq.trans (show iterR P41 G41 A41 noneO 0 5 [] 25 (v25p L (.own 1 v 0 len cap) (.own 2 u 0 q none) L.n) [bb 40 s,nb v nd d,nb u nl e] =
(
 bif decide (Int.ofNat L.n<Int.ofNat L.n) then
 bif decide (0<=Int.ofNat L.n)&&decide (Int.ofNat L.n<40) then
 bif ((0:Nat)+L.n).blt 40 then
 bif s ((0:Nat)+L.n) then
 bif u==u then
 bif ((0:Nat)+q).ble nl then
 bif ((q+(1:Nat)) * (9:Nat)).ble 70368744177664 then
 bif ((0:Nat)+q+(1:Nat)).ble nl then
 some ((.normal,[jv L
 none,.own 1 v 0 len cap,.ptr 0 0 0 0,.own 2 u 0 (q+1)
 none,.int .i64 (IntKind.i64.wrap (Int.ofNat L.n+1))],[bb 40 s,nb v nd d,.mk u 1 nl (fun j =>
 bif ((0:Nat)+q).ble j&&j.blt (0+q+1) then [[T.int .i64 (Int.ofNat L.n)]].getD ((0:Nat)+(j - (0+q))) []
 else [.int .i64 (.ofNat (e j))]) true false,.mk 0 1 1 (fun j=>[[T.int .i64 (Int.ofNat L.n)]].getD j []) true true]))
 else
 some ((.normal,[jv L
 none,.own 1 v 0 len cap,.ptr 0 0 0 0,.own 2 (u+1) (0:Nat) (q+1)
 none,.int .i64 (IntKind.i64.wrap (Int.ofNat L.n+1))],[bb 40 s,nb v nd d,.mk (u+1) (1:Nat) (q+1) (fun j =>
 bif j.blt q then [.int .i64 (.ofNat (e (0+j)))]
 else [[T.int .i64 (Int.ofNat L.n)]].getD ((0:Nat)+(j - q)) []) true false,.mk 0 1 1 (fun j=>[[T.int .i64 (Int.ofNat L.n)]].getD j []) true true]))
 else none else none else none else
 some ((.normal,[jv L
 none,.own 1 v 0 len cap,.ptr 0 0 0 0,.own 2 u 0 q
 none,.int .i64 (IntKind.i64.wrap (Int.ofNat L.n+1))],[bb 40 s,nb v nd d,nb u nl e]))
 else none else none else
 some ((.exit 6,[jv L
 none,.own 1 v 0 len cap,.own 2 u 0 q
 none],[bb 40 s,nb v nd d,nb u nl e]))) from by kernel_rfl) ?_) (.refl _)
 exact biff (by simp) rfl
theorem l25p (L:JL) (s:Nat->Bool) (v len nd:Nat) (cap:Option Nat) (d:Nat->Nat) (hn:L.n<=40):∃ vs1 h1,E25 L s v len nd cap d vs1 h1/\LoopOk P41 G41 (A41 5) 5 25 (litS (v25p L (.own 1 v 0 len cap) .nils 0) [bb 40 s,nb v nd d] (.exit 6) vs1 h1):=by
 obtain ⟨e,vs1,h1,⟨rfl,hE⟩,hl⟩:=loop_exists (P:=P41) (Gl:=G41) (an:=A41 5) hm41 (f:=5) (r:=25) (k:=2) (by kernel_rfl) (fun m vs h=>∃ i,i<=L.n/\m = L.n - i/\P25 L s v len nd cap d i vs h) (fun e vs h=>e = .exit 6/\E25 L s v len nd cap d vs h)
  (fun m vs h ⟨i,hi,hm,hp⟩=>by
   rcases Nat.lt_or_ge i L.n with q | q
   ·left
    obtain ⟨vs',h',q1,q2⟩:=step25 L s v len nd cap d i q hn vs h hp
    exact ⟨m - 1,vs',h',by omega,q1,i+1,by omega,by omega,q2⟩
   ·right
    obtain rfl:i = L.n:=by omega
    cases hp with
    | z h0 =>
     refine ⟨_,_,_,Last.mk0 (A:=A41) (m:=0) none_ok rfl rfl loops0 (by simp) (h1:=[bb 40 s,nb v nd d]) (Eq.trans (show iterR P41 G41 A41 noneO 0 5 [] 25 (v25p L (.own 1 v 0 len cap) .nils L.n) [bb 40 s,nb v nd d] =
(
 bif decide (Int.ofNat L.n<Int.ofNat L.n) then
 bif decide (0<=Int.ofNat L.n)&&decide (Int.ofNat L.n<40) then
 bif ((0:Nat)+L.n).blt 40 then
 bif s ((0:Nat)+L.n) then
 some ((.normal,[jv L
 none,.own 1 v 0 len cap,.ptr 0 0 0 0,.own [bb 40 s,nb v nd d,Blk.mk 0 1 1 (fun j=>[[T.int .i64 (Int.ofNat L.n)]].getD j []) true true].length (0:Nat) (0:Nat) (1:Nat)
 none,.int .i64 (IntKind.i64.wrap (Int.ofNat L.n+1))],[bb 40 s,nb v nd d,.mk 0 1 1 (fun j=>[[T.int .i64 (Int.ofNat L.n)]].getD j []) true true,.mk 0 1 1 (fun j=>[[T.int .i64 (Int.ofNat L.n)]].getD (0+j) []) true false]))
 else
 some ((.normal,[jv L
 none,.own 1 v 0 len cap,.ptr 0 0 0 0,.nils,.int .i64 (IntKind.i64.wrap (Int.ofNat L.n+1))],[bb 40 s,nb v nd d]))
 else none else none else
 some ((.exit 6,[jv L
 none,.own 1 v 0 len cap,.nils],[bb 40 s,nb v nd d]))) from by kernel_rfl) ?_) (.refl _),rfl,.z h0⟩
     exact biff (by simp) rfl
    | a u nl e hn' he =>
     exact ⟨_,_,_,lst25a L v len nd u _ nl cap d e s,rfl,.a u nl e hn' he⟩)
  (n:=L.n) (vs:=v25p L (.own 1 v 0 len cap) .nils 0) (h:=[bb 40 s,nb v nd d]) rfl ⟨0,by omega,by omega,.z rfl⟩
 exact ⟨vs1,h1,hE,hl⟩
theorem l8p (L:JL) (hL:L.Ok) (hn:L.n<=40):∃ vs1 h1,E8 L vs1 h1/\LoopOk P41 G41 (A41 5) 5 8 (litS (v8 L (oN L) .nils 0) [bb 40 (asd L 0)] (.exit 0) vs1 h1):=by
 obtain ⟨e,vs1,h1,⟨rfl,hE⟩,hl⟩:=loop_exists (P:=P41) (Gl:=G41) (an:=A41 5) hm41 (f:=5) (r:=8) (k:=1) (by kernel_rfl) (fun m vs h=>∃ i,i<=L.n/\m = L.n - i/\P8 L i vs h) (fun e vs h=>e = .exit 0/\E8 L vs h)
  (fun m vs h ⟨i,hi,hm,hp⟩=>by
   rcases Nat.lt_or_ge i L.n with q | q
   ·left
    obtain ⟨vs',h',q1,q2⟩:=step8 L hL hn i q vs h hp
    exact ⟨m - 1,vs',h',by omega,q1,i+1,by omega,by omega,q2⟩
   ·right
    obtain rfl:i = L.n:=by omega
    have genN:∀ (v len nd:Nat) (d:Nat->Nat) (s:Nat->Bool) (o:Nat->Nat),Last P41 G41 (A41 5) 5 8 1 (v8 L o (.own 1 v 0 len none) L.n) [bb 40 s,nb v nd d] (.exit 0) (e8 L (.own 1 v 0 len none)) [bb 40 s,nb v nd d]:=fun v len nd d s o=>by
     refine Last.mk0 (A:=A41) (m:=0) none_ok rfl rfl loops0 (by simp) (h1:=[bb 40 s,nb v nd d]) (Eq.trans (show iterR P41 G41 A41 noneO 0 5 [] 8 (v8 L o (.own 1 v 0 len none) L.n) [bb 40 s,nb v nd d] =
(
 bif decide (Int.ofNat L.n<Int.ofNat L.n) then
 bif decide (0<=Int.ofNat L.n)&&decide (Int.ofNat L.n<Int.ofNat L.n) then
 bif v==v then
 bif ((0:Nat)+len).ble nd then
 bif ((len+(1:Nat)) * (9:Nat)).ble 70368744177664 then
 bif ((0:Nat)+len+(1:Nat)).ble nd then none else none else none else none else none else none else
 some ((.exit 0,[jv L
 none,.own 1 v 0 len
 none,.ptr 0 0 0 0],[bb 40 s,nb v nd d]))) from by kernel_rfl) ?_) (.refl _)
     exact biff (by simp) rfl
    have genO:∀ (v len nd:Nat) (d:Nat->Nat) (s:Nat->Bool) (o:Nat->Nat),Last P41 G41 (A41 5) 5 8 1 (v8 L o (.own 1 v 0 len (some 0)) L.n) [bb 40 s,nb v nd d] (.exit 0) (e8 L (.own 1 v 0 len (some 0))) [bb 40 s,nb v nd d]:=fun v len nd d s o=>by
     refine Last.mk0 (A:=A41) (m:=0) none_ok rfl rfl loops0 (by simp) (h1:=[bb 40 s,nb v nd d]) (Eq.trans (show iterR P41 G41 A41 noneO 0 5 [] 8 (v8 L o (.own 1 v 0 len (some 0)) L.n) [bb 40 s,nb v nd d] =
(
 bif decide (Int.ofNat L.n<Int.ofNat L.n) then
 bif decide (0<=Int.ofNat L.n)&&decide (Int.ofNat L.n<Int.ofNat L.n) then
 bif v==v then
 bif ((0:Nat)+len).ble nd then
 bif ((len+(1:Nat)) * (9:Nat)).ble 70368744177664 then none else none else none else none else none else
 some ((.exit 0,[jv L
 none,.own 1 v 0 len (some 0),.ptr 0 0 0 0],[bb 40 s,nb v nd d]))) from by kernel_rfl) ?_) (.refl _)
     exact biff (by simp) rfl
    cases hp with
    | z h0 =>
     refine ⟨_,_,_,?_,rfl,.z h0⟩
     generalize asd L L.n = s
     generalize oN L = o
     refine Last.mk0 (A:=A41) (m:=0) none_ok rfl rfl loops0 (by simp) (h1:=[bb 40 s]) (Eq.trans (show iterR P41 G41 A41 noneO 0 5 [] 8 (v8 L o .nils L.n) [bb 40 s] =
(
 bif decide (Int.ofNat L.n<Int.ofNat L.n) then
 bif decide (0<=Int.ofNat L.n)&&decide (Int.ofNat L.n<Int.ofNat L.n) then none else none else
 some ((.exit 0,[jv L
 none,.nils,.ptr 0 0 0 0],[bb 40 s]))) from by kernel_rfl) ?_) (.refl _)
     exact biff (by simp) rfl
    | e he =>
     have:=E8.a (L:=L) 0 0 (fun _=>0) (some 0) (.inr ⟨rfl,by rw [he]; rfl,rfl⟩) (by rw [he]; exact Nat.le_refl _) (by rw [he]; exact like0 _)
     have hl0:(pst L (oN L) L.n).1.length = 0:=by rw [he]; rfl
     rw [hl0] at this
     exact ⟨_,_,_,genO 0 0 0 (fun _=>0) _ _,rfl,this⟩
    | a v nd d h0 hnd hd=>exact ⟨_,_,_,genN v _ nd d _ _,rfl,.a v nd d none (.inl rfl) hnd hd⟩)
  (n:=L.n) (vs:=v8 L (oN L) .nils 0) (h:=[bb 40 (asd L 0)]) rfl ⟨0,by omega,by omega,.z rfl⟩
 exact ⟨vs1,h1,hE,hl⟩
open Go.Proofs
theorem same15 (l:List Nat) (n:Nat) (g:Nat->List T) (c:Option Nat) (hn:n = l.length) (hl:l.length<=1000) (hg:∀ j,j<n->g j = [.int .i64 (l.getD j 0:Nat)]):ToldOk P41 G41 15 [lv l,.view 1 n g c] (.bool true):=by
 subst hn
 exact (sameT l.length (fun j=>(l.getD j 0:Nat)) (fun j=>(l.getD j 0:Nat)) c (by omega) (fun _ _=>rfl)).sim (.cons (.refl _) (.cons (.view (.inl rfl) fun j hj=>by rw [hg j hj]; exact .refl _) .nil))
theorem same15n:ToldOk P41 G41 15 [lv [],.nils] (.bool true) :=
 (same15 [] 0 (fun _=>[]) none rfl (by simp) (fun j hj=>by cases hj)).sim (.cons (.refl _) (.cons (.nilv _ _ (.inl rfl)) .nil))
theorem law5nz (R:JR) (c:Option Nat) (L:JL) (o:Nat->Nat) (s0 s:Nat->Bool) (v len nd:Nat) (d:Nat->Nat) (la lb:List Nat) (h9:ToldOk P41 G41 9 [R.v c] (.new (jv L none))) (h10:ToldOk P41 G41 10 [jv L none] (.tup [ov L.n o (some L.n),.int .i64 0])) (h13:ToldOk P41 G41 13 [jv L none] (.tup [.new (lv la),.new (lv lb),.int .i64 0]))
 (hs0:∀ j,s0 j = false) (hla:la.length<=1000) (hlb:lb.length<=1000) (hlen:len = la.length) (hnd:len<=nd) (hd:like d la)  (hn0:lb = [])
 (l8:LoopOk P41 G41 (A41 5) 5 8 (litS (v8 L o .nils 0) [bb 40 s0] (.exit 0) (e8 L (.own 1 v 0 len none)) [bb 40 s,nb v nd d])) (l25:LoopOk P41 G41 (A41 5) 5 25 (litS (v25p L (.own 1 v 0 len none) .nils 0) [bb 40 s,nb v nd d] (.exit 6) (e25p L (.own 1 v 0 len none) .nils) [bb 40 s,nb v nd d])):ToldOk P41 G41 5 [R.v c] (.bool true):=by
 have s1:=same15 la len (fun j=>[.int .i64 (d j:Nat)]) (some len) hlen hla (fun j hj=>by rw [hd j (by omega)])
 have s2:ToldOk P41 G41 15 [lv lb,.nils] (.bool true):=by rw [hn0]; exact same15n
 obtain ⟨p9,e9⟩:=told_pred P41 G41 9 (.new (jv L none))
 obtain ⟨p10,e10⟩:=told_pred P41 G41 10 (.tup [ov L.n o (some L.n),.int .i64 0])
 obtain ⟨p13,e13⟩:=told_pred P41 G41 13 (.tup [.new (lv la),.new (lv lb),.int .i64 0])
 obtain ⟨p15,e15⟩:=told_pred P41 G41 15 (.bool true)
 obtain ⟨p12,e12⟩:=told_pred P41 G41 12 (.bool true)
 refine stepL_told hm41 hn41 (K:=K5 p9 p10 p13 p15 p12 (jv L none) (ov L.n o (some L.n)) (lv la) (lv lb)) (told_add (told_add (told_add (told_add (told_add none_ok (callP_told (told_predT e9))) (callP_told (told_predT e10))) (callP_told (told_predT e13))) (callP_told (told_predT e15))) (callP_told (told_predT e12))) (A:=A41) (m:=0) (by kernel_rfl) (loopsC l8 (loops1 l25)) ?_
 have tree:=(show stepL P41 G41 A41 (K5 p9 p10 p13 p15 p12 (jv L none) (ov L.n o (some L.n)) (lv la) (lv lb)) 0 5 [(8,litS (v8 L o .nils 0) [bb 40 s0] (.exit 0) (e8 L (.own 1 v 0 len none)) [bb 40 s,nb v nd d]),(25,litS (v25p L (.own 1 v 0 len none) .nils 0) [bb 40 s,nb v nd d] (.exit 6) (e25p L (.own 1 v 0 len none) .nils) [bb 40 s,nb v nd d])] [R.v c] =
(
 bif propF p9 [.view 4 R.n (fun j=>[.int .u8 (.ofNat (R.t j)),.int .u8 (.ofNat (R.d j)),.int .u8 (.ofNat (R.a j)),.int .u8 (.ofNat (R.o j))]) c] then
 bif propF p10 [jv L
 none] then
 bif weakF [jv L
 none,ov L.n o (some L.n),.nils,.ptr 0 0 0 0,.int .i64 0] [.mk 0 1 40 (fun x=>[.bool false]) true false] [jv L
 none,ov L.n o (some L.n),.nils,.ptr 0 0 0 0,.int .i64 0] [bb 40 s0] then
 bif weakF [jv L
 none,.own 1 v 0 len
 none,.ptr 0 0 0 0,.nils,.int .i64 0] [bb 40 s,nb v nd d] [jv L
 none,.own 1 v 0 len
 none,.ptr 0 0 0 0,.nils,.int .i64 0] [bb 40 s,nb v nd d] then
 bif propF p13 [jv L
 none] then
 bif v==v then
 bif v==v then
 bif v==v then
 bif decide (0<=Int.ofNat len)&&decide (Int.ofNat len<=Int.ofNat len)&&decide (Int.ofNat len<=Int.ofNat (nd - 0)) then
 bif propF p15 [.view 1 la.length (fun j=>[.int .i64 (.ofNat (la.getD j (0:Nat)))]) (some la.length),
 bif v==v&&((0:Nat)+(len - (0:Nat))).ble nd then .view 1 (len - 0) (fun j=>[.int .i64 (.ofNat (d (0+j)))]) (some (len - 0))
 else .undef] then
 bif propF p15 [.view 1 lb.length (fun j=>[.int .i64 (.ofNat (lb.getD j (0:Nat)))]) (some lb.length),.nils] then
 bif propF p12 [] then
 some (.bool true)
 else none else none else none else none else none else none else none else none else none else none else none else
 none) from by kernel_rfl)
 simp only [Nat.zero_add,Nat.sub_zero] at tree
 refine Eq.trans tree ?_
 clear tree
 refine bift (pred_yes e9 h9) (bift (pred_yes e10 h10) ?_)
 refine bift (weakF_of ⟨rfl,.cons ⟨rfl,rfl,rfl,id,fun j hj=>by
  show [T.bool (s0 j)] = [T.bool false]
  rw [hs0 j]⟩ .nil⟩) ?_
 refine bift (weakF_of ⟨rfl,.refl _⟩) ?_
 refine bift (pred_yes e13 h13) ?_
 (repeat (first | (refine bift (beq_self_eq_true _) ?_) | (refine bift (bleT (by omega)) ?_) | (refine bift (by simp only [ofNatE,Bool.and_eq_true,decide_eq_true_eq]; omega) ?_)))
 rw [show (v==v&&Nat.ble len nd) = true by rw [bleT hnd,beq_self_eq_true]; rfl,cond_true]
 refine bift (pred_yes e15 s1) ?_
 refine bift (pred_yes e15 s2) ?_
 exact bift (pred_yes e12 livesT) rfl
theorem law5na (R:JR) (c:Option Nat) (L:JL) (o:Nat->Nat) (s0 s:Nat->Bool) (v len nd:Nat) (d:Nat->Nat) (u q nl:Nat) (e:Nat->Nat) (la lb:List Nat) (h9:ToldOk P41 G41 9 [R.v c] (.new (jv L none))) (h10:ToldOk P41 G41 10 [jv L none] (.tup [ov L.n o (some L.n),.int .i64 0])) (h13:ToldOk P41 G41 13 [jv L none] (.tup [.new (lv la),.new (lv lb),.int .i64 0]))
 (hs0:∀ j,s0 j = false) (hla:la.length<=1000) (hlb:lb.length<=1000) (hlen:len = la.length) (hnd:len<=nd) (hd:like d la)  (hq:q = lb.length) (hnl:q<=nl) (he:like e lb)
 (l8:LoopOk P41 G41 (A41 5) 5 8 (litS (v8 L o .nils 0) [bb 40 s0] (.exit 0) (e8 L (.own 1 v 0 len none)) [bb 40 s,nb v nd d])) (l25:LoopOk P41 G41 (A41 5) 5 25 (litS (v25p L (.own 1 v 0 len none) .nils 0) [bb 40 s,nb v nd d] (.exit 6) (e25p L (.own 1 v 0 len none) (.own 2 u 0 q none)) [bb 40 s,nb v nd d,nb u nl e])):ToldOk P41 G41 5 [R.v c] (.bool true):=by
 have s1:=same15 la len (fun j=>[.int .i64 (d j:Nat)]) (some len) hlen hla (fun j hj=>by rw [hd j (by omega)])
 have s2:=same15 lb q (fun j=>[.int .i64 (e j:Nat)]) none hq hlb (fun j hj=>by rw [he j (by omega)])
 obtain ⟨p9,e9⟩:=told_pred P41 G41 9 (.new (jv L none))
 obtain ⟨p10,e10⟩:=told_pred P41 G41 10 (.tup [ov L.n o (some L.n),.int .i64 0])
 obtain ⟨p13,e13⟩:=told_pred P41 G41 13 (.tup [.new (lv la),.new (lv lb),.int .i64 0])
 obtain ⟨p15,e15⟩:=told_pred P41 G41 15 (.bool true)
 obtain ⟨p12,e12⟩:=told_pred P41 G41 12 (.bool true)
 refine stepL_told hm41 hn41 (K:=K5 p9 p10 p13 p15 p12 (jv L none) (ov L.n o (some L.n)) (lv la) (lv lb)) (told_add (told_add (told_add (told_add (told_add none_ok (callP_told (told_predT e9))) (callP_told (told_predT e10))) (callP_told (told_predT e13))) (callP_told (told_predT e15))) (callP_told (told_predT e12))) (A:=A41) (m:=0) (by kernel_rfl) (loopsC l8 (loops1 l25)) ?_
 have tree:=(show stepL P41 G41 A41 (K5 p9 p10 p13 p15 p12 (jv L none) (ov L.n o (some L.n)) (lv la) (lv lb)) 0 5 [(8,litS (v8 L o .nils 0) [bb 40 s0] (.exit 0) (e8 L (.own 1 v 0 len none)) [bb 40 s,nb v nd d]),(25,litS (v25p L (.own 1 v 0 len none) .nils 0) [bb 40 s,nb v nd d] (.exit 6) (e25p L (.own 1 v 0 len none) (.own 2 u 0 q none)) [bb 40 s,nb v nd d,nb u nl e])] [R.v c] =
(
 bif propF p9 [.view 4 R.n (fun j=>[.int .u8 (.ofNat (R.t j)),.int .u8 (.ofNat (R.d j)),.int .u8 (.ofNat (R.a j)),.int .u8 (.ofNat (R.o j))]) c] then
 bif propF p10 [jv L
 none] then
 bif weakF [jv L
 none,ov L.n o (some L.n),.nils,.ptr 0 0 0 0,.int .i64 0] [.mk 0 1 40 (fun x=>[.bool false]) true false] [jv L
 none,ov L.n o (some L.n),.nils,.ptr 0 0 0 0,.int .i64 0] [bb 40 s0] then
 bif weakF [jv L
 none,.own 1 v 0 len
 none,.ptr 0 0 0 0,.nils,.int .i64 0] [bb 40 s,nb v nd d] [jv L
 none,.own 1 v 0 len
 none,.ptr 0 0 0 0,.nils,.int .i64 0] [bb 40 s,nb v nd d] then
 bif propF p13 [jv L
 none] then
 bif v==v then
 bif v==v then
 bif v==v then
 bif decide (0<=Int.ofNat len)&&decide (Int.ofNat len<=Int.ofNat len)&&decide (Int.ofNat len<=Int.ofNat (nd - 0)) then
 bif propF p15 [.view 1 la.length (fun j=>[.int .i64 (.ofNat (la.getD j (0:Nat)))]) (some la.length),
 bif v==v&&((0:Nat)+(len - (0:Nat))).ble nd then .view 1 (len - 0) (fun j=>[.int .i64 (.ofNat (d (0+j)))]) (some (len - 0))
 else .undef] then
 bif propF p15 [.view 1 lb.length (fun j=>[.int .i64 (.ofNat (lb.getD j (0:Nat)))]) (some lb.length),
 bif u==u&&((0:Nat)+q).ble nl then .view 1 q (fun j=>[.int .i64 (.ofNat (e (0+j)))]) none else .undef] then
 bif propF p12 [] then
 some (.bool true)
 else none else none else none else none else none else none else none else none else none else none else none else
 none) from by kernel_rfl)
 simp only [Nat.zero_add,Nat.sub_zero] at tree
 refine Eq.trans tree ?_
 clear tree
 refine bift (pred_yes e9 h9) (bift (pred_yes e10 h10) ?_)
 refine bift (weakF_of ⟨rfl,.cons ⟨rfl,rfl,rfl,id,fun j hj=>by
  show [T.bool (s0 j)] = [T.bool false]
  rw [hs0 j]⟩ .nil⟩) ?_
 refine bift (weakF_of ⟨rfl,.refl _⟩) ?_
 refine bift (pred_yes e13 h13) ?_
 (repeat (first | (refine bift (beq_self_eq_true _) ?_) | (refine bift (bleT (by omega)) ?_) | (refine bift (by simp only [ofNatE,Bool.and_eq_true,decide_eq_true_eq]; omega) ?_)))
 rw [show (v==v&&Nat.ble len nd) = true by rw [bleT hnd,beq_self_eq_true]; rfl,cond_true]
 rw [show (u==u&&Nat.ble q nl) = true by rw [bleT hnl,beq_self_eq_true]; rfl,cond_true]
 refine bift (pred_yes e15 s1) ?_
 refine bift (pred_yes e15 s2) ?_
 exact bift (pred_yes e12 livesT) rfl
theorem law5oz (R:JR) (c:Option Nat) (L:JL) (o:Nat->Nat) (s0 s:Nat->Bool) (v len nd:Nat) (d:Nat->Nat) (la lb:List Nat) (h9:ToldOk P41 G41 9 [R.v c] (.new (jv L none))) (h10:ToldOk P41 G41 10 [jv L none] (.tup [ov L.n o (some L.n),.int .i64 0])) (h13:ToldOk P41 G41 13 [jv L none] (.tup [.new (lv la),.new (lv lb),.int .i64 0]))
 (hs0:∀ j,s0 j = false) (hla:la.length<=1000) (hlb:lb.length<=1000) (hlen:len = la.length) (hnd:len<=nd) (hd:like d la) (hz:len = 0/\nd = 0) (hn0:lb = [])
 (l8:LoopOk P41 G41 (A41 5) 5 8 (litS (v8 L o .nils 0) [bb 40 s0] (.exit 0) (e8 L (.own 1 v 0 len (some 0))) [bb 40 s,nb v nd d])) (l25:LoopOk P41 G41 (A41 5) 5 25 (litS (v25p L (.own 1 v 0 len (some 0)) .nils 0) [bb 40 s,nb v nd d] (.exit 6) (e25p L (.own 1 v 0 len (some 0)) .nils) [bb 40 s,nb v nd d])):ToldOk P41 G41 5 [R.v c] (.bool true):=by
 have s1:=same15 la len (fun j=>[.int .i64 (d j:Nat)]) (some len) hlen hla (fun j hj=>by rw [hd j (by omega)])
 have s2:ToldOk P41 G41 15 [lv lb,.nils] (.bool true):=by rw [hn0]; exact same15n
 obtain ⟨p9,e9⟩:=told_pred P41 G41 9 (.new (jv L none))
 obtain ⟨p10,e10⟩:=told_pred P41 G41 10 (.tup [ov L.n o (some L.n),.int .i64 0])
 obtain ⟨p13,e13⟩:=told_pred P41 G41 13 (.tup [.new (lv la),.new (lv lb),.int .i64 0])
 obtain ⟨p15,e15⟩:=told_pred P41 G41 15 (.bool true)
 obtain ⟨p12,e12⟩:=told_pred P41 G41 12 (.bool true)
 refine stepL_told hm41 hn41 (K:=K5 p9 p10 p13 p15 p12 (jv L none) (ov L.n o (some L.n)) (lv la) (lv lb)) (told_add (told_add (told_add (told_add (told_add none_ok (callP_told (told_predT e9))) (callP_told (told_predT e10))) (callP_told (told_predT e13))) (callP_told (told_predT e15))) (callP_told (told_predT e12))) (A:=A41) (m:=0) (by kernel_rfl) (loopsC l8 (loops1 l25)) ?_
 have tree:=(show stepL P41 G41 A41 (K5 p9 p10 p13 p15 p12 (jv L none) (ov L.n o (some L.n)) (lv la) (lv lb)) 0 5 [(8,litS (v8 L o .nils 0) [bb 40 s0] (.exit 0) (e8 L (.own 1 v 0 len (some 0))) [bb 40 s,nb v nd d]),(25,litS (v25p L (.own 1 v 0 len (some 0)) .nils 0) [bb 40 s,nb v nd d] (.exit 6) (e25p L (.own 1 v 0 len (some 0)) .nils) [bb 40 s,nb v nd d])] [R.v c] =
(
 bif propF p9 [.view 4 R.n (fun j=>[.int .u8 (.ofNat (R.t j)),.int .u8 (.ofNat (R.d j)),.int .u8 (.ofNat (R.a j)),.int .u8 (.ofNat (R.o j))]) c] then
 bif propF p10 [jv L
 none] then
 bif weakF [jv L
 none,ov L.n o (some L.n),.nils,.ptr 0 0 0 0,.int .i64 0] [.mk 0 1 40 (fun x=>[.bool false]) true false] [jv L
 none,ov L.n o (some L.n),.nils,.ptr 0 0 0 0,.int .i64 0] [bb 40 s0] then
 bif weakF [jv L
 none,.own 1 v 0 len (some 0),.ptr 0 0 0 0,.nils,.int .i64 0] [bb 40 s,nb v nd d] [jv L
 none,.own 1 v 0 len (some 0),.ptr 0 0 0 0,.nils,.int .i64 0] [bb 40 s,nb v nd d] then
 bif propF p13 [jv L
 none] then
 bif v==v then
 bif v==v then
 bif v==v then
 bif decide (0<=Int.ofNat len)&&decide (Int.ofNat len<=Int.ofNat len)&&decide (Int.ofNat len<=0) then
 bif propF p15 [.view 1 la.length (fun j=>[.int .i64 (.ofNat (la.getD j (0:Nat)))]) (some la.length),
 bif v==v&&((0:Nat)+(len - (0:Nat))).ble nd then .view 1 (len - 0) (fun j=>[.int .i64 (.ofNat (d (0+j)))]) (some (len - 0))
 else .undef] then
 bif propF p15 [.view 1 lb.length (fun j=>[.int .i64 (.ofNat (lb.getD j (0:Nat)))]) (some lb.length),.nils] then
 bif propF p12 [] then
 some (.bool true)
 else none else none else none else none else none else none else none else none else none else none else none else
 none) from by kernel_rfl)
 simp only [Nat.zero_add,Nat.sub_zero] at tree
 refine Eq.trans tree ?_
 clear tree
 refine bift (pred_yes e9 h9) (bift (pred_yes e10 h10) ?_)
 refine bift (weakF_of ⟨rfl,.cons ⟨rfl,rfl,rfl,id,fun j hj=>by
  show [T.bool (s0 j)] = [T.bool false]
  rw [hs0 j]⟩ .nil⟩) ?_
 refine bift (weakF_of ⟨rfl,.refl _⟩) ?_
 refine bift (pred_yes e13 h13) ?_
 (repeat (first | (refine bift (beq_self_eq_true _) ?_) | (refine bift (bleT (by omega)) ?_) | (refine bift (by simp only [ofNatE,Bool.and_eq_true,decide_eq_true_eq]; omega) ?_)))
 rw [show (v==v&&Nat.ble len nd) = true by rw [bleT hnd,beq_self_eq_true]; rfl,cond_true]
 refine bift (pred_yes e15 s1) ?_
 refine bift (pred_yes e15 s2) ?_
 exact bift (pred_yes e12 livesT) rfl
theorem law5oa (R:JR) (c:Option Nat) (L:JL) (o:Nat->Nat) (s0 s:Nat->Bool) (v len nd:Nat) (d:Nat->Nat) (u q nl:Nat) (e:Nat->Nat) (la lb:List Nat) (h9:ToldOk P41 G41 9 [R.v c] (.new (jv L none))) (h10:ToldOk P41 G41 10 [jv L none] (.tup [ov L.n o (some L.n),.int .i64 0])) (h13:ToldOk P41 G41 13 [jv L none] (.tup [.new (lv la),.new (lv lb),.int .i64 0]))
 (hs0:∀ j,s0 j = false) (hla:la.length<=1000) (hlb:lb.length<=1000) (hlen:len = la.length) (hnd:len<=nd) (hd:like d la) (hz:len = 0/\nd = 0) (hq:q = lb.length) (hnl:q<=nl) (he:like e lb)
 (l8:LoopOk P41 G41 (A41 5) 5 8 (litS (v8 L o .nils 0) [bb 40 s0] (.exit 0) (e8 L (.own 1 v 0 len (some 0))) [bb 40 s,nb v nd d])) (l25:LoopOk P41 G41 (A41 5) 5 25 (litS (v25p L (.own 1 v 0 len (some 0)) .nils 0) [bb 40 s,nb v nd d] (.exit 6) (e25p L (.own 1 v 0 len (some 0)) (.own 2 u 0 q none)) [bb 40 s,nb v nd d,nb u nl e])):ToldOk P41 G41 5 [R.v c] (.bool true):=by
 have s1:=same15 la len (fun j=>[.int .i64 (d j:Nat)]) (some len) hlen hla (fun j hj=>by rw [hd j (by omega)])
 have s2:=same15 lb q (fun j=>[.int .i64 (e j:Nat)]) none hq hlb (fun j hj=>by rw [he j (by omega)])
 obtain ⟨p9,e9⟩:=told_pred P41 G41 9 (.new (jv L none))
 obtain ⟨p10,e10⟩:=told_pred P41 G41 10 (.tup [ov L.n o (some L.n),.int .i64 0])
 obtain ⟨p13,e13⟩:=told_pred P41 G41 13 (.tup [.new (lv la),.new (lv lb),.int .i64 0])
 obtain ⟨p15,e15⟩:=told_pred P41 G41 15 (.bool true)
 obtain ⟨p12,e12⟩:=told_pred P41 G41 12 (.bool true)
 refine stepL_told hm41 hn41 (K:=K5 p9 p10 p13 p15 p12 (jv L none) (ov L.n o (some L.n)) (lv la) (lv lb)) (told_add (told_add (told_add (told_add (told_add none_ok (callP_told (told_predT e9))) (callP_told (told_predT e10))) (callP_told (told_predT e13))) (callP_told (told_predT e15))) (callP_told (told_predT e12))) (A:=A41) (m:=0) (by kernel_rfl) (loopsC l8 (loops1 l25)) ?_
 have tree:=(show stepL P41 G41 A41 (K5 p9 p10 p13 p15 p12 (jv L none) (ov L.n o (some L.n)) (lv la) (lv lb)) 0 5 [(8,litS (v8 L o .nils 0) [bb 40 s0] (.exit 0) (e8 L (.own 1 v 0 len (some 0))) [bb 40 s,nb v nd d]),(25,litS (v25p L (.own 1 v 0 len (some 0)) .nils 0) [bb 40 s,nb v nd d] (.exit 6) (e25p L (.own 1 v 0 len (some 0)) (.own 2 u 0 q none)) [bb 40 s,nb v nd d,nb u nl e])] [R.v c] =
(
 bif propF p9 [.view 4 R.n (fun j=>[.int .u8 (.ofNat (R.t j)),.int .u8 (.ofNat (R.d j)),.int .u8 (.ofNat (R.a j)),.int .u8 (.ofNat (R.o j))]) c] then
 bif propF p10 [jv L
 none] then
 bif weakF [jv L
 none,ov L.n o (some L.n),.nils,.ptr 0 0 0 0,.int .i64 0] [.mk 0 1 40 (fun x=>[.bool false]) true false] [jv L
 none,ov L.n o (some L.n),.nils,.ptr 0 0 0 0,.int .i64 0] [bb 40 s0] then
 bif weakF [jv L
 none,.own 1 v 0 len (some 0),.ptr 0 0 0 0,.nils,.int .i64 0] [bb 40 s,nb v nd d] [jv L
 none,.own 1 v 0 len (some 0),.ptr 0 0 0 0,.nils,.int .i64 0] [bb 40 s,nb v nd d] then
 bif propF p13 [jv L
 none] then
 bif v==v then
 bif v==v then
 bif v==v then
 bif decide (0<=Int.ofNat len)&&decide (Int.ofNat len<=Int.ofNat len)&&decide (Int.ofNat len<=0) then
 bif propF p15 [.view 1 la.length (fun j=>[.int .i64 (.ofNat (la.getD j (0:Nat)))]) (some la.length),
 bif v==v&&((0:Nat)+(len - (0:Nat))).ble nd then .view 1 (len - 0) (fun j=>[.int .i64 (.ofNat (d (0+j)))]) (some (len - 0))
 else .undef] then
 bif propF p15 [.view 1 lb.length (fun j=>[.int .i64 (.ofNat (lb.getD j (0:Nat)))]) (some lb.length),
 bif u==u&&((0:Nat)+q).ble nl then .view 1 q (fun j=>[.int .i64 (.ofNat (e (0+j)))]) none else .undef] then
 bif propF p12 [] then
 some (.bool true)
 else none else none else none else none else none else none else none else none else none else none else none else
 none) from by kernel_rfl)
 simp only [Nat.zero_add,Nat.sub_zero] at tree
 refine Eq.trans tree ?_
 clear tree
 refine bift (pred_yes e9 h9) (bift (pred_yes e10 h10) ?_)
 refine bift (weakF_of ⟨rfl,.cons ⟨rfl,rfl,rfl,id,fun j hj=>by
  show [T.bool (s0 j)] = [T.bool false]
  rw [hs0 j]⟩ .nil⟩) ?_
 refine bift (weakF_of ⟨rfl,.refl _⟩) ?_
 refine bift (pred_yes e13 h13) ?_
 (repeat (first | (refine bift (beq_self_eq_true _) ?_) | (refine bift (bleT (by omega)) ?_) | (refine bift (by simp only [ofNatE,Bool.and_eq_true,decide_eq_true_eq]; omega) ?_)))
 rw [show (v==v&&Nat.ble len nd) = true by rw [bleT hnd,beq_self_eq_true]; rfl,cond_true]
 rw [show (u==u&&Nat.ble q nl) = true by rw [bleT hnl,beq_self_eq_true]; rfl,cond_true]
 refine bift (pred_yes e15 s1) ?_
 refine bift (pred_yes e15 s2) ?_
 exact bift (pred_yes e12 livesT) rfl
theorem law5z (R:JR) (c:Option Nat) (L:JL) (hi:L.n = 0) (h9:ToldOk P41 G41 9 [R.v c] (.new (jv L none))) (h10:ToldOk P41 G41 10 [jv L none] (.tup [ov L.n (oN L) (some L.n),.int .i64 0])) (h13:ToldOk P41 G41 13 [jv L none] (.tup [.new (lv (pst L (oN L) L.n).1),.new (lv (srtN (pst L (oN L) L.n).2.2)),.int .i64 0])):ToldOk P41 G41 5 [R.v c] (.bool true):=by
 have e0:pst L (oN L) L.n = ([],0,[]):=by rw [hi]; rfl
 rw [e0] at h13
 have es:srtN [] = []:=by simp [srtN]
 rw [show srtN (([],0,[]):List Nat × Int × List Nat).2.2 = [] from es] at h13
 unfold jv ov at *
 rw [hi] at *
 generalize (fun j=>[T.int .i64 (L.tm j),.int .i64 (L.du j),.int .i64 (L.af j),.int .u32 (L.on j)]) = gj at *
 generalize (fun j=>[T.int .i64 ((oN L j:Nat):Int)]) = go at *
 obtain ⟨p9,e9⟩:=told_pred P41 G41 9 (.new (.view 4 0 gj none))
 obtain ⟨p10,e10⟩:=told_pred P41 G41 10 (.tup [.view 1 0 go (some 0),.int .i64 0])
 obtain ⟨p13,e13⟩:=told_pred P41 G41 13 (.tup [.new (lv []),.new (lv []),.int .i64 0])
 obtain ⟨p15,e15⟩:=told_pred P41 G41 15 (.bool true)
 obtain ⟨p12,e12⟩:=told_pred P41 G41 12 (.bool true)
 refine stepL_told hm41 hn41 (K:=K5 p9 p10 p13 p15 p12 (.view 4 0 gj none) (.view 1 0 go (some 0)) (lv []) (lv [])) (told_add (told_add (told_add (told_add (told_add none_ok (callP_told (told_predT e9))) (callP_told (told_predT e10))) (callP_told (told_predT e13))) (callP_told (told_predT e15))) (callP_told (told_predT e12))) (A:=A41) (m:=1) (by kernel_rfl) loops0 ?_
 refine Eq.trans (show stepL P41 G41 A41 (K5 p9 p10 p13 p15 p12 (.view 4 0 gj none) (.view 1 0 go (some 0)) (lv []) (lv [])) 1 5 [] [R.v c] =
(
 bif propF p9 [.view 4 R.n (fun j=>[.int .u8 (.ofNat (R.t j)),.int .u8 (.ofNat (R.d j)),.int .u8 (.ofNat (R.a j)),.int .u8 (.ofNat (R.o j))]) c] then
 bif propF p10 [.view 4 0 gj
 none] then
 bif propF p13 [.view 4 0 gj
 none] then
 bif propF p15 [.view 1 0 (fun j=>[.int .i64 (.ofNat ([].getD j (0:Nat)))]) (some 0),.nils] then
 bif propF p15 [.view 1 0 (fun j=>[.int .i64 (.ofNat ([].getD j (0:Nat)))]) (some 0),.nils] then
 bif propF p12 [] then
 some (.bool true)
 else none else none else none else none else none else
 none) from by kernel_rfl) ?_
 refine bift (pred_yes e9 h9) (bift (pred_yes e10 h10) (bift (pred_yes e13 h13) ?_))
 refine bift (pred_yes e15 same15n) (bift (pred_yes e15 same15n) (bift (pred_yes e12 livesT) rfl))
theorem law5T (R:JR) (c:Option Nat) (hR:R.Ok):ToldOk P41 G41 5 [R.v c] (.bool true):=by
 have h9:=listT R c hR
 have hL:=R.lok hR _ (min40 R.n)
 have hm:=min40 R.n
 have hn:(R.L (Nat.min R.n 40)).n = Nat.min R.n 40:=rfl
 generalize R.L (Nat.min R.n 40) = L at *
 generalize Nat.min R.n 40 = n40 at *
 subst hn
 have h10:ToldOk P41 G41 10 [jv L none] (.tup [ov L.n (oN L) (some L.n),.int .i64 0]):=orderT L none hL
 have h13:=punT L none hL (oN L) (fun j _=>rfl)
 have hk:=pst_ok (L:=L) (o:=oN L) L.n (fun j hj=>oN_lt hj)
 have hld:=hk.ld
 have hnd:=pst_nodup L hL
 rw [List.nodup_append] at hnd
 have hlt:ltS (asd L L.n) L.n = srtN (pst L (oN L) L.n).2.2:=srtN_filter hnd.2.1 hk.e
 have hls:=(srtN_perm (pst L (oN L) L.n).2.2).length_eq
 obtain ⟨vs1,h1,hE,l8⟩:=l8p L hL hm
 have hs0:∀ j,asd L 0 j = false:=fun j=>by simp [asd,pst]
 cases hE with
 | z hi =>
  exact law5z R c L hi h9 h10 h13
 | a v nd d cap hc hn' hd =>
  rcases hc with rfl | ⟨rfl,hz1,hz2⟩
  ·obtain ⟨vs2,h2,hE2,l25⟩:=l25p L (asd L L.n) v (pst L (oN L) L.n).1.length nd none d hm
   cases hE2 with
   | z h0=>exact law5nz R c L (oN L) (asd L 0) (asd L L.n) v _ nd d _ _ h9 h10 h13 hs0 (by omega) (by omega) rfl hn' hd (by rw [← hlt]; exact h0) l8 l25
   | a u nl e hq he=>exact law5na R c L (oN L) (asd L 0) (asd L L.n) v _ nd d u _ nl e _ _ h9 h10 h13 hs0 (by omega) (by omega) rfl hn' hd (by rw [hlt]) hq (by rw [← hlt]; exact he) l8 l25
  ·obtain ⟨vs2,h2,hE2,l25⟩:=l25p L (asd L L.n) v (pst L (oN L) L.n).1.length nd (some 0) d hm
   cases hE2 with
   | z h0=>exact law5oz R c L (oN L) (asd L 0) (asd L L.n) v _ nd d _ _ h9 h10 h13 hs0 (by omega) (by omega) rfl hn' hd ⟨hz1,hz2⟩ (by rw [← hlt]; exact h0) l8 l25
   | a u nl e hq he=>exact law5oa R c L (oN L) (asd L 0) (asd L L.n) v _ nd d u _ nl e _ _ h9 h10 h13 hs0 (by omega) (by omega) rfl hn' hd ⟨hz1,hz2⟩ (by rw [hlt]) hq (by rw [← hlt]; exact he) l8 l25
open Go.Proofs
theorem l3a (mv:T) (L:JL) (hn:L.n<=40) (o:Nat->Nat) (ho:Ordr L.n o) (hs:∀ i,i+1<L.n->L.du (o i)<L.du (o (i+1)) ∨ (L.du (o i) = L.du (o (i+1))/\o i<o (i+1))) :
 LoopOk P41 G41 (A41 3) 3 7 (litS (v7 mv L o 0) [bb 40 fun _=>false] (.exit 0) (e7 mv L o) [bb 40 (seenF o L.n)]):=by
 refine loop_steps hm41 (by kernel_rfl) (fun i=>v7 mv L o i) (fun i=>[bb 40 (seenF o i)]) (n:=L.n) (fun i hi=>?_) ?_
 ·have hoi:=ho.lt i hi
  have hseen:seenF o i (o i) = false:=by
   rw [Bool.eq_false_iff]
   intro h
   obtain ⟨k,k1,k2⟩:=seenF_iff.1 h
   exact ho.ne k i k1 hi k2
  have sb:∀ j,seenF o (i+1) j = (bif j==o i then true else seenF o i j):=by
   intro j
   unfold seenF
   rw [List.range_succ,List.any_append]
   by_cases q:j = o i
   ·subst q; simp
   ·rw [beq_eq_false_iff_ne.2 q]; simp [show o i ≠ j from fun e=>q e.symm]
  generalize hx:seenF o i = x at *
  refine Step.mk0 (A:=A41) (m:=0) none_ok rfl rfl loops0 (h1:=[⟨0,1,40,fun j=>[.bool (bif j==o i then true else x j)],true,false⟩]) (Eq.trans (show iterR P41 G41 A41 noneO 0 3 [] 7 (v7 mv L o i) [bb 40 x] =
(
 bif decide (Int.ofNat i<Int.ofNat L.n) then
 bif decide (0<=Int.ofNat i)&&decide (Int.ofNat i<Int.ofNat L.n) then
 bif decide (0<=Int.ofNat i)&&decide (Int.ofNat i<Int.ofNat L.n) then
 bif decide (Int.ofNat L.n<=Int.ofNat (o i)) then
 some ((.ret,[mv,.bool false,jv L
 none,ov L.n o (some L.n)],[bb 40 x]))
 else
 bif decide (0<=Int.ofNat i)&&decide (Int.ofNat i<Int.ofNat L.n) then
 bif decide (0<=Int.ofNat (o i))&&decide (Int.ofNat (o i)<40) then
 bif ((0:Nat)+o i).blt 40 then
 bif x (0+o i) then
 some ((.ret,[mv,.bool false,jv L
 none,ov L.n o (some L.n)],[bb 40 x]))
 else
 bif decide (0<=Int.ofNat i)&&decide (Int.ofNat i<Int.ofNat L.n) then
 bif decide (0<=Int.ofNat (o i))&&decide (Int.ofNat (o i)<40) then
 bif ((0:Nat)+o i).blt 40&&true&&true&&true then
 bif decide (0<Int.ofNat i) then
 bif decide (0<=IntKind.i64.wrap (Int.ofNat i - 1))&&decide (IntKind.i64.wrap (Int.ofNat i - 1)<Int.ofNat L.n) then
 bif decide (0<=Int.ofNat (o (IntKind.i64.wrap (Int.ofNat i - (1:Int))).toNat))&&decide (Int.ofNat (o (IntKind.i64.wrap (Int.ofNat i - (1:Int))).toNat)<Int.ofNat L.n) then
 bif decide (0<=Int.ofNat i)&&decide (Int.ofNat i<Int.ofNat L.n) then
 bif decide (0<=Int.ofNat (o i))&&decide (Int.ofNat (o i)<Int.ofNat L.n) then
 bif decide (L.du (o i)<L.du (o (IntKind.i64.wrap (Int.ofNat i - (1:Int))).toNat)) then
 some ((.ret,[mv,.bool false,jv L
 none,ov L.n o (some L.n)],[.mk 0 1 40 (fun e=>[.bool (bif e==0+o i then true
 else x e)]) true false]))
 else
 bif decide (0<=IntKind.i64.wrap (Int.ofNat i - 1))&&decide (IntKind.i64.wrap (Int.ofNat i - 1)<Int.ofNat L.n) then
 bif decide (0<=Int.ofNat (o (IntKind.i64.wrap (Int.ofNat i - (1:Int))).toNat))&&decide (Int.ofNat (o (IntKind.i64.wrap (Int.ofNat i - (1:Int))).toNat)<Int.ofNat L.n) then
 bif decide (0<=Int.ofNat i)&&decide (Int.ofNat i<Int.ofNat L.n) then
 bif decide (0<=Int.ofNat (o i))&&decide (Int.ofNat (o i)<Int.ofNat L.n) then
 bif decide (L.du (o (IntKind.i64.wrap (Int.ofNat i - (1:Int))).toNat) = L.du (o i)) then
 bif decide (0<=IntKind.i64.wrap (Int.ofNat i - 1))&&decide (IntKind.i64.wrap (Int.ofNat i - 1)<Int.ofNat L.n) then
 bif decide (0<=Int.ofNat i)&&decide (Int.ofNat i<Int.ofNat L.n) then
 bif decide (Int.ofNat (o i)<Int.ofNat (o (IntKind.i64.wrap (Int.ofNat i - (1:Int))).toNat)) then
 some ((.ret,[mv,.bool false,jv L
 none,ov L.n o (some L.n)],[.mk 0 1 40 (fun e=>[.bool (bif e==0+o i then true
 else x e)]) true false]))
 else
 some ((.normal,[mv,jv L
 none,ov L.n o (some L.n),.ptr 0 0 0 0,.int .i64 (IntKind.i64.wrap (Int.ofNat i+1))],[.mk 0 1 40 (fun e=>[.bool (bif e==0+o i then true
 else x e)]) true false]))
 else none else none else
 some ((.normal,[mv,jv L
 none,ov L.n o (some L.n),.ptr 0 0 0 0,.int .i64 (IntKind.i64.wrap (Int.ofNat i+1))],[.mk 0 1 40 (fun e=>[.bool (bif e==0+o i then true
 else x e)]) true false]))
 else none else none else none else none else none else none else none else none else
 some ((.normal,[mv,jv L
 none,ov L.n o (some L.n),.ptr 0 0 0 0,.int .i64 (IntKind.i64.wrap (Int.ofNat i+1))],[.mk 0 1 40 (fun e=>[.bool (bif e==0+o i then true
 else x e)]) true false]))
 else none else none else none else none else none else none else none else none else
 some ((.exit 0,[mv,.undef,jv L
 none,ov L.n o (some L.n)],[bb 40 x]))) from by kernel_rfl) ?_) ?_
  ·cases i with
   | zero =>
    (repeat (first | (refine bift (by first | assumption | omega | (simp (disch:=omega) only [wr64,wr8,wr16,wr32,ofNatE,toNatE,toNatE1,Bool.and_eq_true,Bool.or_eq_true,Bool.not_eq_true',decide_eq_true_eq,decide_eq_false_iff_not,nble,nblt,nbeq,Nat.zero_add,Nat.add_zero,Int.zero_add,Int.add_zero,List.length_cons,List.length_nil,true_and,and_true,Nat.reduceAdd,and_self,hseen,Bool.false_eq_true,not_false_eq_true]; done) | (simp (disch:=omega) only [wr64,wr8,wr16,wr32,ofNatE,toNatE,toNatE1,Bool.and_eq_true,Bool.or_eq_true,Bool.not_eq_true',decide_eq_true_eq,decide_eq_false_iff_not,nble,nblt,nbeq,Nat.zero_add,Nat.add_zero,Int.zero_add,Int.add_zero,List.length_cons,List.length_nil,true_and,and_true,Nat.reduceAdd,and_self,hseen,Bool.false_eq_true,not_false_eq_true]; omega)) ?_) | (refine biff (by first | assumption | (simp (disch:=omega) only [wr64,wr8,wr16,wr32,ofNatE,toNatE,toNatE1,Bool.and_eq_true,Bool.or_eq_true,Bool.not_eq_true',decide_eq_true_eq,decide_eq_false_iff_not,nble,nblt,nbeq,Nat.zero_add,Nat.add_zero,Int.zero_add,Int.add_zero,List.length_cons,List.length_nil,true_and,and_true,Nat.reduceAdd,and_self,hseen,Bool.false_eq_true,not_false_eq_true]; done) | (simp (disch:=omega) only [wr64,wr8,wr16,wr32,ofNatE,toNatE,toNatE1,Bool.and_eq_true,Bool.or_eq_true,Bool.not_eq_true',decide_eq_true_eq,decide_eq_false_iff_not,nble,nblt,nbeq,Nat.zero_add,Nat.add_zero,Int.zero_add,Int.add_zero,List.length_cons,List.length_nil,true_and,and_true,Nat.reduceAdd,and_self,hseen,Bool.false_eq_true,not_false_eq_true]; omega)) ?_)))
    first | rfl | (simp (disch:=omega) only [wr64,wr8,wr16,wr32,ofNatE,Nat.zero_add,bleT,bltT,dT,dF,Bool.true_and,Bool.and_true,Bool.and_self,cond_true,cond_false,Nat.sub_zero,beq_self_eq_true]; done) | (simp (disch:=omega) only [wr64,wr8,wr16,wr32,ofNatE,Nat.zero_add,bleT,bltT,dT,dF,Bool.true_and,Bool.and_true,Bool.and_self,cond_true,cond_false,Nat.sub_zero,beq_self_eq_true]; rfl)
   | succ k =>
    have hk:=ho.lt k (by omega)
    have hsk:=hs k (by omega)
    rw [show IntKind.i64.wrap (Int.ofNat (k+1) - (1:Int)) = (k:Int) by rw [wr64 (by rw [ofNatE]; omega) (by rw [ofNatE]; omega),ofNatE]; omega]
    simp only [toNatE]
    rcases hsk with q | ⟨q,q'⟩
    ·(repeat (first | (refine bift (by first | assumption | omega | (simp (disch:=omega) only [wr64,wr8,wr16,wr32,ofNatE,toNatE,toNatE1,Bool.and_eq_true,Bool.or_eq_true,Bool.not_eq_true',decide_eq_true_eq,decide_eq_false_iff_not,nble,nblt,nbeq,Nat.zero_add,Nat.add_zero,Int.zero_add,Int.add_zero,List.length_cons,List.length_nil,true_and,and_true,Nat.reduceAdd,and_self,hseen,Bool.false_eq_true,not_false_eq_true]; done) | (simp (disch:=omega) only [wr64,wr8,wr16,wr32,ofNatE,toNatE,toNatE1,Bool.and_eq_true,Bool.or_eq_true,Bool.not_eq_true',decide_eq_true_eq,decide_eq_false_iff_not,nble,nblt,nbeq,Nat.zero_add,Nat.add_zero,Int.zero_add,Int.add_zero,List.length_cons,List.length_nil,true_and,and_true,Nat.reduceAdd,and_self,hseen,Bool.false_eq_true,not_false_eq_true]; omega)) ?_) | (refine biff (by first | assumption | (simp (disch:=omega) only [wr64,wr8,wr16,wr32,ofNatE,toNatE,toNatE1,Bool.and_eq_true,Bool.or_eq_true,Bool.not_eq_true',decide_eq_true_eq,decide_eq_false_iff_not,nble,nblt,nbeq,Nat.zero_add,Nat.add_zero,Int.zero_add,Int.add_zero,List.length_cons,List.length_nil,true_and,and_true,Nat.reduceAdd,and_self,hseen,Bool.false_eq_true,not_false_eq_true]; done) | (simp (disch:=omega) only [wr64,wr8,wr16,wr32,ofNatE,toNatE,toNatE1,Bool.and_eq_true,Bool.or_eq_true,Bool.not_eq_true',decide_eq_true_eq,decide_eq_false_iff_not,nble,nblt,nbeq,Nat.zero_add,Nat.add_zero,Int.zero_add,Int.add_zero,List.length_cons,List.length_nil,true_and,and_true,Nat.reduceAdd,and_self,hseen,Bool.false_eq_true,not_false_eq_true]; omega)) ?_)))
     first | rfl | (simp (disch:=omega) only [wr64,wr8,wr16,wr32,ofNatE,Nat.zero_add,bleT,bltT,dT,dF,Bool.true_and,Bool.and_true,Bool.and_self,cond_true,cond_false,Nat.sub_zero,beq_self_eq_true]; done) | (simp (disch:=omega) only [wr64,wr8,wr16,wr32,ofNatE,Nat.zero_add,bleT,bltT,dT,dF,Bool.true_and,Bool.and_true,Bool.and_self,cond_true,cond_false,Nat.sub_zero,beq_self_eq_true]; rfl)
    ·(repeat (first | (refine bift (by first | assumption | omega | (simp (disch:=omega) only [wr64,wr8,wr16,wr32,ofNatE,toNatE,toNatE1,Bool.and_eq_true,Bool.or_eq_true,Bool.not_eq_true',decide_eq_true_eq,decide_eq_false_iff_not,nble,nblt,nbeq,Nat.zero_add,Nat.add_zero,Int.zero_add,Int.add_zero,List.length_cons,List.length_nil,true_and,and_true,Nat.reduceAdd,and_self,hseen,Bool.false_eq_true,not_false_eq_true]; done) | (simp (disch:=omega) only [wr64,wr8,wr16,wr32,ofNatE,toNatE,toNatE1,Bool.and_eq_true,Bool.or_eq_true,Bool.not_eq_true',decide_eq_true_eq,decide_eq_false_iff_not,nble,nblt,nbeq,Nat.zero_add,Nat.add_zero,Int.zero_add,Int.add_zero,List.length_cons,List.length_nil,true_and,and_true,Nat.reduceAdd,and_self,hseen,Bool.false_eq_true,not_false_eq_true]; omega)) ?_) | (refine biff (by first | assumption | (simp (disch:=omega) only [wr64,wr8,wr16,wr32,ofNatE,toNatE,toNatE1,Bool.and_eq_true,Bool.or_eq_true,Bool.not_eq_true',decide_eq_true_eq,decide_eq_false_iff_not,nble,nblt,nbeq,Nat.zero_add,Nat.add_zero,Int.zero_add,Int.add_zero,List.length_cons,List.length_nil,true_and,and_true,Nat.reduceAdd,and_self,hseen,Bool.false_eq_true,not_false_eq_true]; done) | (simp (disch:=omega) only [wr64,wr8,wr16,wr32,ofNatE,toNatE,toNatE1,Bool.and_eq_true,Bool.or_eq_true,Bool.not_eq_true',decide_eq_true_eq,decide_eq_false_iff_not,nble,nblt,nbeq,Nat.zero_add,Nat.add_zero,Int.zero_add,Int.add_zero,List.length_cons,List.length_nil,true_and,and_true,Nat.reduceAdd,and_self,hseen,Bool.false_eq_true,not_false_eq_true]; omega)) ?_)))
     first | rfl | (simp (disch:=omega) only [wr64,wr8,wr16,wr32,ofNatE,Nat.zero_add,bleT,bltT,dT,dF,Bool.true_and,Bool.and_true,Bool.and_self,cond_true,cond_false,Nat.sub_zero,beq_self_eq_true]; done) | (simp (disch:=omega) only [wr64,wr8,wr16,wr32,ofNatE,Nat.zero_add,bleT,bltT,dT,dF,Bool.true_and,Bool.and_true,Bool.and_self,cond_true,cond_false,Nat.sub_zero,beq_self_eq_true]; rfl)
  ·refine .cons ⟨rfl,rfl,rfl,id,fun j hj=>?_⟩ .nil
   show [T.bool (seenF o (i+1) j)] = [.bool (bif j==o i then true else x j)]
   rw [sb j]
 ·generalize seenF o L.n = x at *
  refine Last.mk0 (A:=A41) (m:=0) none_ok rfl rfl loops0 (by simp) (h1:=[bb 40 x]) (Eq.trans (show iterR P41 G41 A41 noneO 0 3 [] 7 (v7 mv L o L.n) [bb 40 x] =
(
 bif decide (Int.ofNat L.n<Int.ofNat L.n) then
 bif decide (0<=Int.ofNat L.n)&&decide (Int.ofNat L.n<Int.ofNat L.n) then
 bif decide (0<=Int.ofNat L.n)&&decide (Int.ofNat L.n<Int.ofNat L.n) then
 bif decide (Int.ofNat L.n<=Int.ofNat (o L.n)) then
 some ((.ret,[mv,.bool false,jv L
 none,ov L.n o (some L.n)],[bb 40 x]))
 else
 bif decide (0<=Int.ofNat L.n)&&decide (Int.ofNat L.n<Int.ofNat L.n) then
 bif decide (0<=Int.ofNat (o L.n))&&decide (Int.ofNat (o L.n)<(40:Int)) then
 bif ((0:Nat)+o L.n).blt 40 then
 bif x (0+o L.n) then
 some ((.ret,[mv,.bool false,jv L
 none,ov L.n o (some L.n)],[bb 40 x]))
 else
 bif decide (0<=Int.ofNat L.n)&&decide (Int.ofNat L.n<Int.ofNat L.n) then
 bif decide (0<=Int.ofNat (o L.n))&&decide (Int.ofNat (o L.n)<(40:Int)) then
 bif ((0:Nat)+o L.n).blt 40&&true&&true&&true then
 bif decide (0<Int.ofNat L.n) then
 bif decide (0<=IntKind.i64.wrap (Int.ofNat L.n - 1))&&decide (IntKind.i64.wrap (Int.ofNat L.n - 1)<Int.ofNat L.n) then
 bif decide (0<=Int.ofNat (o (IntKind.i64.wrap (Int.ofNat L.n - (1:Int))).toNat))&&decide (Int.ofNat (o (IntKind.i64.wrap (Int.ofNat L.n - (1:Int))).toNat)<Int.ofNat L.n) then
 bif decide (0<=Int.ofNat L.n)&&decide (Int.ofNat L.n<Int.ofNat L.n) then
 bif decide (0<=Int.ofNat (o L.n))&&decide (Int.ofNat (o L.n)<Int.ofNat L.n) then
 bif decide (L.du (o L.n)<L.du (o (IntKind.i64.wrap (Int.ofNat L.n - (1:Int))).toNat)) then
 some ((.ret,[mv,.bool false,jv L
 none,ov L.n o (some L.n)],[.mk 0 1 40 (fun e=>[.bool (bif e==0+o L.n then true
 else x e)]) true false]))
 else
 bif decide (0<=IntKind.i64.wrap (Int.ofNat L.n - 1))&&decide (IntKind.i64.wrap (Int.ofNat L.n - 1)<Int.ofNat L.n) then
 bif decide (0<=Int.ofNat (o (IntKind.i64.wrap (Int.ofNat L.n - (1:Int))).toNat))&&decide (Int.ofNat (o (IntKind.i64.wrap (Int.ofNat L.n - (1:Int))).toNat)<Int.ofNat L.n) then
 bif decide (0<=Int.ofNat L.n)&&decide (Int.ofNat L.n<Int.ofNat L.n) then
 bif decide (0<=Int.ofNat (o L.n))&&decide (Int.ofNat (o L.n)<Int.ofNat L.n) then
 bif decide (L.du (o (IntKind.i64.wrap (Int.ofNat L.n - (1:Int))).toNat) = L.du (o L.n)) then
 bif decide (0<=IntKind.i64.wrap (Int.ofNat L.n - 1))&&decide (IntKind.i64.wrap (Int.ofNat L.n - 1)<Int.ofNat L.n) then
 bif decide (0<=Int.ofNat L.n)&&decide (Int.ofNat L.n<Int.ofNat L.n) then
 bif decide (Int.ofNat (o L.n)<Int.ofNat (o (IntKind.i64.wrap (Int.ofNat L.n - (1:Int))).toNat)) then
 some ((.ret,[mv,.bool false,jv L
 none,ov L.n o (some L.n)],[.mk 0 1 40 (fun e=>[.bool (bif e==0+o L.n then true
 else x e)]) true false]))
 else
 some ((.normal,[mv,jv L
 none,ov L.n o (some L.n),.ptr 0 0 0 0,.int .i64 (IntKind.i64.wrap (Int.ofNat L.n+1))],[.mk 0 1 40 (fun e=>[.bool (bif e==0+o L.n then true
 else x e)]) true false]))
 else none else none else
 some ((.normal,[mv,jv L
 none,ov L.n o (some L.n),.ptr 0 0 0 0,.int .i64 (IntKind.i64.wrap (Int.ofNat L.n+1))],[.mk 0 1 40 (fun e=>[.bool (bif e==0+o L.n then true
 else x e)]) true false]))
 else none else none else none else none else none else none else none else none else
 some ((.normal,[mv,jv L
 none,ov L.n o (some L.n),.ptr 0 0 0 0,.int .i64 (IntKind.i64.wrap (Int.ofNat L.n+1))],[.mk 0 1 40 (fun e=>[.bool (bif e==0+o L.n then true
 else x e)]) true false]))
 else none else none else none else none else none else none else none else none else
 some ((.exit 0,[mv,.undef,jv L
 none,ov L.n o (some L.n)],[bb 40 x]))) from by kernel_rfl) ?_) (.refl _)
  (repeat (first | (refine bift (by first | assumption | omega | (simp (disch:=omega) only [wr64,wr8,wr16,wr32,ofNatE,toNatE,toNatE1,Bool.and_eq_true,Bool.or_eq_true,Bool.not_eq_true',decide_eq_true_eq,decide_eq_false_iff_not,nble,nblt,nbeq,Nat.zero_add,Nat.add_zero,Int.zero_add,Int.add_zero,List.length_cons,List.length_nil,true_and,and_true,Nat.reduceAdd,and_self]; done) | (simp (disch:=omega) only [wr64,wr8,wr16,wr32,ofNatE,toNatE,toNatE1,Bool.and_eq_true,Bool.or_eq_true,Bool.not_eq_true',decide_eq_true_eq,decide_eq_false_iff_not,nble,nblt,nbeq,Nat.zero_add,Nat.add_zero,Int.zero_add,Int.add_zero,List.length_cons,List.length_nil,true_and,and_true,Nat.reduceAdd,and_self]; omega)) ?_) | (refine biff (by first | assumption | (simp (disch:=omega) only [wr64,wr8,wr16,wr32,ofNatE,toNatE,toNatE1,Bool.and_eq_true,Bool.or_eq_true,Bool.not_eq_true',decide_eq_true_eq,decide_eq_false_iff_not,nble,nblt,nbeq,Nat.zero_add,Nat.add_zero,Int.zero_add,Int.add_zero,List.length_cons,List.length_nil,true_and,and_true,Nat.reduceAdd,and_self]; done) | (simp (disch:=omega) only [wr64,wr8,wr16,wr32,ofNatE,toNatE,toNatE1,Bool.and_eq_true,Bool.or_eq_true,Bool.not_eq_true',decide_eq_true_eq,decide_eq_false_iff_not,nble,nblt,nbeq,Nat.zero_add,Nat.add_zero,Int.zero_add,Int.add_zero,List.length_cons,List.length_nil,true_and,and_true,Nat.reduceAdd,and_self]; omega)) ?_)))
  first | rfl | (simp (disch:=omega) only [wr64,wr8,wr16,wr32,ofNatE,Nat.zero_add,bleT,bltT,dT,dF,Bool.true_and,Bool.and_true,Bool.and_self,cond_true,cond_false,Nat.sub_zero,beq_self_eq_true]; done) | (simp (disch:=omega) only [wr64,wr8,wr16,wr32,ofNatE,Nat.zero_add,bleT,bltT,dT,dF,Bool.true_and,Bool.and_true,Bool.and_self,cond_true,cond_false,Nat.sub_zero,beq_self_eq_true]; rfl)
theorem l3b (x5 x6:T) (nm:Nat) (mm:Nat->Nat) (cm:Option Nat) (hmm:∀ j,mm j<256) (n:Nat) (h0:0<n) (hn:n<=40) (b:Nat->Bool) (o:Nat->Nat) (ho:Ordr n o) :
 ∃ d,Ordr n d/\LoopOk P41 G41 (A41 3) 3 16 (litS (v16 (mvT nm mm cm) x5 x6 n 0) [bb 40 b,eb 0,nb 0 n o] (.exit 2) (e16 x5 x6 n) [bb 40 b,eb 0,nb 0 n d]):=by
 obtain ⟨e,vs1,h1,⟨rfl,rfl,d,hd,rfl⟩,hl⟩:=loop_exists (P:=P41) (Gl:=G41) (an:=A41 3) hm41 (f:=3) (r:=16) (k:=3) (by kernel_rfl) (fun m vs h=>∃ (i:Nat) (d:Nat->Nat),i<=60/\m = 60 - i/\Ordr n d/\vs = v16 (mvT nm mm cm) x5 x6 n i/\h = [bb 40 b,eb 0,nb 0 n d]) (fun e vs h=>e = .exit 2/\vs = e16 x5 x6 n/\∃ d,Ordr n d/\h = [bb 40 b,eb 0,nb 0 n d])
  (fun m vs h ⟨i,d,hi,hm,hd,hv,hh⟩=>by
   subst hv hh
   by_cases q:i+1<nm/\i<60
   ·left
    refine ⟨m - 1,v16 (mvT nm mm cm) x5 x6 n (i+1:Nat),[bb 40 b,eb 0,nb 0 n (swp d (mm i % n) (mm (i+1) % n))],by omega,?_,i+1,_,by omega,by omega,hd.swp (Nat.mod_lt _ h0) (Nat.mod_lt _ h0),rfl,rfl⟩
    have ha:=Nat.mod_lt (mm i) h0
    have hb:=Nat.mod_lt (mm (i+1)) h0
    have w0:=hmm i
    have w1:=hmm (i+1)
    refine Step.mk0 (A:=A41) (m:=0) none_ok rfl rfl loops0 (h1:=[bb 40 b,eb 0,⟨0,1,n,fun e=>[.int .i64 (bif e==mm (i+1) % n then ((d (mm i % n):Nat):Int) else bif e==mm i % n then ((d (mm (i+1) % n):Nat):Int) else ((d e:Nat):Int))],true,false⟩]) (Eq.trans (show iterR P41 G41 A41 noneO 0 3 [] 16 (v16 (mvT nm mm cm) x5 x6 n i) [bb 40 b,eb 0,nb 0 n d] =
(
 bif decide (IntKind.i64.wrap (Int.ofNat i+1)<Int.ofNat nm) then
 bif decide (Int.ofNat i<60) then
 bif decide (0<Int.ofNat n) then
 bif decide (0<=Int.ofNat i)&&decide (Int.ofNat i<Int.ofNat nm) then
 bif decide (Int.ofNat n = 0) then none else
 bif decide (0<=IntKind.i64.wrap (Int.ofNat i+1))&&decide (IntKind.i64.wrap (Int.ofNat i+1)<Int.ofNat nm) then
 bif decide (Int.ofNat n = 0) then none else
 bif decide ((0:Int)<=(IntKind.i64.wrap (Int.ofNat (mm (IntKind.i64.wrap (Int.ofNat i+(1:Int))).toNat))).tmod (Int.ofNat n))&&decide ((IntKind.i64.wrap (Int.ofNat (mm (IntKind.i64.wrap (Int.ofNat i+(1:Int))).toNat))).tmod (Int.ofNat n)<Int.ofNat n) then
 bif ((0:Nat)+((IntKind.i64.wrap (Int.ofNat (mm (IntKind.i64.wrap (Int.ofNat i+(1:Int))).toNat))).tmod (Int.ofNat n)).toNat).blt n then
 bif decide ((0:Int)<=(IntKind.i64.wrap (Int.ofNat (mm i))).tmod (Int.ofNat n))&&decide ((IntKind.i64.wrap (Int.ofNat (mm i))).tmod (Int.ofNat n)<Int.ofNat n) then
 bif ((0:Nat)+((IntKind.i64.wrap (Int.ofNat (mm i))).tmod (Int.ofNat n)).toNat).blt n then
 bif decide ((0:Int)<=(IntKind.i64.wrap (Int.ofNat (mm i))).tmod (Int.ofNat n))&&decide ((IntKind.i64.wrap (Int.ofNat (mm i))).tmod (Int.ofNat n)<Int.ofNat n) then
 bif ((0:Nat)+((IntKind.i64.wrap (Int.ofNat (mm i))).tmod (Int.ofNat n)).toNat).blt n&&[T.int .i64 (Int.ofNat (d ((0:Nat)+((IntKind.i64.wrap (Int.ofNat (mm (IntKind.i64.wrap (Int.ofNat i+(1:Int))).toNat))).tmod (Int.ofNat n)).toNat)))].length==(1:Nat)&&true&&true then
 bif decide ((0:Int)<=(IntKind.i64.wrap (Int.ofNat (mm (IntKind.i64.wrap (Int.ofNat i+(1:Int))).toNat))).tmod (Int.ofNat n))&&decide ((IntKind.i64.wrap (Int.ofNat (mm (IntKind.i64.wrap (Int.ofNat i+(1:Int))).toNat))).tmod (Int.ofNat n)<Int.ofNat n) then
 bif ((0:Nat)+((IntKind.i64.wrap (Int.ofNat (mm (IntKind.i64.wrap (Int.ofNat i+(1:Int))).toNat))).tmod (Int.ofNat n)).toNat).blt n&&[T.int .i64 (Int.ofNat (d ((0:Nat)+((IntKind.i64.wrap (Int.ofNat (mm i))).tmod (Int.ofNat n)).toNat)))].length==(1:Nat)&&true&&true then
 some ((.normal,[.view 1 nm (fun j=>[.int .u8 (.ofNat (mm j))]) cm,x5,x6,.own 2 0 0 n
 none,.int .i64 (IntKind.i64.wrap (Int.ofNat i+1))],[bb 40 b,.mk 0 1 0 (fun x=>[]) true true,.mk 0 1 n (fun e=>[.int .i64 (bif e==(0:Nat)+((IntKind.i64.wrap (Int.ofNat (mm (IntKind.i64.wrap (Int.ofNat i+(1:Int))).toNat))).tmod (Int.ofNat n)).toNat then Int.ofNat (d ((0:Nat)+((IntKind.i64.wrap (Int.ofNat (mm i))).tmod (Int.ofNat n)).toNat))
 else
 bif e==(0:Nat)+((IntKind.i64.wrap (Int.ofNat (mm i))).tmod (Int.ofNat n)).toNat then Int.ofNat (d ((0:Nat)+((IntKind.i64.wrap (Int.ofNat (mm (IntKind.i64.wrap (Int.ofNat i+(1:Int))).toNat))).tmod (Int.ofNat n)).toNat))
 else Int.ofNat (d e))]) true false]))
 else none else none else none else none else none else none else none else none else none else none else
 some ((.exit 2,[x5,x6,.own 2 0 0 n
 none],[bb 40 b,.mk 0 1 0 (fun x=>[]) true true,nb 0 n d]))
 else
 some ((.exit 2,[x5,x6,.own 2 0 0 n
 none],[bb 40 b,.mk 0 1 0 (fun x=>[]) true true,nb 0 n d]))
 else
 some ((.exit 2,[x5,x6,.own 2 0 0 n
 none],[bb 40 b,.mk 0 1 0 (fun x=>[]) true true,nb 0 n d]))) from by kernel_rfl) ?_) ?_
    ·rw [show IntKind.i64.wrap (Int.ofNat i+(1:Int)) = ((i+1:Nat):Int) by rw [wr64 (by rw [ofNatE]; omega) (by rw [ofNatE]; omega)]; rfl]
     simp only [toNatE]
     simp only [show IntKind.i64.wrap (Int.ofNat (mm i)) = ((mm i:Nat):Int) from wr64 (by rw [ofNatE]; omega) (by rw [ofNatE]; omega),show IntKind.i64.wrap (Int.ofNat (mm (i+1))) = ((mm (i+1):Nat):Int) from wr64 (by rw [ofNatE]; omega) (by rw [ofNatE]; omega),
      show ((mm i:Nat):Int).tmod (Int.ofNat n) = ((mm i % n:Nat):Int) from rfl,show ((mm (i+1):Nat):Int).tmod (Int.ofNat n) = ((mm (i+1) % n:Nat):Int) from rfl,toNatE]
     generalize mm i % n = a at *
     generalize mm (i+1) % n = c at *
     (repeat (first | (refine bift (by first | assumption | omega | (simp (disch:=omega) only [wr64,wr8,wr16,wr32,ofNatE,toNatE,toNatE1,Bool.and_eq_true,Bool.or_eq_true,Bool.not_eq_true',decide_eq_true_eq,decide_eq_false_iff_not,nble,nblt,nbeq,Nat.zero_add,Nat.add_zero,Int.zero_add,Int.add_zero,List.length_cons,List.length_nil,true_and,and_true,Nat.reduceAdd,and_self]; done) | (simp (disch:=omega) only [wr64,wr8,wr16,wr32,ofNatE,toNatE,toNatE1,Bool.and_eq_true,Bool.or_eq_true,Bool.not_eq_true',decide_eq_true_eq,decide_eq_false_iff_not,nble,nblt,nbeq,Nat.zero_add,Nat.add_zero,Int.zero_add,Int.add_zero,List.length_cons,List.length_nil,true_and,and_true,Nat.reduceAdd,and_self]; omega)) ?_) | (refine biff (by first | assumption | (simp (disch:=omega) only [wr64,wr8,wr16,wr32,ofNatE,toNatE,toNatE1,Bool.and_eq_true,Bool.or_eq_true,Bool.not_eq_true',decide_eq_true_eq,decide_eq_false_iff_not,nble,nblt,nbeq,Nat.zero_add,Nat.add_zero,Int.zero_add,Int.add_zero,List.length_cons,List.length_nil,true_and,and_true,Nat.reduceAdd,and_self]; done) | (simp (disch:=omega) only [wr64,wr8,wr16,wr32,ofNatE,toNatE,toNatE1,Bool.and_eq_true,Bool.or_eq_true,Bool.not_eq_true',decide_eq_true_eq,decide_eq_false_iff_not,nble,nblt,nbeq,Nat.zero_add,Nat.add_zero,Int.zero_add,Int.add_zero,List.length_cons,List.length_nil,true_and,and_true,Nat.reduceAdd,and_self]; omega)) ?_)))
     first | rfl | (simp (disch:=omega) only [wr64,wr8,wr16,wr32,ofNatE,Nat.zero_add,bleT,bltT,dT,dF,Bool.true_and,Bool.and_true,Bool.and_self,cond_true,cond_false,Nat.sub_zero,beq_self_eq_true]; done) | (simp (disch:=omega) only [wr64,wr8,wr16,wr32,ofNatE,Nat.zero_add,bleT,bltT,dT,dF,Bool.true_and,Bool.and_true,Bool.and_self,cond_true,cond_false,Nat.sub_zero,beq_self_eq_true]; rfl)
    ·refine .cons ⟨rfl,rfl,rfl,id,fun _ _=>rfl⟩ (.cons ⟨rfl,rfl,rfl,id,fun _ _=>rfl⟩ (.cons ⟨rfl,rfl,rfl,id,fun j hj=>?_⟩ .nil))
     show [T.int .i64 (d (tra (mm i % n) (mm (i+1) % n) j):Nat)] = [.int .i64 (bif j==mm (i+1) % n then ((d (mm i % n):Nat):Int) else bif j==mm i % n then ((d (mm (i+1) % n):Nat):Int) else ((d j:Nat):Int))]
     unfold tra
     by_cases q1:j = mm (i+1) % n
     ·rw [if_pos q1,q1]; simp
     ·rw [if_neg q1,beq_eq_false_iff_ne.2 q1,cond_false]
      by_cases q2:j = mm i % n
      ·rw [if_pos q2,q2]; simp
      ·rw [if_neg q2,beq_eq_false_iff_ne.2 q2,cond_false]
   ·right
    refine ⟨_,_,_,?_,rfl,rfl,d,hd,rfl⟩
    refine Last.mk0 (A:=A41) (m:=0) none_ok rfl rfl loops0 (by simp) (h1:=[bb 40 b,eb 0,nb 0 n d]) (Eq.trans (show iterR P41 G41 A41 noneO 0 3 [] 16 (v16 (mvT nm mm cm) x5 x6 n i) [bb 40 b,eb 0,nb 0 n d] =
(
 bif decide (IntKind.i64.wrap (Int.ofNat i+1)<Int.ofNat nm) then
 bif decide (Int.ofNat i<60) then
 bif decide (0<Int.ofNat n) then
 bif decide (0<=Int.ofNat i)&&decide (Int.ofNat i<Int.ofNat nm) then
 bif decide (Int.ofNat n = 0) then none else
 bif decide (0<=IntKind.i64.wrap (Int.ofNat i+1))&&decide (IntKind.i64.wrap (Int.ofNat i+1)<Int.ofNat nm) then
 bif decide (Int.ofNat n = 0) then none else
 bif decide ((0:Int)<=(IntKind.i64.wrap (Int.ofNat (mm (IntKind.i64.wrap (Int.ofNat i+(1:Int))).toNat))).tmod (Int.ofNat n))&&decide ((IntKind.i64.wrap (Int.ofNat (mm (IntKind.i64.wrap (Int.ofNat i+(1:Int))).toNat))).tmod (Int.ofNat n)<Int.ofNat n) then
 bif ((0:Nat)+((IntKind.i64.wrap (Int.ofNat (mm (IntKind.i64.wrap (Int.ofNat i+(1:Int))).toNat))).tmod (Int.ofNat n)).toNat).blt n then
 bif decide ((0:Int)<=(IntKind.i64.wrap (Int.ofNat (mm i))).tmod (Int.ofNat n))&&decide ((IntKind.i64.wrap (Int.ofNat (mm i))).tmod (Int.ofNat n)<Int.ofNat n) then
 bif ((0:Nat)+((IntKind.i64.wrap (Int.ofNat (mm i))).tmod (Int.ofNat n)).toNat).blt n then
 bif decide ((0:Int)<=(IntKind.i64.wrap (Int.ofNat (mm i))).tmod (Int.ofNat n))&&decide ((IntKind.i64.wrap (Int.ofNat (mm i))).tmod (Int.ofNat n)<Int.ofNat n) then
 bif ((0:Nat)+((IntKind.i64.wrap (Int.ofNat (mm i))).tmod (Int.ofNat n)).toNat).blt n&&[T.int .i64 (Int.ofNat (d ((0:Nat)+((IntKind.i64.wrap (Int.ofNat (mm (IntKind.i64.wrap (Int.ofNat i+(1:Int))).toNat))).tmod (Int.ofNat n)).toNat)))].length==(1:Nat)&&true&&true then
 bif decide ((0:Int)<=(IntKind.i64.wrap (Int.ofNat (mm (IntKind.i64.wrap (Int.ofNat i+(1:Int))).toNat))).tmod (Int.ofNat n))&&decide ((IntKind.i64.wrap (Int.ofNat (mm (IntKind.i64.wrap (Int.ofNat i+(1:Int))).toNat))).tmod (Int.ofNat n)<Int.ofNat n) then
 bif ((0:Nat)+((IntKind.i64.wrap (Int.ofNat (mm (IntKind.i64.wrap (Int.ofNat i+(1:Int))).toNat))).tmod (Int.ofNat n)).toNat).blt n&&[T.int .i64 (Int.ofNat (d ((0:Nat)+((IntKind.i64.wrap (Int.ofNat (mm i))).tmod (Int.ofNat n)).toNat)))].length==(1:Nat)&&true&&true then
 some ((.normal,[.view 1 nm (fun j=>[.int .u8 (.ofNat (mm j))]) cm,x5,x6,.own 2 0 0 n
 none,.int .i64 (IntKind.i64.wrap (Int.ofNat i+1))],[bb 40 b,.mk 0 1 0 (fun x=>[]) true true,.mk 0 1 n (fun e=>[.int .i64 (bif e==(0:Nat)+((IntKind.i64.wrap (Int.ofNat (mm (IntKind.i64.wrap (Int.ofNat i+(1:Int))).toNat))).tmod (Int.ofNat n)).toNat then Int.ofNat (d ((0:Nat)+((IntKind.i64.wrap (Int.ofNat (mm i))).tmod (Int.ofNat n)).toNat))
 else
 bif e==(0:Nat)+((IntKind.i64.wrap (Int.ofNat (mm i))).tmod (Int.ofNat n)).toNat then Int.ofNat (d ((0:Nat)+((IntKind.i64.wrap (Int.ofNat (mm (IntKind.i64.wrap (Int.ofNat i+(1:Int))).toNat))).tmod (Int.ofNat n)).toNat))
 else Int.ofNat (d e))]) true false]))
 else none else none else none else none else none else none else none else none else none else none else
 some ((.exit 2,[x5,x6,.own 2 0 0 n
 none],[bb 40 b,.mk 0 1 0 (fun x=>[]) true true,nb 0 n d]))
 else
 some ((.exit 2,[x5,x6,.own 2 0 0 n
 none],[bb 40 b,.mk 0 1 0 (fun x=>[]) true true,nb 0 n d]))
 else
 some ((.exit 2,[x5,x6,.own 2 0 0 n
 none],[bb 40 b,.mk 0 1 0 (fun x=>[]) true true,nb 0 n d]))) from by kernel_rfl) ?_) (.refl _)
    rw [show IntKind.i64.wrap (Int.ofNat i+(1:Int)) = ((i+1:Nat):Int) by rw [wr64 (by rw [ofNatE]; omega) (by rw [ofNatE]; omega)]; rfl]
    by_cases q1:i+1<nm
    ·(repeat (first | (refine bift (by first | assumption | omega | (simp (disch:=omega) only [wr64,wr8,wr16,wr32,ofNatE,toNatE,toNatE1,Bool.and_eq_true,Bool.or_eq_true,Bool.not_eq_true',decide_eq_true_eq,decide_eq_false_iff_not,nble,nblt,nbeq,Nat.zero_add,Nat.add_zero,Int.zero_add,Int.add_zero,List.length_cons,List.length_nil,true_and,and_true,Nat.reduceAdd,and_self]; done) | (simp (disch:=omega) only [wr64,wr8,wr16,wr32,ofNatE,toNatE,toNatE1,Bool.and_eq_true,Bool.or_eq_true,Bool.not_eq_true',decide_eq_true_eq,decide_eq_false_iff_not,nble,nblt,nbeq,Nat.zero_add,Nat.add_zero,Int.zero_add,Int.add_zero,List.length_cons,List.length_nil,true_and,and_true,Nat.reduceAdd,and_self]; omega)) ?_) | (refine biff (by first | assumption | (simp (disch:=omega) only [wr64,wr8,wr16,wr32,ofNatE,toNatE,toNatE1,Bool.and_eq_true,Bool.or_eq_true,Bool.not_eq_true',decide_eq_true_eq,decide_eq_false_iff_not,nble,nblt,nbeq,Nat.zero_add,Nat.add_zero,Int.zero_add,Int.add_zero,List.length_cons,List.length_nil,true_and,and_true,Nat.reduceAdd,and_self]; done) | (simp (disch:=omega) only [wr64,wr8,wr16,wr32,ofNatE,toNatE,toNatE1,Bool.and_eq_true,Bool.or_eq_true,Bool.not_eq_true',decide_eq_true_eq,decide_eq_false_iff_not,nble,nblt,nbeq,Nat.zero_add,Nat.add_zero,Int.zero_add,Int.add_zero,List.length_cons,List.length_nil,true_and,and_true,Nat.reduceAdd,and_self]; omega)) ?_)))
     first | rfl | (simp (disch:=omega) only [wr64,wr8,wr16,wr32,ofNatE,Nat.zero_add,bleT,bltT,dT,dF,Bool.true_and,Bool.and_true,Bool.and_self,cond_true,cond_false,Nat.sub_zero,beq_self_eq_true]; done) | (simp (disch:=omega) only [wr64,wr8,wr16,wr32,ofNatE,Nat.zero_add,bleT,bltT,dT,dF,Bool.true_and,Bool.and_true,Bool.and_self,cond_true,cond_false,Nat.sub_zero,beq_self_eq_true]; rfl)
    ·(repeat (first | (refine bift (by first | assumption | omega | (simp (disch:=omega) only [wr64,wr8,wr16,wr32,ofNatE,toNatE,toNatE1,Bool.and_eq_true,Bool.or_eq_true,Bool.not_eq_true',decide_eq_true_eq,decide_eq_false_iff_not,nble,nblt,nbeq,Nat.zero_add,Nat.add_zero,Int.zero_add,Int.add_zero,List.length_cons,List.length_nil,true_and,and_true,Nat.reduceAdd,and_self]; done) | (simp (disch:=omega) only [wr64,wr8,wr16,wr32,ofNatE,toNatE,toNatE1,Bool.and_eq_true,Bool.or_eq_true,Bool.not_eq_true',decide_eq_true_eq,decide_eq_false_iff_not,nble,nblt,nbeq,Nat.zero_add,Nat.add_zero,Int.zero_add,Int.add_zero,List.length_cons,List.length_nil,true_and,and_true,Nat.reduceAdd,and_self]; omega)) ?_) | (refine biff (by first | assumption | (simp (disch:=omega) only [wr64,wr8,wr16,wr32,ofNatE,toNatE,toNatE1,Bool.and_eq_true,Bool.or_eq_true,Bool.not_eq_true',decide_eq_true_eq,decide_eq_false_iff_not,nble,nblt,nbeq,Nat.zero_add,Nat.add_zero,Int.zero_add,Int.add_zero,List.length_cons,List.length_nil,true_and,and_true,Nat.reduceAdd,and_self]; done) | (simp (disch:=omega) only [wr64,wr8,wr16,wr32,ofNatE,toNatE,toNatE1,Bool.and_eq_true,Bool.or_eq_true,Bool.not_eq_true',decide_eq_true_eq,decide_eq_false_iff_not,nble,nblt,nbeq,Nat.zero_add,Nat.add_zero,Int.zero_add,Int.add_zero,List.length_cons,List.length_nil,true_and,and_true,Nat.reduceAdd,and_self]; omega)) ?_)))
     first | rfl | (simp (disch:=omega) only [wr64,wr8,wr16,wr32,ofNatE,Nat.zero_add,bleT,bltT,dT,dF,Bool.true_and,Bool.and_true,Bool.and_self,cond_true,cond_false,Nat.sub_zero,beq_self_eq_true]; done) | (simp (disch:=omega) only [wr64,wr8,wr16,wr32,ofNatE,Nat.zero_add,bleT,bltT,dT,dF,Bool.true_and,Bool.and_true,Bool.and_self,cond_true,cond_false,Nat.sub_zero,beq_self_eq_true]; rfl))
  (n:=60) (vs:=v16 (mvT nm mm cm) x5 x6 n 0) (h:=[bb 40 b,eb 0,nb 0 n o]) rfl ⟨0,o,by omega,by omega,ho,rfl,rfl⟩
 exact ⟨d,hd,hl⟩
theorem l3c (L:JL) (hL:L.Ok) (x6:T) (b:Nat->Bool) (d:Nat->Nat) (hd:Ordr L.n d) :
 LoopOk P41 G41 (A41 3) 3 22 (litS (v22 L x6 0 0 0) [bb 40 b,eb 0,nb 0 L.n d] (.exit 4) (e22 L x6 (wst L d L.n)) [bb 40 b,eb 0,nb 0 L.n d]):=by
 have hn:=hL.n
 refine loop_steps hm41 (by kernel_rfl) (fun i=>v22 L x6 (tms L d i) (wst L d i) i) (fun i=>[bb 40 b,eb 0,nb 0 L.n d]) (n:=L.n) (fun i hi=>?_) ?_
 ·have hb:=tms_bd hL hd.lt i (by omega)
  have hb1:=tms_bd hL hd.lt (i+1) (by omega)
  have hdi:=hd.lt i hi
  have ht:=hL.tm (d i) hdi
  have hu:=hL.du (d i) hdi
  have es:tms L d (i+1) = tms L d i+L.tm (d i):=rfl
  have ew:wst L d (i+1) = if i = 0 ∨ wst L d i<tms L d i+L.tm (d i) - L.du (d i) then tms L d i+L.tm (d i) - L.du (d i) else wst L d i:=rfl
  rw [es,ew]
  generalize wst L d i = w at *
  generalize tms L d i = t at *
  refine Step.mk0 (A:=A41) (m:=0) none_ok rfl rfl loops0 (h1:=[bb 40 b,eb 0,nb 0 L.n d]) (Eq.trans (show iterR P41 G41 A41 noneO 0 3 [] 22 (v22 L x6 t w i) [bb 40 b,eb 0,nb 0 L.n d] =
(
 bif decide (Int.ofNat i<Int.ofNat L.n) then
 bif decide (0<=Int.ofNat i)&&decide (Int.ofNat i<Int.ofNat L.n) then
 bif ((0:Nat)+i).blt L.n then
 bif decide (0<=Int.ofNat (d (0+i)))&&decide (Int.ofNat (d (0+i))<Int.ofNat L.n) then
 bif decide (0<=Int.ofNat i)&&decide (Int.ofNat i<Int.ofNat L.n) then
 bif ((0:Nat)+i).blt L.n then
 bif decide (0<=Int.ofNat (d (0+i)))&&decide (Int.ofNat (d (0+i))<Int.ofNat L.n) then
 bif decide (Int.ofNat i = 0) then
 some ((.normal,[jv L
 none,x6,.own 2 0 0 L.n
 none,.int .i64 (IntKind.i64.wrap (t+L.tm (d (0+i)))),.int .i64 (IntKind.i64.wrap (IntKind.i64.wrap (t+L.tm (d (0+i))) - L.du (d (0+i)))),.int .i64 (IntKind.i64.wrap (Int.ofNat i+1))],[bb 40 b,.mk 0 1 0 (fun x=>[]) true true,nb 0 L.n d]))
 else
 bif decide (w<IntKind.i64.wrap (IntKind.i64.wrap (t+L.tm (d (0+i))) - L.du (d (0+i)))) then
 some ((.normal,[jv L
 none,x6,.own 2 0 0 L.n
 none,.int .i64 (IntKind.i64.wrap (t+L.tm (d (0+i)))),.int .i64 (IntKind.i64.wrap (IntKind.i64.wrap (t+L.tm (d (0+i))) - L.du (d (0+i)))),.int .i64 (IntKind.i64.wrap (Int.ofNat i+1))],[bb 40 b,.mk 0 1 0 (fun x=>[]) true true,nb 0 L.n d]))
 else
 some ((.normal,[jv L
 none,x6,.own 2 0 0 L.n
 none,.int .i64 (IntKind.i64.wrap (t+L.tm (d (0+i)))),.int .i64 w,.int .i64 (IntKind.i64.wrap (Int.ofNat i+1))],[bb 40 b,.mk 0 1 0 (fun x=>[]) true true,nb 0 L.n d]))
 else none else none else none else none else none else none else
 some ((.exit 4,[jv L
 none,x6,.own 2 0 0 L.n
 none,.int .i64 w],[bb 40 b,.mk 0 1 0 (fun x=>[]) true true,nb 0 L.n d]))) from by kernel_rfl) ?_) (.refl _)
  (repeat (first | (refine bift (by first | assumption | omega | (simp (disch:=omega) only [wr64,wr8,wr16,wr32,ofNatE,toNatE,toNatE1,Bool.and_eq_true,Bool.or_eq_true,Bool.not_eq_true',decide_eq_true_eq,decide_eq_false_iff_not,nble,nblt,nbeq,Nat.zero_add,Nat.add_zero,Int.zero_add,Int.add_zero,List.length_cons,List.length_nil,true_and,and_true,Nat.reduceAdd,and_self]; done) | (simp (disch:=omega) only [wr64,wr8,wr16,wr32,ofNatE,toNatE,toNatE1,Bool.and_eq_true,Bool.or_eq_true,Bool.not_eq_true',decide_eq_true_eq,decide_eq_false_iff_not,nble,nblt,nbeq,Nat.zero_add,Nat.add_zero,Int.zero_add,Int.add_zero,List.length_cons,List.length_nil,true_and,and_true,Nat.reduceAdd,and_self]; omega)) ?_) | (refine biff (by first | assumption | (simp (disch:=omega) only [wr64,wr8,wr16,wr32,ofNatE,toNatE,toNatE1,Bool.and_eq_true,Bool.or_eq_true,Bool.not_eq_true',decide_eq_true_eq,decide_eq_false_iff_not,nble,nblt,nbeq,Nat.zero_add,Nat.add_zero,Int.zero_add,Int.add_zero,List.length_cons,List.length_nil,true_and,and_true,Nat.reduceAdd,and_self]; done) | (simp (disch:=omega) only [wr64,wr8,wr16,wr32,ofNatE,toNatE,toNatE1,Bool.and_eq_true,Bool.or_eq_true,Bool.not_eq_true',decide_eq_true_eq,decide_eq_false_iff_not,nble,nblt,nbeq,Nat.zero_add,Nat.add_zero,Int.zero_add,Int.add_zero,List.length_cons,List.length_nil,true_and,and_true,Nat.reduceAdd,and_self]; omega)) ?_)))
  by_cases q:i = 0
  ·rw [if_pos (.inl q)]
   (repeat (first | (refine bift (by first | assumption | omega | (simp (disch:=omega) only [wr64,wr8,wr16,wr32,ofNatE,toNatE,toNatE1,Bool.and_eq_true,Bool.or_eq_true,Bool.not_eq_true',decide_eq_true_eq,decide_eq_false_iff_not,nble,nblt,nbeq,Nat.zero_add,Nat.add_zero,Int.zero_add,Int.add_zero,List.length_cons,List.length_nil,true_and,and_true,Nat.reduceAdd,and_self]; done) | (simp (disch:=omega) only [wr64,wr8,wr16,wr32,ofNatE,toNatE,toNatE1,Bool.and_eq_true,Bool.or_eq_true,Bool.not_eq_true',decide_eq_true_eq,decide_eq_false_iff_not,nble,nblt,nbeq,Nat.zero_add,Nat.add_zero,Int.zero_add,Int.add_zero,List.length_cons,List.length_nil,true_and,and_true,Nat.reduceAdd,and_self]; omega)) ?_) | (refine biff (by first | assumption | (simp (disch:=omega) only [wr64,wr8,wr16,wr32,ofNatE,toNatE,toNatE1,Bool.and_eq_true,Bool.or_eq_true,Bool.not_eq_true',decide_eq_true_eq,decide_eq_false_iff_not,nble,nblt,nbeq,Nat.zero_add,Nat.add_zero,Int.zero_add,Int.add_zero,List.length_cons,List.length_nil,true_and,and_true,Nat.reduceAdd,and_self]; done) | (simp (disch:=omega) only [wr64,wr8,wr16,wr32,ofNatE,toNatE,toNatE1,Bool.and_eq_true,Bool.or_eq_true,Bool.not_eq_true',decide_eq_true_eq,decide_eq_false_iff_not,nble,nblt,nbeq,Nat.zero_add,Nat.add_zero,Int.zero_add,Int.add_zero,List.length_cons,List.length_nil,true_and,and_true,Nat.reduceAdd,and_self]; omega)) ?_)))
   first | rfl | (simp (disch:=omega) only [wr64,wr8,wr16,wr32,ofNatE,Nat.zero_add,bleT,bltT,dT,dF,Bool.true_and,Bool.and_true,Bool.and_self,cond_true,cond_false,Nat.sub_zero,beq_self_eq_true]; done) | (simp (disch:=omega) only [wr64,wr8,wr16,wr32,ofNatE,Nat.zero_add,bleT,bltT,dT,dF,Bool.true_and,Bool.and_true,Bool.and_self,cond_true,cond_false,Nat.sub_zero,beq_self_eq_true]; rfl)
  ·refine biff (by first | assumption | (simp (disch:=omega) only [wr64,wr8,wr16,wr32,ofNatE,toNatE,toNatE1,Bool.and_eq_true,Bool.or_eq_true,Bool.not_eq_true',decide_eq_true_eq,decide_eq_false_iff_not,nble,nblt,nbeq,Nat.zero_add,Nat.add_zero,Int.zero_add,Int.add_zero,List.length_cons,List.length_nil,true_and,and_true,Nat.reduceAdd,and_self]; done) | (simp (disch:=omega) only [wr64,wr8,wr16,wr32,ofNatE,toNatE,toNatE1,Bool.and_eq_true,Bool.or_eq_true,Bool.not_eq_true',decide_eq_true_eq,decide_eq_false_iff_not,nble,nblt,nbeq,Nat.zero_add,Nat.add_zero,Int.zero_add,Int.add_zero,List.length_cons,List.length_nil,true_and,and_true,Nat.reduceAdd,and_self]; omega)) ?_
   by_cases q2:w<t+L.tm (d i) - L.du (d i)
   ·rw [if_pos (.inr q2)]
    (repeat (first | (refine bift (by first | assumption | omega | (simp (disch:=omega) only [wr64,wr8,wr16,wr32,ofNatE,toNatE,toNatE1,Bool.and_eq_true,Bool.or_eq_true,Bool.not_eq_true',decide_eq_true_eq,decide_eq_false_iff_not,nble,nblt,nbeq,Nat.zero_add,Nat.add_zero,Int.zero_add,Int.add_zero,List.length_cons,List.length_nil,true_and,and_true,Nat.reduceAdd,and_self]; done) | (simp (disch:=omega) only [wr64,wr8,wr16,wr32,ofNatE,toNatE,toNatE1,Bool.and_eq_true,Bool.or_eq_true,Bool.not_eq_true',decide_eq_true_eq,decide_eq_false_iff_not,nble,nblt,nbeq,Nat.zero_add,Nat.add_zero,Int.zero_add,Int.add_zero,List.length_cons,List.length_nil,true_and,and_true,Nat.reduceAdd,and_self]; omega)) ?_) | (refine biff (by first | assumption | (simp (disch:=omega) only [wr64,wr8,wr16,wr32,ofNatE,toNatE,toNatE1,Bool.and_eq_true,Bool.or_eq_true,Bool.not_eq_true',decide_eq_true_eq,decide_eq_false_iff_not,nble,nblt,nbeq,Nat.zero_add,Nat.add_zero,Int.zero_add,Int.add_zero,List.length_cons,List.length_nil,true_and,and_true,Nat.reduceAdd,and_self]; done) | (simp (disch:=omega) only [wr64,wr8,wr16,wr32,ofNatE,toNatE,toNatE1,Bool.and_eq_true,Bool.or_eq_true,Bool.not_eq_true',decide_eq_true_eq,decide_eq_false_iff_not,nble,nblt,nbeq,Nat.zero_add,Nat.add_zero,Int.zero_add,Int.add_zero,List.length_cons,List.length_nil,true_and,and_true,Nat.reduceAdd,and_self]; omega)) ?_)))
    first | rfl | (simp (disch:=omega) only [wr64,wr8,wr16,wr32,ofNatE,Nat.zero_add,bleT,bltT,dT,dF,Bool.true_and,Bool.and_true,Bool.and_self,cond_true,cond_false,Nat.sub_zero,beq_self_eq_true]; done) | (simp (disch:=omega) only [wr64,wr8,wr16,wr32,ofNatE,Nat.zero_add,bleT,bltT,dT,dF,Bool.true_and,Bool.and_true,Bool.and_self,cond_true,cond_false,Nat.sub_zero,beq_self_eq_true]; rfl)
   ·rw [if_neg (by omega)]
    (repeat (first | (refine bift (by first | assumption | omega | (simp (disch:=omega) only [wr64,wr8,wr16,wr32,ofNatE,toNatE,toNatE1,Bool.and_eq_true,Bool.or_eq_true,Bool.not_eq_true',decide_eq_true_eq,decide_eq_false_iff_not,nble,nblt,nbeq,Nat.zero_add,Nat.add_zero,Int.zero_add,Int.add_zero,List.length_cons,List.length_nil,true_and,and_true,Nat.reduceAdd,and_self]; done) | (simp (disch:=omega) only [wr64,wr8,wr16,wr32,ofNatE,toNatE,toNatE1,Bool.and_eq_true,Bool.or_eq_true,Bool.not_eq_true',decide_eq_true_eq,decide_eq_false_iff_not,nble,nblt,nbeq,Nat.zero_add,Nat.add_zero,Int.zero_add,Int.add_zero,List.length_cons,List.length_nil,true_and,and_true,Nat.reduceAdd,and_self]; omega)) ?_) | (refine biff (by first | assumption | (simp (disch:=omega) only [wr64,wr8,wr16,wr32,ofNatE,toNatE,toNatE1,Bool.and_eq_true,Bool.or_eq_true,Bool.not_eq_true',decide_eq_true_eq,decide_eq_false_iff_not,nble,nblt,nbeq,Nat.zero_add,Nat.add_zero,Int.zero_add,Int.add_zero,List.length_cons,List.length_nil,true_and,and_true,Nat.reduceAdd,and_self]; done) | (simp (disch:=omega) only [wr64,wr8,wr16,wr32,ofNatE,toNatE,toNatE1,Bool.and_eq_true,Bool.or_eq_true,Bool.not_eq_true',decide_eq_true_eq,decide_eq_false_iff_not,nble,nblt,nbeq,Nat.zero_add,Nat.add_zero,Int.zero_add,Int.add_zero,List.length_cons,List.length_nil,true_and,and_true,Nat.reduceAdd,and_self]; omega)) ?_)))
    first | rfl | (simp (disch:=omega) only [wr64,wr8,wr16,wr32,ofNatE,Nat.zero_add,bleT,bltT,dT,dF,Bool.true_and,Bool.and_true,Bool.and_self,cond_true,cond_false,Nat.sub_zero,beq_self_eq_true]; done) | (simp (disch:=omega) only [wr64,wr8,wr16,wr32,ofNatE,Nat.zero_add,bleT,bltT,dT,dF,Bool.true_and,Bool.and_true,Bool.and_self,cond_true,cond_false,Nat.sub_zero,beq_self_eq_true]; rfl)
 ·generalize wst L d L.n = w at *
  generalize tms L d L.n = t at *
  refine Last.mk0 (A:=A41) (m:=0) none_ok rfl rfl loops0 (by simp) (h1:=[bb 40 b,eb 0,nb 0 L.n d]) (Eq.trans (show iterR P41 G41 A41 noneO 0 3 [] 22 (v22 L x6 t w L.n) [bb 40 b,eb 0,nb 0 L.n d] =
(
 bif decide (Int.ofNat L.n<Int.ofNat L.n) then
 bif decide (0<=Int.ofNat L.n)&&decide (Int.ofNat L.n<Int.ofNat L.n) then
 bif ((0:Nat)+L.n).blt L.n then
 bif decide (0<=Int.ofNat (d ((0:Nat)+L.n)))&&decide (Int.ofNat (d ((0:Nat)+L.n))<Int.ofNat L.n) then
 bif decide (0<=Int.ofNat L.n)&&decide (Int.ofNat L.n<Int.ofNat L.n) then
 bif ((0:Nat)+L.n).blt L.n then
 bif decide (0<=Int.ofNat (d ((0:Nat)+L.n)))&&decide (Int.ofNat (d ((0:Nat)+L.n))<Int.ofNat L.n) then
 bif decide (Int.ofNat L.n = 0) then
 some ((.normal,[jv L
 none,x6,.own 2 0 0 L.n
 none,.int .i64 (IntKind.i64.wrap (t+L.tm (d ((0:Nat)+L.n)))),.int .i64 (IntKind.i64.wrap (IntKind.i64.wrap (t+L.tm (d ((0:Nat)+L.n))) - L.du (d ((0:Nat)+L.n)))),.int .i64 (IntKind.i64.wrap (Int.ofNat L.n+1))],[bb 40 b,.mk 0 1 0 (fun x=>[]) true true,nb 0 L.n d]))
 else
 bif decide (w<IntKind.i64.wrap (IntKind.i64.wrap (t+L.tm (d ((0:Nat)+L.n))) - L.du (d ((0:Nat)+L.n)))) then
 some ((.normal,[jv L
 none,x6,.own 2 0 0 L.n
 none,.int .i64 (IntKind.i64.wrap (t+L.tm (d ((0:Nat)+L.n)))),.int .i64 (IntKind.i64.wrap (IntKind.i64.wrap (t+L.tm (d ((0:Nat)+L.n))) - L.du (d ((0:Nat)+L.n)))),.int .i64 (IntKind.i64.wrap (Int.ofNat L.n+1))],[bb 40 b,.mk 0 1 0 (fun x=>[]) true true,nb 0 L.n d]))
 else
 some ((.normal,[jv L
 none,x6,.own 2 0 0 L.n
 none,.int .i64 (IntKind.i64.wrap (t+L.tm (d ((0:Nat)+L.n)))),.int .i64 w,.int .i64 (IntKind.i64.wrap (Int.ofNat L.n+1))],[bb 40 b,.mk 0 1 0 (fun x=>[]) true true,nb 0 L.n d]))
 else none else none else none else none else none else none else
 some ((.exit 4,[jv L
 none,x6,.own 2 0 0 L.n
 none,.int .i64 w],[bb 40 b,.mk 0 1 0 (fun x=>[]) true true,nb 0 L.n d]))) from by kernel_rfl) ?_) (.refl _)
  (repeat (first | (refine bift (by first | assumption | omega | (simp (disch:=omega) only [wr64,wr8,wr16,wr32,ofNatE,toNatE,toNatE1,Bool.and_eq_true,Bool.or_eq_true,Bool.not_eq_true',decide_eq_true_eq,decide_eq_false_iff_not,nble,nblt,nbeq,Nat.zero_add,Nat.add_zero,Int.zero_add,Int.add_zero,List.length_cons,List.length_nil,true_and,and_true,Nat.reduceAdd,and_self]; done) | (simp (disch:=omega) only [wr64,wr8,wr16,wr32,ofNatE,toNatE,toNatE1,Bool.and_eq_true,Bool.or_eq_true,Bool.not_eq_true',decide_eq_true_eq,decide_eq_false_iff_not,nble,nblt,nbeq,Nat.zero_add,Nat.add_zero,Int.zero_add,Int.add_zero,List.length_cons,List.length_nil,true_and,and_true,Nat.reduceAdd,and_self]; omega)) ?_) | (refine biff (by first | assumption | (simp (disch:=omega) only [wr64,wr8,wr16,wr32,ofNatE,toNatE,toNatE1,Bool.and_eq_true,Bool.or_eq_true,Bool.not_eq_true',decide_eq_true_eq,decide_eq_false_iff_not,nble,nblt,nbeq,Nat.zero_add,Nat.add_zero,Int.zero_add,Int.add_zero,List.length_cons,List.length_nil,true_and,and_true,Nat.reduceAdd,and_self]; done) | (simp (disch:=omega) only [wr64,wr8,wr16,wr32,ofNatE,toNatE,toNatE1,Bool.and_eq_true,Bool.or_eq_true,Bool.not_eq_true',decide_eq_true_eq,decide_eq_false_iff_not,nble,nblt,nbeq,Nat.zero_add,Nat.add_zero,Int.zero_add,Int.add_zero,List.length_cons,List.length_nil,true_and,and_true,Nat.reduceAdd,and_self]; omega)) ?_)))
  first | rfl | (simp (disch:=omega) only [wr64,wr8,wr16,wr32,ofNatE,Nat.zero_add,bleT,bltT,dT,dF,Bool.true_and,Bool.and_true,Bool.and_self,cond_true,cond_false,Nat.sub_zero,beq_self_eq_true]; done) | (simp (disch:=omega) only [wr64,wr8,wr16,wr32,ofNatE,Nat.zero_add,bleT,bltT,dT,dF,Bool.true_and,Bool.and_true,Bool.and_self,cond_true,cond_false,Nat.sub_zero,beq_self_eq_true]; rfl)
open Go.Proofs
theorem lateV_eq (L:JL) (x:T) (m:Nat) (o:Nat->Nat) (g:Nat->List T) (c:Option Nat) (hg:∀ j,j<m->g j = [.int .i64 (o j:Nat)]):lateVF L [x,.view 1 m g c] = wst L o m:=by
 show wst L (fun j=>cellN (g j)) m = wst L o m
 have hc:∀ j,j<m->cellN (g j) = o j:=fun j hj=>by rw [hg j hj]; rfl
 have e:∀ i,i<=m->tms L (fun j=>cellN (g j)) i = tms L o i:=by
  intro i
  induction i with
  | zero=>intro _; rfl
  | succ i ih=>intro hi; simp only [tms,ih (by omega),hc i (by omega)]
 have key:∀ i,i<=m->wst L (fun j=>cellN (g j)) i = wst L o i:=by
  intro i
  induction i with
  | zero=>intro _; rfl
  | succ i ih=>intro hi; simp only [wst,ih (by omega),e (i+1) (by omega),hc i (by omega)]
 exact key m (Nat.le_refl _)
theorem lateG (L:JL) (hL:L.Ok) (cj:Option Nat) (m:Nat) (o:Nat->Nat) (g:Nat->List T) (c:Option Nat) (hm:m<=256) (ho:∀ j,j<m->o j<L.n) (hd:∀ i j,i<j->j<m->o i ≠ o j) (hg:∀ j,j<m->g j = [.int .i64 (o j:Nat)]):ToldOk P41 G41 11 [jv L cj,.view 1 m g c] (.tup [.int .i64 (wst L o m),.int .i64 0]) :=
 (lateT L cj m o c hL hm ho hd).sim (.cons (.refl _) (.cons (.view (.inl rfl) fun j hj=>by rw [hg j hj]; exact .refl _) .nil))
theorem law3z (R:JR) (c:Option Nat) (hR:R.Ok) (nm:Nat) (mm:Nat->Nat) (cm:Option Nat) (h0:Nat.min R.n 40 = 0):ToldOk P41 G41 3 [R.v c,mvT nm mm cm] (.bool true):=by
 have h9:=listT R c hR
 have hL:=R.lok hR _ (min40 R.n)
 have h10:=orderT (R.L (Nat.min R.n 40)) none hL
 have h11:=fun (g:Nat->List T) (c:Option Nat)=>lateG (R.L (Nat.min R.n 40)) hL none 0 (fun j=>j) g c (by omega) (fun j hj=>by omega) (fun i j _ hj=>by omega) (fun j hj=>by omega)
 have hv:=fun (x:T) (g:Nat->List T) (c:Option Nat)=>lateV_eq (R.L (Nat.min R.n 40)) x 0 (fun j=>j) g c (fun j hj=>by omega)
 unfold jv iv at *
 rw [show (R.L (Nat.min R.n 40)).n = Nat.min R.n 40 from rfl] at *
 generalize (fun j=>[T.int .i64 ((R.L (Nat.min R.n 40)).tm j),.int .i64 ((R.L (Nat.min R.n 40)).du j),.int .i64 ((R.L (Nat.min R.n 40)).af j),.int .u32 ((R.L (Nat.min R.n 40)).on j)]) = gj at *
 generalize (fun j=>[T.int .i64 (ordI (R.L (Nat.min R.n 40)) j)]) = go at *
 rw [h0] at *
 generalize R.L 0 = L at *
 obtain ⟨p9,e9⟩:=told_pred P41 G41 9 (.new (.view 4 0 gj none))
 obtain ⟨p10,e10⟩:=told_pred P41 G41 10 (.tup [.view 1 0 go (some 0),.int .i64 0])
 obtain ⟨p11,e11⟩:=told_predI P41 G41 11 (lateVF L)
 obtain ⟨p12,e12⟩:=told_pred P41 G41 12 (.bool true)
 have y:=fun (g:Nat->List T) (c:Option Nat)=>predI_yes e11 (h11 g c) (hv _ g c)
 have w:∀ (x:T) (g:Nat->List T) (c:Option Nat),lateVF L [x,.view 1 0 g c] = 0:=fun x g c=>hv x g c
 refine stepL_told hm41 hn41 (K:=K3 p9 p10 p11 p12 (.view 4 0 gj none) (.view 1 0 go (some 0)) (lateVF L)) (told_add (told_add (told_add (told_add none_ok (callP_told (told_predT e9))) (callP_told (told_predT e10))) (callI_told (predI_told e11))) (callP_told (told_predT e12))) (A:=A41) (m:=1) (by kernel_rfl) loops0 ?_
 generalize lateVF L = vF at *
 refine Eq.trans (show stepL P41 G41 A41 (K3 p9 p10 p11 p12 (.view 4 0 gj none) (.view 1 0 go (some 0)) vF) 1 3 [] [R.v c,mvT nm mm cm] =
(
 bif propF p9 [.view 4 R.n (fun j=>[.int .u8 (.ofNat (R.t j)),.int .u8 (.ofNat (R.d j)),.int .u8 (.ofNat (R.a j)),.int .u8 (.ofNat (R.o j))]) c] then
 bif propF p10 [.view 4 0 gj
 none] then
 bif decide (1<Int.ofNat nm) then
 bif propF p11 [.view 4 0 gj
 none,.view 1 0 (fun j=>[]) (some 0)] then
 bif propF p11 [.view 4 0 gj
 none,.view 1 0 go (some 0)] then
 bif decide (vF [.view 4 0 gj
 none,.view 1 0 (fun j=>[]) (some 0)] = (0:Int)) then
 bif decide (vF [.view 4 0 gj
 none,.view 1 0 go (some 0)]<=vF [.view 4 0 gj
 none,.view 1 0 (fun j=>[]) (some 0)]) then
 bif propF p12 [] then
 some (.bool true)
 else none else
 some (.bool false)
 else
 some (.bool false)
 else none else none else
 bif propF p11 [.view 4 0 gj
 none,.view 1 0 (fun j=>[]) (some 0)] then
 bif propF p11 [.view 4 0 gj
 none,.view 1 0 go (some 0)] then
 bif decide (vF [.view 4 0 gj
 none,.view 1 0 (fun j=>[]) (some 0)] = (0:Int)) then
 bif decide (vF [.view 4 0 gj
 none,.view 1 0 go (some 0)]<=vF [.view 4 0 gj
 none,.view 1 0 (fun j=>[]) (some 0)]) then
 bif propF p12 [] then
 some (.bool true)
 else none else
 some (.bool false)
 else
 some (.bool false)
 else none else none else none else
 none) from by kernel_rfl) ?_
 have fin:(bif propF p11 [T.view 4 0 gj none,T.view 1 0 (fun j=>[]) (some 0)] then bif propF p11 [T.view 4 0 gj none,T.view 1 0 go (some 0)] then
  bif decide (vF [T.view 4 0 gj none,T.view 1 0 (fun j=>[]) (some 0)] = 0) then bif decide (vF [T.view 4 0 gj none,T.view 1 0 go (some 0)]<=vF [T.view 4 0 gj none,T.view 1 0 (fun j=>[]) (some 0)]) then
  bif propF p12 [] then some (T.bool true) else none else some (T.bool false) else some (T.bool false) else none else none) = some (T.bool true) :=
  bift (y _ _) (bift (y _ _) (bift (dT (w _ _ _)) (bift (dT (by rw [w,w]; exact Int.le_refl _)) (bift (pred_yes e12 livesT) rfl))))
 refine bift (pred_yes e9 h9) (bift (pred_yes e10 h10) ?_)
 exact bifd (fun _=>fin) fun _=>fin
theorem le2 {a b x y:Int} (h1:a = x) (h2:b = y) (h:x<=y):a<=b:=by rw [h1,h2]; exact h
theorem law3p (R:JR) (c:Option Nat) (hR:R.Ok) (nm:Nat) (mm:Nat->Nat) (cm:Option Nat) (hmm:∀ j,mm j<256) (h0:0<Nat.min R.n 40):ToldOk P41 G41 3 [R.v c,mvT nm mm cm] (.bool true):=by
 have h9:=listT R c hR
 have hL:=R.lok hR _ (min40 R.n)
 have h10:ToldOk P41 G41 10 [jv (R.L (Nat.min R.n 40)) none] (.tup [ov (Nat.min R.n 40) (oN (R.L (Nat.min R.n 40))) (some (Nat.min R.n 40)),.int .i64 0]):=orderT (R.L (Nat.min R.n 40)) none hL
 have hm:=min40 R.n
 have hn:(R.L (Nat.min R.n 40)).n = Nat.min R.n 40:=rfl
 generalize Nat.min R.n 40 = n at *
 generalize R.L n = L at *
 subst hn
 have ho:=oN_ordr L
 have la:=l3a (mvT nm mm cm) L hm (oN L) ho (oN_next L)
 obtain ⟨d,hd,lb⟩:=l3b (jv L none) (ov L.n (oN L) (some L.n)) nm mm cm hmm L.n h0 hm (seenF (oN L) L.n) (oN L) ho
 have lc:=l3c L hL (ov L.n (oN L) (some L.n)) (seenF (oN L) L.n) d hd
 have hw:=wst_least L hL d hd
 obtain ⟨p9,e9⟩:=told_pred P41 G41 9 (.new (jv L none))
 obtain ⟨p10,e10⟩:=told_pred P41 G41 10 (.tup [ov L.n (oN L) (some L.n),.int .i64 0])
 obtain ⟨p11,e11⟩:=told_predI P41 G41 11 (lateVF L)
 obtain ⟨p12,e12⟩:=told_pred P41 G41 12 (.bool true)
 have y1:=predI_yes e11 (lateG L hL none L.n d (fun j=>[.int .i64 (d (0+j):Nat)]) none (by omega) hd.lt hd.ne (fun j _=>by rw [Nat.zero_add])) (lateV_eq L _ L.n d _ _ (fun j _=>by rw [Nat.zero_add]))
 have y2:=predI_yes e11 (lateG L hL none L.n (oN L) (fun j=>[.int .i64 (oN L j:Nat)]) (some L.n) (by omega) ho.lt ho.ne (fun j _=>rfl)) (lateV_eq L _ L.n (oN L) _ _ (fun j _=>rfl))
 have v1:=lateV_eq L (jv L none) L.n d (fun j=>[.int .i64 (d (0+j):Nat)]) none (fun j _=>by rw [Nat.zero_add])
 have v2:=lateV_eq L (jv L none) L.n (oN L) (fun j=>[.int .i64 (oN L j:Nat)]) (some L.n) (fun j _=>rfl)
 generalize oN L = o at *
 generalize seenF o L.n = sn at *
 refine stepL_told hm41 hn41 (K:=K3 p9 p10 p11 p12 (jv L none) (ov L.n o (some L.n)) (lateVF L)) (told_add (told_add (told_add (told_add none_ok (callP_told (told_predT e9))) (callP_told (told_predT e10))) (callI_told (predI_told e11))) (callP_told (told_predT e12))) (A:=A41) (m:=0) (by kernel_rfl) (loopsC la (loopsC lb (loops1 lc))) ?_
 generalize lateVF L = vF at *
 generalize wst L d L.n = wd at *
 refine Eq.trans (show stepL P41 G41 A41 (K3 p9 p10 p11 p12 (jv L none) (ov L.n o (some L.n)) vF) 0 3 [(7,litS (v7 (mvT nm mm cm) L o 0) [bb 40 fun _=>false] (.exit 0) (e7 (mvT nm mm cm) L o) [bb 40 sn]),(16,litS (v16 (mvT nm mm cm) (jv L none) (ov L.n o (some L.n)) L.n 0) [bb 40 sn,eb 0,nb 0 L.n o] (.exit 2) (e16 (jv L none) (ov L.n o (some L.n)) L.n) [bb 40 sn,eb 0,nb 0 L.n d]),(22,litS (v22 L (ov L.n o (some L.n)) 0 0 0) [bb 40 sn,eb 0,nb 0 L.n d] (.exit 4) (e22 L (ov L.n o (some L.n)) wd) [bb 40 sn,eb 0,nb 0 L.n d])] [R.v c,mvT nm mm cm] =
(
 bif propF p9 [.view 4 R.n (fun j=>[.int .u8 (.ofNat (R.t j)),.int .u8 (.ofNat (R.d j)),.int .u8 (.ofNat (R.a j)),.int .u8 (.ofNat (R.o j))]) c] then
 bif propF p10 [jv L
 none] then
 bif !decide (Int.ofNat L.n = Int.ofNat L.n) then
 some (.bool false)
 else
 bif !decide (Int.ofNat L.n = Int.ofNat L.n) then
 some (.bool false)
 else
 bif weakF [.view 1 nm (fun j=>[.int .u8 (.ofNat (mm j))]) cm,jv L
 none,ov L.n o (some L.n),.ptr 0 0 0 0,.int .i64 0] [.mk 0 1 40 (fun x=>[.bool false]) true false] [.view 1 nm (fun j=>[.int .u8 (.ofNat (mm j))]) cm,jv L
 none,ov L.n o (some L.n),.ptr 0 0 0 0,.int .i64 0] [.mk 0 1 40 (fun j=>[.bool false]) true false] then
 bif L.n==(0:Nat) then
 bif weakF [.view 1 nm (fun j=>[.int .u8 (.ofNat (mm j))]) cm,jv L
 none,ov L.n o (some L.n),.own [bb 40 sn].length (0:Nat) (0:Nat) (0:Nat) (some 0),.int .i64 0] [bb 40 sn,.mk 0 1 0 (fun j=>[]) true true] [.view 1 nm (fun j=>[.int .u8 (.ofNat (mm j))]) cm,jv L
 none,ov L.n o (some L.n),.own 2 0 0 L.n
 none,.int .i64 0] [bb 40 sn,.mk 0 1 0 (fun x=>[]) true true,nb 0 L.n o] then
 bif weakF [jv L
 none,ov L.n o (some L.n),.own 2 0 0 L.n
 none,.int .i64 0,.int .i64 0,.int .i64 0] [bb 40 sn,.mk 0 1 0 (fun x=>[]) true true,nb 0 L.n d] [jv L
 none,ov L.n o (some L.n),.own 2 0 0 L.n
 none,.int .i64 0,.int .i64 0,.int .i64 0] [bb 40 sn,.mk 0 1 0 (fun x=>[]) true true,nb 0 L.n d] then
 bif propF p11 [jv L
 none,
 bif ((0:Nat)+L.n).ble L.n then .view 1 L.n (fun j=>[.int .i64 (.ofNat (d (0+j)))]) none else .undef] then
 bif propF p11 [jv L
 none,ov L.n o (some L.n)] then
 bif decide (vF [jv L
 none,
 bif ((0:Nat)+L.n).ble L.n then .view 1 L.n (fun j=>[.int .i64 (.ofNat (d (0+j)))]) none else .undef] = wd) then
 bif decide (vF [jv L
 none,ov L.n o (some L.n)]<=vF [jv L
 none,
 bif ((0:Nat)+L.n).ble L.n then .view 1 L.n (fun j=>[.int .i64 (.ofNat (d (0+j)))]) none else .undef]) then
 bif propF p12 [] then
 some (.bool true)
 else none else
 some (.bool false)
 else
 some (.bool false)
 else none else none else none else none else
 bif (((0:Nat)+L.n) * (9:Nat)).ble 70368744177664 then
 bif ((0:Nat)+L.n).ble 0 then
 bif ((0:Nat)+L.n).ble 0 then
 bif weakF [.view 1 nm (fun j=>[.int .u8 (.ofNat (mm j))]) cm,jv L
 none,ov L.n o (some L.n),.own [bb 40 sn].length (0:Nat) (0:Nat) ((0:Nat)+L.n) (some 0),.int .i64 0] [bb 40 sn,.mk 0 1 0 (fun j =>
 bif Nat.ble 0 j&&j.blt ((0:Nat)+L.n) then [.int .i64 (.ofNat (o (j - 0)))]
 else []) true true] [.view 1 nm (fun j=>[.int .u8 (.ofNat (mm j))]) cm,jv L
 none,ov L.n o (some L.n),.own 2 0 0 L.n
 none,.int .i64 0] [bb 40 sn,.mk 0 1 0 (fun x=>[]) true true,nb 0 L.n o] then
 bif weakF [jv L
 none,ov L.n o (some L.n),.own 2 0 0 L.n
 none,.int .i64 0,.int .i64 0,.int .i64 0] [bb 40 sn,.mk 0 1 0 (fun x=>[]) true true,nb 0 L.n d] [jv L
 none,ov L.n o (some L.n),.own 2 0 0 L.n
 none,.int .i64 0,.int .i64 0,.int .i64 0] [bb 40 sn,.mk 0 1 0 (fun x=>[]) true true,nb 0 L.n d] then
 bif propF p11 [jv L
 none,
 bif ((0:Nat)+L.n).ble L.n then .view 1 L.n (fun j=>[.int .i64 (.ofNat (d (0+j)))]) none else .undef] then
 bif propF p11 [jv L
 none,ov L.n o (some L.n)] then
 bif decide (vF [jv L
 none,
 bif ((0:Nat)+L.n).ble L.n then .view 1 L.n (fun j=>[.int .i64 (.ofNat (d (0+j)))]) none else .undef] = wd) then
 bif decide (vF [jv L
 none,ov L.n o (some L.n)]<=vF [jv L
 none,
 bif ((0:Nat)+L.n).ble L.n then .view 1 L.n (fun j=>[.int .i64 (.ofNat (d (0+j)))]) none else .undef]) then
 bif propF p12 [] then
 some (.bool true)
 else none else
 some (.bool false)
 else
 some (.bool false)
 else none else none else none else none else none else
 bif weakF [.view 1 nm (fun j=>[.int .u8 (.ofNat (mm j))]) cm,jv L
 none,ov L.n o (some L.n),.own [bb 40 sn,Blk.mk 0 1 0 (fun j=>[]) true true].length (0:Nat) (0:Nat) ((0:Nat)+L.n)
 none,.int .i64 0] [bb 40 sn,.mk 0 1 0 (fun j=>[]) true true,.mk 0 1 ((0:Nat)+L.n) (fun j=>[.int .i64 (.ofNat (o (j - 0)))]) true false] [.view 1 nm (fun j=>[.int .u8 (.ofNat (mm j))]) cm,jv L
 none,ov L.n o (some L.n),.own 2 0 0 L.n
 none,.int .i64 0] [bb 40 sn,.mk 0 1 0 (fun x=>[]) true true,nb 0 L.n o] then
 bif weakF [jv L
 none,ov L.n o (some L.n),.own 2 0 0 L.n
 none,.int .i64 0,.int .i64 0,.int .i64 0] [bb 40 sn,.mk 0 1 0 (fun x=>[]) true true,nb 0 L.n d] [jv L
 none,ov L.n o (some L.n),.own 2 0 0 L.n
 none,.int .i64 0,.int .i64 0,.int .i64 0] [bb 40 sn,.mk 0 1 0 (fun x=>[]) true true,nb 0 L.n d] then
 bif propF p11 [jv L
 none,
 bif ((0:Nat)+L.n).ble L.n then .view 1 L.n (fun j=>[.int .i64 (.ofNat (d (0+j)))]) none else .undef] then
 bif propF p11 [jv L
 none,ov L.n o (some L.n)] then
 bif decide (vF [jv L
 none,
 bif ((0:Nat)+L.n).ble L.n then .view 1 L.n (fun j=>[.int .i64 (.ofNat (d (0+j)))]) none else .undef] = wd) then
 bif decide (vF [jv L
 none,ov L.n o (some L.n)]<=vF [jv L
 none,
 bif ((0:Nat)+L.n).ble L.n then .view 1 L.n (fun j=>[.int .i64 (.ofNat (d (0+j)))]) none else .undef]) then
 bif propF p12 [] then
 some (.bool true)
 else none else
 some (.bool false)
 else
 some (.bool false)
 else none else none else none else none else none else none else none else
 none) from by kernel_rfl) ?_
 rw [Nat.zero_add L.n]
 refine bift (pred_yes e9 h9) (bift (pred_yes e10 h10) ?_)
 refine biff (by simp) ?_
 refine biff (by simp) ?_
 refine bift (weakF_of ⟨rfl,.refl _⟩) ?_
 refine biff (by simp only [nbeq]; omega) ?_
 refine bift (bleT (by omega)) ?_
 refine biff (by rw [nble]; omega) ?_
 refine bift (weakF_of ⟨rfl,.refl _⟩) ?_
 refine bift (weakF_of ⟨rfl,.refl _⟩) ?_
 rw [show Nat.ble L.n L.n = true from bleT (Nat.le_refl _),cond_true]
 refine bift y1 (bift y2 ?_)
 refine bift (dT v1) ?_
 refine bift (dT (le2 v2 v1 hw)) ?_
 exact bift (pred_yes e12 livesT) rfl
theorem law3T (R:JR) (c:Option Nat) (hR:R.Ok) (nm:Nat) (mm:Nat->Nat) (cm:Option Nat) (hmm:∀ j,mm j<256):ToldOk P41 G41 3 [R.v c,mvT nm mm cm] (.bool true):=by
 rcases Nat.eq_zero_or_pos (Nat.min R.n 40) with h | h
 ·exact law3z R c hR nm mm cm h
 ·exact law3p R c hR nm mm cm hmm h
open Go.Proofs
theorem abV (o m:Nat) (hm:2<=m):0<(abL (onV o:Nat) m).length:=by
 refine Nat.lt_of_lt_of_le ?_ (abL_le hm)
 have h:onV o = 0 ∨ onV o = 1 ∨ onV o = 2 ∨ onV o = 3 ∨ onV o = 5 ∨ onV o = 6 ∨ onV o = 7:=by unfold onV; split <;> omega
 rcases h with h | h | h | h | h | h | h <;> rw [h] <;> decide +kernel
theorem ordL_snoc (du du2:Nat->Int) (n:Nat) (h1:∀ j,j<n->du2 j = du j) (h2:∀ j,j<n->du j<du2 n):ordL du2 (n+1) = ordL du n ++ [n]:=by
 have hp:(ordL du2 (n+1)).Perm (ordL du n ++ [n]):=by
  refine (ordL_perm du2 (n+1)).trans ?_
  rw [List.range_succ]
  exact ((ordL_perm du n).symm.append_right [n])
 refine List.Perm.eq_of_pairwise (le:=fun x y=>¬ dueLt du2 y x) (fun a b _ _ q1 q2=>?_) (ordL_sorted du2 (n+1)) ?_ hp
 ·unfold dueLt at q1 q2; omega
 ·rw [List.pairwise_append]
  refine ⟨(ordL_sorted du n).imp_of_mem fun {a b} ha hb h=>?_,by simp,fun a ha b hb=>?_⟩
  ·unfold dueLt at h ⊢
   rw [h1 a (ordL_mem.1 ha),h1 b (ordL_mem.1 hb)]
   exact h
  ·obtain rfl:=List.mem_singleton.1 hb
   have ha:=ordL_mem.1 ha
   have:=h2 a ha
   unfold dueLt
   rw [h1 a ha]
   omega
theorem oN_snoc {L:JL} {a b d on:Int} (hb:∀ j,j<L.n->L.du j<b):(∀ j,j<L.n->oN (L.snoc a b d on) j = oN L j)/\oN (L.snoc a b d on) L.n = L.n:=by
 have e:ordL (L.snoc a b d on).du (L.n+1) = ordL L.du L.n ++ [L.n]:=ordL_snoc _ _ _ (fun j hj=>by show (if j<L.n then _ else _) = _; rw [if_pos hj]) fun j hj=>by
  show _<(if L.n<L.n then _ else _)
  rw [if_neg (by omega)]
  exact hb j hj
 have hl:=ordL_len L.du L.n
 constructor
 ·intro j hj
  show (ordL (L.snoc a b d on).du (L.n+1)).getD j 0 = _
  rw [e,getD_app_l (by omega)]
  rfl
 ·show (ordL (L.snoc a b d on).du (L.n+1)).getD L.n 0 = _
  rw [e]
  have:=getD_app_r (d:=0) (x:=L.n) (l:=ordL L.du L.n)
  rw [hl] at this
  exact this
theorem plst_snoc {L:JL} {a b d on:Int} {mm:Nat} {o o2:Nat->Nat} (ho:∀ j,j<L.n->o2 j = o j) (hl:∀ j,j<L.n->o j<L.n):∀ i,i<=L.n->plst (L.snoc a b d on) o2 mm i = plst L o mm i:=by
 intro i
 induction i with
 | zero=>intro _; rfl
 | succ i ih =>
  intro hi
  have e:=ih (by omega)
  have h1:=ho i (by omega)
  have h2:=hl i (by omega)
  simp only [plst,slt,e,h1]
  have t1:(L.snoc a b d on).tm (o i) = L.tm (o i):=by show (if _ then _ else _) = _; rw [if_pos h2]
  have t2:(L.snoc a b d on).af (o i) = L.af (o i):=by show (if _ then _ else _) = _; rw [if_pos h2]
  have t3:(L.snoc a b d on).on (o i) = L.on (o i):=by show (if _ then _ else _) = _; rw [if_pos h2]
  rw [t1,t2,t3]
theorem slt_snoc {L:JL} {a b d on:Int} {mm:Nat} (hb:∀ j,j<L.n->L.du j<b):(slt (L.snoc a b d on) (oN (L.snoc a b d on)) mm L.n).2.2 = prm L mm a d on:=by
 obtain ⟨h1,h2⟩:=oN_snoc (a:=a) (d:=d) (on:=on) hb
 unfold slt prm
 rw [plst_snoc h1 (fun j hj=>oN_lt hj) L.n (Nat.le_refl _),h2]
 have t1:(L.snoc a b d on).tm L.n = a:=by show (if _ then _ else _) = _; rw [if_neg (by omega)]
 have t2:(L.snoc a b d on).af L.n = d:=by show (if _ then _ else _) = _; rw [if_neg (by omega)]
 have t3:(L.snoc a b d on).on L.n = on:=by show (if _ then _ else _) = _; rw [if_neg (by omega)]
 rw [t1,t2,t3]
open Go.Proofs
theorem planF (L:JL) (c:Option Nat) (mm:Nat) (hL:L.Ok) (hm:1<=mm/\mm<=16) (hab:∀ i,i<L.n->0<(abL (L.on i) mm).length):∃ (y:Nat->List T) (rd:Nat->Int),(∀ j,j<L.n->y j = scells L (oN L) mm j)/\ToldOk P41 G41 26 [jv L c,.int .i64 mm] (.tup [.fresh true 4 L.n y L.n (some L.n),.fresh true 1 mm (fun j=>[.int .i64 (rd j)]) mm (some mm)]):=by
 have hn:=hL.n
 have hl:=l26 L c (oN L) mm hL hm (fun j hj=>oN_lt hj) hab
 have hxs:∀ j,j<L.n->xs26 L (oN L) mm L.n j = scells L (oN L) mm j:=fun j hj=>by unfold xs26; rw [bltT hj]; rfl
 have hx0:xs26 L (oN L) mm 0 = fun _=>[.int .i64 0,.int .i64 0,.int .i64 0,.int .i64 0]:=by
  funext j; unfold xs26; rw [bltF (Nat.zero_le _)]; rfl
 generalize plst L (oN L) mm L.n = rd at *
 generalize hy:scells L (oN L) mm = y at *
 generalize xs26 L (oN L) mm L.n = x at *
 rw [hx0] at hl
 have k1:∀ z ∈ [[jv L c]],ToldOk P41 G41 20 z (.new (iv L.n (ordI L) (some L.n))):=fun z h=>by obtain rfl:=List.mem_singleton.1 h; exact byDueT L c hL
 have m1:=List.mem_singleton.2 (rfl:[jv L c] = _)
 generalize [[jv L c]] = l1 at k1 m1
 refine ⟨fun j=>x (0+j),fun j=>rd (0+j),fun j hj=>by dsimp only; rw [Nat.zero_add,hxs j hj],stepL_told hm41 hn41 (K:=K26b (.new (iv L.n (ordI L) (some L.n))) l1) (told_add none_ok (callS_told k1)) (A:=A41) (m:=0) (by kernel_rfl) (loops1 hl) ?_⟩
 refine Eq.trans (show stepL P41 G41 A41 (K26b (.new (iv L.n (ordI L) (some L.n))) l1) 0 26 [(4,litS (v26 L c 0 0 (oN L) mm) [rblk mm (fun _=>0),sblk 0 L.n (fun _=>[.int .i64 0,.int .i64 0,.int .i64 0,.int .i64 0])] (.exit 0) [.own 1 0 0 L.n (some L.n),.own 0 0 0 mm (some mm)] [rblk mm rd,sblk 0 L.n x])] [jv L c,.int .i64 mm] =
(
 bif decide (0<=Int.ofNat mm)&&decide (Int.ofNat mm<=Int.ofNat mm)&&decide (Int.ofNat mm * 8<=140737488355328)&&decide (Int.ofNat mm<=9223372036854775807) then
 bif decide (0<=Int.ofNat L.n)&&decide (Int.ofNat L.n * 32<=140737488355328)&&decide (Int.ofNat L.n<=9223372036854775807) then
 bif sameArgsF [jv L c] l1 then
 bif weakF [jv L c,.own [Blk.mk 0 1 mm (fun x=>[T.int .i64 (0:Int)]) true false].length (0:Nat) (0:Nat) (0:Nat) (some L.n),.own 0 0 0 mm (some mm),.view 1 L.n (fun j=>[.int .i64 (.ofNat (((List.range L.n).mergeSort fun x y=>!decide (dueLt L.du y x)).getD j (0:Nat)))]) (some L.n),.int .i64 (.ofNat L.n),.int .i64 0] [.mk 0 1 mm (fun x=>[.int .i64 0]) true false,.mk 0 4 L.n (fun x=>[.int .i64 0,.int .i64 0,.int .i64 0,.int .i64 0]) true false] [jv L c,.own 1 0 0 0 (some L.n),.own 0 0 0 mm (some mm),.view 1 L.n (fun j=>[.int .i64 (.ofNat (((List.range L.n).mergeSort fun x y=>!decide (dueLt L.du y x)).getD j (0:Nat)))]) (some L.n),.int .i64 (.ofNat L.n),.int .i64 0] [.mk 0 1 mm (fun j=>[.int .i64 0]) true false,.mk 0 4 L.n (fun x=>[.int .i64 0,.int .i64 0,.int .i64 0,.int .i64 0]) true false] then
 some (.tup [bif ((0:Nat)+L.n).ble L.n then .fresh true (4:Nat) (L.n - 0) (fun j=>x (0+j)) L.n (some L.n)
 else .undef,
 bif ((0:Nat)+mm).ble mm then .fresh true (1:Nat) (mm - 0) (fun j=>[.int .i64 (rd (0+j))]) mm (some mm)
 else .undef])
 else none else none else none else
 none) from by kernel_rfl) ?_
 (repeat (first | (refine bift (by first | assumption | omega | (simp (disch:=omega) only [wr64,wr8,wr16,wr32,ofNatE,toNatE,toNatE1,Bool.and_eq_true,Bool.or_eq_true,Bool.not_eq_true',decide_eq_true_eq,decide_eq_false_iff_not,nble,nblt,nbeq,Nat.zero_add,Nat.add_zero,Int.zero_add,Int.add_zero,List.length_cons,List.length_nil,true_and,and_true,Nat.reduceAdd,and_self]; done) | (simp (disch:=omega) only [wr64,wr8,wr16,wr32,ofNatE,toNatE,toNatE1,Bool.and_eq_true,Bool.or_eq_true,Bool.not_eq_true',decide_eq_true_eq,decide_eq_false_iff_not,nble,nblt,nbeq,Nat.zero_add,Nat.add_zero,Int.zero_add,Int.add_zero,List.length_cons,List.length_nil,true_and,and_true,Nat.reduceAdd,and_self]; omega)) ?_) | (refine biff (by first | assumption | (simp (disch:=omega) only [wr64,wr8,wr16,wr32,ofNatE,toNatE,toNatE1,Bool.and_eq_true,Bool.or_eq_true,Bool.not_eq_true',decide_eq_true_eq,decide_eq_false_iff_not,nble,nblt,nbeq,Nat.zero_add,Nat.add_zero,Int.zero_add,Int.add_zero,List.length_cons,List.length_nil,true_and,and_true,Nat.reduceAdd,and_self]; done) | (simp (disch:=omega) only [wr64,wr8,wr16,wr32,ofNatE,toNatE,toNatE1,Bool.and_eq_true,Bool.or_eq_true,Bool.not_eq_true',decide_eq_true_eq,decide_eq_false_iff_not,nble,nblt,nbeq,Nat.zero_add,Nat.add_zero,Int.zero_add,Int.add_zero,List.length_cons,List.length_nil,true_and,and_true,Nat.reduceAdd,and_self]; omega)) ?_)))
 refine bift (sameArgsF_iff.2 m1) ?_
 refine bift (weakF_of ⟨rfl,.refl _⟩) ?_
 rw [show (Nat.ble (0+L.n) L.n) = true from bleT (by omega),show (Nat.ble (0+mm) mm) = true from bleT (by omega)]
 first | rfl | (simp (disch:=omega) only [wr64,wr8,wr16,wr32,ofNatE]; done) | (simp (disch:=omega) only [wr64,wr8,wr16,wr32,ofNatE]; rfl)
theorem PlanN (L:JL) (c:Option Nat) (mm:Nat) (hL:L.Ok) (hm:1<=mm/\mm<=16) (hab:∀ i,i<L.n->0<(abL (L.on i) mm).length):ToldOk P41 G41 16 [jv L c,.int .i64 mm] (.tup [.new (svT L mm),.int .i64 0]):=by
 have hn:=hL.n
 obtain ⟨y,rd,hy,hp⟩:=planF L c mm hL hm hab
 have k1:∀ z ∈ [[jv L c,.int .i64 mm]],ToldOk P41 G41 25 z (.int .i64 0):=fun z h=>by obtain rfl:=List.mem_singleton.1 h; exact chkT L c mm hL hm hab
 have k2:∀ z ∈ [[jv L c,.int .i64 mm]],ToldOk P41 G41 26 z (.tup [.fresh true 4 L.n y L.n (some L.n),.fresh true 1 mm (fun j=>[.int .i64 (rd j)]) mm (some mm)]):=fun z h=>by obtain rfl:=List.mem_singleton.1 h; exact hp
 have m1:=List.mem_singleton.2 (rfl:[jv L c,.int .i64 mm] = _)
 generalize [[jv L c,.int .i64 mm]] = l1 at k1 k2 m1
 have:=(stepL_told (args:=[jv L c,.int .i64 mm]) (f:=16) (r:=.tup [.fresh true 4 L.n (fun j=>y (0+j)) L.n (some L.n),.int .i64 0]) hm41 hn41 (K:=K16 l1 l1 (.tup [.fresh true 4 L.n y L.n (some L.n),.fresh true 1 mm (fun j=>[.int .i64 (rd j)]) mm (some mm)])) (told_add (told_add none_ok (callS_told k1)) (callS_told k2)) (A:=A41) (m:=0) (by kernel_rfl) loops0 ?_).frz
 ·refine this.tupTo (.cons (.new (.view (.inl rfl) fun j hj=>?_)) (.cons (.refl _) .nil))
  rw [Nat.zero_add,hy j hj]; exact .refl _
 ·refine Eq.trans (show stepL P41 G41 A41 (K16 l1 l1 (.tup [.fresh true 4 L.n y L.n (some L.n),.fresh true 1 mm (fun j=>[.int .i64 (rd j)]) mm (some mm)])) 0 16 [] [jv L c,.int .i64 mm] =
(
 bif sameArgsF [jv L c,.int .i64 (.ofNat mm)] l1 then
 bif sameArgsF [jv L c,.int .i64 (.ofNat mm)] l1 then
 some (.tup [bif ((0:Nat)+L.n).ble L.n then .fresh true (4:Nat) (L.n - 0) (fun j=>y (0+j)) L.n (some L.n)
 else .undef,.int .i64 0])
 else none else
 none) from by kernel_rfl) ?_
  refine bift (sameArgsF_iff.2 m1) ?_
  refine bift (sameArgsF_iff.2 m1) ?_
  rw [show (Nat.ble (0+L.n) L.n) = true from bleT (by omega)]
  first | rfl | (simp (disch:=omega) only [wr64,wr8,wr16,wr32,ofNatE]; done) | (simp (disch:=omega) only [wr64,wr8,wr16,wr32,ofNatE]; rfl)
open Go.Proofs
noncomputable def K7 (p9 p12 p18 p17 p16:List T->Prop) (xF:T) (j:T) (v e:Int) (n:Nat) (sF:Nat->List T):Orc :=
 ((((noneO.add 9 (callP p9 (.new xF))).add 12 (callP p12 (.bool true))).add 18 (callP p18 j)).add 17 (callP p17 (.tup [.int .i64 v,.int .i64 e]))).add 16 (callP p16 (.tup [.new (.view 4 n sF (some n)),.int .i64 0]))
def sv4 (x0 x1 x2 x3:Nat->Int):Nat->List T:=fun j=>[.int .i64 (x0 j),.int .i64 (x1 j),.int .i64 (x2 j),.int .i64 (x3 j)]
theorem lv7 (R:JR) (c:Option Nat) (p12:List T->Prop) (e12:p12 = fun z=>ToldOk P41 G41 12 z (.bool true)) (n:Nat) (pv:Int) (y3:Nat->Int) (hy:y3 n = pv) (b:Nat) (hb:b<256) (hn:n<=40) :
 (bif decide ((0:Int)<=IntKind.i64.wrap (Int.ofNat (n+1) - (1:Int)))&&decide (IntKind.i64.wrap (Int.ofNat (n+1) - (1:Int))<Int.ofNat (n+1)) then
 bif decide (pv = y3 (IntKind.i64.wrap (Int.ofNat (n+1) - (1:Int))).toNat) then
 bif decide ((if (b:Int)<pv then (19:Int) else 0) = (0:Int)) then
 bif decide (y3 (IntKind.i64.wrap (Int.ofNat (n+1) - (1:Int))).toNat<=IntKind.i64.wrap (Int.ofNat b)) then
 bif decide ((if (b:Int)<pv then (19:Int) else 0) = (0:Int)) then
 bif propF p12 [] then some (T.bool true) else none
 else
 bif decide ((if (b:Int)<pv then (19:Int) else 0) = (19:Int)) then
 bif propF p12 [] then some (T.bool true) else none
 else some (T.bool false)
 else some (T.bool false)
 else
 bif decide (y3 (IntKind.i64.wrap (Int.ofNat (n+1) - (1:Int))).toNat<=IntKind.i64.wrap (Int.ofNat b)) then some (T.bool false)
 else
 bif decide ((if (b:Int)<pv then (19:Int) else 0) = (0:Int)) then
 bif propF p12 [] then some (T.bool true) else none
 else
 bif decide ((if (b:Int)<pv then (19:Int) else 0) = (19:Int)) then
 bif propF p12 [] then some (T.bool true) else none
 else some (T.bool false)
 else some (T.bool false)
 else none) = some (T.bool true):=by
 rw [show IntKind.i64.wrap (Int.ofNat (n+1) - (1:Int)) = (n:Int) by rw [wr64 (by rw [ofNatE]; omega) (by rw [ofNatE]; omega),ofNatE]; omega,toNatE,hy,show IntKind.i64.wrap (Int.ofNat b) = (b:Int) from wr64 (by rw [ofNatE]; omega) (by rw [ofNatE]; omega),pred_yes e12 livesT]
 refine bift (by simp only [ofNatE,Bool.and_eq_true,decide_eq_true_eq]; omega) ?_
 refine bift (dT rfl) ?_
 by_cases q:(b:Int)<pv
 ·rw [if_pos q]
  refine biff (by simp) (biff (by simp only [decide_eq_true_eq]; omega) (biff (by simp) (bift (by simp) rfl)))
 ·rw [if_neg q]
  exact bift (by simp) (bift (by simp only [decide_eq_true_eq]; omega) (bift (by simp) rfl))
set_option maxRecDepth 20000 in
theorem law7T (R:JR) (c:Option Nat) (hR:R.Ok) (u:Nat) (hu:u<256) (a b d e:Nat) (ha:a<256) (hb:b<256) (hd:d<256) (he:e<256):ToldOk P41 G41 7 [R.v c,.int .u8 u,.agg (uJ a b d e)] (.bool true):=by
 have h9:=listT R c hR
 have hL:=R.lok hR _ (min40 R.n)
 have hn:(R.L (Nat.min R.n 40)).n = Nat.min R.n 40:=rfl
 have hm:=min40 R.n
 have h18:=ofT a b d e ha hb hd he
 have hab:∀ i,i<(R.L (Nat.min R.n 40)).n->0<(abL ((R.L (Nat.min R.n 40)).on i) (2+u % 15)).length:=fun i _=>abV (R.o i) _ (by omega)
 have hdu:∀ j,j<(R.L (Nat.min R.n 40)).n->(R.L (Nat.min R.n 40)).du j<100000:=fun j _=>by
  show ((R.d j:Nat):Int)<_
  have:=hR.d j
  omega
 generalize R.L (Nat.min R.n 40) = L at *
 generalize Nat.min R.n 40 = n40 at *
 subst hn
 have hab2:=abV e (2+u % 15) (by omega)
 have ho7:=onV_le e
 generalize onV e = on at *
 have h17:=PromT L none (2+u % 15) ((1+a:Nat):Int) b d on hL (by omega) (by omega) hab hab2 (by omega) (by omega) (by omega) (by omega)
 have hs:(L.snoc ((1+a:Nat):Int) 100000 d on).Ok:=by
  refine ⟨by show L.n+1<=256; omega,fun j hj=>?_,fun j hj=>?_,fun j hj=>?_,fun j hj=>?_⟩
  all_goals
   show _<=(if j<L.n then _ else _)/\(if j<L.n then _ else _)<=_
   by_cases q:j<L.n
   ·rw [if_pos q]; first | exact hL.tm j q | exact hL.du j q | exact hL.af j q | exact hL.on j q
   ·rw [if_neg q]; omega
 have h16:=fun c'=>PlanN (L.snoc ((1+a:Nat):Int) 100000 d on) c' (2+u % 15) hs (by omega) fun i _=>by
  show 0<(abL (if i<L.n then _ else _) _).length
  by_cases q:i<L.n
  ·rw [if_pos q]; exact hab i q
  ·rw [if_neg q]; exact hab2
 have hsl:=slt_snoc (L:=L) (a:=((1+a:Nat):Int)) (b:=100000) (d:=d) (on:=on) (mm:=2+u % 15) hdu
 unfold svT scells at h16
 rw [show (L.snoc ((1+a:Nat):Int) 100000 d on).n = L.n+1 from rfl] at h16
 have hview:∀ (m:Nat) (get:Nat->List T) (c':Option Nat),m = L.n+1->(∀ j,j<L.n+1->get j = if j<L.n then jcells (L.tm j) (L.du j) (L.af j) (L.on j) else jcells ((1+a:Nat):Int) 100000 d on)->ToldOk P41 G41 16 [.view 4 m get c',.int .i64 (2+u % 15:Nat)] (.tup [.new (.view 4 (L.n+1) (sv4 (fun j=>(oN (L.snoc ((1+a:Nat):Int) 100000 d on) j:Nat)) (fun j=>(slt (L.snoc ((1+a:Nat):Int) 100000 d on) (oN (L.snoc ((1+a:Nat):Int) 100000 d on)) (2+u % 15) j).1) (fun j=>(slt (L.snoc ((1+a:Nat):Int) 100000 d on) (oN (L.snoc ((1+a:Nat):Int) 100000 d on)) (2+u % 15) j).2.1) (fun j=>(slt (L.snoc ((1+a:Nat):Int) 100000 d on) (oN (L.snoc ((1+a:Nat):Int) 100000 d on)) (2+u % 15) j).2.2)) (some (L.n+1))),.int .i64 0]):=fun m get c' hm' hget=>by
  subst hm'
  exact (h16 c').sim (.cons (.view (.inl rfl) fun j hj=>by rw [hget j hj,snoc_get]; exact .refl _) (.cons (.refl _) .nil))
 clear h16
 generalize prm L (2+u % 15) ((1+a:Nat):Int) d on = pv at *
 generalize (fun j=>((oN (L.snoc ((1+a:Nat):Int) 100000 d on) j:Nat):Int)) = y0 at *
 generalize (fun j=>(slt (L.snoc ((1+a:Nat):Int) 100000 d on) (oN (L.snoc ((1+a:Nat):Int) 100000 d on)) (2+u % 15) j).1) = y1 at *
 generalize (fun j=>(slt (L.snoc ((1+a:Nat):Int) 100000 d on) (oN (L.snoc ((1+a:Nat):Int) 100000 d on)) (2+u % 15) j).2.1) = y2 at *
 generalize hy3:(fun j=>(slt (L.snoc ((1+a:Nat):Int) 100000 d on) (oN (L.snoc ((1+a:Nat):Int) 100000 d on)) (2+u % 15) j).2.2) = y3 at *
 have hy:y3 L.n = pv:=by rw [← hy3]; exact hsl
 generalize ((1+a:Nat):Int) = x0 at *
 obtain ⟨p9,e9⟩:=told_pred P41 G41 9 (.new (jv L none))
 obtain ⟨p12,e12⟩:=told_pred P41 G41 12 (.bool true)
 obtain ⟨p18,e18⟩:=told_pred P41 G41 18 (jT x0 b d on)
 obtain ⟨p17,e17⟩:=told_pred P41 G41 17 (.tup [.int .i64 pv,.int .i64 (if (b:Int)<pv then 19 else 0)])
 obtain ⟨p16,e16⟩:=told_pred P41 G41 16 (.tup [.new (.view 4 (L.n+1) (sv4 y0 y1 y2 y3) (some (L.n+1))),.int .i64 0])
 refine stepL_told hm41 hn41 (K:=K7 p9 p12 p18 p17 p16 (jv L none) (jT x0 b d on) pv (if (b:Int)<pv then 19 else 0) (L.n+1) (sv4 y0 y1 y2 y3)) (told_add (told_add (told_add (told_add (told_add none_ok (callP_told (told_predT e9))) (callP_told (told_predT e12))) (callP_told (told_predT e18))) (callP_told (told_predT e17))) (callP_told (told_predT e16))) (A:=A41) (m:=0) (by kernel_rfl) loops0 ?_
 have fin:=lv7 R c p12 e12 L.n pv y3 hy b hb hm
 generalize ((b:Nat):Int) = bi at h17 e18 e17 h18 fin ⊢
 generalize ((d:Nat):Int) = di at *
 generalize ((on:Nat):Int) = oi at *
 generalize (if bi<pv then (19:Int) else 0) = er at *
 refine Eq.trans (show stepL P41 G41 A41 (K7 p9 p12 p18 p17 p16 (jv L none) (jT x0 bi di oi) pv er (L.n+1) (sv4 y0 y1 y2 y3)) 0 7 [] [R.v c,.int .u8 u,.agg (uJ a b d e)] =
(
 bif decide (20<Int.ofNat R.n) then
 bif propF p12 [] then
 some (.bool true)
 else none else
 bif propF p9 [.view 4 R.n (fun j=>[.int .u8 (.ofNat (R.t j)),.int .u8 (.ofNat (R.d j)),.int .u8 (.ofNat (R.a j)),.int .u8 (.ofNat (R.o j))]) c] then
 bif propF p18 [.agg [.int .u8 (.ofNat a),.int .u8 (.ofNat b),.int .u8 (.ofNat d),.int .u8 (.ofNat e)]] then
 bif propF p17 [jv L
 none,.int .i64 (IntKind.i64.wrap (2+IntKind.i64.wrap ((Int.ofNat u).tmod 15))),.agg [.int .i64 x0,.int .i64 bi,.int .i64 di,.int .u32 oi]] then
 bif propF p18 [.agg [.int .u8 (.ofNat a),.int .u8 (.ofNat b),.int .u8 (.ofNat d),.int .u8 (.ofNat e)]] then
 bif L.n==(0:Nat) then
 bif propF p16 [.view 4 1 (fun j =>
 bif ((0:Nat)+j).blt 0 then []
 else List.map plainOr ([[T.int .i64 x0,T.int .i64 (100000:Int),T.int .i64 di,T.int .u32 oi]].getD (0+j - 0) []))
 none,.int .i64 (IntKind.i64.wrap (2+IntKind.i64.wrap ((Int.ofNat u).tmod 15)))] then
 bif decide (0<=IntKind.i64.wrap (Int.ofNat (L.n+1) - (1:Int)))&&decide (IntKind.i64.wrap (Int.ofNat (L.n+1) - (1:Int))<Int.ofNat (L.n+1)) then
 bif decide (pv = y3 (IntKind.i64.wrap (Int.ofNat (L.n+(1:Nat)) - (1:Int))).toNat) then
 bif decide (er = 0) then
 bif decide (y3 (IntKind.i64.wrap (Int.ofNat (L.n+(1:Nat)) - (1:Int))).toNat<=IntKind.i64.wrap (Int.ofNat b)) then
 bif decide (er = 0) then
 bif propF p12 [] then
 some (.bool true)
 else none else
 bif decide (er = 19) then
 bif propF p12 [] then
 some (.bool true)
 else none else
 some (.bool false)
 else
 some (.bool false)
 else
 bif decide (y3 (IntKind.i64.wrap (Int.ofNat (L.n+(1:Nat)) - (1:Int))).toNat<=IntKind.i64.wrap (Int.ofNat b)) then
 some (.bool false)
 else
 bif decide (er = 0) then
 bif propF p12 [] then
 some (.bool true)
 else none else
 bif decide (er = 19) then
 bif propF p12 [] then
 some (.bool true)
 else none else
 some (.bool false)
 else
 some (.bool false)
 else none else none else
 bif (((0:Nat)+L.n) * (33:Nat)).ble 70368744177664 then
 bif ((0:Nat)+L.n).ble 0 then
 bif ((0:Nat)+L.n).ble 0 then
 bif ((0:Nat)+((0:Nat)+L.n)).ble 0 then
 bif (((0:Nat)+L.n+(1:Nat)) * (33:Nat)).ble 70368744177664 then
 bif propF p16 [bif ((0:Nat)+((0:Nat)+L.n+(1:Nat))).ble ((0:Nat)+L.n+1) then .view 4 ((0:Nat)+L.n+1) (fun j =>
 bif ((0:Nat)+j).blt ((0:Nat)+L.n) then
 bif Nat.ble 0 ((0:Nat)+(0+j))&&((0:Nat)+((0:Nat)+j)).blt ((0:Nat)+L.n) then [.int .i64 (L.tm ((0:Nat)+(0+j) - (0:Nat))),.int .i64 (L.du ((0:Nat)+(0+j) - (0:Nat))),.int .i64 (L.af ((0:Nat)+(0+j) - (0:Nat))),.int .u32 (L.on ((0:Nat)+(0+j) - (0:Nat)))]
 else []
 else List.map plainOr ([[T.int .i64 x0,T.int .i64 (100000:Int),T.int .i64 di,T.int .u32 oi]].getD (0+j - ((0:Nat)+L.n)) [])) none else .undef,.int .i64 (IntKind.i64.wrap (2+IntKind.i64.wrap ((Int.ofNat u).tmod 15)))] then
 bif decide (0<=IntKind.i64.wrap (Int.ofNat (L.n+1) - (1:Int)))&&decide (IntKind.i64.wrap (Int.ofNat (L.n+1) - (1:Int))<Int.ofNat (L.n+1)) then
 bif decide (pv = y3 (IntKind.i64.wrap (Int.ofNat (L.n+(1:Nat)) - (1:Int))).toNat) then
 bif decide (er = 0) then
 bif decide (y3 (IntKind.i64.wrap (Int.ofNat (L.n+(1:Nat)) - (1:Int))).toNat<=IntKind.i64.wrap (Int.ofNat b)) then
 bif decide (er = 0) then
 bif propF p12 [] then
 some (.bool true)
 else none else
 bif decide (er = 19) then
 bif propF p12 [] then
 some (.bool true)
 else none else
 some (.bool false)
 else
 some (.bool false)
 else
 bif decide (y3 (IntKind.i64.wrap (Int.ofNat (L.n+(1:Nat)) - (1:Int))).toNat<=IntKind.i64.wrap (Int.ofNat b)) then
 some (.bool false)
 else
 bif decide (er = 0) then
 bif propF p12 [] then
 some (.bool true)
 else none else
 bif decide (er = 19) then
 bif propF p12 [] then
 some (.bool true)
 else none else
 some (.bool false)
 else
 some (.bool false)
 else none else none else none else none else none else
 bif ((0:Nat)+((0:Nat)+L.n)).ble ((0:Nat)+L.n) then
 bif (((0:Nat)+L.n+(1:Nat)) * (33:Nat)).ble 70368744177664 then
 bif ((0:Nat)+((0:Nat)+L.n)+(1:Nat)).ble ((0:Nat)+L.n) then
 bif propF p16 [bif ((0:Nat)+((0:Nat)+L.n+(1:Nat))).ble ((0:Nat)+L.n) then .view 4 ((0:Nat)+L.n+1) (fun j =>
 bif ((0:Nat)+((0:Nat)+L.n)).ble (0+j)&&((0:Nat)+j).blt ((0:Nat)+((0:Nat)+L.n)+(1:Nat)) then List.map plainOr ([[T.int .i64 x0,T.int .i64 (100000:Int),T.int .i64 di,T.int .u32 oi]].getD (0+j - ((0:Nat)+((0:Nat)+L.n))) [])
 else [.int .i64 (L.tm (0+j - 0)),.int .i64 (L.du (0+j - 0)),.int .i64 (L.af (0+j - 0)),.int .u32 (L.on (0+j - 0))]) none else .undef,.int .i64 (IntKind.i64.wrap (2+IntKind.i64.wrap ((Int.ofNat u).tmod 15)))] then
 bif decide (0<=IntKind.i64.wrap (Int.ofNat (L.n+1) - (1:Int)))&&decide (IntKind.i64.wrap (Int.ofNat (L.n+1) - (1:Int))<Int.ofNat (L.n+1)) then
 bif decide (pv = y3 (IntKind.i64.wrap (Int.ofNat (L.n+(1:Nat)) - (1:Int))).toNat) then
 bif decide (er = 0) then
 bif decide (y3 (IntKind.i64.wrap (Int.ofNat (L.n+(1:Nat)) - (1:Int))).toNat<=IntKind.i64.wrap (Int.ofNat b)) then
 bif decide (er = 0) then
 bif propF p12 [] then
 some (.bool true)
 else none else
 bif decide (er = 19) then
 bif propF p12 [] then
 some (.bool true)
 else none else
 some (.bool false)
 else
 some (.bool false)
 else
 bif decide (y3 (IntKind.i64.wrap (Int.ofNat (L.n+(1:Nat)) - (1:Int))).toNat<=IntKind.i64.wrap (Int.ofNat b)) then
 some (.bool false)
 else
 bif decide (er = 0) then
 bif propF p12 [] then
 some (.bool true)
 else none else
 bif decide (er = 19) then
 bif propF p12 [] then
 some (.bool true)
 else none else
 some (.bool false)
 else
 some (.bool false)
 else none else none else
 bif propF p16 [bif ((0:Nat)+((0:Nat)+L.n+(1:Nat))).ble ((0:Nat)+L.n+1) then .view 4 ((0:Nat)+L.n+1) (fun j =>
 bif ((0:Nat)+j).blt ((0:Nat)+L.n) then [.int .i64 (L.tm ((0:Nat)+(0+j) - (0:Nat))),.int .i64 (L.du ((0:Nat)+(0+j) - (0:Nat))),.int .i64 (L.af ((0:Nat)+(0+j) - (0:Nat))),.int .u32 (L.on ((0:Nat)+(0+j) - (0:Nat)))]
 else List.map plainOr ([[T.int .i64 x0,T.int .i64 (100000:Int),T.int .i64 di,T.int .u32 oi]].getD (0+j - ((0:Nat)+L.n)) [])) none else .undef,.int .i64 (IntKind.i64.wrap (2+IntKind.i64.wrap ((Int.ofNat u).tmod 15)))] then
 bif decide (0<=IntKind.i64.wrap (Int.ofNat (L.n+1) - (1:Int)))&&decide (IntKind.i64.wrap (Int.ofNat (L.n+1) - (1:Int))<Int.ofNat (L.n+1)) then
 bif decide (pv = y3 (IntKind.i64.wrap (Int.ofNat (L.n+(1:Nat)) - (1:Int))).toNat) then
 bif decide (er = 0) then
 bif decide (y3 (IntKind.i64.wrap (Int.ofNat (L.n+(1:Nat)) - (1:Int))).toNat<=IntKind.i64.wrap (Int.ofNat b)) then
 bif decide (er = 0) then
 bif propF p12 [] then
 some (.bool true)
 else none else
 bif decide (er = 19) then
 bif propF p12 [] then
 some (.bool true)
 else none else
 some (.bool false)
 else
 some (.bool false)
 else
 bif decide (y3 (IntKind.i64.wrap (Int.ofNat (L.n+(1:Nat)) - (1:Int))).toNat<=IntKind.i64.wrap (Int.ofNat b)) then
 some (.bool false)
 else
 bif decide (er = 0) then
 bif propF p12 [] then
 some (.bool true)
 else none else
 bif decide (er = 19) then
 bif propF p12 [] then
 some (.bool true)
 else none else
 some (.bool false)
 else
 some (.bool false)
 else none else none else none else none else none else none else none else none else
 none) from by kernel_rfl) ?_
 have em:IntKind.i64.wrap ((2:Int)+IntKind.i64.wrap ((Int.ofNat u).tmod (15:Int))) = ((2+u % 15:Nat):Int):=by
  rw [show (Int.ofNat u).tmod (15:Int) = ((u % 15:Nat):Int) from rfl,show IntKind.i64.wrap ((u % 15:Nat):Int) = ((u % 15:Nat):Int) from wr64 (by omega) (by omega),wr64 (by omega) (by omega)]
  omega
 rw [em]
 by_cases q20:20<R.n
 ·exact bift (by simp only [ofNatE,decide_eq_true_eq]; omega) (bift (pred_yes e12 livesT) rfl)
 refine biff (by simp only [ofNatE,decide_eq_true_eq]; omega) ?_
 refine bift (pred_yes e9 h9) ?_
 refine bift (pred_yes e18 h18) ?_
 refine bift (pred_yes e17 h17) ?_
 refine bift (pred_yes e18 h18) ?_
 simp only [Nat.zero_add,Nat.sub_zero]
 by_cases q0:L.n = 0
 ·refine bift (by rw [nbeq]; exact q0) ?_
  refine bift (pred_yes e16 (hview _ _ _ (by omega) fun j hj=>?_)) fin
  obtain rfl:j = 0:=by omega
  rw [if_neg (by omega)]
  rfl
 ·refine biff (by rw [nbeq]; exact q0) ?_
  refine bift (bleT (by omega)) ?_
  refine biff (by rw [nble]; omega) ?_
  refine bift (bleT (by omega)) ?_
  refine bift (bleT (by omega)) ?_
  refine biff (by rw [nble]; omega) ?_
  rw [show Nat.ble (L.n+1) (L.n+1) = true from bleT (by omega),cond_true]
  refine bift (pred_yes e16 (hview _ _ _ (by omega) fun j hj=>?_)) fin
  by_cases q:j<L.n
  ·rw [bltT q,cond_true,if_pos q]
   rfl
  ·obtain rfl:j = L.n:=by omega
   rw [bltF (show L.n<=L.n by omega),cond_false,if_neg q,Nat.sub_self]
   rfl
open Go.Proofs
theorem gvR_succ (rd:Nat->Int) (tm af on:Int) (k:Nat):gvR rd tm af on (k+1) = if ableB on k = true then gvst rd tm af (gvR rd tm af on k) k else gvR rd tm af on k:=by
 unfold gvR
 rw [abL_succ]
 split
 ·unfold gvn
  rw [List.length_append,List.length_singleton,List.take_of_length_le (by simp),List.foldl_append,List.take_length]
  rfl
 ·rfl
theorem gvR_zero (rd:Nat->Int) (tm af on:Int):gvR rd tm af on 0 = (-1,0,0):=rfl
theorem gvR_spec (rd:Nat->Int) (tm af on:Int):∀ m,(∀ k,k<m->ableB on k = true->(gvR rd tm af on m).2.1<=maxB (rd k) af/\0<=(gvR rd tm af on m).1) ∧
 ((gvR rd tm af on m).1<0 ∨ ∃ g:Nat,g<m/\ableB on g = true/\gvR rd tm af on m = ((g:Int),maxB (rd g) af,maxB (rd g) af+tm)):=by
 intro m
 induction m with
 | zero=>exact ⟨fun k hk=>by omega,.inl (by rw [gvR_zero]; decide)⟩
 | succ m ih =>
  obtain ⟨h1,h2⟩:=ih
  rw [gvR_succ]
  by_cases qa:ableB on m = true
  ·rw [if_pos qa]
   unfold gvst
   by_cases q:(gvR rd tm af on m).1<0 ∨ maxB (rd m) af<(gvR rd tm af on m).2.1
   ·rw [if_pos q]
    refine ⟨fun k hk hka=>?_,.inr ⟨m,by omega,qa,rfl⟩⟩
    refine ⟨?_,by dsimp only; omega⟩
    dsimp only
    rcases Nat.lt_or_ge k m with q1 | q1
    ·have:=h1 k q1 hka; omega
    ·obtain rfl:k = m:=by omega
     exact Int.le_refl _
   ·rw [if_neg q]
    refine ⟨fun k hk hka=>?_,?_⟩
    ·rcases Nat.lt_or_ge k m with q1 | q1
     ·exact h1 k q1 hka
     ·obtain rfl:k = m:=by omega
      omega
    ·rcases h2 with h2 | ⟨g,g1,g2,g3⟩
     ·exact .inl h2
     ·exact .inr ⟨g,by omega,g2,g3⟩
  ·rw [if_neg qa]
   refine ⟨fun k hk hka=>?_,?_⟩
   ·rcases Nat.lt_or_ge k m with q1 | q1
    ·exact h1 k q1 hka
    ·obtain rfl:k = m:=by omega
     exact absurd hka qa
   ·rcases h2 with h2 | ⟨g,g1,g2,g3⟩
    ·exact .inl h2
    ·exact .inr ⟨g,by omega,g2,g3⟩
theorem gvR_some (rd:Nat->Int) (tm af on:Int) (m:Nat) (h:0<(abL on m).length):∃ g:Nat,g<m/\ableB on g = true/\gvR rd tm af on m = ((g:Int),maxB (rd g) af,maxB (rd g) af+tm):=by
 obtain ⟨g,g1,g2⟩:=gvR_lt rd tm af on m h
 rcases (gvR_spec rd tm af on m).2 with q | q
 ·rw [g2] at q; omega
 ·exact q
theorem able_iff {on:Int} (h:0<=on/\on<=7) (k:Nat) (hk:k<16):ableB on k = true ↔ ¬ (on ≠ 0/\(on.fdiv (2 ^ min k 32)).tmod 2 = 0):=by
 have key:∀ a,a<8->∀ k,k<16->(ableB ((a:Nat):Int) k = true ↔ ¬ (((a:Nat):Int) ≠ 0/\(((a:Nat):Int).fdiv (2 ^ min k 32)).tmod 2 = 0)):=by decide +kernel
 have:=key on.toNat (by omega) k hk
 rw [Int.toNat_of_nonneg h.1] at this
 exact this
def psum (rd:Nat->Int):Nat->Int
 | 0=>0
 | m+1=>psum rd m+rd m
theorem psum_congr {f g:Nat->Int}:∀ m,(∀ k,k<m->f k = g k)->psum f m = psum g m
 | 0,_=>rfl
 | m+1,h=>by simp only [psum,psum_congr m fun k hk=>h k (by omega),h m (by omega)]
theorem psum_upd {f g:Nat->Int} {i:Nat} {v:Int} (hi:f i = v) (ho:∀ k,k ≠ i->f k = g k):∀ m,i<m->psum f m = psum g m - g i+v:=by
 intro m
 induction m with
 | zero=>intro h; omega
 | succ m ih =>
  intro h
  simp only [psum]
  rcases Nat.lt_or_ge i m with q | q
  ·rw [ih q,ho m (by omega)]; omega
  ·obtain rfl:i = m:=by omega
   rw [psum_congr (f:=f) (g:=g) i fun k hk=>ho k (by omega),hi]; omega
theorem psum_min {f:Nat->Int} {x:Int}:∀ m:Nat,(∀ k,k<m->x<=f k)->x * (m:Int)<=psum f m:=by
 intro m
 induction m with
 | zero=>intro _; simp [psum]
 | succ m ih =>
  intro h
  have h1:=ih fun k hk=>h k (by omega)
  have h2:=h m (by omega)
  simp only [psum]
  rw [show ((m+1:Nat):Int) = (m:Int)+1 by omega,Int.mul_add,Int.mul_one]
  omega
def totU (L:JL):Nat->Int
 | 0=>0
 | i+1=>totU L i+L.tm i
def mxU (L:JL):Nat->Int
 | 0=>0
 | i+1=>maxB (mxU L i) (L.tm i)
def lstU (L:JL) (o:Nat->Nat) (m:Nat):Nat->Int
 | 0=>0
 | i+1=>maxB (lstU L o m i) ((slt L o m i).2.1+L.tm (o i))
theorem totU_tot (L:JL):∀ i,totU L i = tot L.tm (List.range i):=by
 intro i
 induction i with
 | zero=>rfl
 | succ i ih=>rw [List.range_succ,tot_app,tot_one,← ih]; rfl
theorem mxU_ge (L:JL):∀ i j,j<i->L.tm j<=mxU L i:=by
 intro i
 induction i with
 | zero=>intro j hj; omega
 | succ i ih =>
  intro j hj
  have:=maxB_ge (mxU L i) (L.tm i)
  simp only [mxU]
  rcases Nat.lt_or_ge j i with q | q
  ·have:=ih j q; omega
  ·obtain rfl:j = i:=by omega
   omega
theorem mxU_nonneg (L:JL) (hL:L.Ok):∀ i,i<=L.n->0<=mxU L i/\mxU L i<=100000:=by
 intro i
 induction i with
 | zero=>intro _; simp [mxU]
 | succ i ih =>
  intro hi
  have h1:=ih (by omega)
  have h2:=maxB_ge (mxU L i) (L.tm i)
  have h3:=hL.tm i (by omega)
  simp only [mxU]
  rcases h2.2.2 with q | q <;> rw [q] <;> omega
theorem totU_bd (L:JL) (hL:L.Ok):∀ i,i<=L.n->0<=totU L i/\totU L i<=i * 100000:=by
 intro i
 induction i with
 | zero=>intro _; simp [totU]
 | succ i ih =>
  intro hi
  have h1:=ih (by omega)
  have h3:=hL.tm i (by omega)
  simp only [totU]
  omega
theorem lstU_le (L:JL) (o:Nat->Nat) (m:Nat) (B:Int) (h0:0<=B):∀ i,(∀ j,j<i->(slt L o m j).2.1+L.tm (o j)<=B)->0<=lstU L o m i/\lstU L o m i<=B:=by
 intro i
 induction i with
 | zero=>intro _; exact ⟨Int.le_refl 0,h0⟩
 | succ i ih =>
  intro h
  have h1:=ih fun j hj=>h j (by omega)
  have h2:=h i (by omega)
  have h3:=maxB_ge (lstU L o m i) ((slt L o m i).2.1+L.tm (o i))
  simp only [lstU]
  rcases h3.2.2 with q | q <;> rw [q] <;> omega
theorem ableB_zero (k:Nat):ableB 0 k = true:=by simp [ableB]
theorem plan_free (L:JL) (hL:L.Ok) (m:Nat) (hm:1<=m) (haf:∀ j,j<L.n->L.af j = 0) (hon:∀ j,j<L.n->L.on j = 0):∀ i,i<=L.n->psum (plst L (oN L) m i) m = tms L (oN L) i:=by
 intro i
 induction i with
 | zero =>
  intro _
  show psum (plst L (oN L) m 0) m = 0
  have e:plst L (oN L) m 0 = fun _=>0:=rfl
  rw [e]
  clear hm e
  induction m with
  | zero=>rfl
  | succ m ih=>simp only [psum,ih]; rfl
 | succ i ih =>
  intro hi
  have h1:=ih (by omega)
  have ho:=oN_lt (L:=L) (j:=i) (by omega)
  have h2:=plst_bd hL (o:=oN L) (mm:=m) i (fun j hj=>oN_lt (by omega))
  simp only [tms]
  rw [← h1]
  have hab:0<(abL (L.on (oN L i)) m).length:=by
   rw [hon _ ho]
   exact Nat.lt_of_lt_of_le (by decide +kernel:0<(abL 0 1).length) (abL_le hm)
  obtain ⟨g,g1,g2,g3⟩:=gvR_some (plst L (oN L) m i) (L.tm (oN L i)) (L.af (oN L i)) (L.on (oN L i)) m hab
  have hrg:=h2 g g1
  have e:maxB (plst L (oN L) m i g) (L.af (oN L i)) = plst L (oN L) m i g:=by
   rw [haf _ ho]
   have:=maxB_ge (plst L (oN L) m i g) 0
   omega
  rw [e] at g3
  rw [psum_upd (f:=plst L (oN L) m (i+1)) (g:=plst L (oN L) m i) (i:=g) (v:=plst L (oN L) m i g+L.tm (oN L i)) ?_ ?_ m g1]
  ·omega
  ·show (if _ then _ else _) = _
   rw [g3,if_pos rfl]
  ·intro k hk
   show (if _ then _ else _) = _
   rw [g3,if_neg (by dsimp only; omega)]
theorem tms_le (L:JL) (hL:L.Ok) (o:Nat->Nat) (ho:∀ j,j<L.n->o j<L.n):∀ i j,i<=j->j<=L.n->tms L o i<=tms L o j:=by
 intro i j h
 induction h with
 | refl=>intro _; exact Int.le_refl _
 | step _ ih =>
  rename_i j _
  intro hj
  have h1:=ih (by omega)
  have h2:=hL.tm (o j) (ho j (by omega))
  simp only [tms]
  omega
theorem plan_bound (L:JL) (hL:L.Ok) (m:Nat) (hm:1<=m) (haf:∀ j,j<L.n->L.af j = 0) (hon:∀ j,j<L.n->L.on j = 0):lstU L (oN L) m L.n * (m:Int)<=totU L L.n+mxU L L.n * (m:Int):=by
 have htot:tms L (oN L) L.n = totU L L.n:=by
  rw [tms_tot,oL_oN,totU_tot]
  exact tot_perm (ordL_perm _ _)
 have hmx:=mxU_nonneg L hL L.n (Nat.le_refl _)
 have htn:=totU_bd L hL L.n (Nat.le_refl _)
 have key:∀ i,i<=L.n->lstU L (oN L) m i * (m:Int)<=totU L L.n+mxU L L.n * (m:Int):=by
  intro i
  induction i with
  | zero =>
   intro _
   have:=Int.mul_nonneg hmx.1 (by omega:(0:Int)<=(m:Int))
   simp only [lstU,Int.zero_mul]
   omega
  | succ i ih =>
   intro hi
   have h1:=ih (by omega)
   simp only [lstU]
   have h3:=maxB_ge (lstU L (oN L) m i) ((slt L (oN L) m i).2.1+L.tm (oN L i))
   rcases h3.2.2 with q | q
   ·rw [q]; exact h1
   ·rw [q,Int.add_mul]
    have ho:=oN_lt (L:=L) (j:=i) (by omega)
    have h4:(slt L (oN L) m i).2.1 * (m:Int)<=psum (plst L (oN L) m i) m:=by
     refine psum_min m fun k hk=>?_
     have h5:=(gvR_spec (plst L (oN L) m i) (L.tm (oN L i)) (L.af (oN L i)) (L.on (oN L i)) m).1 k hk (by rw [hon _ ho]; exact ableB_zero k)
     have h6:=plst_bd hL (o:=oN L) (mm:=m) i (fun j hj=>oN_lt (by omega)) k hk
     have h7:=maxB_ge (plst L (oN L) m i k) 0
     have e:maxB (plst L (oN L) m i k) (L.af (oN L i)) = plst L (oN L) m i k:=by
      rw [haf _ ho]; omega
     rw [e] at h5
     exact h5.1
    rw [plan_free L hL m hm haf hon i (by omega)] at h4
    have h8:=tms_le L hL (oN L) (fun j hj=>oN_lt hj) i L.n (by omega) (Nat.le_refl _)
    have h9:=mxU_ge L L.n (oN L i) ho
    have h10:=Int.mul_le_mul_of_nonneg_right h9 (by omega:(0:Int)<=(m:Int))
    omega
 exact key L.n (Nat.le_refl _)
open Go.Proofs
def jcl (L:JL) (j:Nat):List T:=[.int .i64 (L.tm j),.int .i64 (L.du j),.int .i64 (L.af j),.int .u32 (L.on j)]
def jblk (L:JL):Blk:=⟨0,4,L.n,jcl L,true,false⟩
def frU (L:JL) (i:Nat):JL:=⟨L.tm,L.du,fun j=>bif Nat.blt j i then 0 else L.af j,fun j=>bif Nat.blt j i then 0 else L.on j,L.n⟩
def rb16 (rd:Nat->Int):Blk:=⟨0,1,16,fun j=>[.int .i64 (rd j)],true,false⟩
def v5 (b:Bool) (n:Nat) (m t lg i:Int):List T:=[.bool b,.own 0 0 0 n none,.int .i64 m,.int .i64 t,.int .i64 lg,.int .i64 i]
def e5 (b:Bool) (n:Nat) (m t lg:Int):List T:=[.bool b,.own 0 0 0 n none,.int .i64 m,.int .i64 t,.int .i64 lg]
def v24 (x2 x7 x9 x10 x12 x14 x17 x18:T) (m:Int) (a b d on:Int) (best from' k:Int):List T:=[x2,x7,.int .i64 m,x9,x10,x12,x14,.ptr 1 0 0 0,x17,x18,.reg [.int .i64 a,.int .i64 b,.int .i64 d,.int .u32 on],.int .i64 best,.int .i64 from',.int .i64 k]
def e24 (x2 x7 x9 x10 x12 x14 x17 x18:T) (m:Int) (a b d on:Int) (best from':Int):List T:=[x2,x7,.int .i64 m,x9,x10,x12,x14,.ptr 1 0 0 0,x17,x18,.reg [.int .i64 a,.int .i64 b,.int .i64 d,.int .u32 on],.int .i64 best,.int .i64 from']
def v19' (b:Bool) (n:Nat) (m t lg:Int) (o:Nat->Nat) (y1 y2 y3:Nat->Int) (l i:Int):List T:=[.bool b,.own 0 0 0 n none,.int .i64 m,.int .i64 t,.int .i64 lg,ov n o (some n),.view 4 n (sv4 (fun j=>(o j:Nat)) y1 y2 y3) (some n),.ptr 1 0 0 0,.int .i64 l,.int .i64 i]
def e19' (b:Bool) (m t lg l:Int):List T:=[.bool b,.undef,.int .i64 m,.int .i64 t,.int .i64 lg,.int .i64 l]
open Go.Proofs
theorem listF (R:JR) (c:Option Nat) (hR:R.Ok) (h0:0<Nat.min R.n 40):ToldOk P41 G41 9 [R.v c] (.fresh true 4 (Nat.min R.n 40) (jcl (R.L (Nat.min R.n 40))) (Nat.min R.n 40) none):=by
 obtain ⟨vs1,h1,hE,hl⟩:=l9 R c hR
 generalize Nat.min R.n 40 = m at *
 cases hE with
 | z hz=>omega
 | a v nd get hn hg =>
  have:=stepL_told (args:=[R.v c]) (r:=.fresh true 4 nd (fun j=>get (0+j)) m none) hm41 hn41 none_ok (K:=noneO) (A:=A41) (m:=0) (by kernel_rfl) (loops1 hl) (Eq.trans (show stepL P41 G41 A41 noneO 0 9 [(3,litS (v9 R c .nils 0) [] (.exit 0) [.own 0 v 0 m none] [jb v nd get])] [R.v c] =
(
 bif weakF [.view 4 R.n (fun j=>[.int .u8 (.ofNat (R.t j)),.int .u8 (.ofNat (R.d j)),.int .u8 (.ofNat (R.a j)),.int .u8 (.ofNat (R.o j))]) c,.nils,.int .i64 0] [] [.view 4 R.n (fun j=>[.int .u8 (.ofNat (R.t j)),.int .u8 (.ofNat (R.d j)),.int .u8 (.ofNat (R.a j)),.int .u8 (.ofNat (R.o j))]) c,.nils,.int .i64 0] [] then
 some (bif v==v&&((0:Nat)+m).ble nd then .fresh true (4:Nat) (nd - 0) (fun j=>get (0+j)) m none else .undef)
 else
 none) from by kernel_rfl) (by
   refine bift (weakF_of ⟨rfl,.refl _⟩) ?_
   (repeat (first | (refine bift (by first | assumption | omega | (simp (disch:=omega) only [wr64,wr8,wr16,wr32,ofNatE,toNatE,toNatE1,Bool.and_eq_true,Bool.or_eq_true,Bool.not_eq_true',decide_eq_true_eq,decide_eq_false_iff_not,nble,nblt,nbeq,Nat.zero_add,Nat.add_zero,Int.zero_add,Int.add_zero,List.length_cons,List.length_nil,true_and,and_true,Nat.reduceAdd,and_self]; done) | (simp (disch:=omega) only [wr64,wr8,wr16,wr32,ofNatE,toNatE,toNatE1,Bool.and_eq_true,Bool.or_eq_true,Bool.not_eq_true',decide_eq_true_eq,decide_eq_false_iff_not,nble,nblt,nbeq,Nat.zero_add,Nat.add_zero,Int.zero_add,Int.add_zero,List.length_cons,List.length_nil,true_and,and_true,Nat.reduceAdd,and_self]; omega)) ?_) | (refine biff (by first | assumption | (simp (disch:=omega) only [wr64,wr8,wr16,wr32,ofNatE,toNatE,toNatE1,Bool.and_eq_true,Bool.or_eq_true,Bool.not_eq_true',decide_eq_true_eq,decide_eq_false_iff_not,nble,nblt,nbeq,Nat.zero_add,Nat.add_zero,Int.zero_add,Int.add_zero,List.length_cons,List.length_nil,true_and,and_true,Nat.reduceAdd,and_self]; done) | (simp (disch:=omega) only [wr64,wr8,wr16,wr32,ofNatE,toNatE,toNatE1,Bool.and_eq_true,Bool.or_eq_true,Bool.not_eq_true',decide_eq_true_eq,decide_eq_false_iff_not,nble,nblt,nbeq,Nat.zero_add,Nat.add_zero,Int.zero_add,Int.add_zero,List.length_cons,List.length_nil,true_and,and_true,Nat.reduceAdd,and_self]; omega)) ?_)))
   first | rfl | (simp (disch:=omega) only [wr64,wr8,wr16,wr32,ofNatE,Nat.zero_add,bleT,bltT,dT,dF,Bool.true_and,Bool.and_true,Bool.and_self,cond_true,cond_false,Nat.sub_zero,beq_self_eq_true]; done) | (simp (disch:=omega) only [wr64,wr8,wr16,wr32,ofNatE,Nat.zero_add,bleT,bltT,dT,dF,Bool.true_and,Bool.and_true,Bool.and_self,cond_true,cond_false,Nat.sub_zero,beq_self_eq_true]; rfl)))
  refine this.resTo (.fresh (Nat.le_refl _) hn (fun _ h=>by cases h) fun j hj=>?_)
  rw [Nat.zero_add,hg j hj]
  rfl
theorem listZ (R:JR) (c:Option Nat) (h0:Nat.min R.n 40 = 0):ToldOk P41 G41 9 [R.v c] .nils:=by
 have hz:R.n = 0:=by
  have:Nat.min R.n 40 = min R.n 40:=rfl
  omega
 refine stepL_told (args:=[R.v c]) (r:=.nils) hm41 hn41 none_ok (K:=noneO) (A:=A41) (m:=1) (by kernel_rfl) loops0 (Eq.trans (show stepL P41 G41 A41 noneO 1 9 [] [R.v c] =
(
 bif decide (0<Int.ofNat R.n) then
 bif decide (0<Int.ofNat R.n) then none else none else
 some (.nils)) from by kernel_rfl) ?_)
 refine biff (by simp only [ofNatE,decide_eq_true_eq]; omega) ?_
 first | rfl | exact (biff (by simp) rfl) | exact (bift (by simp) rfl)
theorem l6free (L:JL) (hL:L.Ok) (m:Int):LoopOk P41 G41 (A41 6) 6 5 (litS (v5 true L.n m 0 0 0) [jblk L] (.exit 0) (e5 true L.n m (totU L L.n) (mxU L L.n)) [jblk (frU L L.n)]):=by
 have hn:=hL.n
 have main:LoopOk P41 G41 (A41 6) 6 5 (litS (v5 true L.n m (totU L 0) (mxU L 0) 0) [jblk (frU L 0)] (.exit 0) (e5 true L.n m (totU L L.n) (mxU L L.n)) [jblk (frU L L.n)]):=by
  refine loop_steps hm41 (by kernel_rfl) (fun i=>v5 true L.n m (totU L i) (mxU L i) i) (fun i=>[jblk (frU L i)]) (n:=L.n) (fun i hi=>?_) ?_
  ·have h1:=totU_bd L hL i (by omega)
   have h2:=mxU_nonneg L hL i (by omega)
   have h3:=hL.tm i hi
   have e1:totU L (i+1) = totU L i+L.tm i:=rfl
   have e2:mxU L (i+1) = maxB (mxU L i) (L.tm i):=rfl
   rw [e1,e2]
   generalize totU L i = t at *
   generalize mxU L i = lg at *
   have hfr:∀ e,jcl (frU L (i+1)) e = [.int .i64 (L.tm e),.int .i64 (L.du e),.int .i64 (bif e==i then 0 else (frU L i).af e),.int .u32 (bif e==i then 0 else (frU L i).on e)]:=by
    intro e
    unfold jcl frU
    by_cases q:e = i
    ·subst q; simp [bltT (show e<e+1 by omega)]
    ·rw [beq_eq_false_iff_ne.2 q]
     by_cases q2:e<i
     ·simp [bltT (show e<i+1 by omega),bltT q2]
     ·simp [bltF (show i+1<=e by omega),bltF (show i<=e by omega)]
   have htm:(frU L i).tm = L.tm:=rfl
   have hdu:(frU L i).du = L.du:=rfl
   have hnn:(frU L i).n = L.n:=rfl
   generalize frU L i = F at *
   obtain ⟨tm,du,af,on,n⟩:=F
   obtain rfl:tm = L.tm:=htm
   obtain rfl:du = L.du:=hdu
   obtain rfl:n = L.n:=hnn
   refine Step.mk0 (A:=A41) (m:=0) none_ok rfl rfl loops0 (h1:=[⟨0,4,L.n,fun e=>[.int .i64 (bif e==i then L.tm i else bif e==i then L.tm i else L.tm e),.int .i64 (bif e==i then L.du i else bif e==i then L.du i else L.du e),.int .i64 (bif e==i then 0 else bif e==i then af i else af e),.int .u32 (bif e==i then 0 else bif e==i then 0 else on e)],true,false⟩]) (Eq.trans (show iterR P41 G41 A41 noneO 0 6 [] 5 (v5 true L.n m t lg i) [jblk ⟨L.tm,L.du,af,on,L.n⟩] =
(
 bif decide (Int.ofNat i<Int.ofNat L.n) then
 bif decide (0<=Int.ofNat i)&&decide (Int.ofNat i<Int.ofNat L.n) then
 bif ((0:Nat)+i).blt L.n&&true&&true&&true then
 bif decide (0<=Int.ofNat i)&&decide (Int.ofNat i<Int.ofNat L.n) then
 bif ((0:Nat)+i).blt L.n&&true&&true&&true then
 bif decide (0<=Int.ofNat i)&&decide (Int.ofNat i<Int.ofNat L.n) then
 bif ((0:Nat)+i).blt L.n then
 bif decide (0<=Int.ofNat i)&&decide (Int.ofNat i<Int.ofNat L.n) then
 bif ((0:Nat)+i).blt L.n then
 some ((.normal,[.bool true,.own 0 0 0 L.n
 none,.int .i64 m,.int .i64 (IntKind.i64.wrap (t +
 bif 0+i==0+i then
 bif 0+i==0+i then L.tm (0+i)
 else L.tm (0+i)
 else
 bif 0+i==0+i then L.tm (0+i)
 else L.tm (0+i))),.int .i64 (bif decide (lg <
 bif 0+i==0+i then
 bif 0+i==0+i then L.tm (0+i)
 else L.tm (0+i)
 else
 bif 0+i==0+i then L.tm (0+i)
 else L.tm (0+i)) then
 bif 0+i==0+i then
 bif 0+i==0+i then L.tm (0+i)
 else L.tm (0+i)
 else
 bif 0+i==0+i then L.tm (0+i)
 else L.tm (0+i)
 else lg),.int .i64 (IntKind.i64.wrap (Int.ofNat i+1))],[.mk 0 4 L.n (fun e=>[.int .i64 (bif e==0+i then
 bif 0+i==0+i then L.tm (0+i)
 else L.tm (0+i)
 else
 bif e==0+i then L.tm (0+i)
 else L.tm e),.int .i64 (bif e==0+i then
 bif 0+i==0+i then L.du (0+i)
 else L.du (0+i)
 else
 bif e==0+i then L.du (0+i)
 else L.du e),.int .i64 (bif e==0+i then (0:Int)
 else
 bif e==0+i then af (0+i)
 else af e),.int .u32 (bif e==0+i then
 bif 0+i==0+i then (0:Int)
 else on (0+i)
 else
 bif e==0+i then (0:Int)
 else on e)]) true false]))
 else none else none else none else none else none else none else none else none else
 some ((.exit 0,[.bool true,.own 0 0 0 L.n
 none,.int .i64 m,.int .i64 t,.int .i64 lg],[.mk 0 4 L.n (fun j=>[.int .i64 (L.tm j),.int .i64 (L.du j),.int .i64 (af j),.int .u32 (on j)]) true false]))) from by kernel_rfl) ?_) ?_
   ·simp only [Nat.zero_add,beq_self_eq_true,cond_true]
    (repeat (first | (refine bift (by first | assumption | omega | (simp (disch:=omega) only [wr64,wr8,wr16,wr32,ofNatE,toNatE,toNatE1,Bool.and_eq_true,Bool.or_eq_true,Bool.not_eq_true',decide_eq_true_eq,decide_eq_false_iff_not,nble,nblt,nbeq,Nat.zero_add,Nat.add_zero,Int.zero_add,Int.add_zero,List.length_cons,List.length_nil,true_and,and_true,Nat.reduceAdd,and_self]; done) | (simp (disch:=omega) only [wr64,wr8,wr16,wr32,ofNatE,toNatE,toNatE1,Bool.and_eq_true,Bool.or_eq_true,Bool.not_eq_true',decide_eq_true_eq,decide_eq_false_iff_not,nble,nblt,nbeq,Nat.zero_add,Nat.add_zero,Int.zero_add,Int.add_zero,List.length_cons,List.length_nil,true_and,and_true,Nat.reduceAdd,and_self]; omega)) ?_) | (refine biff (by first | assumption | (simp (disch:=omega) only [wr64,wr8,wr16,wr32,ofNatE,toNatE,toNatE1,Bool.and_eq_true,Bool.or_eq_true,Bool.not_eq_true',decide_eq_true_eq,decide_eq_false_iff_not,nble,nblt,nbeq,Nat.zero_add,Nat.add_zero,Int.zero_add,Int.add_zero,List.length_cons,List.length_nil,true_and,and_true,Nat.reduceAdd,and_self]; done) | (simp (disch:=omega) only [wr64,wr8,wr16,wr32,ofNatE,toNatE,toNatE1,Bool.and_eq_true,Bool.or_eq_true,Bool.not_eq_true',decide_eq_true_eq,decide_eq_false_iff_not,nble,nblt,nbeq,Nat.zero_add,Nat.add_zero,Int.zero_add,Int.add_zero,List.length_cons,List.length_nil,true_and,and_true,Nat.reduceAdd,and_self]; omega)) ?_)))
    unfold maxB
    first | rfl | (simp (disch:=omega) only [wr64,wr8,wr16,wr32,ofNatE,Nat.zero_add,bleT,bltT,dT,dF,Bool.true_and,Bool.and_true,Bool.and_self,cond_true,cond_false,Nat.sub_zero,beq_self_eq_true]; done) | (simp (disch:=omega) only [wr64,wr8,wr16,wr32,ofNatE,Nat.zero_add,bleT,bltT,dT,dF,Bool.true_and,Bool.and_true,Bool.and_self,cond_true,cond_false,Nat.sub_zero,beq_self_eq_true]; rfl)
   ·refine .cons ⟨rfl,rfl,rfl,id,fun j hj=>?_⟩ .nil
    show jcl (frU L (i+1)) j = _
    rw [hfr j]
    dsimp only
    by_cases q:j = i
    ·subst q; simp
    ·rw [beq_eq_false_iff_ne.2 q]; rfl
  ·generalize totU L L.n = t
   generalize mxU L L.n = lg
   have htm:(frU L L.n).tm = L.tm:=rfl
   have hdu:(frU L L.n).du = L.du:=rfl
   have hnn:(frU L L.n).n = L.n:=rfl
   generalize frU L L.n = F at *
   obtain ⟨tm,du,af,on,n⟩:=F
   obtain rfl:tm = L.tm:=htm
   obtain rfl:du = L.du:=hdu
   obtain rfl:n = L.n:=hnn
   refine Last.mk0 (A:=A41) (m:=0) none_ok rfl rfl loops0 (by simp) (h1:=[jblk ⟨L.tm,L.du,af,on,L.n⟩]) (Eq.trans (show iterR P41 G41 A41 noneO 0 6 [] 5 (v5 true L.n m t lg L.n) [jblk ⟨L.tm,L.du,af,on,L.n⟩] =
(
 bif decide (Int.ofNat L.n<Int.ofNat L.n) then
 bif decide (0<=Int.ofNat L.n)&&decide (Int.ofNat L.n<Int.ofNat L.n) then
 bif ((0:Nat)+L.n).blt L.n&&true&&true&&true then
 bif decide (0<=Int.ofNat L.n)&&decide (Int.ofNat L.n<Int.ofNat L.n) then
 bif ((0:Nat)+L.n).blt L.n&&true&&true&&true then
 bif decide (0<=Int.ofNat L.n)&&decide (Int.ofNat L.n<Int.ofNat L.n) then
 bif ((0:Nat)+L.n).blt L.n then
 bif decide (0<=Int.ofNat L.n)&&decide (Int.ofNat L.n<Int.ofNat L.n) then
 bif ((0:Nat)+L.n).blt L.n then
 some ((.normal,[.bool true,.own 0 0 0 L.n
 none,.int .i64 m,.int .i64 (IntKind.i64.wrap (t +
 bif (0:Nat)+L.n==(0:Nat)+L.n then
 bif (0:Nat)+L.n==(0:Nat)+L.n then L.tm ((0:Nat)+L.n)
 else L.tm ((0:Nat)+L.n)
 else
 bif (0:Nat)+L.n==(0:Nat)+L.n then L.tm ((0:Nat)+L.n)
 else L.tm ((0:Nat)+L.n))),.int .i64 (bif decide (lg <
 bif (0:Nat)+L.n==(0:Nat)+L.n then
 bif (0:Nat)+L.n==(0:Nat)+L.n then L.tm ((0:Nat)+L.n)
 else L.tm ((0:Nat)+L.n)
 else
 bif (0:Nat)+L.n==(0:Nat)+L.n then L.tm ((0:Nat)+L.n)
 else L.tm ((0:Nat)+L.n)) then
 bif (0:Nat)+L.n==(0:Nat)+L.n then
 bif (0:Nat)+L.n==(0:Nat)+L.n then L.tm ((0:Nat)+L.n)
 else L.tm ((0:Nat)+L.n)
 else
 bif (0:Nat)+L.n==(0:Nat)+L.n then L.tm ((0:Nat)+L.n)
 else L.tm ((0:Nat)+L.n)
 else lg),.int .i64 (IntKind.i64.wrap (Int.ofNat L.n+1))],[.mk 0 4 L.n (fun e=>[.int .i64 (bif e==(0:Nat)+L.n then
 bif (0:Nat)+L.n==(0:Nat)+L.n then L.tm ((0:Nat)+L.n)
 else L.tm ((0:Nat)+L.n)
 else
 bif e==(0:Nat)+L.n then L.tm ((0:Nat)+L.n)
 else L.tm e),.int .i64 (bif e==(0:Nat)+L.n then
 bif (0:Nat)+L.n==(0:Nat)+L.n then L.du ((0:Nat)+L.n)
 else L.du ((0:Nat)+L.n)
 else
 bif e==(0:Nat)+L.n then L.du ((0:Nat)+L.n)
 else L.du e),.int .i64 (bif e==(0:Nat)+L.n then (0:Int)
 else
 bif e==(0:Nat)+L.n then af ((0:Nat)+L.n)
 else af e),.int .u32 (bif e==(0:Nat)+L.n then
 bif (0:Nat)+L.n==(0:Nat)+L.n then (0:Int)
 else on ((0:Nat)+L.n)
 else
 bif e==(0:Nat)+L.n then (0:Int)
 else on e)]) true false]))
 else none else none else none else none else none else none else none else none else
 some ((.exit 0,[.bool true,.own 0 0 0 L.n
 none,.int .i64 m,.int .i64 t,.int .i64 lg],[.mk 0 4 L.n (fun j=>[.int .i64 (L.tm j),.int .i64 (L.du j),.int .i64 (af j),.int .u32 (on j)]) true false]))) from by kernel_rfl) ?_) (.refl _)
   (repeat (first | (refine bift (by first | assumption | omega | (simp (disch:=omega) only [wr64,wr8,wr16,wr32,ofNatE,toNatE,toNatE1,Bool.and_eq_true,Bool.or_eq_true,Bool.not_eq_true',decide_eq_true_eq,decide_eq_false_iff_not,nble,nblt,nbeq,Nat.zero_add,Nat.add_zero,Int.zero_add,Int.add_zero,List.length_cons,List.length_nil,true_and,and_true,Nat.reduceAdd,and_self]; done) | (simp (disch:=omega) only [wr64,wr8,wr16,wr32,ofNatE,toNatE,toNatE1,Bool.and_eq_true,Bool.or_eq_true,Bool.not_eq_true',decide_eq_true_eq,decide_eq_false_iff_not,nble,nblt,nbeq,Nat.zero_add,Nat.add_zero,Int.zero_add,Int.add_zero,List.length_cons,List.length_nil,true_and,and_true,Nat.reduceAdd,and_self]; omega)) ?_) | (refine biff (by first | assumption | (simp (disch:=omega) only [wr64,wr8,wr16,wr32,ofNatE,toNatE,toNatE1,Bool.and_eq_true,Bool.or_eq_true,Bool.not_eq_true',decide_eq_true_eq,decide_eq_false_iff_not,nble,nblt,nbeq,Nat.zero_add,Nat.add_zero,Int.zero_add,Int.add_zero,List.length_cons,List.length_nil,true_and,and_true,Nat.reduceAdd,and_self]; done) | (simp (disch:=omega) only [wr64,wr8,wr16,wr32,ofNatE,toNatE,toNatE1,Bool.and_eq_true,Bool.or_eq_true,Bool.not_eq_true',decide_eq_true_eq,decide_eq_false_iff_not,nble,nblt,nbeq,Nat.zero_add,Nat.add_zero,Int.zero_add,Int.add_zero,List.length_cons,List.length_nil,true_and,and_true,Nat.reduceAdd,and_self]; omega)) ?_)))
   first | rfl | (simp (disch:=omega) only [wr64,wr8,wr16,wr32,ofNatE,Nat.zero_add,bleT,bltT,dT,dF,Bool.true_and,Bool.and_true,Bool.and_self,cond_true,cond_false,Nat.sub_zero,beq_self_eq_true]; done) | (simp (disch:=omega) only [wr64,wr8,wr16,wr32,ofNatE,Nat.zero_add,bleT,bltT,dT,dF,Bool.true_and,Bool.and_true,Bool.and_self,cond_true,cond_false,Nat.sub_zero,beq_self_eq_true]; rfl)
 exact main
theorem l6not (L:JL) (hL:L.Ok) (m:Int):LoopOk P41 G41 (A41 6) 6 5 (litS (v5 false L.n m 0 0 0) [jblk L] (.exit 0) (e5 false L.n m (totU L L.n) (mxU L L.n)) [jblk L]):=by
 have hn:=hL.n
 refine loop_steps hm41 (by kernel_rfl) (fun i=>v5 false L.n m (totU L i) (mxU L i) i) (fun i=>[jblk L]) (n:=L.n) (fun i hi=>?_) ?_
 ·have h1:=totU_bd L hL i (by omega)
  have h2:=mxU_nonneg L hL i (by omega)
  have h3:=hL.tm i hi
  have e1:totU L (i+1) = totU L i+L.tm i:=rfl
  have e2:mxU L (i+1) = maxB (mxU L i) (L.tm i):=rfl
  rw [e1,e2]
  generalize totU L i = t at *
  generalize mxU L i = lg at *
  refine Step.mk0 (A:=A41) (m:=0) none_ok rfl rfl loops0 (h1:=[jblk L]) (Eq.trans (show iterR P41 G41 A41 noneO 0 6 [] 5 (v5 false L.n m t lg i) [jblk L] =
(
 bif decide (Int.ofNat i<Int.ofNat L.n) then
 bif decide (0<=Int.ofNat i)&&decide (Int.ofNat i<Int.ofNat L.n) then
 bif ((0:Nat)+i).blt L.n then
 bif decide (0<=Int.ofNat i)&&decide (Int.ofNat i<Int.ofNat L.n) then
 bif ((0:Nat)+i).blt L.n then
 some ((.normal,[.bool false,.own 0 0 0 L.n
 none,.int .i64 m,.int .i64 (IntKind.i64.wrap (t+L.tm (0+i))),.int .i64 (bif decide (lg<L.tm (0+i)) then L.tm (0+i)
 else lg),.int .i64 (IntKind.i64.wrap (Int.ofNat i+1))],[.mk 0 4 L.n (fun j=>[.int .i64 (L.tm j),.int .i64 (L.du j),.int .i64 (L.af j),.int .u32 (L.on j)]) true false]))
 else none else none else none else none else
 some ((.exit 0,[.bool false,.own 0 0 0 L.n
 none,.int .i64 m,.int .i64 t,.int .i64 lg],[.mk 0 4 L.n (fun j=>[.int .i64 (L.tm j),.int .i64 (L.du j),.int .i64 (L.af j),.int .u32 (L.on j)]) true false]))) from by kernel_rfl) ?_) (.refl _)
  simp only [Nat.zero_add]
  (repeat (first | (refine bift (by first | assumption | omega | (simp (disch:=omega) only [wr64,wr8,wr16,wr32,ofNatE,toNatE,toNatE1,Bool.and_eq_true,Bool.or_eq_true,Bool.not_eq_true',decide_eq_true_eq,decide_eq_false_iff_not,nble,nblt,nbeq,Nat.zero_add,Nat.add_zero,Int.zero_add,Int.add_zero,List.length_cons,List.length_nil,true_and,and_true,Nat.reduceAdd,and_self]; done) | (simp (disch:=omega) only [wr64,wr8,wr16,wr32,ofNatE,toNatE,toNatE1,Bool.and_eq_true,Bool.or_eq_true,Bool.not_eq_true',decide_eq_true_eq,decide_eq_false_iff_not,nble,nblt,nbeq,Nat.zero_add,Nat.add_zero,Int.zero_add,Int.add_zero,List.length_cons,List.length_nil,true_and,and_true,Nat.reduceAdd,and_self]; omega)) ?_) | (refine biff (by first | assumption | (simp (disch:=omega) only [wr64,wr8,wr16,wr32,ofNatE,toNatE,toNatE1,Bool.and_eq_true,Bool.or_eq_true,Bool.not_eq_true',decide_eq_true_eq,decide_eq_false_iff_not,nble,nblt,nbeq,Nat.zero_add,Nat.add_zero,Int.zero_add,Int.add_zero,List.length_cons,List.length_nil,true_and,and_true,Nat.reduceAdd,and_self]; done) | (simp (disch:=omega) only [wr64,wr8,wr16,wr32,ofNatE,toNatE,toNatE1,Bool.and_eq_true,Bool.or_eq_true,Bool.not_eq_true',decide_eq_true_eq,decide_eq_false_iff_not,nble,nblt,nbeq,Nat.zero_add,Nat.add_zero,Int.zero_add,Int.add_zero,List.length_cons,List.length_nil,true_and,and_true,Nat.reduceAdd,and_self]; omega)) ?_)))
  unfold maxB
  first | rfl | (simp (disch:=omega) only [wr64,wr8,wr16,wr32,ofNatE,Nat.zero_add,bleT,bltT,dT,dF,Bool.true_and,Bool.and_true,Bool.and_self,cond_true,cond_false,Nat.sub_zero,beq_self_eq_true]; done) | (simp (disch:=omega) only [wr64,wr8,wr16,wr32,ofNatE,Nat.zero_add,bleT,bltT,dT,dF,Bool.true_and,Bool.and_true,Bool.and_self,cond_true,cond_false,Nat.sub_zero,beq_self_eq_true]; rfl)
 ·generalize totU L L.n = t
  generalize mxU L L.n = lg
  refine Last.mk0 (A:=A41) (m:=0) none_ok rfl rfl loops0 (by simp) (h1:=[jblk L]) (Eq.trans (show iterR P41 G41 A41 noneO 0 6 [] 5 (v5 false L.n m t lg L.n) [jblk L] =
(
 bif decide (Int.ofNat L.n<Int.ofNat L.n) then
 bif decide (0<=Int.ofNat L.n)&&decide (Int.ofNat L.n<Int.ofNat L.n) then
 bif ((0:Nat)+L.n).blt L.n then
 bif decide (0<=Int.ofNat L.n)&&decide (Int.ofNat L.n<Int.ofNat L.n) then
 bif ((0:Nat)+L.n).blt L.n then
 some ((.normal,[.bool false,.own 0 0 0 L.n
 none,.int .i64 m,.int .i64 (IntKind.i64.wrap (t+L.tm ((0:Nat)+L.n))),.int .i64 (bif decide (lg<L.tm ((0:Nat)+L.n)) then L.tm ((0:Nat)+L.n)
 else lg),.int .i64 (IntKind.i64.wrap (Int.ofNat L.n+1))],[.mk 0 4 L.n (fun j=>[.int .i64 (L.tm j),.int .i64 (L.du j),.int .i64 (L.af j),.int .u32 (L.on j)]) true false]))
 else none else none else none else none else
 some ((.exit 0,[.bool false,.own 0 0 0 L.n
 none,.int .i64 m,.int .i64 t,.int .i64 lg],[.mk 0 4 L.n (fun j=>[.int .i64 (L.tm j),.int .i64 (L.du j),.int .i64 (L.af j),.int .u32 (L.on j)]) true false]))) from by kernel_rfl) ?_) (.refl _)
  (repeat (first | (refine bift (by first | assumption | omega | (simp (disch:=omega) only [wr64,wr8,wr16,wr32,ofNatE,toNatE,toNatE1,Bool.and_eq_true,Bool.or_eq_true,Bool.not_eq_true',decide_eq_true_eq,decide_eq_false_iff_not,nble,nblt,nbeq,Nat.zero_add,Nat.add_zero,Int.zero_add,Int.add_zero,List.length_cons,List.length_nil,true_and,and_true,Nat.reduceAdd,and_self]; done) | (simp (disch:=omega) only [wr64,wr8,wr16,wr32,ofNatE,toNatE,toNatE1,Bool.and_eq_true,Bool.or_eq_true,Bool.not_eq_true',decide_eq_true_eq,decide_eq_false_iff_not,nble,nblt,nbeq,Nat.zero_add,Nat.add_zero,Int.zero_add,Int.add_zero,List.length_cons,List.length_nil,true_and,and_true,Nat.reduceAdd,and_self]; omega)) ?_) | (refine biff (by first | assumption | (simp (disch:=omega) only [wr64,wr8,wr16,wr32,ofNatE,toNatE,toNatE1,Bool.and_eq_true,Bool.or_eq_true,Bool.not_eq_true',decide_eq_true_eq,decide_eq_false_iff_not,nble,nblt,nbeq,Nat.zero_add,Nat.add_zero,Int.zero_add,Int.add_zero,List.length_cons,List.length_nil,true_and,and_true,Nat.reduceAdd,and_self]; done) | (simp (disch:=omega) only [wr64,wr8,wr16,wr32,ofNatE,toNatE,toNatE1,Bool.and_eq_true,Bool.or_eq_true,Bool.not_eq_true',decide_eq_true_eq,decide_eq_false_iff_not,nble,nblt,nbeq,Nat.zero_add,Nat.add_zero,Int.zero_add,Int.add_zero,List.length_cons,List.length_nil,true_and,and_true,Nat.reduceAdd,and_self]; omega)) ?_)))
  first | rfl | (simp (disch:=omega) only [wr64,wr8,wr16,wr32,ofNatE,Nat.zero_add,bleT,bltT,dT,dF,Bool.true_and,Bool.and_true,Bool.and_self,cond_true,cond_false,Nat.sub_zero,beq_self_eq_true]; done) | (simp (disch:=omega) only [wr64,wr8,wr16,wr32,ofNatE,Nat.zero_add,bleT,bltT,dT,dF,Bool.true_and,Bool.and_true,Bool.and_self,cond_true,cond_false,Nat.sub_zero,beq_self_eq_true]; rfl)
theorem l24 (x2 x7 x9 x10 x12 x14 x17 x18:T) (m:Nat) (hm:m<=16) (a b d on:Int) (hon:0<=on/\on<=7) (rd:Nat->Int) (b0:Blk) :
 LoopOk P41 G41 (A41 6) 6 24 (litS (v24 x2 x7 x9 x10 x12 x14 x17 x18 m a b d on (-1) 0 0) [b0,rb16 rd] (.exit 4) (e24 x2 x7 x9 x10 x12 x14 x17 x18 m a b d on (gvR rd a d on m).1 (gvR rd a d on m).2.1) [b0,rb16 rd]):=by
 refine loop_steps hm41 (by kernel_rfl) (fun k=>v24 x2 x7 x9 x10 x12 x14 x17 x18 m a b d on (gvR rd a d on k).1 (gvR rd a d on k).2.1 k) (fun _=>[b0,rb16 rd]) (n:=m) (fun k hk=>?_) ?_
 ·have ha:=able_iff hon k (by omega)
  have hs:=gvR_succ rd a d on k
  unfold gvst at hs
  rw [hs]
  generalize hG:gvR rd a d on k = G at *
  obtain ⟨s1,s2,s3⟩:=G
  refine Step.mk0 (A:=A41) (m:=0) none_ok rfl rfl loops0 (h1:=[b0,rb16 rd]) (Eq.trans (show iterR P41 G41 A41 noneO 0 6 [] 24 (v24 x2 x7 x9 x10 x12 x14 x17 x18 m a b d on s1 s2 k) [b0,rb16 rd] =
(
 bif decide (Int.ofNat k<Int.ofNat m) then
 bif !decide (on = 0) then
 bif decide ((on.fdiv ((2:Int) ^ min k (32:Nat))).tmod 2 = 0) then
 some ((.normal,[x2,x7,.int .i64 (.ofNat m),x9,x10,x12,x14,.ptr 1 0 0 0,x17,x18,.reg [.int .i64 a,.int .i64 b,.int .i64 d,.int .u32 on],.int .i64 s1,.int .i64 s2,.int .i64 (IntKind.i64.wrap (Int.ofNat k+1))],[b0,.mk 0 1 16 (fun j=>[.int .i64 (rd j)]) true false]))
 else
 bif decide (0<=Int.ofNat k)&&decide (Int.ofNat k<16) then
 bif ((0:Nat)+k).blt 16 then
 bif decide (s1<0) then
 some ((.normal,[x2,x7,.int .i64 (.ofNat m),x9,x10,x12,x14,.ptr 1 0 0 0,x17,x18,.reg [.int .i64 a,.int .i64 b,.int .i64 d,.int .u32 on],.int .i64 (.ofNat k),.int .i64 (bif decide (rd (0+k)<d) then d
 else rd (0+k)),.int .i64 (IntKind.i64.wrap (Int.ofNat k+1))],[b0,.mk 0 1 16 (fun j=>[.int .i64 (rd j)]) true false]))
 else
 bif decide ((bif decide (rd (0+k)<d) then d
 else rd (0+k))<s2) then
 some ((.normal,[x2,x7,.int .i64 (.ofNat m),x9,x10,x12,x14,.ptr 1 0 0 0,x17,x18,.reg [.int .i64 a,.int .i64 b,.int .i64 d,.int .u32 on],.int .i64 (.ofNat k),.int .i64 (bif decide (rd (0+k)<d) then d
 else rd (0+k)),.int .i64 (IntKind.i64.wrap (Int.ofNat k+1))],[b0,.mk 0 1 16 (fun j=>[.int .i64 (rd j)]) true false]))
 else
 some ((.normal,[x2,x7,.int .i64 (.ofNat m),x9,x10,x12,x14,.ptr 1 0 0 0,x17,x18,.reg [.int .i64 a,.int .i64 b,.int .i64 d,.int .u32 on],.int .i64 s1,.int .i64 s2,.int .i64 (IntKind.i64.wrap (Int.ofNat k+1))],[b0,.mk 0 1 16 (fun j=>[.int .i64 (rd j)]) true false]))
 else none else none else
 bif decide (0<=Int.ofNat k)&&decide (Int.ofNat k<16) then
 bif ((0:Nat)+k).blt 16 then
 bif decide (s1<0) then
 some ((.normal,[x2,x7,.int .i64 (.ofNat m),x9,x10,x12,x14,.ptr 1 0 0 0,x17,x18,.reg [.int .i64 a,.int .i64 b,.int .i64 d,.int .u32 on],.int .i64 (.ofNat k),.int .i64 (bif decide (rd (0+k)<d) then d
 else rd (0+k)),.int .i64 (IntKind.i64.wrap (Int.ofNat k+1))],[b0,.mk 0 1 16 (fun j=>[.int .i64 (rd j)]) true false]))
 else
 bif decide ((bif decide (rd (0+k)<d) then d
 else rd (0+k))<s2) then
 some ((.normal,[x2,x7,.int .i64 (.ofNat m),x9,x10,x12,x14,.ptr 1 0 0 0,x17,x18,.reg [.int .i64 a,.int .i64 b,.int .i64 d,.int .u32 on],.int .i64 (.ofNat k),.int .i64 (bif decide (rd (0+k)<d) then d
 else rd (0+k)),.int .i64 (IntKind.i64.wrap (Int.ofNat k+1))],[b0,.mk 0 1 16 (fun j=>[.int .i64 (rd j)]) true false]))
 else
 some ((.normal,[x2,x7,.int .i64 (.ofNat m),x9,x10,x12,x14,.ptr 1 0 0 0,x17,x18,.reg [.int .i64 a,.int .i64 b,.int .i64 d,.int .u32 on],.int .i64 s1,.int .i64 s2,.int .i64 (IntKind.i64.wrap (Int.ofNat k+1))],[b0,.mk 0 1 16 (fun j=>[.int .i64 (rd j)]) true false]))
 else none else none else
 some ((.exit 4,[x2,x7,.int .i64 (.ofNat m),x9,x10,x12,x14,.ptr 1 0 0 0,x17,x18,.reg [.int .i64 a,.int .i64 b,.int .i64 d,.int .u32 on],.int .i64 s1,.int .i64 s2],[b0,.mk 0 1 16 (fun j=>[.int .i64 (rd j)]) true false]))) from by kernel_rfl) ?_) (.refl _)
  simp only [Nat.zero_add]
  rw [show IntKind.i64.wrap (Int.ofNat k+(1:Int)) = ((k+1:Nat):Int) by rw [wr64 (by rw [ofNatE]; omega) (by rw [ofNatE]; omega)]; rfl]
  refine bift (by simp only [ofNatE,decide_eq_true_eq]; omega) ?_
  change _ = some (Ex.normal,v24 x2 x7 x9 x10 x12 x14 x17 x18 m a b d on (if ableB on k = true then (if s1<0 ∨ maxB (rd k) d<s2 then ((k:Int),maxB (rd k) d,maxB (rd k) d+a) else (s1,s2,s3)) else (s1,s2,s3)).1 (if ableB on k = true then (if s1<0 ∨ maxB (rd k) d<s2 then ((k:Int),maxB (rd k) d,maxB (rd k) d+a) else (s1,s2,s3)) else (s1,s2,s3)).2.1 ((k+1:Nat):Int),[b0,rb16 rd])
  have rest:∀ (P:Prop),((ableB on k = true)->(bif decide ((0:Int)<=Int.ofNat k)&&decide (Int.ofNat k<(16:Int)) then
   bif k.blt (16:Nat) then
   bif decide (s1<(0:Int)) then some (Ex.normal,v24 x2 x7 x9 x10 x12 x14 x17 x18 m a b d on k (maxB (rd k) d) ((k+1:Nat):Int),[b0,rb16 rd])
   else bif decide (maxB (rd k) d<s2) then some (Ex.normal,v24 x2 x7 x9 x10 x12 x14 x17 x18 m a b d on k (maxB (rd k) d) ((k+1:Nat):Int),[b0,rb16 rd])
   else some (Ex.normal,v24 x2 x7 x9 x10 x12 x14 x17 x18 m a b d on s1 s2 ((k+1:Nat):Int),[b0,rb16 rd]) else none else none) = some (Ex.normal,v24 x2 x7 x9 x10 x12 x14 x17 x18 m a b d on (if ableB on k = true then (if s1<0 ∨ maxB (rd k) d<s2 then ((k:Int),maxB (rd k) d,maxB (rd k) d+a) else (s1,s2,s3)) else (s1,s2,s3)).1 (if ableB on k = true then (if s1<0 ∨ maxB (rd k) d<s2 then ((k:Int),maxB (rd k) d,maxB (rd k) d+a) else (s1,s2,s3)) else (s1,s2,s3)).2.1 ((k+1:Nat):Int),[b0,rb16 rd])):=by
   intro _ qa
   rw [if_pos qa]
   refine bift (by simp only [ofNatE,Bool.and_eq_true,decide_eq_true_eq]; omega) ?_
   refine bift (bltT (by omega)) ?_
   refine bifd (fun q=>?_) fun q=>?_
   ·rw [if_pos (.inl q)]
   ·refine bifd (fun q2=>?_) fun q2=>?_
    ·rw [if_pos (.inr q2)]
    ·rw [if_neg (by omega)]
  by_cases q0:on = 0
  ·refine biff (by simp [q0]) ?_
   exact rest True (ha.2 (by omega))
  ·refine bift (by simp [q0]) ?_
   refine bifd (fun q1=>?_) fun q1=>?_
   ·rw [if_neg (fun h=>(ha.1 h) ⟨q0,q1⟩)]
    rfl
   ·exact rest True (ha.2 (fun h=>q1 h.2))
 ·generalize (gvR rd a d on m).1 = s1
  generalize (gvR rd a d on m).2.1 = s2
  refine Last.mk0 (A:=A41) (m:=0) none_ok rfl rfl loops0 (by simp) (h1:=[b0,rb16 rd]) (Eq.trans (show iterR P41 G41 A41 noneO 0 6 [] 24 (v24 x2 x7 x9 x10 x12 x14 x17 x18 m a b d on s1 s2 m) [b0,rb16 rd] =
(
 bif decide (Int.ofNat m<Int.ofNat m) then
 bif !decide (on = 0) then
 bif decide ((on.fdiv ((2:Int) ^ min m (32:Nat))).tmod 2 = 0) then
 some ((.normal,[x2,x7,.int .i64 (.ofNat m),x9,x10,x12,x14,.ptr 1 0 0 0,x17,x18,.reg [.int .i64 a,.int .i64 b,.int .i64 d,.int .u32 on],.int .i64 s1,.int .i64 s2,.int .i64 (IntKind.i64.wrap (Int.ofNat m+1))],[b0,.mk 0 1 16 (fun j=>[.int .i64 (rd j)]) true false]))
 else
 bif decide (0<=Int.ofNat m)&&decide (Int.ofNat m<16) then
 bif ((0:Nat)+m).blt 16 then
 bif decide (s1<0) then
 some ((.normal,[x2,x7,.int .i64 (.ofNat m),x9,x10,x12,x14,.ptr 1 0 0 0,x17,x18,.reg [.int .i64 a,.int .i64 b,.int .i64 d,.int .u32 on],.int .i64 (.ofNat m),.int .i64 (bif decide (rd (0+m)<d) then d
 else rd (0+m)),.int .i64 (IntKind.i64.wrap (Int.ofNat m+1))],[b0,.mk 0 1 16 (fun j=>[.int .i64 (rd j)]) true false]))
 else
 bif decide ((bif decide (rd (0+m)<d) then d
 else rd (0+m))<s2) then
 some ((.normal,[x2,x7,.int .i64 (.ofNat m),x9,x10,x12,x14,.ptr 1 0 0 0,x17,x18,.reg [.int .i64 a,.int .i64 b,.int .i64 d,.int .u32 on],.int .i64 (.ofNat m),.int .i64 (bif decide (rd (0+m)<d) then d
 else rd (0+m)),.int .i64 (IntKind.i64.wrap (Int.ofNat m+1))],[b0,.mk 0 1 16 (fun j=>[.int .i64 (rd j)]) true false]))
 else
 some ((.normal,[x2,x7,.int .i64 (.ofNat m),x9,x10,x12,x14,.ptr 1 0 0 0,x17,x18,.reg [.int .i64 a,.int .i64 b,.int .i64 d,.int .u32 on],.int .i64 s1,.int .i64 s2,.int .i64 (IntKind.i64.wrap (Int.ofNat m+1))],[b0,.mk 0 1 16 (fun j=>[.int .i64 (rd j)]) true false]))
 else none else none else
 bif decide (0<=Int.ofNat m)&&decide (Int.ofNat m<16) then
 bif ((0:Nat)+m).blt 16 then
 bif decide (s1<0) then
 some ((.normal,[x2,x7,.int .i64 (.ofNat m),x9,x10,x12,x14,.ptr 1 0 0 0,x17,x18,.reg [.int .i64 a,.int .i64 b,.int .i64 d,.int .u32 on],.int .i64 (.ofNat m),.int .i64 (bif decide (rd (0+m)<d) then d
 else rd (0+m)),.int .i64 (IntKind.i64.wrap (Int.ofNat m+1))],[b0,.mk 0 1 16 (fun j=>[.int .i64 (rd j)]) true false]))
 else
 bif decide ((bif decide (rd (0+m)<d) then d
 else rd (0+m))<s2) then
 some ((.normal,[x2,x7,.int .i64 (.ofNat m),x9,x10,x12,x14,.ptr 1 0 0 0,x17,x18,.reg [.int .i64 a,.int .i64 b,.int .i64 d,.int .u32 on],.int .i64 (.ofNat m),.int .i64 (bif decide (rd (0+m)<d) then d
 else rd (0+m)),.int .i64 (IntKind.i64.wrap (Int.ofNat m+1))],[b0,.mk 0 1 16 (fun j=>[.int .i64 (rd j)]) true false]))
 else
 some ((.normal,[x2,x7,.int .i64 (.ofNat m),x9,x10,x12,x14,.ptr 1 0 0 0,x17,x18,.reg [.int .i64 a,.int .i64 b,.int .i64 d,.int .u32 on],.int .i64 s1,.int .i64 s2,.int .i64 (IntKind.i64.wrap (Int.ofNat m+1))],[b0,.mk 0 1 16 (fun j=>[.int .i64 (rd j)]) true false]))
 else none else none else
 some ((.exit 4,[x2,x7,.int .i64 (.ofNat m),x9,x10,x12,x14,.ptr 1 0 0 0,x17,x18,.reg [.int .i64 a,.int .i64 b,.int .i64 d,.int .u32 on],.int .i64 s1,.int .i64 s2],[b0,.mk 0 1 16 (fun j=>[.int .i64 (rd j)]) true false]))) from by kernel_rfl) ?_) (.refl _)
  (repeat (first | (refine bift (by first | assumption | omega | (simp (disch:=omega) only [wr64,wr8,wr16,wr32,ofNatE,toNatE,toNatE1,Bool.and_eq_true,Bool.or_eq_true,Bool.not_eq_true',decide_eq_true_eq,decide_eq_false_iff_not,nble,nblt,nbeq,Nat.zero_add,Nat.add_zero,Int.zero_add,Int.add_zero,List.length_cons,List.length_nil,true_and,and_true,Nat.reduceAdd,and_self]; done) | (simp (disch:=omega) only [wr64,wr8,wr16,wr32,ofNatE,toNatE,toNatE1,Bool.and_eq_true,Bool.or_eq_true,Bool.not_eq_true',decide_eq_true_eq,decide_eq_false_iff_not,nble,nblt,nbeq,Nat.zero_add,Nat.add_zero,Int.zero_add,Int.add_zero,List.length_cons,List.length_nil,true_and,and_true,Nat.reduceAdd,and_self]; omega)) ?_) | (refine biff (by first | assumption | (simp (disch:=omega) only [wr64,wr8,wr16,wr32,ofNatE,toNatE,toNatE1,Bool.and_eq_true,Bool.or_eq_true,Bool.not_eq_true',decide_eq_true_eq,decide_eq_false_iff_not,nble,nblt,nbeq,Nat.zero_add,Nat.add_zero,Int.zero_add,Int.add_zero,List.length_cons,List.length_nil,true_and,and_true,Nat.reduceAdd,and_self]; done) | (simp (disch:=omega) only [wr64,wr8,wr16,wr32,ofNatE,toNatE,toNatE1,Bool.and_eq_true,Bool.or_eq_true,Bool.not_eq_true',decide_eq_true_eq,decide_eq_false_iff_not,nble,nblt,nbeq,Nat.zero_add,Nat.add_zero,Int.zero_add,Int.add_zero,List.length_cons,List.length_nil,true_and,and_true,Nat.reduceAdd,and_self]; omega)) ?_)))
  first | rfl | (simp (disch:=omega) only [wr64,wr8,wr16,wr32,ofNatE,Nat.zero_add,bleT,bltT,dT,dF,Bool.true_and,Bool.and_true,Bool.and_self,cond_true,cond_false,Nat.sub_zero,beq_self_eq_true]; done) | (simp (disch:=omega) only [wr64,wr8,wr16,wr32,ofNatE,Nat.zero_add,bleT,bltT,dT,dF,Bool.true_and,Bool.and_true,Bool.and_self,cond_true,cond_false,Nat.sub_zero,beq_self_eq_true]; rfl)
end Go.Ab

