/- A part of the proof: nothing is assumed. -/
import Derived.Test.YtifccdcnhibceaaGreatDoorP7
import Derived.Test.YtifccdcnhibceaaGreatDoorP8
set_option linter.all false
namespace Go.Ab
open Go.Proofs
def gB (N:Nat) (g:Nat->Idd):Blk:=⟨0,2,N,fun j=>(g j).c,true,false,none⟩
def pJ (N:Nat) (f:List Pss):Blk:=⟨0,4,N,fun e=>(f.getD e ps0).c,true,false,none⟩
def v25 (l:List Slo) (c:Option Nat) (d:Int) (N:Nat) (f:List Pss) (i:Nat):List T:=[.int .u8 d,.own 1 0 0 f.length (some N),slV l c,.int .i64 l.length,.int .i64 i]
def u25 (l:List Slo) (c:Option Nat) (d:Int) (N:Nat) (f:List Pss) (i:Nat) (s:Slo) (k:Nat):List T:=[.int .u8 d,.own 1 0 0 f.length (some N),.reg [.int .u8 s.b,idL s.l],slV l c,.int .i64 l.length,.int .i64 i,idL s.l,.int .i64 s.l.length,.int .i64 k]
noncomputable def K25 (p:List T->T->Prop) (q:List T->Heap->T->Heap->Prop) (N:Nat) (g:Nat->Idd) (f:Nat->Pss):Orc:=(noneO.addRef 52 (refF q fun _ _=>some (.tup [],[gB N g,rBB N f]))).add 46 (callF p fun _=>some (.fresh true 2 N (fun j=>(g j).c) N (some N)))
theorem i25a (l:List Slo) (c:Option Nat) (d:Int) (N:Nat) (f:List Pss) (i:Nat) (s:Slo) (k:Nat) (g:Nat->Idd):iterR P16 G16 A16 noneO 0 25 [] 7 (u25 l c d N f i s k) [gB N g,pJ N f] =
(
 bif decide (Int.ofNat k<Int.ofNat s.l.length) then
 bif decide (0<=Int.ofNat k)&&decide (Int.ofNat k<Int.ofNat s.l.length) then
 bif decide (s.b = 1) then
 bif ((0:Nat)+f.length).ble N then
 bif ((f.length+(1:Nat)) * (25:Nat)).ble 70368744177664 then
 bif (f.length+(1:Nat)).ble N then
 bif ((0:Nat)+f.length+(1:Nat)).ble N then
 some ((.normal,[.int .u8 d,.own 1 0 0 (f.length+1) (some N),.reg s.c,slV l c,.int .i64 (.ofNat l.length),.int .i64 (.ofNat i),idL s.l,.int .i64 (.ofNat s.l.length),.int .i64 (IntKind.i64.wrap (Int.ofNat k+1))],[gB N g,.mk 0 4 N (fun j =>
 bif ((0:Nat)+f.length).ble j&&j.blt (0+f.length+1) then [[T.int .u8 (s.l.getD k (Idd.mk (0:Int) (0:Int))).y,T.int .i64 (s.l.getD k (Idd.mk (0:Int) (0:Int))).n,T.bool true,T.int .u8 d]].getD ((0:Nat)+(j - (0+f.length))) []
 else (f.getD j (Pss.mk (0:Int) (0:Int) false (0:Int))).c) true false
 none,.mk 0 4 1 (fun j=>[[T.int .u8 (s.l.getD k (Idd.mk (0:Int) (0:Int))).y,T.int .i64 (s.l.getD k (Idd.mk (0:Int) (0:Int))).n,T.bool true,T.int .u8 d]].getD j []) true true
 none]))
 else none else
 some ((.normal,[.int .u8 d,.own 3 0 0 (f.length+1)
 none,.reg s.c,slV l c,.int .i64 (.ofNat l.length),.int .i64 (.ofNat i),idL s.l,.int .i64 (.ofNat s.l.length),.int .i64 (IntKind.i64.wrap (Int.ofNat k+1))],[gB N g,pJ N f,.mk 0 4 1 (fun j=>[[T.int .u8 (s.l.getD k (Idd.mk (0:Int) (0:Int))).y,T.int .i64 (s.l.getD k (Idd.mk (0:Int) (0:Int))).n,T.bool true,T.int .u8 d]].getD j []) true true
 none,.mk 0 4 (f.length+1) (fun j =>
 bif j.blt f.length then (f.getD ((0:Nat)+j) (Pss.mk (0:Int) (0:Int) false (0:Int))).c
 else [[T.int .u8 (s.l.getD k (Idd.mk (0:Int) (0:Int))).y,T.int .i64 (s.l.getD k (Idd.mk (0:Int) (0:Int))).n,T.bool true,T.int .u8 d]].getD ((0:Nat)+(j - f.length)) []) true false
 none]))
 else none else none else
 bif ((0:Nat)+f.length).ble N then
 bif ((f.length+(1:Nat)) * (25:Nat)).ble 70368744177664 then
 bif (f.length+(1:Nat)).ble N then
 bif ((0:Nat)+f.length+(1:Nat)).ble N then
 some ((.normal,[.int .u8 d,.own 1 0 0 (f.length+1) (some N),.reg s.c,slV l c,.int .i64 (.ofNat l.length),.int .i64 (.ofNat i),idL s.l,.int .i64 (.ofNat s.l.length),.int .i64 (IntKind.i64.wrap (Int.ofNat k+1))],[gB N g,.mk 0 4 N (fun j =>
 bif ((0:Nat)+f.length).ble j&&j.blt (0+f.length+1) then [[T.int .u8 (s.l.getD k (Idd.mk (0:Int) (0:Int))).y,T.int .i64 (s.l.getD k (Idd.mk (0:Int) (0:Int))).n,T.bool false,T.int .u8 d]].getD ((0:Nat)+(j - (0+f.length))) []
 else (f.getD j (Pss.mk (0:Int) (0:Int) false (0:Int))).c) true false
 none,.mk 0 4 1 (fun j=>[[T.int .u8 (s.l.getD k (Idd.mk (0:Int) (0:Int))).y,T.int .i64 (s.l.getD k (Idd.mk (0:Int) (0:Int))).n,T.bool false,T.int .u8 d]].getD j []) true true
 none]))
 else none else
 some ((.normal,[.int .u8 d,.own 3 0 0 (f.length+1)
 none,.reg s.c,slV l c,.int .i64 (.ofNat l.length),.int .i64 (.ofNat i),idL s.l,.int .i64 (.ofNat s.l.length),.int .i64 (IntKind.i64.wrap (Int.ofNat k+1))],[gB N g,pJ N f,.mk 0 4 1 (fun j=>[[T.int .u8 (s.l.getD k (Idd.mk (0:Int) (0:Int))).y,T.int .i64 (s.l.getD k (Idd.mk (0:Int) (0:Int))).n,T.bool false,T.int .u8 d]].getD j []) true true
 none,.mk 0 4 (f.length+1) (fun j =>
 bif j.blt f.length then (f.getD ((0:Nat)+j) (Pss.mk (0:Int) (0:Int) false (0:Int))).c
 else [[T.int .u8 (s.l.getD k (Idd.mk (0:Int) (0:Int))).y,T.int .i64 (s.l.getD k (Idd.mk (0:Int) (0:Int))).n,T.bool false,T.int .u8 d]].getD ((0:Nat)+(j - f.length)) []) true false
 none]))
 else none else none else none else
 some ((.exit 2,v25 l c d N f i,[gB N g,pJ N f]))):=by kernel_rfl
theorem i25b (l:List Slo) (c:Option Nat) (d:Int) (N:Nat) (f f2:List Pss) (i:Nat) (g:Nat->Idd):iterR P16 G16 A16 noneO 0 25 [(7,litS (u25 l c d N f i (l.getD i sl0) 0) [gB N g,pJ N f] (.exit 2) (v25 l c d N f2 i) [gB N g,pJ N f2])] 4 (v25 l c d N f i) [gB N g,pJ N f] =
(
 bif decide (Int.ofNat i<Int.ofNat l.length) then
 bif decide (0<=Int.ofNat i)&&decide (Int.ofNat i<Int.ofNat l.length) then
 bif weakF (u25 l c d N f i (l.getD i (Slo.mk (0:Int) [])) (nat_lit 0)) [gB N g,pJ N f] (u25 l c d N f i (l.getD i (Slo.mk (0:Int) [])) (nat_lit 0)) [gB N g,pJ N f] then
 some ((.normal,[.int .u8 d,.own 1 0 0 f2.length (some N),slV l c,.int .i64 (.ofNat l.length),.int .i64 (IntKind.i64.wrap (Int.ofNat i+1))],[gB N g,pJ N f2]))
 else none else none else
 some ((.exit 0,[.int .u8 d,.own 1 0 0 f.length (some N)],[gB N g,pJ N f]))):=by kernel_rfl
theorem i25c (l:List Slo) (c:Option Nat) (d:Int) (N:Nat) (f:List Pss) (i:Nat) (g:Nat->Idd):iterR P16 G16 A16 noneO 0 25 [] 4 (v25 l c d N f i) [gB N g,pJ N f] =
(
 bif decide (Int.ofNat i<Int.ofNat l.length) then
 bif decide (0<=Int.ofNat i)&&decide (Int.ofNat i<Int.ofNat l.length) then none else none else
 some ((.exit 0,[.int .u8 d,.own 1 0 0 f.length (some N)],[gB N g,pJ N f]))):=by kernel_rfl
theorem k25 (l:List Slo) (c:Option Nat) (d:Int) (N:Nat) (f:List Pss) (g:Nat->Idd) (h:Nat->Pss) (p:List T->T->Prop) (q:List T->Heap->T->Heap->Prop):stepL P16 G16 A16 (K25 p q N g h) 0 25 [(4,litS (v25 l c d N [] 0) [gB N g,pJ N []] (.exit 0) [.int .u8 d,.own 1 0 0 N (some N)] [gB N g,pJ N f])] [slV l c,.int .u8 d] =
(
 bif decF (p [slV l c] (.fresh true (2:Nat) N (fun j=>(g j).c) N (some N))) then
 bif decide (0<=Int.ofNat N)&&decide (Int.ofNat N * 24<=140737488355328)&&decide (Int.ofNat N<=9223372036854775807) then
 bif weakF [.int .u8 d,.own 1 0 0 0 (some N),slV l c,.int .i64 (.ofNat l.length),.int .i64 0] [gB N g,.mk 0 4 N (fun x=>[.int .u8 0,.int .i64 0,.bool false,.int .u8 0]) true false
 none] [.int .u8 d,.own 1 0 0 0 (some N),slV l c,.int .i64 (.ofNat l.length),.int .i64 0] [gB N g,.mk 0 4 N (fun e=>[.int .u8 0,.int .i64 0,.bool false,.int .u8 0]) true false
 none] then
 bif !decide (d = 1) then
 bif decF (q [.own 1 0 0 N (some N)] [gB N g,pJ N f] (.tup []) [gB N g,rBB N h]) then
 some (bif ((0:Nat)+N).ble N then .fresh true (4:Nat) N (fun j=>(h ((0:Nat)+j)).c) N (some N)
 else .undef)
 else none else
 some (bif ((0:Nat)+N).ble N then .fresh true (4:Nat) N (fun j=>(f.getD ((0:Nat)+j) (Pss.mk (0:Int) (0:Int) false (0:Int))).c) N (some N)
 else .undef)
 else none else none else
 none):=by kernel_rfl
def psS (d:Int) (s:Slo):List Pss:=s.l.map (psOf s.b d)
def psA (d:Int) (l:List Slo):List Pss:=(l.map (psS d)).flatten
theorem psA_len (d:Int) (l:List Slo):(psA d l).length = (hel l).length:=by
 unfold psA hel
 induction l with
 | nil=>rfl
 | cons s l ih=>simp [psS,List.length_append,ih]
theorem psA_take (d:Int) (l:List Slo) {i:Nat} (h:i<l.length):psA d (l.take (i+1)) = psA d (l.take i) ++ psS d (l.getD i sl0):=by
 unfold psA
 rw [List.map_take,List.map_take,take_flat _ (by simpa using h)]
 congr 1
 simp [List.getD_eq_getElem?_getD,h]
theorem psA_le (d:Int) (l:List Slo) (i:Nat):(psA d (l.take i)).length<=(hel l).length:=by
 rw [← psA_len d l]
 unfold psA
 rw [List.map_take]
 exact flat_le _ i
theorem take_map {α β:Type} (l:List α) (g:α->β) (d:α) {k:Nat} (h:k<l.length):(l.take (k+1)).map g = (l.take k).map g ++ [g (l.getD k d)]:=by
 rw [List.take_succ,List.map_append,List.getD_eq_getElem?_getD,List.getElem?_eq_getElem h]
 rfl
theorem lp25a (l:List Slo) (c:Option Nat) (d:Int) (N:Nat) (f:List Pss) (i:Nat) (s:Slo) (g:Nat->Idd) (h1:f.length+s.l.length<=N) (hN:N<=1000000):LoopOk P16 G16 (A16 25) 25 7 (litS (u25 l c d N f i s 0) [gB N g,pJ N f] (.exit 2) (v25 l c d N (f ++ psS d s) i) [gB N g,pJ N (f ++ psS d s)]):=by
 have hS:psS d s = (s.l.take s.l.length).map (psOf s.b d):=by rw [List.take_length]; rfl
 have key:=loop_steps (P:=P16) (Gl:=G16) (e1:=.exit 2) (vs1:=v25 l c d N (f ++ psS d s) i) (h1:=[gB N g,pJ N (f ++ psS d s)]) hm16 (f:=25) (r:=7) (by kernel_rfl) (an:=A16 25) (fun k=>u25 l c d N (f ++ (s.l.take k).map (psOf s.b d)) i s k) (fun k=>[gB N g,pJ N (f ++ (s.l.take k).map (psOf s.b d))]) (n:=s.l.length) (fun k hk=>?_) ?_
 ·simp only [List.take_zero,List.map_nil,List.append_nil] at key
  exact key
 ·have e:=take_map s.l (psOf s.b d) id0 hk
  have hlen:(f ++ (s.l.take k).map (psOf s.b d)).length = f.length+k:=by simp; omega
  rw [e,← List.append_assoc]
  generalize f ++ (s.l.take k).map (psOf s.b d) = F at *
  have hf:F.length+1<=N:=by omega
  have go:∀ bb,decide (s.b = 1) = bb->iterR P16 G16 A16 noneO 0 25 [] 7 (u25 l c d N F i s k) [gB N g,pJ N F] = some (.normal,u25 l c d N (F ++ [psOf s.b d (s.l.getD k id0)]) i s (k+1),[gB N g,⟨0,4,N,fun j=>bif ((0:Nat)+F.length).ble j&&j.blt ((0:Nat)+F.length+1) then [[T.int .u8 (s.l.getD k id0).y,T.int .i64 (s.l.getD k id0).n,T.bool bb,T.int .u8 d]].getD (0+(j - (0+F.length))) [] else (F.getD j ps0).c,true,false,none⟩,⟨0,4,1,fun j=>[[T.int .u8 (s.l.getD k id0).y,T.int .i64 (s.l.getD k id0).n,T.bool bb,T.int .u8 d]].getD j [],true,true,none⟩]):=by
   intro bb hbb
   unfold u25
   rw [List.length_append]
   have hh:=i25a l c d N F i s k g
   rw [up1 (by omega)] at hh
   refine hh.trans ?_
   clear hh
   by_cases hb:s.b = 1
   ·obtain rfl:bb = true:=by rw [← hbb]; exact decide_eq_true hb
    exact BT (BT (BT (BT (BT (BT (BT rfl))))))
   ·obtain rfl:bb = false:=by rw [← hbb]; exact decide_eq_false hb
    exact BT (BT (BF (BT (BT (BT (BT rfl))))))
  refine Step.mk (A:=A16) (m:=0) none_ok rfl rfl loops0 2 (Nat.le_refl _) (go _ rfl) (by kernel_rfl) ?_
  refine .cons ⟨rfl,rfl,rfl,id,fun _ _=>rfl⟩ (.cons ⟨rfl,rfl,rfl,id,fun j hj=>?_⟩ .nil)
  show ((F ++ [psOf s.b d (s.l.getD k id0)]).getD j ps0).c = (bif ((0:Nat)+F.length).ble j&&j.blt ((0:Nat)+F.length+1) then [[T.int .u8 (s.l.getD k id0).y,T.int .i64 (s.l.getD k id0).n,T.bool (decide (s.b = 1)),T.int .u8 d]].getD (0+(j - (0+F.length))) [] else (F.getD j ps0).c)
  rw [Nat.zero_add,getD_app]
  by_cases q:j<F.length
  ·rw [if_pos q,show F.length.ble j = false from by rw [← Bool.not_eq_true,nble]; omega]; rfl
  ·rw [if_neg q,bleT (by omega)]
   by_cases q2:j = F.length
   ·subst q2
    rw [bltT (Nat.lt_succ_self _),Nat.sub_self]; rfl
   ·rw [show j.blt (F.length+1) = false from by rw [← Bool.not_eq_true,nblt]; omega,getD_out F ps0 (by omega),getD_out [_] ps0 (by simp; omega)]; rfl
 ·refine Last.mk0 (A:=A16) (m:=0) none_ok rfl rfl loops0 (h1:=[gB N g,pJ N (f ++ psS d s)]) (by simp) ?_ (.refl _)
  rw [← hS]
  have hh:=i25a l c d N (f ++ psS d s) i s s.l.length g
  refine hh.trans ?_
  clear hh
  exact BF rfl
theorem lp25b (l:List Slo) (c:Option Nat) (d:Int) (g:Nat->Idd) (h1:l.length<=1000000) (hN:(hel l).length<=1000000):LoopOk P16 G16 (A16 25) 25 4 (litS (v25 l c d (hel l).length [] 0) [gB (hel l).length g,pJ (hel l).length []] (.exit 0) [.int .u8 d,.own 1 0 0 (hel l).length (some (hel l).length)] [gB (hel l).length g,pJ (hel l).length (psA d l)]):=by
 refine loop_steps hm16 (by kernel_rfl) (fun i=>v25 l c d (hel l).length (psA d (l.take i)) i) (fun i=>[gB (hel l).length g,pJ (hel l).length (psA d (l.take i))]) (n:=l.length) (fun i hi=>?_) ?_
 ·have e:=psA_take d l hi
  have hle:=psA_le d l (i+1)
  have t1:=lp25a l c d (hel l).length (psA d (l.take i)) i (l.getD i sl0) g (by rw [e,List.length_append] at hle; simpa [psS] using hle) hN
  rw [← e] at t1
  refine Step.mk0 (A:=A16) (m:=0) none_ok rfl rfl (loops1 t1) (h1:=[gB (hel l).length g,pJ (hel l).length (psA d (l.take (i+1)))]) ?_ (.refl _)
  rw [i25b,up1 (by omega)]
  refine BT (BT (bift (weakF_of ⟨rfl,.refl _⟩) rfl))
 ·refine Last.mk0 (A:=A16) (m:=0) none_ok rfl rfl loops0 (h1:=[gB (hel l).length g,pJ (hel l).length (psA d l)]) (by simp) ?_ (.refl _)
  rw [List.take_length,i25c,psA_len]
  exact BF rfl
def pastF (d:Int) (l:List Slo):List Pss:=if d = 1 then psA d l else (psA d l).reverse
theorem pastT (l:List Slo) (c:Option Nat) (d:Int) (h1:l.length<=1000000) (hN:(hel l).length<=1000000):ToldOk P16 G16 25 [slV l c,.int .u8 d] (.fresh true 4 (hel l).length (fun j=>((pastF d l).getD j ps0).c) (hel l).length (some (hel l).length)):=by
 obtain ⟨p,hp⟩:=is_val P16 G16 46
 obtain ⟨q,hq⟩:=is_ref P16 G16 52
 have t1:=heldT l c h1 hN
 have l1:=lp25b l c d (fun j=>(hel l).getD j id0) h1 hN
 have t2:=revT (hel l).length (fun j=>(psA d l).getD j ps0) hN
 have t3:=t2.frame (h:=[gB (hel l).length (fun j=>(hel l).getD j id0),pJ (hel l).length (psA d l)]) (i:=1) (d:=0) rfl rfl rfl rfl rfl rfl rfl
 have e3:∀ e,e<(hel l).length->(psA d l).getD ((hel l).length - 1 - e) ps0 = (psA d l).reverse.getD e ps0:=fun e he=>by
  have hl:=psA_len d l
  rw [List.getD_eq_getElem?_getD,List.getD_eq_getElem?_getD,List.getElem?_reverse (by omega),hl]
 have t:ToldOk P16 G16 25 [slV l c,.int .u8 d] (.fresh true 4 (hel l).length (fun j=>(if d = 1 then (psA d l).getD (0+j) ps0 else (psA d l).getD ((hel l).length - 1 - (0+j)) ps0).c) (hel l).length (some (hel l).length)):=by
  clear e3
  generalize hel l = H at *
  generalize psA d l = F at *
  refine stepL_told hm16 hn16 (told_add (told_addRef none_ok (refF_told hq)) (callF_told hp)) (K:=K25 p q H.length (fun j=>H.getD j id0) (fun j=>F.getD (H.length - 1 - j) ps0)) (A:=A16) (m:=0) (by kernel_rfl) (loops1 l1) ?_
  rw [k25]
  refine bift (callF_yes hp t1) ?_
  refine BT ?_
  refine bift (weakF_of ⟨rfl,.refl _⟩) ?_
  by_cases hd:d = 1
  ·refine biff (by simp [hd]) ?_
   rw [Nat.zero_add,bleT (Nat.le_refl _)]
   simp only [if_pos hd]
   rfl
  ·refine bift (by simp [hd]) ?_
   refine bift (refF_yes hq t3) ?_
   rw [Nat.zero_add,bleT (Nat.le_refl _)]
   simp only [if_neg hd]
   rfl
 refine t.resTo (.fresh (Nat.le_refl _) (Nat.le_refl _) (fun m hm=>by obtain rfl:=Option.some.inj hm; exact Nat.le_refl _) fun j hj=>?_)
 unfold pastF
 rw [Nat.zero_add]
 by_cases hd:d = 1
 ·rw [if_pos hd,if_pos hd]
 ·rw [if_neg hd,if_neg hd,e3 j hj]
open Go.Proofs
def stiOf:List T->Sti
 | [.int .u8 k,.int .u8 y,.int .i64 a,.int .i64 b,.bool f]=>⟨k,y,a,b,f⟩
 | _=>⟨0,0,0,0,false⟩
def stiB:List T->Bool
 | [.int .u8 _,.int .u8 _,.int .i64 _,.int .i64 _,.bool _]=>true
 | _=>false
theorem stiB_c {l:List T} (h:stiB l = true):l = (stiOf l).c:=by
 unfold stiB at h
 split at h
 ·rfl
 ·cases h
theorem cont114g (g:Nat->List T) (n:Nat) (c:Option Nat) (y:Int) (hn:n<=1000000) (hg:∀ j,j<n->stiB (g j) = true):ToldOk P16 G16 114 [.view 5 n g c,us113 y] (.bool (usB (fun j=>stiOf (g j)) n y)) :=
 (cont114 (fun j=>stiOf (g j)) n c y hn).sim (.cons (.view (.inl rfl) fun j hj=>by rw [← stiB_c (hg j hj)]; exact .refl _) (.refl _))
def lu (us:Int->Bool) (k:Nat):List Int:=((List.range k).map fun (i:Nat)=>(i:Int)+1).filter us
theorem lu_succ (us:Int->Bool) (k:Nat):lu us (k+1) = if us ((k:Int)+1) = true then lu us k ++ [(k:Int)+1] else lu us k:=by
 unfold lu
 rw [List.range_succ,List.map_append,List.filter_append]
 by_cases h:us ((k:Int)+1) = true
 ·rw [if_pos h]; simp [h]
 ·rw [if_neg h]; simp [h]
theorem lu_split (us:Int->Bool) {k:Nat} (hu:us ((k:Int)+1) = true):∀ m,k<m->∃ r,lu us m = lu us k ++ ((k:Int)+1) :: r
 | 0,h=>by omega
 | m+1,h=>by
  rcases Nat.lt_or_ge k m with q | q
  ·obtain ⟨r,hr⟩:=lu_split us hu m q
   rw [lu_succ]
   split
   ·exact ⟨r ++ [(m:Int)+1],by rw [hr]; simp⟩
   ·exact ⟨r,hr⟩
  ·obtain rfl:k = m:=by omega
   rw [lu_succ,if_pos hu]
   exact ⟨[],rfl⟩
def bx:Nat->Nat->List T
 | 0,e=>[.int .u8 (bif e==0 then 1 else 0)]
 | k+1,e=>[.int .u8 (bif e==0 then Int.ofNat (k+2) else bif e==0 then Int.ofNat (k+1) else 0)]
def hx112 (k:Nat):Heap:=(List.range (k+1)).map fun i=>⟨0,1,1,bx i,true,false,none⟩
def v112 (l:Nat) (row:T) (k:Nat):List T:=[.yld l,.vp [row],.ptr k 0 0 0]
noncomputable def K112 (p:List T->T->Prop) (b:Bool):Orc:=noneO.add 114 (callF p fun _=>some (.bool b))
theorem seq112 (g:Nat->List T) (n:Nat) (c:Option Nat) (us:Int->Bool) (hus:∀ y,ToldOk P16 G16 114 [.view 5 n g c,us113 y] (.bool (us y))):SeqTold P16 G16 112 [.vp [.view 5 n g c]] (lu us 6).length (fun i=>[.int .u8 ((lu us 6).getD i 0)]):=by
 obtain ⟨p,hp⟩:=is_val P16 G16 114
 have hK:∀ b,OrcOk P16 G16 (K112 p b):=fun b=>told_add none_ok (callF_told hp)
 refine seq_told (prom:=[]) Tryz.func112 rfl (by kernel_rfl) (by kernel_rfl) (by decide +kernel) (Nat.le_of_ble_eq_true (by kernel_rfl)) fun l R J Jx hJ hJx hy X g0 w W hi=>?_
 refine wpIn_seq ?_
 refine It.exk (m:=0) (l:=[0,1]) (vs:=[.yld l,.vp [.view 5 n g c]]) (h:=[]) (l':=[0,1,3]) (vs':=v112 l (.view 5 n g c) 0) (h':=hx112 0) (e:=.normal) hm16 none_ok (by decide +kernel) (by kernel_rfl) (by kernel_rfl) (hJ 0) (hi.only _) fun X1 g1 a1 W1 hi1=>?_
 refine wpIn_block ?_
 refine wpIn_loop_num (fun m a' W=>∃ (k:Nat) (X:Nat->Prop) (gg:Gh),k<=6/\m = 6 - k/\It G16 [] Tryz.f112.ntmps R (J (lu us k).length) X gg (mkSt [0,1,3] (v112 l (.view 5 n g c) k) (hx112 k)) a' W) (fun m a' W hI=>?_) 6 a1 W1 ⟨0,X1,g1,by omega,by omega,hi1⟩
 obtain ⟨k,X5,g5,hkn,rfl,hi5⟩:=hI
 refine wpIn_seq ?_
 rcases Nat.lt_or_ge k 6 with hk6 | hk6
 ·have hkey:=hus ((k:Int)+1)
  have six:k = 0 ∨ k = 1 ∨ k = 2 ∨ k = 3 ∨ k = 4 ∨ k = 5:=by omega
  refine It.exk (m:=0) (l:=[0,1,3]) (vs:=v112 l (.view 5 n g c) k) (h:=hx112 k) (l':=[0,1,3]) (vs':=v112 l (.view 5 n g c) k) (h':=hx112 k) (e:=.normal) hm16 none_ok (by decide +kernel) (by rcases six with rfl | rfl | rfl | rfl | rfl | rfl <;> kernel_rfl) (by kernel_rfl) (hJ _) hi5 fun X6 g6 a6 W6 hi6=>?_
  refine wpIn_seq ?_
  refine wpIn_block ?_
  refine wpIn_seq ?_
  refine It.exk (m:=0) (l:=[0,1,3]) (vs:=v112 l (.view 5 n g c) k) (h:=hx112 k) (l':=[0,1,3,4]) (vs':=v112 l (.view 5 n g c) k ++ [.fn 113 [.ptr k 0 0 0]]) (h':=hx112 k) (e:=.normal) hm16 none_ok (by decide +kernel) (by rcases six with rfl | rfl | rfl | rfl | rfl | rfl <;> kernel_rfl) (by kernel_rfl) (hJ _) hi6 fun X7 g7 a7 W7 hi7=>?_
  refine wpIn_seq ?_
  cases hu:us ((k:Int)+1) with
  | false =>
   rw [hu] at hkey
   have eq:lu us (k+1) = lu us k:=by rw [lu_succ,if_neg (by rw [hu]; simp)]
   refine It.exk (m:=0) (K:=K112 p false) (l:=[0,1,3,4]) (vs:=v112 l (.view 5 n g c) k ++ [.fn 113 [.ptr k 0 0 0]]) (h:=hx112 k) (l':=[0,1,3,18]) (vs':=v112 l (.view 5 n g c) k ++ [.bool false]) (h':=hx112 k) (e:=.normal) hm16 (hK false) (by decide +kernel) (Eq.trans (b:=bif decF (p [(.view 5 n g c),us113 ((k:Int)+1)] (.bool false)) then some (.normal,v112 l (.view 5 n g c) k ++ [.bool false],hx112 k) else none) (by rcases six with rfl | rfl | rfl | rfl | rfl | rfl <;> kernel_rfl) (bift (callF_yes hp hkey) rfl)) (by kernel_rfl) (hJ _) hi7 fun X8 g8 a8 W8 hi8=>?_
   refine It.exk (m:=0) (l:=[0,1,3,18]) (vs:=v112 l (.view 5 n g c) k ++ [.bool false]) (h:=hx112 k) (l':=[0,1,3]) (vs':=v112 l (.view 5 n g c) k) (h':=hx112 k) (e:=.normal) hm16 none_ok (by decide +kernel) (by rcases six with rfl | rfl | rfl | rfl | rfl | rfl <;> kernel_rfl) (by kernel_rfl) (hJ _) hi8 fun X9 g9 a9 W9 hi9=>?_
   refine It.exk (m:=0) (l:=[0,1,3]) (vs:=v112 l (.view 5 n g c) k) (h:=hx112 k) (l':=[0,1,3]) (vs':=v112 l (.view 5 n g c) (k+1)) (h':=hx112 (k+1)) (e:=.normal) hm16 none_ok (by decide +kernel) (by rcases six with rfl | rfl | rfl | rfl | rfl | rfl <;> kernel_rfl) (by kernel_rfl) (hJ _) hi9 fun X10 g10 a10 W10 hi10=>?_
   exact ⟨6 - (k+1),by omega,k+1,X10,g10,by omega,rfl,by rw [eq]; exact hi10⟩
  | true =>
   rw [hu] at hkey
   obtain ⟨r,hr⟩:=lu_split us hu 6 hk6
   have eq:(lu us (k+1)).length = (lu us k).length+1:=by rw [lu_succ,if_pos hu]; simp
   have hlen:(lu us k).length<(lu us 6).length:=by rw [hr]; simp
   have hget:(lu us 6).getD (lu us k).length 0 = (k:Int)+1:=by rw [hr]; simp
   refine It.yield (K:=K112 p true) (k:=6) (l:=[0,1,3,4]) (l':=[0,1,3,18]) (vs:=v112 l (.view 5 n g c) k ++ [.fn 113 [.ptr k 0 0 0]]) (h:=hx112 k) (hT:=hx112 k) (hF:=hx112 k)
    (vsT:=v112 l (.view 5 n g c) k ++ [.bool false]) (vsF:=v112 l (.view 5 n g c) k ++ [.bool true]) (hK true) (l0:=l) (xs:=[.int .u8 ((k:Int)+1)]) (Eq.trans (b:=bif decF (p [(.view 5 n g c),us113 ((k:Int)+1)] (.bool true)) then some (l,[.int .u8 ((k:Int)+1)],(v112 l (.view 5 n g c) k ++ [.bool false],hx112 k),(v112 l (.view 5 n g c) k ++ [.bool true],hx112 k)) else none) (by rcases six with rfl | rfl | rfl | rfl | rfl | rfl <;> kernel_rfl) (bift (callF_yes hp hkey) rfl)) rfl (hJ _) (hJ ((lu us k).length+1)) (hJx (lu us k).length) hi7 (fun X W args hj hpp=>hy (lu us k).length X W args hlen hj (by rw [hget]; exact hpp)) (fun X8 g8 a8 W8 hi8=>?_) (fun X8 g8 a8 W8 hi8=>?_)
   ·refine It.exk (m:=0) (l:=[0,1,3,18]) (vs:=v112 l (.view 5 n g c) k ++ [.bool false]) (h:=hx112 k) (l':=[0,1,3]) (vs':=v112 l (.view 5 n g c) k) (h':=hx112 k) (e:=.normal) hm16 none_ok (by decide +kernel) (by rcases six with rfl | rfl | rfl | rfl | rfl | rfl <;> kernel_rfl) (by kernel_rfl) (hJ _) hi8 fun X9 g9 a9 W9 hi9=>?_
    refine It.exk (m:=0) (l:=[0,1,3]) (vs:=v112 l (.view 5 n g c) k) (h:=hx112 k) (l':=[0,1,3]) (vs':=v112 l (.view 5 n g c) (k+1)) (h':=hx112 (k+1)) (e:=.normal) hm16 none_ok (by decide +kernel) (by rcases six with rfl | rfl | rfl | rfl | rfl | rfl <;> kernel_rfl) (by kernel_rfl) (hJ _) hi9 fun X10 g10 a10 W10 hi10=>?_
    exact ⟨6 - (k+1),by omega,k+1,X10,g10,by omega,rfl,by rw [eq]; exact hi10⟩
   ·refine It.exk (m:=0) (l:=[0,1,3,18]) (vs:=v112 l (.view 5 n g c) k ++ [.bool true]) (h:=hx112 k) (l':=[]) (vs':=[]) (h':=hx112 k) (e:=.ret) hm16 none_ok (by decide +kernel) (by rcases six with rfl | rfl | rfl | rfl | rfl | rfl <;> kernel_rfl) (by kernel_rfl) (hJx _) hi8 fun X10 g10 a10 W10 hi10=>?_
    exact ⟨.inr rfl,X10,g10,_,.inr ⟨_,hlen,hi10⟩⟩
 ·obtain rfl:k = 6:=by omega
  refine It.exk (m:=0) (l:=[0,1,3]) (vs:=v112 l (.view 5 n g c) 6) (h:=hx112 6) (l':=[]) (vs':=[]) (h':=hx112 6) (e:=.exit 0) hm16 none_ok (by decide +kernel) (by kernel_rfl) (by kernel_rfl) (hJ _) hi5 fun X6 g6 a6 W6 hi6=>?_
  exact ⟨.inl rfl,X6,g6,_,.inl hi6⟩
def sq16:FuncId->List T->Option (List (List T)):=fun f caps=>bif f==112 then match caps with
 | [.vp [.view 5 n g _]]=>bif Nat.ble n 1000&&(List.range n).all (fun j=>stiB (g j)) then some ((lu (usB (fun j=>stiOf (g j)) n) 6).map fun y=>[.int .u8 y]) else none
 | _=>none else none
theorem sq16_ok:SeqsOk P16 G16 sq16:=fun gf caps l h=>by
 unfold sq16 at h
 obtain ⟨hf,h3⟩:=bif_none h
 obtain rfl:gf = 112:=by simpa using hf
 split at h3
 ·rename_i n g c
  obtain ⟨hc,h4⟩:=bif_none h3
  have hc2:Nat.ble n 1000 = true/\(List.range n).all (fun j=>stiB (g j)) = true:=by simpa only [Bool.and_eq_true] using hc
  have h1:=hc2.1
  have h2:∀ j,j<n->stiB (g j) = true:=fun j hj=>List.all_eq_true.1 hc2.2 j (List.mem_range.2 hj)
  obtain rfl:=Option.some.inj h4
  have key:=seq112 g n c (usB (fun j=>stiOf (g j)) n) fun y=>cont114g g n c y (by have:=ble_le h1; omega) h2
  rw [List.length_map]
  have e:(fun i=>(List.map (fun y=>[T.int .u8 y]) (lu (usB (fun j=>stiOf (g j)) n) 6)).getD i []) = fun i=>(if i<(lu (usB (fun j=>stiOf (g j)) n) 6).length then [T.int .u8 ((lu (usB (fun j=>stiOf (g j)) n) 6).getD i 0)] else []):=by
   funext i
   rw [List.getD_eq_getElem?_getD,List.getElem?_map,List.getD_eq_getElem?_getD]
   by_cases q:i<(lu (usB (fun j=>stiOf (g j)) n) 6).length
   ·rw [if_pos q,List.getElem?_eq_getElem q]; rfl
   ·rw [if_neg q,List.getElem?_eq_none (by omega)]; rfl
  rw [e]
  refine ⟨key.enters,fun w U lb hU hgl ha=>?_⟩
  have hit:=key.it w U lb hU hgl ha
  exact fun l J Jx hJ hJx hy W a b c=>hit l J Jx hJ hJx (fun i X W args hi hj hp=>hy i X W args hi hj (by dsimp only; rw [if_pos hi]; exact hp)) W a b c
 ·cases h3
end Go.Ab

