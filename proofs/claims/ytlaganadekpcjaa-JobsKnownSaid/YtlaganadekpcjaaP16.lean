/- A part of the proof: nothing is assumed. -/
import Derived.Test.YtlaganadekpcjaaP15
import Derived.Test.YtlaganadekpcjaaP14
import Derived.Test.YtlaganadekpcjaaP3
set_option linter.all false
namespace Go.Ab
open Go.Proofs
theorem slt_bd (L:JL) (hL:L.Ok) (m:Nat) (hab:∀ i,i<L.n->0<(abL (L.on i) m).length) (i:Nat) (hi:i<L.n):∃ (g:Nat) (f:Int),g<m/\slt L (oN L) m i = ((g:Int),f,f+L.tm (oN L i))/\0<=f/\f<=51300000:=by
 have hn:=hL.n
 have ho:=oN_lt (L:=L) hi
 obtain ⟨g,g1,g2,g3⟩:=gvR_some (plst L (oN L) m i) (L.tm (oN L i)) (L.af (oN L i)) (L.on (oN L i)) m (hab _ ho)
 have h2:=plst_bd hL (o:=oN L) (mm:=m) i (fun j hj=>oN_lt (by omega)) g g1
 have h3:=hL.af _ ho
 have h4:=maxB_ge (plst L (oN L) m i g) (L.af (oN L i))
 exact ⟨g,_,g1,g3,by omega,by omega⟩
theorem l19' (L:JL) (hL:L.Ok) (b:Bool) (m:Nat) (hm:1<=m/\m<=16) (hab:∀ i,i<L.n->0<(abL (L.on i) m).length) (t lg:Int) :
 LoopOk P41 G41 (A41 6) 6 19 (litS (v19' b L.n m t lg (oN L) (fun j=>(slt L (oN L) m j).1) (fun j=>(slt L (oN L) m j).2.1) (fun j=>(slt L (oN L) m j).2.2) 0 0) [jblk L,rb16 fun _=>0] (.exit 2) (e19' b m t lg (lstU L (oN L) m L.n)) [jblk L,rb16 (plst L (oN L) m L.n)]):=by
 have hn:=hL.n
 refine loop_steps hm41 (by kernel_rfl) (fun i=>v19' b L.n m t lg (oN L) (fun j=>(slt L (oN L) m j).1) (fun j=>(slt L (oN L) m j).2.1) (fun j=>(slt L (oN L) m j).2.2) (lstU L (oN L) m i) i) (fun i=>[jblk L,rb16 (plst L (oN L) m i)]) (n:=L.n) (fun i hi=>?_) ?_
 ·have ho:=oN_lt (L:=L) hi
  have ht:=hL.tm _ ho
  have hon:=hL.on _ ho
  obtain ⟨g,f,g1,g2,f0,f1⟩:=slt_bd L hL m hab i hi
  have hlst:=lstU_le L (oN L) m 60000000 (by omega) i (fun j hj=>by
   obtain ⟨g',f',_,q,_,q2⟩:=slt_bd L hL m hab j (by omega)
   have:=hL.tm _ (oN_lt (L:=L) (j:=j) (by omega))
   rw [q]; dsimp only; omega)
  have e1:lstU L (oN L) m (i+1) = maxB (lstU L (oN L) m i) (f+L.tm (oN L i)):=by
   show maxB (lstU L (oN L) m i) ((slt L (oN L) m i).2.1+L.tm (oN L i)) = _
   rw [g2]
  have e2:∀ k:Nat,plst L (oN L) m (i+1) k = if (k:Int) = g then f+L.tm (oN L i) else plst L (oN L) m i k:=by
   intro k
   show (if (k:Int) = (slt L (oN L) m i).1 then (slt L (oN L) m i).2.2 else _) = _
   rw [g2]
  rw [e1]
  have hl:=l24 (.bool b) (.own 0 0 0 L.n none) (.int .i64 t) (.int .i64 lg) (ov L.n (oN L) (some L.n)) (.view 4 L.n (sv4 (fun j=>(oN L j:Nat)) (fun j=>(slt L (oN L) m j).1) (fun j=>(slt L (oN L) m j).2.1) (fun j=>(slt L (oN L) m j).2.2)) (some L.n)) (.int .i64 (lstU L (oN L) m i)) (.int .i64 i) m hm.2 (L.tm (0+oN L i)) (L.du (0+oN L i)) (L.af (0+oN L i)) (L.on (0+oN L i)) (by rw [Nat.zero_add]; exact hon) (plst L (oN L) m i) (jblk L)
  have e3:gvR (plst L (oN L) m i) (L.tm (0+oN L i)) (L.af (0+oN L i)) (L.on (0+oN L i)) m = ((g:Int),f,f+L.tm (oN L i)):=by rw [Nat.zero_add]; exact g2
  rw [e3] at hl
  have y1e:(fun j=>(slt L (oN L) m j).1) i = (g:Int):=by show (slt L (oN L) m i).1 = _; rw [g2]
  have y2e:(fun j=>(slt L (oN L) m j).2.1) i = f:=by show (slt L (oN L) m i).2.1 = _; rw [g2]
  have y3e:(fun j=>(slt L (oN L) m j).2.2) i = f+L.tm (oN L i):=by show (slt L (oN L) m i).2.2 = _; rw [g2]
  generalize (fun j=>(slt L (oN L) m j).1) = y1 at *
  generalize (fun j=>(slt L (oN L) m j).2.1) = y2 at *
  generalize (fun j=>(slt L (oN L) m j).2.2) = y3 at *
  generalize lstU L (oN L) m i = l at *
  generalize plst L (oN L) m (i+1) = rd' at *
  generalize plst L (oN L) m i = rd at *
  generalize oN L = o at *
  have gg:g<16:=by omega
  have ew:IntKind.i64.wrap (f+L.tm (o i)) = f+L.tm (o i):=wr64 (by omega) (by omega)
  refine Step.mk0 (A:=A41) (m:=0) none_ok rfl rfl (loops1 hl) (h1:=[jblk L,⟨0,1,16,fun e=>[.int .i64 (bif e==g then f+L.tm (o i) else rd e)],true,false⟩]) (Eq.trans (show iterR P41 G41 A41 noneO 0 6 [(24,litS (v24 (.bool b) (.own 0 0 0 L.n none) (.int .i64 t) (.int .i64 lg) (ov L.n o (some L.n)) (.view 4 L.n (sv4 (fun j=>(o j:Nat)) y1 y2 y3) (some L.n)) (.int .i64 l) (.int .i64 i) m (L.tm (0+o i)) (L.du (0+o i)) (L.af (0+o i)) (L.on (0+o i)) (-1) 0 0) [jblk L,rb16 rd] (.exit 4) (e24 (.bool b) (.own 0 0 0 L.n none) (.int .i64 t) (.int .i64 lg) (ov L.n o (some L.n)) (.view 4 L.n (sv4 (fun j=>(o j:Nat)) y1 y2 y3) (some L.n)) (.int .i64 l) (.int .i64 i) m (L.tm (0+o i)) (L.du (0+o i)) (L.af (0+o i)) (L.on (0+o i)) (g:Nat) f) [jblk L,rb16 rd])] 19 (v19' b L.n m t lg o y1 y2 y3 l i) [jblk L,rb16 rd] =
(
 bif decide (Int.ofNat i<Int.ofNat L.n) then
 bif decide (0<=Int.ofNat i)&&decide (Int.ofNat i<Int.ofNat L.n) then
 bif decide (0<=Int.ofNat (o i))&&decide (Int.ofNat (o i)<Int.ofNat L.n) then
 bif ((0:Nat)+o i).blt L.n then
 bif weakF [.bool b,.own 0 0 0 L.n
 none,.int .i64 (.ofNat m),.int .i64 t,.int .i64 lg,ov L.n o (some L.n),.view 4 L.n (fun j=>[.int .i64 (.ofNat (o j)),.int .i64 (y1 j),.int .i64 (y2 j),.int .i64 (y3 j)]) (some L.n),.ptr 1 0 0 0,.int .i64 l,.int .i64 (.ofNat i),.reg [.int .i64 (L.tm (0+o i)),.int .i64 (L.du (0+o i)),.int .i64 (L.af (0+o i)),.int .u32 (L.on (0+o i))],.int .i64 (-1:Int),.int .i64 0,.int .i64 0] [.mk 0 4 L.n (fun j=>[.int .i64 (L.tm j),.int .i64 (L.du j),.int .i64 (L.af j),.int .u32 (L.on j)]) true false,.mk 0 1 16 (fun j=>[.int .i64 (rd j)]) true false] [.bool b,.own 0 0 0 L.n
 none,.int .i64 (.ofNat m),.int .i64 t,.int .i64 lg,ov L.n o (some L.n),.view 4 L.n (fun j=>[.int .i64 (.ofNat (o j)),.int .i64 (y1 j),.int .i64 (y2 j),.int .i64 (y3 j)]) (some L.n),.ptr 1 0 0 0,.int .i64 l,.int .i64 (.ofNat i),.reg [.int .i64 (L.tm (0+o i)),.int .i64 (L.du (0+o i)),.int .i64 (L.af (0+o i)),.int .u32 (L.on (0+o i))],.int .i64 (-1:Int),.int .i64 0,.int .i64 0] [.mk 0 4 L.n (fun j=>[.int .i64 (L.tm j),.int .i64 (L.du j),.int .i64 (L.af j),.int .u32 (L.on j)]) true false,.mk 0 1 16 (fun j=>[.int .i64 (rd j)]) true false] then
 bif decide (0<=Int.ofNat i)&&decide (Int.ofNat i<Int.ofNat L.n) then
 bif decide (0<=Int.ofNat i)&&decide (Int.ofNat i<Int.ofNat L.n) then
 bif decide (Int.ofNat (o i) = Int.ofNat (o i)) then
 bif decide (y1 i = Int.ofNat g) then
 bif decide (y2 i = f) then
 bif decide (y3 i = IntKind.i64.wrap (f+L.tm (0+o i))) then
 bif decide (0<=Int.ofNat g)&&decide (Int.ofNat g<16) then
 bif ((0:Nat)+g).blt 16&&[T.int .i64 (IntKind.i64.wrap (f+L.tm ((0:Nat)+o i)))].length==(1:Nat)&&true&&true then
 some ((.normal,[.bool b,.own 0 0 0 L.n
 none,.int .i64 (.ofNat m),.int .i64 t,.int .i64 lg,ov L.n o (some L.n),.view 4 L.n (fun j=>[.int .i64 (.ofNat (o j)),.int .i64 (y1 j),.int .i64 (y2 j),.int .i64 (y3 j)]) (some L.n),.ptr 1 0 0 0,.int .i64 (bif decide (l<IntKind.i64.wrap (f+L.tm (0+o i))) then IntKind.i64.wrap (f+L.tm (0+o i))
 else l),.int .i64 (IntKind.i64.wrap (Int.ofNat i+1))],[.mk 0 4 L.n (fun j=>[.int .i64 (L.tm j),.int .i64 (L.du j),.int .i64 (L.af j),.int .u32 (L.on j)]) true false,.mk 0 1 16 (fun e=>[.int .i64 (bif e==0+g then IntKind.i64.wrap (f+L.tm (0+o i))
 else rd e)]) true false]))
 else none else none else
 some ((.ret,[.bool b,.bool false,.int .i64 (.ofNat m),.int .i64 t,.int .i64 lg,.int .i64 l],[.mk 0 4 L.n (fun j=>[.int .i64 (L.tm j),.int .i64 (L.du j),.int .i64 (L.af j),.int .u32 (L.on j)]) true false,.mk 0 1 16 (fun j=>[.int .i64 (rd j)]) true false]))
 else
 some ((.ret,[.bool b,.bool false,.int .i64 (.ofNat m),.int .i64 t,.int .i64 lg,.int .i64 l],[.mk 0 4 L.n (fun j=>[.int .i64 (L.tm j),.int .i64 (L.du j),.int .i64 (L.af j),.int .u32 (L.on j)]) true false,.mk 0 1 16 (fun j=>[.int .i64 (rd j)]) true false]))
 else
 some ((.ret,[.bool b,.bool false,.int .i64 (.ofNat m),.int .i64 t,.int .i64 lg,.int .i64 l],[.mk 0 4 L.n (fun j=>[.int .i64 (L.tm j),.int .i64 (L.du j),.int .i64 (L.af j),.int .u32 (L.on j)]) true false,.mk 0 1 16 (fun j=>[.int .i64 (rd j)]) true false]))
 else
 some ((.ret,[.bool b,.bool false,.int .i64 (.ofNat m),.int .i64 t,.int .i64 lg,.int .i64 l],[.mk 0 4 L.n (fun j=>[.int .i64 (L.tm j),.int .i64 (L.du j),.int .i64 (L.af j),.int .u32 (L.on j)]) true false,.mk 0 1 16 (fun j=>[.int .i64 (rd j)]) true false]))
 else none else none else none else none else none else none else
 some ((.exit 2,[.bool b,.undef,.int .i64 (.ofNat m),.int .i64 t,.int .i64 lg,.int .i64 l],[.mk 0 4 L.n (fun j=>[.int .i64 (L.tm j),.int .i64 (L.du j),.int .i64 (L.af j),.int .u32 (L.on j)]) true false,.mk 0 1 16 (fun j=>[.int .i64 (rd j)]) true false]))) from by kernel_rfl) ?_) ?_
  ·refine bift (by simp only [ofNatE,decide_eq_true_eq]; omega) ?_
   refine bift (by simp only [ofNatE,Bool.and_eq_true,decide_eq_true_eq]; omega) ?_
   refine bift (by simp only [ofNatE,Bool.and_eq_true,decide_eq_true_eq]; omega) ?_
   refine bift (by rw [nblt]; omega) ?_
   refine bift (weakF_of ⟨rfl,.refl _⟩) ?_
   simp only [Nat.zero_add,ew,y1e,y2e,y3e]
   (repeat (first | (refine bift (by first | assumption | omega | (simp (disch:=omega) only [wr64,wr8,wr16,wr32,ofNatE,toNatE,toNatE1,Bool.and_eq_true,Bool.or_eq_true,Bool.not_eq_true',decide_eq_true_eq,decide_eq_false_iff_not,nble,nblt,nbeq,Nat.zero_add,Nat.add_zero,Int.zero_add,Int.add_zero,List.length_cons,List.length_nil,true_and,and_true,Nat.reduceAdd,and_self]; done) | (simp (disch:=omega) only [wr64,wr8,wr16,wr32,ofNatE,toNatE,toNatE1,Bool.and_eq_true,Bool.or_eq_true,Bool.not_eq_true',decide_eq_true_eq,decide_eq_false_iff_not,nble,nblt,nbeq,Nat.zero_add,Nat.add_zero,Int.zero_add,Int.add_zero,List.length_cons,List.length_nil,true_and,and_true,Nat.reduceAdd,and_self]; omega)) ?_) | (refine biff (by first | assumption | (simp (disch:=omega) only [wr64,wr8,wr16,wr32,ofNatE,toNatE,toNatE1,Bool.and_eq_true,Bool.or_eq_true,Bool.not_eq_true',decide_eq_true_eq,decide_eq_false_iff_not,nble,nblt,nbeq,Nat.zero_add,Nat.add_zero,Int.zero_add,Int.add_zero,List.length_cons,List.length_nil,true_and,and_true,Nat.reduceAdd,and_self]; done) | (simp (disch:=omega) only [wr64,wr8,wr16,wr32,ofNatE,toNatE,toNatE1,Bool.and_eq_true,Bool.or_eq_true,Bool.not_eq_true',decide_eq_true_eq,decide_eq_false_iff_not,nble,nblt,nbeq,Nat.zero_add,Nat.add_zero,Int.zero_add,Int.add_zero,List.length_cons,List.length_nil,true_and,and_true,Nat.reduceAdd,and_self]; omega)) ?_)))
   unfold maxB
   first | rfl | (simp (disch:=omega) only [wr64,wr8,wr16,wr32,ofNatE,Nat.zero_add,bleT,bltT,dT,dF,Bool.true_and,Bool.and_true,Bool.and_self,cond_true,cond_false,Nat.sub_zero,beq_self_eq_true]; done) | (simp (disch:=omega) only [wr64,wr8,wr16,wr32,ofNatE,Nat.zero_add,bleT,bltT,dT,dF,Bool.true_and,Bool.and_true,Bool.and_self,cond_true,cond_false,Nat.sub_zero,beq_self_eq_true]; rfl)
  ·refine .cons ⟨rfl,rfl,rfl,id,fun _ _=>rfl⟩ (.cons ⟨rfl,rfl,rfl,id,fun j hj=>?_⟩ .nil)
   show [T.int .i64 (rd' j)] = [.int .i64 (bif j==g then f+L.tm (o i) else rd j)]
   rw [e2 j]
   by_cases q:j = g
   ·subst q; simp
   ·rw [beq_eq_false_iff_ne.2 q,if_neg (by omega)]; rfl
 ·generalize lstU L (oN L) m L.n = l at *
  generalize plst L (oN L) m L.n = rd at *
  generalize (fun j=>(slt L (oN L) m j).1) = y1 at *
  generalize (fun j=>(slt L (oN L) m j).2.1) = y2 at *
  generalize (fun j=>(slt L (oN L) m j).2.2) = y3 at *
  generalize oN L = o at *
  refine Last.mk0 (A:=A41) (m:=0) none_ok rfl rfl loops0 (by simp) (h1:=[jblk L,rb16 rd]) (Eq.trans (show iterR P41 G41 A41 noneO 0 6 [] 19 (v19' b L.n m t lg o y1 y2 y3 l L.n) [jblk L,rb16 rd] =
(
 bif decide (Int.ofNat L.n<Int.ofNat L.n) then
 bif decide (0<=Int.ofNat L.n)&&decide (Int.ofNat L.n<Int.ofNat L.n) then
 bif decide (0<=Int.ofNat (o L.n))&&decide (Int.ofNat (o L.n)<Int.ofNat L.n) then
 bif ((0:Nat)+o L.n).blt L.n then none else none else none else none else
 some ((.exit 2,[.bool b,.undef,.int .i64 (.ofNat m),.int .i64 t,.int .i64 lg,.int .i64 l],[.mk 0 4 L.n (fun j=>[.int .i64 (L.tm j),.int .i64 (L.du j),.int .i64 (L.af j),.int .u32 (L.on j)]) true false,.mk 0 1 16 (fun j=>[.int .i64 (rd j)]) true false]))) from by kernel_rfl) ?_) (.refl _)
  (repeat (first | (refine bift (by first | assumption | omega | (simp (disch:=omega) only [wr64,wr8,wr16,wr32,ofNatE,toNatE,toNatE1,Bool.and_eq_true,Bool.or_eq_true,Bool.not_eq_true',decide_eq_true_eq,decide_eq_false_iff_not,nble,nblt,nbeq,Nat.zero_add,Nat.add_zero,Int.zero_add,Int.add_zero,List.length_cons,List.length_nil,true_and,and_true,Nat.reduceAdd,and_self]; done) | (simp (disch:=omega) only [wr64,wr8,wr16,wr32,ofNatE,toNatE,toNatE1,Bool.and_eq_true,Bool.or_eq_true,Bool.not_eq_true',decide_eq_true_eq,decide_eq_false_iff_not,nble,nblt,nbeq,Nat.zero_add,Nat.add_zero,Int.zero_add,Int.add_zero,List.length_cons,List.length_nil,true_and,and_true,Nat.reduceAdd,and_self]; omega)) ?_) | (refine biff (by first | assumption | (simp (disch:=omega) only [wr64,wr8,wr16,wr32,ofNatE,toNatE,toNatE1,Bool.and_eq_true,Bool.or_eq_true,Bool.not_eq_true',decide_eq_true_eq,decide_eq_false_iff_not,nble,nblt,nbeq,Nat.zero_add,Nat.add_zero,Int.zero_add,Int.add_zero,List.length_cons,List.length_nil,true_and,and_true,Nat.reduceAdd,and_self]; done) | (simp (disch:=omega) only [wr64,wr8,wr16,wr32,ofNatE,toNatE,toNatE1,Bool.and_eq_true,Bool.or_eq_true,Bool.not_eq_true',decide_eq_true_eq,decide_eq_false_iff_not,nble,nblt,nbeq,Nat.zero_add,Nat.add_zero,Int.zero_add,Int.add_zero,List.length_cons,List.length_nil,true_and,and_true,Nat.reduceAdd,and_self]; omega)) ?_)))
  first | rfl | (simp (disch:=omega) only [wr64,wr8,wr16,wr32,ofNatE,Nat.zero_add,bleT,bltT,dT,dF,Bool.true_and,Bool.and_true,Bool.and_self,cond_true,cond_false,Nat.sub_zero,beq_self_eq_true]; done) | (simp (disch:=omega) only [wr64,wr8,wr16,wr32,ofNatE,Nat.zero_add,bleT,bltT,dT,dF,Bool.true_and,Bool.and_true,Bool.and_self,cond_true,cond_false,Nat.sub_zero,beq_self_eq_true]; rfl)
theorem orderN (L:JL) (c:Option Nat) (hL:L.Ok):ToldOk P41 G41 10 [jv L c] (.tup [.new (iv L.n (ordI L) (some L.n)),.int .i64 0]):=by
 have k1:∀ a ∈ [[jv L c,.int .i64 1]],ToldOk P41 G41 19 a (.int .i64 0):=fun z h=>by obtain rfl:=List.mem_singleton.1 h; exact limT L c 1 hL (by omega)
 have k2:∀ a ∈ [[jv L c]],ToldOk P41 G41 20 a (.fresh true 1 L.n (fun j=>[.int .i64 (ordI L j)]) L.n (some L.n)):=fun z h=>by obtain rfl:=List.mem_singleton.1 h; exact byDueF L c hL
 have m1:=List.mem_singleton.2 (rfl:[jv L c,.int .i64 1] = _)
 have m2:=List.mem_singleton.2 (rfl:[jv L c] = _)
 generalize [[jv L c,.int .i64 1]] = l1 at k1 m1
 generalize [[jv L c]] = l2 at k2 m2
 generalize ordI L = x at *
 have:=(stepV_told (P:=P41) (Gl:=G41) (f:=10) (args:=[jv L c]) (r:=.tup [.fresh true 1 L.n (fun j=>[.int .i64 (x (0+j))]) L.n (some L.n),.int .i64 0]) (K:=KL l1 l2 (.fresh true 1 L.n (fun j=>[.int .i64 (x j)]) L.n (some L.n))) hm41 hn41 (told_add (told_add okK41a (callS_told k1)) (callS_told k2)) (A:=A41) (m:=0) ?_).frz
 ·rw [show (fun j=>[T.int .i64 (x (0+j))]) = fun j=>[T.int .i64 (x j)] from funext fun j=>by rw [Nat.zero_add]] at this
  exact this
 ·refine Eq.trans (show stepV P41 G41 A41 (KL l1 l2 (.fresh true 1 L.n (fun j=>[.int .i64 (x j)]) L.n (some L.n))) 0 10 [jv L c] =
(
 bif sameArgsF [jv L c,.int .i64 1] l1 then
 bif sameArgsF [jv L c] l2 then
 some (.tup [bif ((0:Nat)+L.n).ble L.n then .fresh true (1:Nat) (L.n - 0) (fun j=>[.int .i64 (x (0+j))]) L.n (some L.n)
 else .undef,.int .i64 0])
 else none else
 none) from by kernel_rfl) ?_
  refine bift (sameArgsF_iff.2 m1) ?_
  refine bift (sameArgsF_iff.2 m2) ?_
  first | rfl | (rw [show (Nat.ble (0+L.n) L.n) = true from bleT (by omega)]; rfl)
open Go.Proofs
noncomputable def K6 (p9 p10 p16 p12:List T->Prop) (xF:T) (n:Nat) (go sF:Nat->List T):Orc :=
 (((noneO.add 9 (callP p9 xF)).add 10 (callP p10 (.tup [.new (.view 1 n go (some n)),.int .i64 0]))).add 16 (callP p16 (.tup [.new (.view 4 n sF (some n)),.int .i64 0]))).add 12 (callP p12 (.bool true))
theorem em15 (u:Nat):IntKind.i64.wrap ((2:Int)+IntKind.i64.wrap ((Int.ofNat u).tmod (15:Int))) = ((2+u % 15:Nat):Int):=by
 rw [show (Int.ofNat u).tmod (15:Int) = ((u % 15:Nat):Int) from rfl,show IntKind.i64.wrap ((u % 15:Nat):Int) = ((u % 15:Nat):Int) from wr64 (by omega) (by omega),wr64 (by omega) (by omega)]
 omega
theorem mulB {x:Int} {m:Nat} {B:Int} (h:0<=x/\x<=B) (hm:m<=16):0<=x * (m:Int)/\x * (m:Int)<=B * 16:=by
 have h1:=Int.mul_nonneg h.1 (by omega:(0:Int)<=(m:Int))
 have h2:=Int.mul_le_mul h.2 (by omega:(m:Int)<=16) (by omega) (by omega:0<=B)
 exact ⟨h1,h2⟩
theorem law6p (R:JR) (c:Option Nat) (u:Nat) (b:Bool) (L:JL) (af2 on2:Nat->Int) (hn40:L.n<=40) (h9:ToldOk P41 G41 9 [R.v c] (.fresh true 4 L.n (jcl L) L.n none)) (hL:JL.Ok ⟨L.tm,L.du,af2,on2,L.n⟩)
 (hab:∀ i,i<L.n->0<(abL (on2 i) (2+u % 15)).length)
 (l5:LoopOk P41 G41 (A41 6) 6 5 (litS (v5 b L.n (2+u % 15:Nat) 0 0 0) [jblk L] (.exit 0) (e5 b L.n (2+u % 15:Nat) (totU ⟨L.tm,L.du,af2,on2,L.n⟩ L.n) (mxU ⟨L.tm,L.du,af2,on2,L.n⟩ L.n)) [jblk ⟨L.tm,L.du,af2,on2,L.n⟩]))
 (hfree:b = true->(∀ j,j<L.n->af2 j = 0)/\∀ j,j<L.n->on2 j = 0):ToldOk P41 G41 6 [R.v c,.int .u8 u,.bool b] (.bool true):=by
 have hm:1<=2+u % 15/\2+u % 15<=16:=by omega
 have h10:ToldOk P41 G41 10 [jv ⟨L.tm,L.du,af2,on2,L.n⟩ none] (.tup [.new (.view 1 L.n (fun j=>[.int .i64 (oN ⟨L.tm,L.du,af2,on2,L.n⟩ j:Nat)]) (some L.n)),.int .i64 0]):=orderN ⟨L.tm,L.du,af2,on2,L.n⟩ none hL
 have h16:ToldOk P41 G41 16 [jv ⟨L.tm,L.du,af2,on2,L.n⟩ none,.int .i64 (2+u % 15:Nat)] (.tup [.new (.view 4 L.n (sv4 (fun j=>(oN ⟨L.tm,L.du,af2,on2,L.n⟩ j:Nat)) (fun j=>(slt ⟨L.tm,L.du,af2,on2,L.n⟩ (oN ⟨L.tm,L.du,af2,on2,L.n⟩) (2+u % 15) j).1) (fun j=>(slt ⟨L.tm,L.du,af2,on2,L.n⟩ (oN ⟨L.tm,L.du,af2,on2,L.n⟩) (2+u % 15) j).2.1) (fun j=>(slt ⟨L.tm,L.du,af2,on2,L.n⟩ (oN ⟨L.tm,L.du,af2,on2,L.n⟩) (2+u % 15) j).2.2)) (some L.n)),.int .i64 0]):=PlanN ⟨L.tm,L.du,af2,on2,L.n⟩ none (2+u % 15) hL hm hab
 have hl:=l19' ⟨L.tm,L.du,af2,on2,L.n⟩ hL b (2+u % 15) hm hab (totU ⟨L.tm,L.du,af2,on2,L.n⟩ L.n) (mxU ⟨L.tm,L.du,af2,on2,L.n⟩ L.n)
 have hbound:b = true->lstU ⟨L.tm,L.du,af2,on2,L.n⟩ (oN ⟨L.tm,L.du,af2,on2,L.n⟩) (2+u % 15) L.n * ((2+u % 15:Nat):Int)<=totU ⟨L.tm,L.du,af2,on2,L.n⟩ L.n+mxU ⟨L.tm,L.du,af2,on2,L.n⟩ L.n * ((2+u % 15:Nat):Int):=fun hb=>plan_bound ⟨L.tm,L.du,af2,on2,L.n⟩ hL (2+u % 15) hm.1 (hfree hb).1 (hfree hb).2
 have ht:=totU_bd ⟨L.tm,L.du,af2,on2,L.n⟩ hL L.n (Nat.le_refl _)
 have hg:=mxU_nonneg ⟨L.tm,L.du,af2,on2,L.n⟩ hL L.n (Nat.le_refl _)
 have hlst:=lstU_le ⟨L.tm,L.du,af2,on2,L.n⟩ (oN ⟨L.tm,L.du,af2,on2,L.n⟩) (2+u % 15) 60000000 (by omega) L.n (fun j hj=>by
  obtain ⟨g',f',_,q,_,q2⟩:=slt_bd ⟨L.tm,L.du,af2,on2,L.n⟩ hL (2+u % 15) hab j hj
  have:=hL.tm _ (oN_lt (L:=⟨L.tm,L.du,af2,on2,L.n⟩) (j:=j) hj)
  rw [q]; dsimp only at *; omega)
 generalize (fun j=>(slt ⟨L.tm,L.du,af2,on2,L.n⟩ (oN ⟨L.tm,L.du,af2,on2,L.n⟩) (2+u % 15) j).1) = y1 at *
 generalize (fun j=>(slt ⟨L.tm,L.du,af2,on2,L.n⟩ (oN ⟨L.tm,L.du,af2,on2,L.n⟩) (2+u % 15) j).2.1) = y2 at *
 generalize (fun j=>(slt ⟨L.tm,L.du,af2,on2,L.n⟩ (oN ⟨L.tm,L.du,af2,on2,L.n⟩) (2+u % 15) j).2.2) = y3 at *
 generalize lstU ⟨L.tm,L.du,af2,on2,L.n⟩ (oN ⟨L.tm,L.du,af2,on2,L.n⟩) (2+u % 15) L.n = lst at *
 generalize plst ⟨L.tm,L.du,af2,on2,L.n⟩ (oN ⟨L.tm,L.du,af2,on2,L.n⟩) (2+u % 15) L.n = rd at *
 generalize totU ⟨L.tm,L.du,af2,on2,L.n⟩ L.n = t at *
 generalize mxU ⟨L.tm,L.du,af2,on2,L.n⟩ L.n = lg at *
 generalize oN ⟨L.tm,L.du,af2,on2,L.n⟩ = o at *
 obtain ⟨p9,e9⟩:=told_pred P41 G41 9 (.fresh true 4 L.n (jcl L) L.n none)
 obtain ⟨p10,e10⟩:=told_pred P41 G41 10 (.tup [.new (.view 1 L.n (fun j=>[.int .i64 (o j:Nat)]) (some L.n)),.int .i64 0])
 obtain ⟨p16,e16⟩:=told_pred P41 G41 16 (.tup [.new (.view 4 L.n (sv4 (fun j=>(o j:Nat)) y1 y2 y3) (some L.n)),.int .i64 0])
 obtain ⟨p12,e12⟩:=told_pred P41 G41 12 (.bool true)
 refine stepL_told hm41 hn41 (K:=K6 p9 p10 p16 p12 (.fresh true 4 L.n (jcl L) L.n none) L.n (fun j=>[.int .i64 (o j:Nat)]) (sv4 (fun j=>(o j:Nat)) y1 y2 y3)) (told_add (told_add (told_add (told_add none_ok (callP_told (told_predT e9))) (callP_told (told_predT e10))) (callP_told (told_predT e16))) (callP_told (told_predT e12))) (A:=A41) (m:=0) (by kernel_rfl) (loopsC l5 (loops1 hl)) ?_
 refine Eq.trans (show stepL P41 G41 A41 (K6 p9 p10 p16 p12 (.fresh true 4 L.n (jcl L) L.n none) L.n (fun j=>[.int .i64 (o j:Nat)]) (sv4 (fun j=>(o j:Nat)) y1 y2 y3)) 0 6 [(5,litS (v5 b L.n (2+u % 15:Nat) 0 0 0) [jblk L] (.exit 0) (e5 b L.n (2+u % 15:Nat) t lg) [jblk ⟨L.tm,L.du,af2,on2,L.n⟩]),(19,litS (v19' b L.n (2+u % 15:Nat) t lg o y1 y2 y3 0 0) [jblk ⟨L.tm,L.du,af2,on2,L.n⟩,rb16 fun _=>0] (.exit 2) (e19' b (2+u % 15:Nat) t lg lst) [jblk ⟨L.tm,L.du,af2,on2,L.n⟩,rb16 rd])] [R.v c,.int .u8 u,.bool b] =
(
 bif propF p9 [.view 4 R.n (fun j=>[.int .u8 (.ofNat (R.t j)),.int .u8 (.ofNat (R.d j)),.int .u8 (.ofNat (R.a j)),.int .u8 (.ofNat (R.o j))]) c] then
 bif weakF [.bool b,.own 0 0 0 L.n
 none,.int .i64 (IntKind.i64.wrap (2+IntKind.i64.wrap ((Int.ofNat u).tmod 15))),.int .i64 0,.int .i64 0,.int .i64 0] [.mk 0 4 L.n (fun j=>[.int .i64 (L.tm j),.int .i64 (L.du j),.int .i64 (L.af j),.int .u32 (L.on j)]) true false] [.bool b,.own 0 0 0 L.n
 none,.int .i64 (.ofNat (2+u % (15:Nat))),.int .i64 0,.int .i64 0,.int .i64 0] [.mk 0 4 L.n (fun j=>[.int .i64 (L.tm j),.int .i64 (L.du j),.int .i64 (L.af j),.int .u32 (L.on j)]) true false] then
 bif propF p10 [bif ((0:Nat)+L.n).ble L.n then .view 4 L.n (fun j=>[.int .i64 (L.tm (0+j)),.int .i64 (L.du (0+j)),.int .i64 (af2 (0+j)),.int .u32 (on2 (0+j))]) none else .undef] then
 bif propF p16 [bif ((0:Nat)+L.n).ble L.n then .view 4 L.n (fun j=>[.int .i64 (L.tm (0+j)),.int .i64 (L.du (0+j)),.int .i64 (af2 (0+j)),.int .u32 (on2 (0+j))]) none else .undef,.int .i64 (.ofNat (2+u % (15:Nat)))] then
 bif !decide (Int.ofNat L.n = Int.ofNat L.n) then
 some (.bool false)
 else
 bif !decide (Int.ofNat L.n = Int.ofNat L.n) then
 some (.bool false)
 else
 bif weakF [.bool b,.own 0 0 0 L.n
 none,.int .i64 (.ofNat (2+u % (15:Nat))),.int .i64 t,.int .i64 lg,ov L.n o (some L.n),.view 4 L.n (fun j=>[.int .i64 (.ofNat (o j)),.int .i64 (y1 j),.int .i64 (y2 j),.int .i64 (y3 j)]) (some L.n),.ptr [Blk.mk 0 4 L.n (fun j=>[T.int .i64 (L.tm j),T.int .i64 (L.du j),T.int .i64 (af2 j),T.int .u32 (on2 j)]) true false].length (0:Nat) (0:Nat) (0:Nat),.int .i64 0,.int .i64 0] [.mk 0 4 L.n (fun j=>[.int .i64 (L.tm j),.int .i64 (L.du j),.int .i64 (af2 j),.int .u32 (on2 j)]) true false,.mk 0 1 16 (fun x=>[.int .i64 0]) true false] [.bool b,.own 0 0 0 L.n
 none,.int .i64 (.ofNat (2+u % (15:Nat))),.int .i64 t,.int .i64 lg,ov L.n o (some L.n),.view 4 L.n (fun j=>[.int .i64 (.ofNat (o j)),.int .i64 (y1 j),.int .i64 (y2 j),.int .i64 (y3 j)]) (some L.n),.ptr 1 0 0 0,.int .i64 0,.int .i64 0] [.mk 0 4 L.n (fun j=>[.int .i64 (L.tm j),.int .i64 (L.du j),.int .i64 (af2 j),.int .u32 (on2 j)]) true false,.mk 0 1 16 (fun j=>[.int .i64 0]) true false] then
 bif b then
 bif decide (IntKind.i64.wrap (lst * Int.ofNat (2+u % (15:Nat)))<=IntKind.i64.wrap (t+IntKind.i64.wrap (lg * Int.ofNat (2+u % (15:Nat))))) then
 bif propF p12 [] then
 some (.bool true)
 else none else
 some (.bool false)
 else
 bif propF p12 [] then
 some (.bool true)
 else none else none else none else none else none else
 none) from by kernel_rfl) ?_
 rw [em15,show Nat.ble (0+L.n) L.n = true from bleT (by omega)]
 simp only [Nat.zero_add,cond_true]
 refine bift (pred_yes e9 h9) ?_
 refine bift (weakF_of ⟨rfl,.refl _⟩) ?_
 refine bift (pred_yes e10 h10) ?_
 refine bift (pred_yes e16 h16) ?_
 refine biff (by simp) ?_
 refine biff (by simp) ?_
 refine bift (weakF_of ⟨rfl,.refl _⟩) ?_
 have b1:=mulB (m:=2+u % 15) hlst hm.2
 have b2:=mulB (m:=2+u % 15) hg hm.2
 cases b with
 | false=>exact biff (by simp) (bift (pred_yes e12 livesT) rfl)
 | true =>
  refine bift rfl (bift (dT ?_) (bift (pred_yes e12 livesT) rfl))
  have h:=hbound rfl
  rw [ofNatE]
  generalize lst * ((2+u % 15:Nat):Int) = z1 at *
  generalize lg * ((2+u % 15:Nat):Int) = z2 at *
  rw [wr64 (x:=z1) (by omega) (by omega),wr64 (x:=z2) (by omega) (by omega),wr64 (x:=t+z2) (by omega) (by omega)]
  exact h
theorem totU_same (L L2:JL) (h:L2.tm = L.tm):∀ i,totU L2 i = totU L i:=by
 intro i
 induction i with
 | zero=>rfl
 | succ i ih=>simp only [totU,ih,h]
theorem mxU_same (L L2:JL) (h:L2.tm = L.tm):∀ i,mxU L2 i = mxU L i:=by
 intro i
 induction i with
 | zero=>rfl
 | succ i ih=>simp only [mxU,ih,h]
theorem law6z (R:JR) (c:Option Nat) (u:Nat) (b:Bool) (h0:Nat.min R.n 40 = 0):ToldOk P41 G41 6 [R.v c,.int .u8 u,.bool b] (.bool true):=by
 have h9:=listZ R c h0
 have hL:JL.Ok ⟨fun _=>1,fun _=>0,fun _=>0,fun _=>0,0⟩:=⟨(by decide),(fun j hj=>by cases hj),(fun j hj=>by cases hj),(fun j hj=>by cases hj),(fun j hj=>by cases hj)⟩
 have h10:=orderN ⟨fun _=>1,fun _=>0,fun _=>0,fun _=>0,0⟩ none hL
 have h16:=PlanN ⟨fun _=>1,fun _=>0,fun _=>0,fun _=>0,0⟩ none (2+u % 15) hL (by omega) (fun i hi=>by cases hi)
 have h10:ToldOk P41 G41 10 [.nils] (.tup [.new (.view 1 0 (fun j=>[.int .i64 (ordI ⟨fun _=>1,fun _=>0,fun _=>0,fun _=>0,0⟩ j)]) (some 0)),.int .i64 0]):=h10.sim (.cons (.nilv _ _ (.inl rfl)) .nil)
 have h16:ToldOk P41 G41 16 [.nils,.int .i64 (2+u % 15:Nat)] (.tup [.new (.view 4 0 (scells ⟨fun _=>1,fun _=>0,fun _=>0,fun _=>0,0⟩ (oN ⟨fun _=>1,fun _=>0,fun _=>0,fun _=>0,0⟩) (2+u % 15)) (some 0)),.int .i64 0]):=h16.sim (.cons (.nilv _ _ (.inl rfl)) (.cons (.refl _) .nil))
 generalize (fun j=>[T.int .i64 (ordI ⟨fun _=>1,fun _=>0,fun _=>0,fun _=>0,0⟩ j)]) = go at *
 generalize scells ⟨fun _=>1,fun _=>0,fun _=>0,fun _=>0,0⟩ (oN ⟨fun _=>1,fun _=>0,fun _=>0,fun _=>0,0⟩) (2+u % 15) = gs at *
 obtain ⟨p9,e9⟩:=told_pred P41 G41 9 .nils
 obtain ⟨p10,e10⟩:=told_pred P41 G41 10 (.tup [.new (.view 1 0 go (some 0)),.int .i64 0])
 obtain ⟨p16,e16⟩:=told_pred P41 G41 16 (.tup [.new (.view 4 0 gs (some 0)),.int .i64 0])
 obtain ⟨p12,e12⟩:=told_pred P41 G41 12 (.bool true)
 refine stepL_told hm41 hn41 (K:=K6 p9 p10 p16 p12 .nils 0 go gs) (told_add (told_add (told_add (told_add none_ok (callP_told (told_predT e9))) (callP_told (told_predT e10))) (callP_told (told_predT e16))) (callP_told (told_predT e12))) (A:=A41) (m:=1) (by kernel_rfl) loops0 ?_
 refine Eq.trans (show stepL P41 G41 A41 (K6 p9 p10 p16 p12 .nils 0 go gs) 1 6 [] [R.v c,.int .u8 u,.bool b] =
(
 bif propF p9 [.view 4 R.n (fun j=>[.int .u8 (.ofNat (R.t j)),.int .u8 (.ofNat (R.d j)),.int .u8 (.ofNat (R.a j)),.int .u8 (.ofNat (R.o j))]) c] then
 bif propF p10 [.nils] then
 bif propF p16 [.nils,.int .i64 (IntKind.i64.wrap (2+IntKind.i64.wrap ((Int.ofNat u).tmod 15)))] then
 bif b then
 bif decide (IntKind.i64.wrap (0 * IntKind.i64.wrap (2+IntKind.i64.wrap ((Int.ofNat u).tmod 15)))<=IntKind.i64.wrap (0+IntKind.i64.wrap (0 * IntKind.i64.wrap (2+IntKind.i64.wrap ((Int.ofNat u).tmod 15))))) then
 bif propF p12 [] then
 some (.bool true)
 else none else
 some (.bool false)
 else
 bif propF p12 [] then
 some (.bool true)
 else none else none else none else
 none) from by kernel_rfl) ?_
 simp only [em15]
 refine bift (pred_yes e9 h9) ?_
 refine bift (pred_yes e10 h10) ?_
 refine bift (pred_yes e16 h16) ?_
 cases b with
 | false=>exact biff (by simp) (bift (pred_yes e12 livesT) rfl)
 | true =>
  refine bift rfl (bift (dT ?_) (bift (pred_yes e12 livesT) rfl))
  simp only [Int.zero_mul,Int.zero_add]
  decide +kernel
theorem law6T (R:JR) (c:Option Nat) (hR:R.Ok) (u:Nat) (hu:u<256) (b:Bool):ToldOk P41 G41 6 [R.v c,.int .u8 u,.bool b] (.bool true):=by
 rcases Nat.eq_zero_or_pos (Nat.min R.n 40) with h0 | h0
 ·exact law6z R c u b h0
 ·have hm:=min40 R.n
  have hL:=R.lok hR _ hm
  have h9:=listF R c hR h0
  have hn:(R.L (Nat.min R.n 40)).n = Nat.min R.n 40:=rfl
  have hab:∀ i,i<(R.L (Nat.min R.n 40)).n->0<(abL ((R.L (Nat.min R.n 40)).on i) (2+u % 15)).length:=fun i _=>abV (R.o i) _ (by omega)
  generalize R.L (Nat.min R.n 40) = L at *
  generalize Nat.min R.n 40 = n40 at *
  subst hn
  cases b with
  | false=>exact law6p R c u false L L.af L.on hm h9 hL hab (l6not L hL _) fun h=>by cases h
  | true =>
   have hz:∀ j,j<L.n->(frU L L.n).af j = 0/\(frU L L.n).on j = 0:=fun j hj=>by
    show (bif Nat.blt j L.n then 0 else L.af j) = 0/\(bif Nat.blt j L.n then 0 else L.on j) = 0
    rw [bltT hj]; exact ⟨rfl,rfl⟩
   have hL2:JL.Ok ⟨L.tm,L.du,(frU L L.n).af,(frU L L.n).on,L.n⟩:=by
    refine ⟨hL.n,hL.tm,hL.du,fun j hj=>?_,fun j hj=>?_⟩
    ·show _<=(frU L L.n).af j/\(frU L L.n).af j<=_
     rw [(hz j hj).1]; omega
    ·show _<=(frU L L.n).on j/\(frU L L.n).on j<=_
     rw [(hz j hj).2]; omega
   refine law6p R c u true L (frU L L.n).af (frU L L.n).on hm h9 hL2 (fun i hi=>?_) ?_ fun _=>⟨fun j hj=>(hz j hj).1,fun j hj=>(hz j hj).2⟩
   ·rw [(hz i hi).2]
    exact abV 0 _ (by omega)
   ·rw [totU_same L ⟨L.tm,L.du,(frU L L.n).af,(frU L L.n).on,L.n⟩ rfl,mxU_same L ⟨L.tm,L.du,(frU L L.n).af,(frU L L.n).on,L.n⟩ rfl]
    exact l6free L hL _
open Go.Proofs
theorem d81 (k n:Nat):codeL P41 G41 A41 noneO 0 8 [] (nav [1,0,0,2,1,2,2]) [1,2] [.int .i64 (k:Nat),.int .i64 (n:Nat)] [] [1,2] =
(
 bif decide (Int.ofNat n<30) then
 some ((.normal,[.int .i64 (.ofNat k),.int .i64 (.ofNat n)],[]))
 else
 some ((.exit 0,[.int .i64 (.ofNat k),.int .i64 (.ofNat n)],[]))):=by kernel_rfl
theorem d82 (k n:Nat):codeL P41 G41 A41 noneO 0 8 [] (nav [1,0,1,2,0,0,2,1,2,2]) [1,2] [.int .i64 (k:Nat),.int .i64 (n:Nat)] [] [1,2,3] =
(
 some ((.normal,[.int .i64 (.ofNat k),.int .i64 (.ofNat n),.nils],[]))):=by kernel_rfl
theorem d83 (k n:Nat):codeL P41 G41 A41 noneO 0 8 [] (nav [1,1,2,0,1,2,0,0,2,1,2,2]) [1,2,3] [.int .i64 (k:Nat),.int .i64 (n:Nat),.nils] [] [1,2,3,4] =
(
 some ((.normal,[.int .i64 (.ofNat k),.int .i64 (.ofNat n),.nils,.int .i64 0],[]))):=by kernel_rfl
theorem d84 (k n:Nat):codeL P41 G41 A41 noneO 0 8 [] (nav [2,2,2,0,1,2,0,0,2,1,2,2]) [1,2,76] [.int .i64 (k:Nat),.int .i64 (n:Nat),.bool false] [] [1,2] =
(
 some ((.normal,[.int .i64 (.ofNat k),.int .i64 (.ofNat n)],[]))):=by kernel_rfl
theorem d85 (k n:Nat):codeL P41 G41 A41 noneO 0 8 [] (nav [2,2,0,0,2,1,2,2]) [1,2] [.int .i64 (k:Nat),.int .i64 (n:Nat)] [] [1,2] =
(
 some ((.normal,[.int .i64 (.ofNat k),.int .i64 (IntKind.i64.wrap (Int.ofNat n+1))],[]))):=by kernel_rfl
theorem d86 :codeL P41 G41 A41 noneO 0 8 [] (nav [1]) [] [] [] [] =
(
 some ((.normal,[],[]))):=by kernel_rfl
theorem d87 :codeL P41 G41 A41 noneO 0 8 [] (nav [1,2]) [] [] [] [1] =
(
 some ((.normal,[.int .i64 1],[]))):=by kernel_rfl
theorem d88 :codeL P41 G41 A41 noneO 0 8 [] (nav [1,1,2,2]) [1] [.int .i64 1] [] [1,2] =
(
 some ((.normal,[.int .i64 1,.int .i64 0],[]))):=by kernel_rfl
theorem d89 (p:List T->T->Prop):codeL P41 G41 A41 (noneO.add 12 (callF p yes8)) 0 8 [] (nav [2,2,2]) [] [] [] [0] =
(
 bif decF (p [] (.bool true)) then
 some ((.ret,[.bool true],[]))
 else
 none):=by kernel_rfl
def kd (k j:Nat):Nat:=bif Nat.blt j 5 then kk k j else kk k (j - 5)
def Rz (f:Nat->Nat) (m:Nat):JR:=⟨fun j=>f (0+j) % 9,fun j=>f (0+j) / 9 % 24,fun j=>f (0+j) / 5 % 7,fun j=>f (0+j) % 256,m⟩
theorem Rz_ok (f:Nat->Nat) (m:Nat):(Rz f m).Ok:=⟨fun j=>by show f (0+j) % 9<256; omega,fun j=>by show f (0+j) / 9 % 24<256; omega,fun j=>by show f (0+j) / 5 % 7<256; omega,fun j=>by show f (0+j) % 256<256; omega⟩
def gK (f:Nat->Nat):Nat->List T:=gJ (fun j=>f j % 9) (fun j=>f j / 9 % 24) (fun j=>f j / 5 % 7) (fun j=>f j % 256)
theorem g8_eq (k:Nat):g8 k = gK (kk k):=rfl
theorem cat8 (k:Nat):(fun j=>bif Nat.blt j 5 then gK (kk k) j else gK (kk k) (j - 5)) = gK (kd k):=by
 funext j
 show (bif Nat.blt j 5 then u8 (kk k j) else u8 (kk k (j - 5))) = u8 (bif Nat.blt j 5 then kk k j else kk k (j - 5))
 cases Nat.blt j 5 <;> rfl
def mv8 (k n:Nat):Nat->Nat
 | 0=>k % 256
 | 1=>1
 | 2=>n % 256
 | _=>3
theorem t83 (f:Nat->Nat) (k n:Nat):ToldOk P41 G41 3 [T.view 4 5 (fun j=>gK f (0+j)) none,T.view 1 4 (fun j=>[[T.int IntKind.u8 (IntKind.u8.wrap (Int.ofNat k))],[T.int IntKind.u8 1],[T.int IntKind.u8 (IntKind.u8.wrap (Int.ofNat n))],[T.int IntKind.u8 3]].getD (0+j) []) (some 4)] (.bool true):=by
 refine ToldOk.sim (law3T (Rz f 5) none (Rz_ok _ _) 4 (mv8 k n) (some 4) (fun j=>?_)) (.cons (.refl _) (.cons (.view (.inl rfl) fun j hj=>?_) .nil))
 ·unfold mv8
  split <;> omega
 ·have:j = 0 ∨ j = 1 ∨ j = 2 ∨ j = 3:=by omega
  rcases this with rfl | rfl | rfl | rfl <;> exact .refl _
theorem fork8' (q k n:Nat):Pz P41 G41 A41 8 [] [1,2,2,0,1,2,0,0,2,1,2,2] [1,2,3] [.int .i64 (q:Nat),.int .i64 (n:Nat),.own 0 4 0 5 none] [jb 4 5 (g8 k)] .normal [1,2,76] [.int .i64 (q:Nat),.int .i64 (n:Nat),.bool false] []:=by
 obtain ⟨p3,h3⟩:∃ p:List T->T->Prop,p = ToldOk P41 G41 3:=⟨_,rfl⟩
 obtain ⟨p4,h4⟩:∃ p:List T->T->Prop,p = ToldOk P41 G41 4:=⟨_,rfl⟩
 obtain ⟨p5,h5⟩:∃ p:List T->T->Prop,p = ToldOk P41 G41 5:=⟨_,rfl⟩
 obtain ⟨p6,h6⟩:∃ p:List T->T->Prop,p = ToldOk P41 G41 6:=⟨_,rfl⟩
 obtain ⟨p7,h7⟩:∃ p:List T->T->Prop,p = ToldOk P41 G41 7:=⟨_,rfl⟩
 have hK:OrcOk P41 G41 (K8q p3 p4 p5 p6 p7):=told_add (told_add (told_add (told_add (told_add none_ok (callF_told h3)) (callF_told h4)) (callF_told h5)) (callF_told h6)) (callF_told h7)
 have t4:=law4T (Rz (kk k) 5) none (Rz_ok _ _)
 have t5:=law5T (Rz (kd k) 10) none (Rz_ok _ _)
 have t6:=fun f b=>law6T (Rz f 5) none (Rz_ok _ _) (n % 256) (by omega) b
 have t7:=fun f:Nat->Nat=>law7T (Rz f 5) none (Rz_ok _ _) (n % 256) (by omega) (f 2 % 9) (f 2 / 9 % 24) (f 2 / 5 % 7) (f 2 % 256) (by omega) (by omega) (by omega) (by omega)
 rw [g8_eq]
 have a1:=(c8p p3 p4 p5 p6 p7 q n (gK (kk k))).trans (bift (callF_yes h4 t4) rfl)
 have cA:([jb 4 5 (gK (kk k))]:Heap).set 0 (catI (jb 4 5 (gK (kk k))) 5) = [jb 5 10 (gK (kd k))]:=by rw [← cat8]; rfl
 have cB:([jb 4 5 (gK (kk k))]:Heap) ++ [catN (jb 4 5 (gK (kk k))) 5] = [jb 4 5 (gK (kk k)),jb 0 10 (gK (kd k))]:=by rw [← cat8]; rfl
 have a2:=c8a p3 p4 p5 p6 p7 q n (fun j=>kd k j % 9) (fun j=>kd k j / 9 % 24) (fun j=>kd k j / 5 % 7) (fun j=>kd k j % 256)
 have b2:=c8b p3 p4 p5 p6 p7 q n (fun j=>kk k j % 9) (fun j=>kk k j / 9 % 24) (fun j=>kk k j / 5 % 7) (fun j=>kk k j % 256) (gK (kd k))
 have t3a:=t83 (kd k) q n
 have t3b:=t83 (kk k) q n
 have hst:ForkSt P41 (A41 8).prom (ntOf P41 8) (mkSt [1,2,3,40] [.int .i64 (q:Nat),.int .i64 (n:Nat),.own 0 4 0 5 none,.bool false] [jb 4 5 (gK (kk k))]) 0 5 (jb 4 5 (gK (kk k))) 40 3 41 42 43 22:=by
  have nt:ntOf P41 8 = 78:=by kernel_rfl
  rw [nt]
  exact ⟨⟨52,by kernel_rfl,by kernel_rfl,by kernel_rfl,by kernel_rfl⟩,by decide,by decide,⟨by show 3 ∉ ([]:List Nat); simp,by show 40 ∉ ([]:List Nat); simp⟩,rfl,rfl,rfl,rfl,rfl,rfl,by decide⟩
 by_cases ev:((Int.ofNat n).tmod (2:Int) = (0:Int))
 ·have ev:decide ((Int.ofNat n).tmod (2:Int) = (0:Int)) = true:=decide_eq_true ev
  have a3:=a2.trans (bift (callF_yes h5 t5) (bift ev (bift (callF_yes h6 (t6 (kd k) true)) (bift (callF_yes h7 (t7 (kd k))) (bift (callF_yes h3 t3a) rfl)))))
  have b3:=b2.trans (bift (callF_yes h5 t5) (bift ev (bift (callF_yes h6 (t6 (kk k) true)) (bift (callF_yes h7 (t7 (kk k))) (bift (callF_yes h3 t3b) rfl)))))
  exact Pz.fork (n:=4) (j:=3) (gd:=40) (t:=3) (d1:=41) (d2:=42) (d3:=43) (ty:=22) hK (by kernel_rfl) a1 hst (by kernel_rfl) (by rw [cA]; exact a3) (fun nt=>.canonS [] rfl rfl rfl .nil) (by kernel_rfl) (by rw [cB]; exact b3) (fun nt=>.canonS [] rfl rfl rfl .nil)
 ·have ev:¬ decide ((Int.ofNat n).tmod (2:Int) = (0:Int)) = true:=fun h=>ev (of_decide_eq_true h)
  have a3:=a2.trans (bift (callF_yes h5 t5) (biff ev (bift (callF_yes h6 (t6 (kd k) false)) (bift (callF_yes h7 (t7 (kd k))) (bift (callF_yes h3 t3a) rfl)))))
  have b3:=b2.trans (bift (callF_yes h5 t5) (biff ev (bift (callF_yes h6 (t6 (kk k) false)) (bift (callF_yes h7 (t7 (kk k))) (bift (callF_yes h3 t3b) rfl)))))
  exact Pz.fork (n:=4) (j:=3) (gd:=40) (t:=3) (d1:=41) (d2:=42) (d3:=43) (ty:=22) hK (by kernel_rfl) a1 hst (by kernel_rfl) (by rw [cA]; exact a3) (fun nt=>.canonS [] rfl rfl rfl .nil) (by kernel_rfl) (by rw [cB]; exact b3) (fun nt=>.canonS [] rfl rfl rfl .nil)
theorem round8 (k n:Nat) (hk:k<100003) (hn:n<30):Pz P41 G41 A41 8 [] [0,0,2,1,2,2] [1,2] [.int .i64 (k:Nat),.int .i64 (n:Nat)] [] .normal [1,2] [.int .i64 (kk k 5:Nat),.int .i64 ((n+1:Nat):Int)] []:=by
 have e1:=d81 k n
 have e5:=d85 (kk k 5) n
 rw [wr64 (by rw [ofNatE]; omega) (by rw [ofNatE]; omega)] at e5
 refine Pz.seq (by kernel_rfl) (Pz.run hm41 none_ok (m:=0) (by kernel_rfl) loops0 (e1.trans (BT rfl))) (Pz.seq (by kernel_rfl) (l1:=[1,2]) (v1:=[.int .i64 (kk k 5:Nat),.int .i64 (n:Nat)]) (h1:=[]) ?_ (Pz.run hm41 none_ok (m:=0) (by kernel_rfl) loops0 e5))
 refine Pz.blk (id:=1) (e:=.normal) (by kernel_rfl) rfl (Pz.seq (by kernel_rfl) (Pz.run hm41 none_ok (m:=0) (by kernel_rfl) loops0 (d82 k n)) (Pz.seq (by kernel_rfl) (Pz.seq (by kernel_rfl) (Pz.run hm41 none_ok (m:=0) (by kernel_rfl) loops0 (d83 k n)) (Pz.blk (id:=2) (by kernel_rfl) rfl (Pz.only (list8 k n hk) (l2:=[1,2,3]) rfl))) ?_))
 exact Pz.seq (by kernel_rfl) (fork8' (kk k 5) k n) (Pz.run hm41 none_ok (m:=0) (by kernel_rfl) loops0 (d84 (kk k 5) n))
def kN:Nat->Nat
 | 0=>1
 | i+1=>kk (kN i) 5
theorem kN_lt:∀ i,kN i<100003
 | 0=>by decide
 | i+1=>kk_lt _ (kN_lt i) 5
theorem law8T:ToldOk P41 G41 8 [] (.bool true):=by
 obtain ⟨p,hp⟩:∃ p:List T->T->Prop,p = ToldOk P41 G41 12:=⟨_,rfl⟩
 have hl:Pz P41 G41 A41 8 [] [0,2,1,2,2] [1,2] [.int .i64 1,.int .i64 0] [] (.exit 0) [1,2] [.int .i64 (kN 30:Nat),.int .i64 (30:Nat)] []:=by
  refine Pz.count (by kernel_rfl) (fun i=>[.int .i64 (kN i:Nat),.int .i64 (i:Nat)]) (fun _=>[]) (n:=30) (by simp) (fun i hi=>round8 (kN i) i (kN_lt i) hi) ?_
  exact Pz.seqX (by kernel_rfl) (by simp) (Pz.run hm41 none_ok (m:=0) (by kernel_rfl) loops0 ((d81 (kN 30) 30).trans (BF rfl)))
 refine Pz.told (A:=A41) hn41 Try.func8 (by kernel_rfl) (by kernel_rfl) (l:=[]) (l1:=[0]) (v1:=[.bool true]) (h1:=[]) rfl ?_ (by kernel_rfl)
 refine Pz.seq (by kernel_rfl) (Pz.run hm41 none_ok (m:=0) (by kernel_rfl) loops0 d86) (Pz.seq (by kernel_rfl) (Pz.run hm41 none_ok (m:=0) (by kernel_rfl) loops0 d87) (Pz.seq (by kernel_rfl) (Pz.seq (by kernel_rfl) (Pz.run hm41 none_ok (m:=0) (by kernel_rfl) loops0 d88) (Pz.blk (id:=0) (by kernel_rfl) rfl (Pz.only hl (l2:=[]) rfl))) ?_))
 exact Pz.run hm41 (told_add none_ok (callF_told hp)) (m:=0) (by kernel_rfl) loops0 ((d89 p).trans (bift (callF_yes hp livesT) rfl))
open Go.Proofs
section
variable {Hp:Type}
end
end Go.Ab

