/- A part of the proof: nothing is assumed. -/
import Derived.Test.YtlaganadekpcjaaP4
import Derived.Test.YtlaganadekpcjaaP7
set_option linter.all false
namespace Go.Ab
open Go.Proofs
structure JL where
 tm:Nat->Int
 du:Nat->Int
 af:Nat->Int
 on:Nat->Int
 n:Nat
def jv (L:JL) (c:Option Nat):T:=.view 4 L.n (fun j=>[.int .i64 (L.tm j),.int .i64 (L.du j),.int .i64 (L.af j),.int .u32 (L.on j)]) c
structure JL.Ok (L:JL):Prop where
 n:L.n<=256
 tm:∀ j,j<L.n->1<=L.tm j/\L.tm j<=100000
 du:∀ j,j<L.n->0<=L.du j/\L.du j<=100000
 af:∀ j,j<L.n->0<=L.af j/\L.af j<=100000
 on:∀ j,j<L.n->0<=L.on j/\L.on j<=7
def v19 (L:JL) (c:Option Nat) (i:Int):List T:=[.int .i64 0,jv L c,.int .i64 L.n,.int .i64 i]
theorem l19 (L:JL) (c:Option Nat) (hL:L.Ok):LoopOk P41 G41 (A41 19) 19 6 (litS (v19 L c 0) [] (.exit 0) [.int .i64 0] []):=by
 have hn:=hL.n
 refine loop_steps hm41 (by kernel_rfl) (fun i=>v19 L c i) (fun _=>[]) (n:=L.n) (fun i hi=>?_) ?_
 ·refine Step.mk0 (A:=A41) (m:=5) okK41a rfl rfl loops0 (h1:=[]) ?_ .nil
  refine Eq.trans (show iterR P41 G41 A41 K41a 5 19 [] 6 (v19 L c i) [] =
(
 bif decide (Int.ofNat i<Int.ofNat L.n) then
 bif decide (0<=Int.ofNat i)&&decide (Int.ofNat i<Int.ofNat L.n) then
 bif decide (IntKind.i64.wrap (L.tm i - 1)<(0:Int)) then
 some ((.exit 0,[.int .i64 1],[]))
 else
 bif decide (100000<IntKind.i64.wrap (L.tm i - 1)) then
 some ((.exit 0,[.int .i64 1],[]))
 else
 bif decide (L.tm i<0) then
 some ((.exit 0,[.int .i64 1],[]))
 else
 bif decide ((100000:Int)<L.tm i) then
 some ((.exit 0,[.int .i64 1],[]))
 else
 bif decide (L.du i<0) then
 some ((.exit 0,[.int .i64 1],[]))
 else
 bif decide ((100000:Int)<L.du i) then
 some ((.exit 0,[.int .i64 1],[]))
 else
 bif decide (L.af i<0) then
 some ((.exit 0,[.int .i64 1],[]))
 else
 bif decide ((100000:Int)<L.af i) then
 some ((.exit 0,[.int .i64 1],[]))
 else
 some ((.normal,[.int .i64 0,jv L c,.int .i64 (.ofNat L.n),.int .i64 (IntKind.i64.wrap (Int.ofNat i+1))],[]))
 else none else
 some ((.exit 0,[.int .i64 0],[]))) from by kernel_rfl) ?_
  have:=hL.tm i hi
  have:=hL.du i hi
  have:=hL.af i hi
  (repeat (first | (refine bift (by first | assumption | omega | (simp (disch:=omega) only [wr64,wr8,wr16,wr32,ofNatE,toNatE,toNatE1,Bool.and_eq_true,Bool.or_eq_true,Bool.not_eq_true',decide_eq_true_eq,decide_eq_false_iff_not,nble,nblt,nbeq,Nat.zero_add,Nat.add_zero,Int.zero_add,Int.add_zero,List.length_cons,List.length_nil,true_and,and_true,Nat.reduceAdd,and_self]; done) | (simp (disch:=omega) only [wr64,wr8,wr16,wr32,ofNatE,toNatE,toNatE1,Bool.and_eq_true,Bool.or_eq_true,Bool.not_eq_true',decide_eq_true_eq,decide_eq_false_iff_not,nble,nblt,nbeq,Nat.zero_add,Nat.add_zero,Int.zero_add,Int.add_zero,List.length_cons,List.length_nil,true_and,and_true,Nat.reduceAdd,and_self]; omega)) ?_) | (refine biff (by first | assumption | (simp (disch:=omega) only [wr64,wr8,wr16,wr32,ofNatE,toNatE,toNatE1,Bool.and_eq_true,Bool.or_eq_true,Bool.not_eq_true',decide_eq_true_eq,decide_eq_false_iff_not,nble,nblt,nbeq,Nat.zero_add,Nat.add_zero,Int.zero_add,Int.add_zero,List.length_cons,List.length_nil,true_and,and_true,Nat.reduceAdd,and_self]; done) | (simp (disch:=omega) only [wr64,wr8,wr16,wr32,ofNatE,toNatE,toNatE1,Bool.and_eq_true,Bool.or_eq_true,Bool.not_eq_true',decide_eq_true_eq,decide_eq_false_iff_not,nble,nblt,nbeq,Nat.zero_add,Nat.add_zero,Int.zero_add,Int.add_zero,List.length_cons,List.length_nil,true_and,and_true,Nat.reduceAdd,and_self]; omega)) ?_)))
  first | rfl | (simp (disch:=omega) only [wr64,wr8,wr16,wr32,ofNatE,Nat.zero_add,bleT,bltT,dT,dF,Bool.true_and,Bool.and_true,Bool.and_self,cond_true,cond_false,Nat.sub_zero,beq_self_eq_true]; done) | (simp (disch:=omega) only [wr64,wr8,wr16,wr32,ofNatE,Nat.zero_add,bleT,bltT,dT,dF,Bool.true_and,Bool.and_true,Bool.and_self,cond_true,cond_false,Nat.sub_zero,beq_self_eq_true]; rfl)
 ·refine Last.mk0 (A:=A41) (m:=5) okK41a rfl rfl loops0 (h1:=[]) (by simp) ?_ .nil
  refine Eq.trans (show iterR P41 G41 A41 K41a 5 19 [] 6 (v19 L c (L.n:Int)) [] =
(
 bif decide (Int.ofNat L.n<Int.ofNat L.n) then
 bif decide (0<=Int.ofNat L.n)&&decide (Int.ofNat L.n<Int.ofNat L.n) then
 bif decide (IntKind.i64.wrap (L.tm L.n - 1)<(0:Int)) then
 some ((.exit 0,[.int .i64 1],[]))
 else
 bif decide (100000<IntKind.i64.wrap (L.tm L.n - 1)) then
 some ((.exit 0,[.int .i64 1],[]))
 else
 bif decide (L.tm L.n<0) then
 some ((.exit 0,[.int .i64 1],[]))
 else
 bif decide ((100000:Int)<L.tm L.n) then
 some ((.exit 0,[.int .i64 1],[]))
 else
 bif decide (L.du L.n<0) then
 some ((.exit 0,[.int .i64 1],[]))
 else
 bif decide ((100000:Int)<L.du L.n) then
 some ((.exit 0,[.int .i64 1],[]))
 else
 bif decide (L.af L.n<0) then
 some ((.exit 0,[.int .i64 1],[]))
 else
 bif decide ((100000:Int)<L.af L.n) then
 some ((.exit 0,[.int .i64 1],[]))
 else
 some ((.normal,[.int .i64 0,jv L c,.int .i64 (.ofNat L.n),.int .i64 (IntKind.i64.wrap (Int.ofNat L.n+1))],[]))
 else none else
 some ((.exit 0,[.int .i64 0],[]))) from by kernel_rfl) ?_
  (repeat (first | (refine bift (by first | assumption | omega | (simp (disch:=omega) only [wr64,wr8,wr16,wr32,ofNatE,toNatE,toNatE1,Bool.and_eq_true,Bool.or_eq_true,Bool.not_eq_true',decide_eq_true_eq,decide_eq_false_iff_not,nble,nblt,nbeq,Nat.zero_add,Nat.add_zero,Int.zero_add,Int.add_zero,List.length_cons,List.length_nil,true_and,and_true,Nat.reduceAdd,and_self]; done) | (simp (disch:=omega) only [wr64,wr8,wr16,wr32,ofNatE,toNatE,toNatE1,Bool.and_eq_true,Bool.or_eq_true,Bool.not_eq_true',decide_eq_true_eq,decide_eq_false_iff_not,nble,nblt,nbeq,Nat.zero_add,Nat.add_zero,Int.zero_add,Int.add_zero,List.length_cons,List.length_nil,true_and,and_true,Nat.reduceAdd,and_self]; omega)) ?_) | (refine biff (by first | assumption | (simp (disch:=omega) only [wr64,wr8,wr16,wr32,ofNatE,toNatE,toNatE1,Bool.and_eq_true,Bool.or_eq_true,Bool.not_eq_true',decide_eq_true_eq,decide_eq_false_iff_not,nble,nblt,nbeq,Nat.zero_add,Nat.add_zero,Int.zero_add,Int.add_zero,List.length_cons,List.length_nil,true_and,and_true,Nat.reduceAdd,and_self]; done) | (simp (disch:=omega) only [wr64,wr8,wr16,wr32,ofNatE,toNatE,toNatE1,Bool.and_eq_true,Bool.or_eq_true,Bool.not_eq_true',decide_eq_true_eq,decide_eq_false_iff_not,nble,nblt,nbeq,Nat.zero_add,Nat.add_zero,Int.zero_add,Int.add_zero,List.length_cons,List.length_nil,true_and,and_true,Nat.reduceAdd,and_self]; omega)) ?_)))
  first | rfl | (simp (disch:=omega) only [wr64,wr8,wr16,wr32,ofNatE,Nat.zero_add,bleT,bltT,dT,dF,Bool.true_and,Bool.and_true,Bool.and_self,cond_true,cond_false,Nat.sub_zero,beq_self_eq_true]; done) | (simp (disch:=omega) only [wr64,wr8,wr16,wr32,ofNatE,Nat.zero_add,bleT,bltT,dT,dF,Bool.true_and,Bool.and_true,Bool.and_self,cond_true,cond_false,Nat.sub_zero,beq_self_eq_true]; rfl)
theorem limT (L:JL) (c:Option Nat) (m:Int) (hL:L.Ok) (hm:1<=m/\m<=16):ToldOk P41 G41 19 [jv L c,.int .i64 m] (.int .i64 0):=by
 have hn:=hL.n
 refine stepL_told hm41 hn41 okK41a (A:=A41) (m:=0) (by kernel_rfl) (loops1 (l19 L c hL)) ?_
 refine Eq.trans (show stepL P41 G41 A41 K41a 0 19 [(6,litS (v19 L c 0) [] (.exit 0) [.int .i64 0] [])] [jv L c,.int .i64 m] =
(
 bif decide (256<Int.ofNat L.n) then
 some (.int .i64 3)
 else
 bif decide (m<1) then
 some (.int .i64 1)
 else
 bif decide (16<m) then
 some (.int .i64 1)
 else
 bif weakF [.int .i64 0,jv L c,.int .i64 (.ofNat L.n),.int .i64 0] [] [.int .i64 0,jv L c,.int .i64 (.ofNat L.n),.int .i64 0] [] then
 some (.int .i64 0)
 else
 none) from by kernel_rfl) ?_
 (repeat (first | (refine bift (by first | assumption | omega | (simp (disch:=omega) only [wr64,wr8,wr16,wr32,ofNatE,toNatE,toNatE1,Bool.and_eq_true,Bool.or_eq_true,Bool.not_eq_true',decide_eq_true_eq,decide_eq_false_iff_not,nble,nblt,nbeq,Nat.zero_add,Nat.add_zero,Int.zero_add,Int.add_zero,List.length_cons,List.length_nil,true_and,and_true,Nat.reduceAdd,and_self]; done) | (simp (disch:=omega) only [wr64,wr8,wr16,wr32,ofNatE,toNatE,toNatE1,Bool.and_eq_true,Bool.or_eq_true,Bool.not_eq_true',decide_eq_true_eq,decide_eq_false_iff_not,nble,nblt,nbeq,Nat.zero_add,Nat.add_zero,Int.zero_add,Int.add_zero,List.length_cons,List.length_nil,true_and,and_true,Nat.reduceAdd,and_self]; omega)) ?_) | (refine biff (by first | assumption | (simp (disch:=omega) only [wr64,wr8,wr16,wr32,ofNatE,toNatE,toNatE1,Bool.and_eq_true,Bool.or_eq_true,Bool.not_eq_true',decide_eq_true_eq,decide_eq_false_iff_not,nble,nblt,nbeq,Nat.zero_add,Nat.add_zero,Int.zero_add,Int.add_zero,List.length_cons,List.length_nil,true_and,and_true,Nat.reduceAdd,and_self]; done) | (simp (disch:=omega) only [wr64,wr8,wr16,wr32,ofNatE,toNatE,toNatE1,Bool.and_eq_true,Bool.or_eq_true,Bool.not_eq_true',decide_eq_true_eq,decide_eq_false_iff_not,nble,nblt,nbeq,Nat.zero_add,Nat.add_zero,Int.zero_add,Int.add_zero,List.length_cons,List.length_nil,true_and,and_true,Nat.reduceAdd,and_self]; omega)) ?_)))
 exact bift (weakF_of ⟨rfl,.refl _⟩) rfl
end Go.Ab

