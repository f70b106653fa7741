/- A part of the proof: nothing is assumed. -/
import Derived.Test.YtlaganadekpcjaaP6
import Derived.Test.YtlaganadekpcjaaP8
import Derived.Test.YtlaganadekpcjaaP9
set_option linter.all false
namespace Go.Ab
open Go.Proofs Go.Shelf Go.RowKit Go.Sort
def ordL (du:Nat->Int) (n:Nat):List Nat:=(List.range n).mergeSort fun x y=>!(decide (dueLt du y x))
theorem ordL_perm (du:Nat->Int) (n:Nat):(ordL du n).Perm (List.range n):=List.mergeSort_perm _ _
theorem ordL_len (du:Nat->Int) (n:Nat):(ordL du n).length = n:=by rw [(ordL_perm du n).length_eq,List.length_range]
theorem ordL_mem {du:Nat->Int} {n x:Nat}:x ∈ ordL du n ↔ x<n:=by rw [(ordL_perm du n).mem_iff,List.mem_range]
theorem ordL_nodup (du:Nat->Int) (n:Nat):(ordL du n).Nodup:=(ordL_perm du n).nodup_iff.2 List.nodup_range
theorem ordL_sorted (du:Nat->Int) (n:Nat):(ordL du n).Pairwise fun x y=>¬ dueLt du y x:=by
 have:=List.pairwise_mergeSort (le:=fun x y=>!(decide (dueLt du y x))) (fun a b c h1 h2=>?_) (fun a b=>?_) (List.range n)
 ·refine List.Pairwise.imp ?_ this
  intro a b h
  simpa using h
 ·simp only [Bool.not_eq_true',decide_eq_false_iff_not] at *; unfold dueLt at *; omega
 ·simp only [Bool.or_eq_true,Bool.not_eq_true',decide_eq_false_iff_not]; unfold dueLt; omega
def finF (n:Nat) (h:0<n) (j:Nat):Fin n:=⟨j % n,Nat.mod_lt _ h⟩
abbrev inhF (n:Nat) (h:0<n):Inhabited (Fin n):=⟨finF n h 0⟩
theorem srt_ord (du:Nat->Int) (n:Nat) (h:0<n):letI:=inhF n h; (srt (dueC du) (finF n h) n).toList.map Fin.val = ordL du n:=by
 unfold srt ordL
 rw [List.map_mergeSort (s:=fun x y=>!(decide (dueLt du y x)))]
 ·congr 1
  rw [List.map_map]
  conv=>rhs; rw [← List.map_id (List.range n)]
  refine List.map_congr_left fun a ha=>?_
  have:=List.mem_range.1 ha
  show a % n = a
  exact Nat.mod_eq_of_lt this
 ·intro a _ b _
  rw [dueC_lt]
theorem srt_get (du:Nat->Int) (n:Nat) (h:0<n) {j:Nat} (hj:j<n):letI:=inhF n h; ((srt (dueC du) (finF n h) n)[j]!).val = (ordL du n).getD j 0:=by
 letI:=inhF n h
 have e:=srt_ord du n h
 have hs:=srt_size (dueC du) (finF n h) n
 rw [← e]
 show ((srt (dueC du) (finF n h) n)[j]!).val = _
 generalize srt (dueC du) (finF n h) n = d at *
 rw [List.getD_eq_getElem?_getD,List.getElem?_map,Array.getElem?_toList,Array.getElem!_eq_getD,Array.getD_eq_getD_getElem?,Array.getElem?_eq_getElem (by omega)]
 rfl
theorem ord_lt {du:Nat->Int} {n j:Nat} (hj:j<n):(ordL du n).getD j 0<n:=by
 have hl:=ordL_len du n
 rw [List.getD_eq_getElem?_getD,List.getElem?_eq_getElem (by omega)]
 exact ordL_mem.1 (List.getElem_mem _)
open Go.Proofs
def box1 (x:T):Blk:=⟨0,1,1,fun _=>[x],false,false⟩
def ib (v n:Nat) (x:Nat->Int):Blk:=⟨v,1,n,fun j=>[.int .i64 (x j)],true,false⟩
def iv (n:Nat) (x:Nat->Int) (c:Option Nat):T:=.view 1 n (fun j=>[.int .i64 (x j)]) c
def ordI (L:JL):Nat->Int:=fun j=>((ordL L.du L.n).getD j 0:Nat)
def idn (i:Nat):Nat->Int:=fun j=>if j<i then (j:Int) else 0
def v20 (n i:Nat):List T:=[.ptr 0 0 0 0,.own 1 0 0 n (some n),.int .i64 n,.int .i64 i]
noncomputable def K20 (n:Nat) (h0 h1:Heap):Orc:=K41a.addRef 28 (refS [.own 1 0 0 n (some n),.fn 29 [.ptr 0 0 0 0]] h0 (.tup []) h1)
theorem l20 (L:JL) (c:Option Nat) (hL:L.Ok):LoopOk P41 G41 (A41 20) 20 3 (litS (v20 L.n 0) [box1 (jv L c),ib 0 L.n (idn 0)] (.exit 0) [.ptr 0 0 0 0,.own 1 0 0 L.n (some L.n)] [box1 (jv L c),ib 0 L.n (fun j=>j)]):=by
 have hn:=hL.n
 refine loop_steps hm41 (by kernel_rfl) (fun i=>v20 L.n i) (fun i=>[box1 (jv L c),ib 0 L.n (idn i)]) (n:=L.n) (fun i hi=>?_) ?_
 ·generalize hx:idn i = x
  refine Step.mk0 (A:=A41) (m:=0) okK41a rfl rfl loops0 (Eq.trans (show iterR P41 G41 A41 K41a 0 20 [] 3 (v20 L.n i) [box1 (jv L c),ib 0 L.n x] =
(
 bif decide (Int.ofNat i<Int.ofNat L.n) then
 bif decide (0<=Int.ofNat i)&&decide (Int.ofNat i<Int.ofNat L.n) then
 bif ((0:Nat)+i).blt L.n&&[T.int .i64 (Int.ofNat i)].length==(1:Nat)&&true&&true then
 some ((.normal,[.ptr 0 0 0 0,.own 1 0 0 L.n (some L.n),.int .i64 (.ofNat L.n),.int .i64 (IntKind.i64.wrap (Int.ofNat i+1))],[.mk 0 1 1 (fun x=>[jv L c]) false false,.mk 0 1 L.n (fun e=>[.int .i64 (bif e==0+i then Int.ofNat i
 else x e)]) true false]))
 else none else none else
 some ((.exit 0,[.ptr 0 0 0 0,.own 1 0 0 L.n (some L.n)],[.mk 0 1 1 (fun x=>[jv L c]) false false,.mk 0 1 L.n (fun j=>[.int .i64 (x j)]) true false]))) from by kernel_rfl) ?_) (h1:=[box1 (jv L c),⟨0,1,L.n,fun j=>[.int .i64 (bif j==i then (i:Int) else x j)],true,false⟩]) ?_
  ·(repeat (first | (refine bift (by first | assumption | omega | (simp (disch:=omega) only [wr64,wr8,wr16,wr32,ofNatE,toNatE,toNatE1,Bool.and_eq_true,Bool.or_eq_true,Bool.not_eq_true',decide_eq_true_eq,decide_eq_false_iff_not,nble,nblt,nbeq,Nat.zero_add,Nat.add_zero,Int.zero_add,Int.add_zero,List.length_cons,List.length_nil,true_and,and_true,Nat.reduceAdd,and_self]; done) | (simp (disch:=omega) only [wr64,wr8,wr16,wr32,ofNatE,toNatE,toNatE1,Bool.and_eq_true,Bool.or_eq_true,Bool.not_eq_true',decide_eq_true_eq,decide_eq_false_iff_not,nble,nblt,nbeq,Nat.zero_add,Nat.add_zero,Int.zero_add,Int.add_zero,List.length_cons,List.length_nil,true_and,and_true,Nat.reduceAdd,and_self]; omega)) ?_) | (refine biff (by first | assumption | (simp (disch:=omega) only [wr64,wr8,wr16,wr32,ofNatE,toNatE,toNatE1,Bool.and_eq_true,Bool.or_eq_true,Bool.not_eq_true',decide_eq_true_eq,decide_eq_false_iff_not,nble,nblt,nbeq,Nat.zero_add,Nat.add_zero,Int.zero_add,Int.add_zero,List.length_cons,List.length_nil,true_and,and_true,Nat.reduceAdd,and_self]; done) | (simp (disch:=omega) only [wr64,wr8,wr16,wr32,ofNatE,toNatE,toNatE1,Bool.and_eq_true,Bool.or_eq_true,Bool.not_eq_true',decide_eq_true_eq,decide_eq_false_iff_not,nble,nblt,nbeq,Nat.zero_add,Nat.add_zero,Int.zero_add,Int.add_zero,List.length_cons,List.length_nil,true_and,and_true,Nat.reduceAdd,and_self]; omega)) ?_)))
   first | rfl | (simp (disch:=omega) only [wr64,wr8,wr16,wr32,ofNatE,Nat.zero_add,bleT,bltT,dT,dF,Bool.true_and,Bool.and_true,Bool.and_self,cond_true,cond_false,Nat.sub_zero,beq_self_eq_true]; done) | (simp (disch:=omega) only [wr64,wr8,wr16,wr32,ofNatE,Nat.zero_add,bleT,bltT,dT,dF,Bool.true_and,Bool.and_true,Bool.and_self,cond_true,cond_false,Nat.sub_zero,beq_self_eq_true]; rfl)
  ·refine .cons ⟨rfl,rfl,rfl,id,fun _ _=>rfl⟩ (.cons ⟨rfl,rfl,rfl,id,fun j hj=>?_⟩ .nil)
   subst hx
   show [T.int .i64 (idn (i+1) j)] = [.int .i64 (bif j==i then (i:Int) else idn i j)]
   by_cases q:j = i
   ·subst q; simp [idn]
   ·rw [beq_eq_false_iff_ne.2 q]
    simp only [idn,cond_false]
    by_cases q2:j<i
    ·rw [if_pos q2,if_pos (by omega)]
    ·rw [if_neg q2,if_neg (by omega)]
 ·generalize hx:idn L.n = x
  refine Last.mk0 (A:=A41) (m:=0) okK41a rfl rfl loops0 (by simp) (Eq.trans (show iterR P41 G41 A41 K41a 0 20 [] 3 (v20 L.n L.n) [box1 (jv L c),ib 0 L.n x] =
(
 bif decide (Int.ofNat L.n<Int.ofNat L.n) then
 bif decide (0<=Int.ofNat L.n)&&decide (Int.ofNat L.n<Int.ofNat L.n) then
 bif ((0:Nat)+L.n).blt L.n&&[T.int .i64 (Int.ofNat L.n)].length==(1:Nat)&&true&&true then
 some ((.normal,[.ptr 0 0 0 0,.own 1 0 0 L.n (some L.n),.int .i64 (.ofNat L.n),.int .i64 (IntKind.i64.wrap (Int.ofNat L.n+1))],[.mk 0 1 1 (fun x=>[jv L c]) false false,.mk 0 1 L.n (fun e=>[.int .i64 (bif e==(0:Nat)+L.n then Int.ofNat L.n
 else x e)]) true false]))
 else none else none else
 some ((.exit 0,[.ptr 0 0 0 0,.own 1 0 0 L.n (some L.n)],[.mk 0 1 1 (fun x=>[jv L c]) false false,.mk 0 1 L.n (fun j=>[.int .i64 (x j)]) true false]))) from by kernel_rfl) ?_) (h1:=[box1 (jv L c),ib 0 L.n x]) ?_
  ·(repeat (first | (refine bift (by first | assumption | omega | (simp (disch:=omega) only [wr64,wr8,wr16,wr32,ofNatE,toNatE,toNatE1,Bool.and_eq_true,Bool.or_eq_true,Bool.not_eq_true',decide_eq_true_eq,decide_eq_false_iff_not,nble,nblt,nbeq,Nat.zero_add,Nat.add_zero,Int.zero_add,Int.add_zero,List.length_cons,List.length_nil,true_and,and_true,Nat.reduceAdd,and_self]; done) | (simp (disch:=omega) only [wr64,wr8,wr16,wr32,ofNatE,toNatE,toNatE1,Bool.and_eq_true,Bool.or_eq_true,Bool.not_eq_true',decide_eq_true_eq,decide_eq_false_iff_not,nble,nblt,nbeq,Nat.zero_add,Nat.add_zero,Int.zero_add,Int.add_zero,List.length_cons,List.length_nil,true_and,and_true,Nat.reduceAdd,and_self]; omega)) ?_) | (refine biff (by first | assumption | (simp (disch:=omega) only [wr64,wr8,wr16,wr32,ofNatE,toNatE,toNatE1,Bool.and_eq_true,Bool.or_eq_true,Bool.not_eq_true',decide_eq_true_eq,decide_eq_false_iff_not,nble,nblt,nbeq,Nat.zero_add,Nat.add_zero,Int.zero_add,Int.add_zero,List.length_cons,List.length_nil,true_and,and_true,Nat.reduceAdd,and_self]; done) | (simp (disch:=omega) only [wr64,wr8,wr16,wr32,ofNatE,toNatE,toNatE1,Bool.and_eq_true,Bool.or_eq_true,Bool.not_eq_true',decide_eq_true_eq,decide_eq_false_iff_not,nble,nblt,nbeq,Nat.zero_add,Nat.add_zero,Int.zero_add,Int.add_zero,List.length_cons,List.length_nil,true_and,and_true,Nat.reduceAdd,and_self]; omega)) ?_)))
   first | rfl | (simp (disch:=omega) only [wr64,wr8,wr16,wr32,ofNatE,Nat.zero_add,bleT,bltT,dT,dF,Bool.true_and,Bool.and_true,Bool.and_self,cond_true,cond_false,Nat.sub_zero,beq_self_eq_true]; done) | (simp (disch:=omega) only [wr64,wr8,wr16,wr32,ofNatE,Nat.zero_add,bleT,bltT,dT,dF,Bool.true_and,Bool.and_true,Bool.and_self,cond_true,cond_false,Nat.sub_zero,beq_self_eq_true]; rfl)
  ·refine .cons ⟨rfl,rfl,rfl,id,fun _ _=>rfl⟩ (.cons ⟨rfl,rfl,rfl,id,fun j hj=>?_⟩ .nil)
   have hj':j<L.n:=hj
   subst hx
   show [T.int .i64 (j:Int)] = [T.int .i64 (idn L.n j)]
   simp only [idn,if_pos hj']
theorem sort20 (L:JL) (c:Option Nat) (h0:0<L.n) (hL:L.Ok):ToldRef P41 G41 28 [.own 1 0 0 L.n (some L.n),.fn 29 [.ptr 0 0 0 0]] [box1 (jv L c),ib 0 L.n (fun j=>j)] (.tup []) [box1 (jv L c),ib 0 L.n (ordI L)]:=by
 have hn:=hL.n
 letI:=inhF L.n h0
 have t:=sort_ref (P:=P41) (Gl:=G41) (n:=L.n) (m:=L.n) (f:=28) (fc:=29) (cf:=dueC L.du) (sortsAt41 L.du) ⟨Try.f28,Try.func28,by kernel_rfl,by kernel_rfl⟩ (enters_of Try.func29 (by kernel_rfl) rfl) (h:=[box1 (jv L c),ib 0 L.n (fun j=>j)]) (i:=1) (b:=ib 0 L.n (fun j=>j)) rfl rfl rfl h0 (by omega) (x:=finF L.n h0)
  (fun j hj=>by show [T.int .i64 (j:Int)] = [T.int .i64 ((j % L.n:Nat):Int)]; rw [Nat.mod_eq_of_lt hj]) (caps:=[.ptr 0 0 0 0]) (fun x y=>dueT L.tm L.du L.af L.on L.n x.val y.val c x.isLt y.isLt)
 refine t.res (.cons ⟨rfl,rfl,rfl,id,fun _ _=>rfl⟩ (.cons ⟨rfl,rfl,rfl,id,fun j hj=>?_⟩ .nil))
 show [T.int .i64 (((ordL L.du L.n).getD j 0:Nat):Int)] = [T.int .i64 ((((srt (dueC L.du) (finF L.n h0) L.n)[j]!).val:Nat):Int)]
 rw [srt_get L.du L.n h0 hj]
open Go.Proofs
theorem sort20z (h:Heap) (i:Nat) (b:Blk) (hb:h[i]? = some b) (fc:FuncId) (caps:List T):ToldRef P41 G41 28 [.own i b.ver 0 0 (some 0),.fn fc caps] h (.tup []) h:=by
 refine ⟨⟨Try.f28,Try.func28,by kernel_rfl,by kernel_rfl⟩,fun g w cargs hr hno hgl ha=>?_⟩
 obtain ⟨v0,a1,a2⟩:=ha.2 0 _ rfl
 obtain ⟨v1,a3,a4⟩:=ha.2 1 _ rfl
 have hc2:cargs = #[v0,v1]:=by
  have hs:cargs.size = 2:=ha.1.symm
  refine Array.ext (by simp [hs]) fun k h1 h2=>?_
  match k,h1 with
  | 0,_=>simpa [Array.getElem?_eq_getElem (show 0<cargs.size by omega)] using a1
  | 1,_=>simpa [Array.getElem?_eq_getElem (show 1<cargs.size by omega)] using a3
  | k+2,h1=>omega
 subst hc2
 obtain ⟨cb,sh,cc,ad,e1,rfl,es,e2,e3,e4,e5,e6,e7⟩:=own_slice hb rfl a2
 exact (AnyF.slices_SortFunc_none (ρ:=sort41_ren) { sort41 with } (some ad) cc v1 w).mono fun e w' ⟨he,hw⟩=>by
  subst hw
  exact ⟨_,he,.pure hr (VR.mk_tup rfl fun i c hi=>by simp at hi)⟩
theorem byDueF (L:JL) (c:Option Nat) (hL:L.Ok):ToldOk P41 G41 20 [jv L c] (.fresh true 1 L.n (fun j=>[.int .i64 (ordI L j)]) L.n (some L.n)):=by
 have hn:=hL.n
 have key:ToldRef P41 G41 28 [.own 1 0 0 L.n (some L.n),.fn 29 [.ptr 0 0 0 0]] [box1 (jv L c),ib 0 L.n (fun j=>j)] (.tup []) [box1 (jv L c),ib 0 L.n (ordI L)]:=by
  rcases Nat.eq_zero_or_pos L.n with h0 | h0
  ·rw [h0]
   refine (sort20z [box1 (jv L c),ib 0 0 (fun j=>j)] 1 _ rfl 29 [.ptr 0 0 0 0]).res ?_
   exact .cons ⟨rfl,rfl,rfl,id,fun _ _=>rfl⟩ (.cons ⟨rfl,rfl,rfl,id,fun j hj=>by cases hj⟩ .nil)
  ·exact sort20 L c h0 hL
 have hl:=l20 L c hL
 have h00:∀ j,idn 0 j = 0:=fun j=>by simp [idn]
 generalize ordI L = x at *
 generalize idn 0 = y at *
 have:=stepL_told hm41 hn41 (A:=A41) (m:=0) (K:=K20 L.n [box1 (jv L c),ib 0 L.n (fun j=>j)] [box1 (jv L c),ib 0 L.n x]) (told_addRef okK41a (refS_told key)) (by kernel_rfl) (loops1 hl) (args:=[jv L c]) (r:=.fresh true 1 L.n (fun j=>[.int .i64 (x (0+j))]) L.n (some L.n)) ?_
 ·rw [show (fun j=>[T.int .i64 (x (0+j))]) = fun j=>[T.int .i64 (x j)] from funext fun j=>by rw [Nat.zero_add]] at this
  exact this
 ·refine Eq.trans (show stepL P41 G41 A41 (K20 L.n [box1 (jv L c),ib 0 L.n (fun j=>j)] [box1 (jv L c),ib 0 L.n x]) 0 20 [(3,litS (v20 L.n 0) [box1 (jv L c),ib 0 L.n y] (.exit 0) [.ptr 0 0 0 0,.own 1 0 0 L.n (some L.n)] [box1 (jv L c),ib 0 L.n (fun j=>j)])] [jv L c] =
(
 bif decide (0<=Int.ofNat L.n)&&decide (Int.ofNat L.n<=Int.ofNat L.n)&&decide (Int.ofNat L.n * 8<=140737488355328)&&decide (Int.ofNat L.n<=9223372036854775807) then
 bif weakF [.ptr 0 0 0 0,.own [Blk.mk 0 [jv L c].length (1:Nat) (fun x=>[jv L c]) false false].length (0:Nat) (0:Nat) L.n (some L.n),.int .i64 (.ofNat L.n),.int .i64 0] [.mk 0 [jv L c].length (1:Nat) (fun x=>[jv L c]) false false,.mk 0 1 L.n (fun x=>[.int .i64 0]) true false] [.ptr 0 0 0 0,.own 1 0 0 L.n (some L.n),.int .i64 (.ofNat L.n),.int .i64 0] [.mk 0 1 1 (fun x=>[jv L c]) false false,.mk 0 1 L.n (fun j=>[.int .i64 (y j)]) true false] then
 bif sameStF [.own 1 0 0 L.n (some L.n),.fn (29:Nat) [.ptr 0 0 0 0]] [.mk 0 1 1 (fun x=>[jv L c]) false false,.mk 0 1 L.n (fun j=>[.int .i64 (.ofNat j)]) true false] [.own 1 0 0 L.n (some L.n),.fn (29:Nat) [.ptr 0 0 0 0]] [.mk 0 1 1 (fun x=>[jv L c]) false false,.mk 0 1 L.n (fun j=>[.int .i64 (.ofNat j)]) true false] then
 some (bif ((0:Nat)+L.n).ble L.n then .fresh true (1:Nat) (L.n - 0) (fun j=>[.int .i64 (x (0+j))]) L.n (some L.n)
 else .undef)
 else none else none else
 none) from by kernel_rfl) ?_
  (repeat (first | (refine bift (by first | assumption | omega | (simp (disch:=omega) only [wr64,wr8,wr16,wr32,ofNatE,toNatE,toNatE1,Bool.and_eq_true,Bool.or_eq_true,Bool.not_eq_true',decide_eq_true_eq,decide_eq_false_iff_not,nble,nblt,nbeq,Nat.zero_add,Nat.add_zero,Int.zero_add,Int.add_zero,List.length_cons,List.length_nil,true_and,and_true,Nat.reduceAdd,and_self]; done) | (simp (disch:=omega) only [wr64,wr8,wr16,wr32,ofNatE,toNatE,toNatE1,Bool.and_eq_true,Bool.or_eq_true,Bool.not_eq_true',decide_eq_true_eq,decide_eq_false_iff_not,nble,nblt,nbeq,Nat.zero_add,Nat.add_zero,Int.zero_add,Int.add_zero,List.length_cons,List.length_nil,true_and,and_true,Nat.reduceAdd,and_self]; omega)) ?_) | (refine biff (by first | assumption | (simp (disch:=omega) only [wr64,wr8,wr16,wr32,ofNatE,toNatE,toNatE1,Bool.and_eq_true,Bool.or_eq_true,Bool.not_eq_true',decide_eq_true_eq,decide_eq_false_iff_not,nble,nblt,nbeq,Nat.zero_add,Nat.add_zero,Int.zero_add,Int.add_zero,List.length_cons,List.length_nil,true_and,and_true,Nat.reduceAdd,and_self]; done) | (simp (disch:=omega) only [wr64,wr8,wr16,wr32,ofNatE,toNatE,toNatE1,Bool.and_eq_true,Bool.or_eq_true,Bool.not_eq_true',decide_eq_true_eq,decide_eq_false_iff_not,nble,nblt,nbeq,Nat.zero_add,Nat.add_zero,Int.zero_add,Int.add_zero,List.length_cons,List.length_nil,true_and,and_true,Nat.reduceAdd,and_self]; omega)) ?_)))
  refine bift (weakF_of ⟨rfl,.cons ⟨rfl,rfl,rfl,id,fun _ _=>rfl⟩ (.cons' ⟨rfl,rfl,rfl,fun j hj=>?_⟩ (fun _ _=>rfl) .nil)⟩) ?_
  ·simp only [ib,h00]
  refine bift (sameStF_iff.2 ⟨rfl,.cons ⟨rfl,rfl,rfl,id,fun _ _=>rfl⟩ (.cons ⟨rfl,rfl,rfl,id,fun _ _=>rfl⟩ .nil)⟩) ?_
  (repeat (first | (refine bift (by first | assumption | omega | (simp (disch:=omega) only [wr64,wr8,wr16,wr32,ofNatE,toNatE,toNatE1,Bool.and_eq_true,Bool.or_eq_true,Bool.not_eq_true',decide_eq_true_eq,decide_eq_false_iff_not,nble,nblt,nbeq,Nat.zero_add,Nat.add_zero,Int.zero_add,Int.add_zero,List.length_cons,List.length_nil,true_and,and_true,Nat.reduceAdd,and_self]; done) | (simp (disch:=omega) only [wr64,wr8,wr16,wr32,ofNatE,toNatE,toNatE1,Bool.and_eq_true,Bool.or_eq_true,Bool.not_eq_true',decide_eq_true_eq,decide_eq_false_iff_not,nble,nblt,nbeq,Nat.zero_add,Nat.add_zero,Int.zero_add,Int.add_zero,List.length_cons,List.length_nil,true_and,and_true,Nat.reduceAdd,and_self]; omega)) ?_) | (refine biff (by first | assumption | (simp (disch:=omega) only [wr64,wr8,wr16,wr32,ofNatE,toNatE,toNatE1,Bool.and_eq_true,Bool.or_eq_true,Bool.not_eq_true',decide_eq_true_eq,decide_eq_false_iff_not,nble,nblt,nbeq,Nat.zero_add,Nat.add_zero,Int.zero_add,Int.add_zero,List.length_cons,List.length_nil,true_and,and_true,Nat.reduceAdd,and_self]; done) | (simp (disch:=omega) only [wr64,wr8,wr16,wr32,ofNatE,toNatE,toNatE1,Bool.and_eq_true,Bool.or_eq_true,Bool.not_eq_true',decide_eq_true_eq,decide_eq_false_iff_not,nble,nblt,nbeq,Nat.zero_add,Nat.add_zero,Int.zero_add,Int.add_zero,List.length_cons,List.length_nil,true_and,and_true,Nat.reduceAdd,and_self]; omega)) ?_)))
  first | rfl | (simp (disch:=omega) only [wr64,wr8,wr16,wr32,ofNatE,Nat.zero_add,bleT,bltT,dT,dF,Bool.true_and,Bool.and_true,Bool.and_self,cond_true,cond_false,Nat.sub_zero,beq_self_eq_true]; done) | (simp (disch:=omega) only [wr64,wr8,wr16,wr32,ofNatE,Nat.zero_add,bleT,bltT,dT,dF,Bool.true_and,Bool.and_true,Bool.and_self,cond_true,cond_false,Nat.sub_zero,beq_self_eq_true]; rfl)
theorem byDueT (L:JL) (c:Option Nat) (hL:L.Ok):ToldOk P41 G41 20 [jv L c] (.new (iv L.n (ordI L) (some L.n))):=(byDueF L c hL).frz
open Go.Proofs
noncomputable def KL (l1 l2:List (List T)) (r2:T):Orc:=(K41a.add 19 (callS l1 (.int .i64 0))).add 20 (callS l2 r2)
def tms (L:JL) (o:Nat->Nat):Nat->Int
 | 0=>0
 | i+1=>tms L o i+L.tm (o i)
def wst (L:JL) (o:Nat->Nat):Nat->Int
 | 0=>0
 | i+1=>if i = 0 ∨ wst L o i<tms L o (i+1) - L.du (o i) then tms L o (i+1) - L.du (o i) else wst L o i
def seenF (o:Nat->Nat) (i j:Nat):Bool:=(List.range i).any fun k=>o k==j
def bb (n:Nat) (x:Nat->Bool):Blk:=⟨0,1,n,fun j=>[.bool (x j)],true,false⟩
def ov (m:Nat) (o:Nat->Nat) (c:Option Nat):T:=.view 1 m (fun j=>[.int .i64 (o j)]) c
def v11 (L:JL) (c:Option Nat) (m:Nat) (o:Nat->Nat) (c2:Option Nat) (w t:Int) (i:Nat):List T:=[jv L c,.int .i64 w,.own 0 0 0 L.n (some L.n),.int .i64 t,ov m o c2,.int .i64 m,.int .i64 i]
theorem okKL {L:JL} {c:Option Nat} (hL:L.Ok) {l1 l2:List (List T)} (h1:∀ a ∈ l1,∃ m:Int,1<=m/\m<=16/\a = [jv L c,.int .i64 m]) (h2:∀ a ∈ l2,a = [jv L c]):OrcOk P41 G41 (KL l1 l2 (.new (iv L.n (ordI L) (some L.n)))):=by
 refine told_add (told_add okK41a (callS_told fun a ha=>?_)) (callS_told fun a ha=>?_)
 ·obtain ⟨m,m1,m2,rfl⟩:=h1 a ha
  exact limT L c m hL ⟨m1,m2⟩
 ·rw [h2 a ha]; exact byDueT L c hL
theorem orderT (L:JL) (c:Option Nat) (hL:L.Ok):ToldOk P41 G41 10 [jv L c] (.tup [iv L.n (ordI L) (some L.n),.int .i64 0]):=by
 have ok:=okKL (c:=c) hL (l1:=[[jv L c,.int .i64 1]]) (l2:=[[jv L c]]) (fun a ha=>⟨1,by omega,by omega,by simpa using ha⟩) (fun a ha=>by simpa using ha)
 have m1:=List.mem_singleton.2 (rfl:[jv L c,.int .i64 1] = _)
 have m2:=List.mem_singleton.2 (rfl:[jv L c] = _)
 generalize [[jv L c,.int .i64 1]] = l1 at ok m1
 generalize [[jv L c]] = l2 at ok m2
 generalize ordI L = x at *
 refine stepV_told hm41 hn41 ok (A:=A41) (m:=0) ?_
 refine Eq.trans (show stepV P41 G41 A41 (KL l1 l2 (.new (iv L.n x (some L.n)))) 0 10 [jv L c] =
(
 bif sameArgsF [jv L c,.int .i64 1] l1 then
 bif sameArgsF [jv L c] l2 then
 some (.tup [.view 1 L.n (fun j=>[.int .i64 (x j)]) (some L.n),.int .i64 0])
 else none else
 none) from by kernel_rfl) ?_
 refine bift (sameArgsF_iff.2 m1) ?_
 refine bift (sameArgsF_iff.2 m2) ?_
 rfl
theorem tms_bd {L:JL} (hL:L.Ok) {o:Nat->Nat} {m:Nat} (ho:∀ j,j<m->o j<L.n):∀ i,i<=m->0<=tms L o i/\tms L o i<=100000 * i:=by
 intro i
 induction i with
 | zero=>intro _; simp [tms]
 | succ i ih=>intro hi; have:=ih (by omega); have:=hL.tm (o i) (ho i (by omega)); simp only [tms]; omega
theorem seenF_iff {o:Nat->Nat} {i j:Nat}:seenF o i j = true ↔ ∃ k,k<i/\o k = j:=by
 unfold seenF; simp
theorem l11 (L:JL) (c:Option Nat) (m:Nat) (o:Nat->Nat) (c2:Option Nat) (hL:L.Ok) (hm:m<=256) (ho:∀ j,j<m->o j<L.n) (hd:∀ i j,i<j->j<m->o i ≠ o j) :
 LoopOk P41 G41 (A41 11) 11 7 (litS (v11 L c m o c2 0 0 0) [bb L.n fun _=>false] (.exit 0) [.int .i64 (wst L o m),.undef] [bb L.n (seenF o m)]):=by
 have hn:=hL.n
 have:=loop_steps (P:=P41) (Gl:=G41) (an:=A41 11) hm41 (f:=11) (r:=7) (by kernel_rfl) (fun i=>v11 L c m o c2 (wst L o i) (tms L o i) i) (fun i=>[bb L.n (seenF o i)]) (n:=m) (e1:=.exit 0) (vs1:=[.int .i64 (wst L o m),.undef]) (h1:=[bb L.n (seenF o m)]) (fun i hi=>?_) ?_
 ·exact this
 ·have hb:=tms_bd hL ho i (by omega)
  have hb1:=tms_bd hL ho (i+1) (by omega)
  have ht:=hL.tm (o i) (ho i hi)
  have hu:=hL.du (o i) (ho i hi)
  have hoi:=ho i hi
  have hseen:¬ seenF o i (o i) = true:=by
   intro h
   obtain ⟨k,k1,k2⟩:=seenF_iff.1 h
   exact hd k i k1 hi k2
  have es:tms L o (i+1) = tms L o i+L.tm (o i):=rfl
  have ew:wst L o (i+1) = if i = 0 ∨ wst L o i<tms L o i+L.tm (o i) - L.du (o i) then tms L o i+L.tm (o i) - L.du (o i) else wst L o i:=rfl
  have sb:∀ j,seenF o (i+1) j = (bif j==o i then true else seenF o i j):=by
   intro j
   unfold seenF
   rw [List.range_succ,List.any_append]
   by_cases q:j = o i
   ·subst q; simp
   ·rw [beq_eq_false_iff_ne.2 q]; simp [show o i ≠ j from fun e=>q e.symm]
  rw [es,ew]
  generalize wst L o i = w at *
  generalize tms L o i = t at *
  generalize seenF o i = x at *
  refine Step.mk0 (A:=A41) (m:=0) okK41a rfl rfl loops0 (Eq.trans (show iterR P41 G41 A41 K41a 0 11 [] 7 (v11 L c m o c2 w t i) [bb L.n x] =
(
 bif decide (Int.ofNat i<Int.ofNat m) then
 bif decide (0<=Int.ofNat i)&&decide (Int.ofNat i<Int.ofNat m) then
 bif decide (Int.ofNat L.n<=Int.ofNat (o i)) then
 some ((.ret,[.int .i64 0,.int .i64 1],[bb L.n x]))
 else
 bif decide (0<=Int.ofNat (o i))&&decide (Int.ofNat (o i)<Int.ofNat L.n) then
 bif ((0:Nat)+o i).blt L.n then
 bif x (0+o i) then
 some ((.ret,[.int .i64 0,.int .i64 1],[bb L.n x]))
 else
 bif decide (0<=Int.ofNat (o i))&&decide (Int.ofNat (o i)<Int.ofNat L.n) then
 bif ((0:Nat)+o i).blt L.n&&true&&true&&true then
 bif decide (0<=Int.ofNat (o i))&&decide (Int.ofNat (o i)<Int.ofNat L.n) then
 bif decide (0<=Int.ofNat (o i))&&decide (Int.ofNat (o i)<Int.ofNat L.n) then
 bif decide (Int.ofNat i = 0) then
 some ((.normal,[jv L c,.int .i64 (IntKind.i64.wrap (IntKind.i64.wrap (t+L.tm (o i)) - L.du (o i))),.own 0 0 0 L.n (some L.n),.int .i64 (IntKind.i64.wrap (t+L.tm (o i))),ov m o c2,.int .i64 (.ofNat m),.int .i64 (IntKind.i64.wrap (Int.ofNat i+1))],[.mk 0 1 L.n (fun e=>[.bool (bif e==0+o i then true
 else x e)]) true false]))
 else
 bif decide (w<IntKind.i64.wrap (IntKind.i64.wrap (t+L.tm (o i)) - L.du (o i))) then
 some ((.normal,[jv L c,.int .i64 (IntKind.i64.wrap (IntKind.i64.wrap (t+L.tm (o i)) - L.du (o i))),.own 0 0 0 L.n (some L.n),.int .i64 (IntKind.i64.wrap (t+L.tm (o i))),ov m o c2,.int .i64 (.ofNat m),.int .i64 (IntKind.i64.wrap (Int.ofNat i+1))],[.mk 0 1 L.n (fun e=>[.bool (bif e==0+o i then true
 else x e)]) true false]))
 else
 some ((.normal,[jv L c,.int .i64 w,.own 0 0 0 L.n (some L.n),.int .i64 (IntKind.i64.wrap (t+L.tm (o i))),ov m o c2,.int .i64 (.ofNat m),.int .i64 (IntKind.i64.wrap (Int.ofNat i+1))],[.mk 0 1 L.n (fun e=>[.bool (bif e==0+o i then true
 else x e)]) true false]))
 else none else none else none else none else none else none else none else
 some ((.exit 0,[.int .i64 w,.undef],[bb L.n x]))) from by kernel_rfl) ?_) (h1:=[⟨0,1,L.n,fun j=>[.bool (bif j==o i then true else x j)],true,false⟩]) ?_
  ·(repeat (first | (refine bift (by first | assumption | omega | (simp (disch:=omega) only [wr64,wr8,wr16,wr32,ofNatE,toNatE,toNatE1,Bool.and_eq_true,Bool.or_eq_true,Bool.not_eq_true',decide_eq_true_eq,decide_eq_false_iff_not,nble,nblt,nbeq,Nat.zero_add,Nat.add_zero,Int.zero_add,Int.add_zero,List.length_cons,List.length_nil,true_and,and_true,Nat.reduceAdd,and_self]; done) | (simp (disch:=omega) only [wr64,wr8,wr16,wr32,ofNatE,toNatE,toNatE1,Bool.and_eq_true,Bool.or_eq_true,Bool.not_eq_true',decide_eq_true_eq,decide_eq_false_iff_not,nble,nblt,nbeq,Nat.zero_add,Nat.add_zero,Int.zero_add,Int.add_zero,List.length_cons,List.length_nil,true_and,and_true,Nat.reduceAdd,and_self]; omega)) ?_) | (refine biff (by first | assumption | (simp (disch:=omega) only [wr64,wr8,wr16,wr32,ofNatE,toNatE,toNatE1,Bool.and_eq_true,Bool.or_eq_true,Bool.not_eq_true',decide_eq_true_eq,decide_eq_false_iff_not,nble,nblt,nbeq,Nat.zero_add,Nat.add_zero,Int.zero_add,Int.add_zero,List.length_cons,List.length_nil,true_and,and_true,Nat.reduceAdd,and_self]; done) | (simp (disch:=omega) only [wr64,wr8,wr16,wr32,ofNatE,toNatE,toNatE1,Bool.and_eq_true,Bool.or_eq_true,Bool.not_eq_true',decide_eq_true_eq,decide_eq_false_iff_not,nble,nblt,nbeq,Nat.zero_add,Nat.add_zero,Int.zero_add,Int.add_zero,List.length_cons,List.length_nil,true_and,and_true,Nat.reduceAdd,and_self]; omega)) ?_)))
   by_cases q:i = 0
   ·rw [if_pos (.inl q)]
    (repeat (first | (refine bift (by first | assumption | omega | (simp (disch:=omega) only [wr64,wr8,wr16,wr32,ofNatE,toNatE,toNatE1,Bool.and_eq_true,Bool.or_eq_true,Bool.not_eq_true',decide_eq_true_eq,decide_eq_false_iff_not,nble,nblt,nbeq,Nat.zero_add,Nat.add_zero,Int.zero_add,Int.add_zero,List.length_cons,List.length_nil,true_and,and_true,Nat.reduceAdd,and_self]; done) | (simp (disch:=omega) only [wr64,wr8,wr16,wr32,ofNatE,toNatE,toNatE1,Bool.and_eq_true,Bool.or_eq_true,Bool.not_eq_true',decide_eq_true_eq,decide_eq_false_iff_not,nble,nblt,nbeq,Nat.zero_add,Nat.add_zero,Int.zero_add,Int.add_zero,List.length_cons,List.length_nil,true_and,and_true,Nat.reduceAdd,and_self]; omega)) ?_) | (refine biff (by first | assumption | (simp (disch:=omega) only [wr64,wr8,wr16,wr32,ofNatE,toNatE,toNatE1,Bool.and_eq_true,Bool.or_eq_true,Bool.not_eq_true',decide_eq_true_eq,decide_eq_false_iff_not,nble,nblt,nbeq,Nat.zero_add,Nat.add_zero,Int.zero_add,Int.add_zero,List.length_cons,List.length_nil,true_and,and_true,Nat.reduceAdd,and_self]; done) | (simp (disch:=omega) only [wr64,wr8,wr16,wr32,ofNatE,toNatE,toNatE1,Bool.and_eq_true,Bool.or_eq_true,Bool.not_eq_true',decide_eq_true_eq,decide_eq_false_iff_not,nble,nblt,nbeq,Nat.zero_add,Nat.add_zero,Int.zero_add,Int.add_zero,List.length_cons,List.length_nil,true_and,and_true,Nat.reduceAdd,and_self]; omega)) ?_)))
    first | rfl | (simp (disch:=omega) only [wr64,wr8,wr16,wr32,ofNatE,Nat.zero_add,bleT,bltT,dT,dF,Bool.true_and,Bool.and_true,Bool.and_self,cond_true,cond_false,Nat.sub_zero,beq_self_eq_true]; done) | (simp (disch:=omega) only [wr64,wr8,wr16,wr32,ofNatE,Nat.zero_add,bleT,bltT,dT,dF,Bool.true_and,Bool.and_true,Bool.and_self,cond_true,cond_false,Nat.sub_zero,beq_self_eq_true]; rfl)
   ·refine biff (by first | assumption | (simp (disch:=omega) only [wr64,wr8,wr16,wr32,ofNatE,toNatE,toNatE1,Bool.and_eq_true,Bool.or_eq_true,Bool.not_eq_true',decide_eq_true_eq,decide_eq_false_iff_not,nble,nblt,nbeq,Nat.zero_add,Nat.add_zero,Int.zero_add,Int.add_zero,List.length_cons,List.length_nil,true_and,and_true,Nat.reduceAdd,and_self]; done) | (simp (disch:=omega) only [wr64,wr8,wr16,wr32,ofNatE,toNatE,toNatE1,Bool.and_eq_true,Bool.or_eq_true,Bool.not_eq_true',decide_eq_true_eq,decide_eq_false_iff_not,nble,nblt,nbeq,Nat.zero_add,Nat.add_zero,Int.zero_add,Int.add_zero,List.length_cons,List.length_nil,true_and,and_true,Nat.reduceAdd,and_self]; omega)) ?_
    by_cases q2:w<t+L.tm (o i) - L.du (o i)
    ·rw [if_pos (.inr q2)]
     (repeat (first | (refine bift (by first | assumption | omega | (simp (disch:=omega) only [wr64,wr8,wr16,wr32,ofNatE,toNatE,toNatE1,Bool.and_eq_true,Bool.or_eq_true,Bool.not_eq_true',decide_eq_true_eq,decide_eq_false_iff_not,nble,nblt,nbeq,Nat.zero_add,Nat.add_zero,Int.zero_add,Int.add_zero,List.length_cons,List.length_nil,true_and,and_true,Nat.reduceAdd,and_self]; done) | (simp (disch:=omega) only [wr64,wr8,wr16,wr32,ofNatE,toNatE,toNatE1,Bool.and_eq_true,Bool.or_eq_true,Bool.not_eq_true',decide_eq_true_eq,decide_eq_false_iff_not,nble,nblt,nbeq,Nat.zero_add,Nat.add_zero,Int.zero_add,Int.add_zero,List.length_cons,List.length_nil,true_and,and_true,Nat.reduceAdd,and_self]; omega)) ?_) | (refine biff (by first | assumption | (simp (disch:=omega) only [wr64,wr8,wr16,wr32,ofNatE,toNatE,toNatE1,Bool.and_eq_true,Bool.or_eq_true,Bool.not_eq_true',decide_eq_true_eq,decide_eq_false_iff_not,nble,nblt,nbeq,Nat.zero_add,Nat.add_zero,Int.zero_add,Int.add_zero,List.length_cons,List.length_nil,true_and,and_true,Nat.reduceAdd,and_self]; done) | (simp (disch:=omega) only [wr64,wr8,wr16,wr32,ofNatE,toNatE,toNatE1,Bool.and_eq_true,Bool.or_eq_true,Bool.not_eq_true',decide_eq_true_eq,decide_eq_false_iff_not,nble,nblt,nbeq,Nat.zero_add,Nat.add_zero,Int.zero_add,Int.add_zero,List.length_cons,List.length_nil,true_and,and_true,Nat.reduceAdd,and_self]; omega)) ?_)))
     first | rfl | (simp (disch:=omega) only [wr64,wr8,wr16,wr32,ofNatE,Nat.zero_add,bleT,bltT,dT,dF,Bool.true_and,Bool.and_true,Bool.and_self,cond_true,cond_false,Nat.sub_zero,beq_self_eq_true]; done) | (simp (disch:=omega) only [wr64,wr8,wr16,wr32,ofNatE,Nat.zero_add,bleT,bltT,dT,dF,Bool.true_and,Bool.and_true,Bool.and_self,cond_true,cond_false,Nat.sub_zero,beq_self_eq_true]; rfl)
    ·rw [if_neg (by omega)]
     (repeat (first | (refine bift (by first | assumption | omega | (simp (disch:=omega) only [wr64,wr8,wr16,wr32,ofNatE,toNatE,toNatE1,Bool.and_eq_true,Bool.or_eq_true,Bool.not_eq_true',decide_eq_true_eq,decide_eq_false_iff_not,nble,nblt,nbeq,Nat.zero_add,Nat.add_zero,Int.zero_add,Int.add_zero,List.length_cons,List.length_nil,true_and,and_true,Nat.reduceAdd,and_self]; done) | (simp (disch:=omega) only [wr64,wr8,wr16,wr32,ofNatE,toNatE,toNatE1,Bool.and_eq_true,Bool.or_eq_true,Bool.not_eq_true',decide_eq_true_eq,decide_eq_false_iff_not,nble,nblt,nbeq,Nat.zero_add,Nat.add_zero,Int.zero_add,Int.add_zero,List.length_cons,List.length_nil,true_and,and_true,Nat.reduceAdd,and_self]; omega)) ?_) | (refine biff (by first | assumption | (simp (disch:=omega) only [wr64,wr8,wr16,wr32,ofNatE,toNatE,toNatE1,Bool.and_eq_true,Bool.or_eq_true,Bool.not_eq_true',decide_eq_true_eq,decide_eq_false_iff_not,nble,nblt,nbeq,Nat.zero_add,Nat.add_zero,Int.zero_add,Int.add_zero,List.length_cons,List.length_nil,true_and,and_true,Nat.reduceAdd,and_self]; done) | (simp (disch:=omega) only [wr64,wr8,wr16,wr32,ofNatE,toNatE,toNatE1,Bool.and_eq_true,Bool.or_eq_true,Bool.not_eq_true',decide_eq_true_eq,decide_eq_false_iff_not,nble,nblt,nbeq,Nat.zero_add,Nat.add_zero,Int.zero_add,Int.add_zero,List.length_cons,List.length_nil,true_and,and_true,Nat.reduceAdd,and_self]; omega)) ?_)))
     first | rfl | (simp (disch:=omega) only [wr64,wr8,wr16,wr32,ofNatE,Nat.zero_add,bleT,bltT,dT,dF,Bool.true_and,Bool.and_true,Bool.and_self,cond_true,cond_false,Nat.sub_zero,beq_self_eq_true]; done) | (simp (disch:=omega) only [wr64,wr8,wr16,wr32,ofNatE,Nat.zero_add,bleT,bltT,dT,dF,Bool.true_and,Bool.and_true,Bool.and_self,cond_true,cond_false,Nat.sub_zero,beq_self_eq_true]; rfl)
  ·refine .cons ⟨rfl,rfl,rfl,id,fun j hj=>?_⟩ .nil
   show [T.bool (seenF o (i+1) j)] = [.bool (bif j==o i then true else x j)]
   rw [sb j]
 ·generalize wst L o m = w at *
  generalize tms L o m = t at *
  generalize seenF o m = x at *
  refine Last.mk0 (A:=A41) (m:=0) okK41a rfl rfl loops0 (by simp) (Eq.trans (show iterR P41 G41 A41 K41a 0 11 [] 7 (v11 L c m o c2 w t m) [bb L.n x] =
(
 bif decide (Int.ofNat m<Int.ofNat m) then
 bif decide (0<=Int.ofNat m)&&decide (Int.ofNat m<Int.ofNat m) then
 bif decide (Int.ofNat L.n<=Int.ofNat (o m)) then
 some ((.ret,[.int .i64 0,.int .i64 1],[bb L.n x]))
 else
 bif decide (0<=Int.ofNat (o m))&&decide (Int.ofNat (o m)<Int.ofNat L.n) then
 bif ((0:Nat)+o m).blt L.n then
 bif x (0+o m) then
 some ((.ret,[.int .i64 0,.int .i64 1],[bb L.n x]))
 else
 bif decide (0<=Int.ofNat (o m))&&decide (Int.ofNat (o m)<Int.ofNat L.n) then
 bif ((0:Nat)+o m).blt L.n&&true&&true&&true then
 bif decide (0<=Int.ofNat (o m))&&decide (Int.ofNat (o m)<Int.ofNat L.n) then
 bif decide (0<=Int.ofNat (o m))&&decide (Int.ofNat (o m)<Int.ofNat L.n) then
 bif decide (Int.ofNat m = 0) then
 some ((.normal,[jv L c,.int .i64 (IntKind.i64.wrap (IntKind.i64.wrap (t+L.tm (o m)) - L.du (o m))),.own 0 0 0 L.n (some L.n),.int .i64 (IntKind.i64.wrap (t+L.tm (o m))),ov m o c2,.int .i64 (.ofNat m),.int .i64 (IntKind.i64.wrap (Int.ofNat m+1))],[.mk 0 1 L.n (fun e=>[.bool (bif e==0+o m then true
 else x e)]) true false]))
 else
 bif decide (w<IntKind.i64.wrap (IntKind.i64.wrap (t+L.tm (o m)) - L.du (o m))) then
 some ((.normal,[jv L c,.int .i64 (IntKind.i64.wrap (IntKind.i64.wrap (t+L.tm (o m)) - L.du (o m))),.own 0 0 0 L.n (some L.n),.int .i64 (IntKind.i64.wrap (t+L.tm (o m))),ov m o c2,.int .i64 (.ofNat m),.int .i64 (IntKind.i64.wrap (Int.ofNat m+1))],[.mk 0 1 L.n (fun e=>[.bool (bif e==0+o m then true
 else x e)]) true false]))
 else
 some ((.normal,[jv L c,.int .i64 w,.own 0 0 0 L.n (some L.n),.int .i64 (IntKind.i64.wrap (t+L.tm (o m))),ov m o c2,.int .i64 (.ofNat m),.int .i64 (IntKind.i64.wrap (Int.ofNat m+1))],[.mk 0 1 L.n (fun e=>[.bool (bif e==0+o m then true
 else x e)]) true false]))
 else none else none else none else none else none else none else none else
 some ((.exit 0,[.int .i64 w,.undef],[bb L.n x]))) from by kernel_rfl) ?_) (h1:=[bb L.n x]) (.refl _)
  (repeat (first | (refine bift (by first | assumption | omega | (simp (disch:=omega) only [wr64,wr8,wr16,wr32,ofNatE,toNatE,toNatE1,Bool.and_eq_true,Bool.or_eq_true,Bool.not_eq_true',decide_eq_true_eq,decide_eq_false_iff_not,nble,nblt,nbeq,Nat.zero_add,Nat.add_zero,Int.zero_add,Int.add_zero,List.length_cons,List.length_nil,true_and,and_true,Nat.reduceAdd,and_self]; done) | (simp (disch:=omega) only [wr64,wr8,wr16,wr32,ofNatE,toNatE,toNatE1,Bool.and_eq_true,Bool.or_eq_true,Bool.not_eq_true',decide_eq_true_eq,decide_eq_false_iff_not,nble,nblt,nbeq,Nat.zero_add,Nat.add_zero,Int.zero_add,Int.add_zero,List.length_cons,List.length_nil,true_and,and_true,Nat.reduceAdd,and_self]; omega)) ?_) | (refine biff (by first | assumption | (simp (disch:=omega) only [wr64,wr8,wr16,wr32,ofNatE,toNatE,toNatE1,Bool.and_eq_true,Bool.or_eq_true,Bool.not_eq_true',decide_eq_true_eq,decide_eq_false_iff_not,nble,nblt,nbeq,Nat.zero_add,Nat.add_zero,Int.zero_add,Int.add_zero,List.length_cons,List.length_nil,true_and,and_true,Nat.reduceAdd,and_self]; done) | (simp (disch:=omega) only [wr64,wr8,wr16,wr32,ofNatE,toNatE,toNatE1,Bool.and_eq_true,Bool.or_eq_true,Bool.not_eq_true',decide_eq_true_eq,decide_eq_false_iff_not,nble,nblt,nbeq,Nat.zero_add,Nat.add_zero,Int.zero_add,Int.add_zero,List.length_cons,List.length_nil,true_and,and_true,Nat.reduceAdd,and_self]; omega)) ?_)))
  first | rfl | (simp (disch:=omega) only [wr64,wr8,wr16,wr32,ofNatE,Nat.zero_add,bleT,bltT,dT,dF,Bool.true_and,Bool.and_true,Bool.and_self,cond_true,cond_false,Nat.sub_zero,beq_self_eq_true]; done) | (simp (disch:=omega) only [wr64,wr8,wr16,wr32,ofNatE,Nat.zero_add,bleT,bltT,dT,dF,Bool.true_and,Bool.and_true,Bool.and_self,cond_true,cond_false,Nat.sub_zero,beq_self_eq_true]; rfl)
theorem lateT (L:JL) (c:Option Nat) (m:Nat) (o:Nat->Nat) (c2:Option Nat) (hL:L.Ok) (hm:m<=256) (ho:∀ j,j<m->o j<L.n) (hd:∀ i j,i<j->j<m->o i ≠ o j) :
 ToldOk P41 G41 11 [jv L c,ov m o c2] (.tup [.int .i64 (wst L o m),.int .i64 0]):=by
 have hn:=hL.n
 have hl:=l11 L c m o c2 hL hm ho hd
 have ok:=okKL (c:=c) hL (l1:=[[jv L c,.int .i64 1]]) (l2:=[]) (fun a ha=>⟨1,by omega,by omega,by simpa using ha⟩) (fun a ha=>by cases ha)
 have m1:=List.mem_singleton.2 (rfl:[jv L c,.int .i64 1] = _)
 generalize [[jv L c,.int .i64 1]] = l1 at ok m1
 generalize ordI L = y at *
 generalize wst L o m = w at *
 generalize seenF o m = x at *
 refine stepL_told hm41 hn41 ok (A:=A41) (m:=0) (by kernel_rfl) (loops1 hl) ?_
 refine Eq.trans (show stepL P41 G41 A41 (KL l1 [] (.new (iv L.n y (some L.n)))) 0 11 [(7,litS (v11 L c m o c2 0 0 0) [bb L.n fun _=>false] (.exit 0) [.int .i64 w,.undef] [bb L.n x])] [jv L c,ov m o c2] =
(
 bif sameArgsF [jv L c,.int .i64 1] l1 then
 bif decide (0<=Int.ofNat L.n)&&decide (Int.ofNat L.n<=Int.ofNat L.n)&&decide (Int.ofNat L.n * 1<=140737488355328)&&decide (Int.ofNat L.n<=9223372036854775807) then
 bif weakF [jv L c,.int .i64 0,.own 0 0 0 L.n (some L.n),.int .i64 0,ov m o c2,.int .i64 (.ofNat m),.int .i64 0] [.mk 0 1 L.n (fun x=>[.bool false]) true false] [jv L c,.int .i64 0,.own 0 0 0 L.n (some L.n),.int .i64 0,ov m o c2,.int .i64 (.ofNat m),.int .i64 0] [.mk 0 1 L.n (fun j=>[.bool false]) true false] then
 some (.tup [.int .i64 w,.int .i64 0])
 else none else none else
 none) from by kernel_rfl) ?_
 refine bift (sameArgsF_iff.2 m1) ?_
 (repeat (first | (refine bift (by first | assumption | omega | (simp (disch:=omega) only [wr64,wr8,wr16,wr32,ofNatE,toNatE,toNatE1,Bool.and_eq_true,Bool.or_eq_true,Bool.not_eq_true',decide_eq_true_eq,decide_eq_false_iff_not,nble,nblt,nbeq,Nat.zero_add,Nat.add_zero,Int.zero_add,Int.add_zero,List.length_cons,List.length_nil,true_and,and_true,Nat.reduceAdd,and_self]; done) | (simp (disch:=omega) only [wr64,wr8,wr16,wr32,ofNatE,toNatE,toNatE1,Bool.and_eq_true,Bool.or_eq_true,Bool.not_eq_true',decide_eq_true_eq,decide_eq_false_iff_not,nble,nblt,nbeq,Nat.zero_add,Nat.add_zero,Int.zero_add,Int.add_zero,List.length_cons,List.length_nil,true_and,and_true,Nat.reduceAdd,and_self]; omega)) ?_) | (refine biff (by first | assumption | (simp (disch:=omega) only [wr64,wr8,wr16,wr32,ofNatE,toNatE,toNatE1,Bool.and_eq_true,Bool.or_eq_true,Bool.not_eq_true',decide_eq_true_eq,decide_eq_false_iff_not,nble,nblt,nbeq,Nat.zero_add,Nat.add_zero,Int.zero_add,Int.add_zero,List.length_cons,List.length_nil,true_and,and_true,Nat.reduceAdd,and_self]; done) | (simp (disch:=omega) only [wr64,wr8,wr16,wr32,ofNatE,toNatE,toNatE1,Bool.and_eq_true,Bool.or_eq_true,Bool.not_eq_true',decide_eq_true_eq,decide_eq_false_iff_not,nble,nblt,nbeq,Nat.zero_add,Nat.add_zero,Int.zero_add,Int.add_zero,List.length_cons,List.length_nil,true_and,and_true,Nat.reduceAdd,and_self]; omega)) ?_)))
 refine bift (weakF_of ⟨rfl,.cons ⟨rfl,rfl,rfl,id,fun _ _=>rfl⟩ .nil⟩) ?_
 first | rfl | (simp (disch:=omega) only [wr64,wr8,wr16,wr32,ofNatE,Nat.zero_add,bleT,bltT,dT,dF,Bool.true_and,Bool.and_true,Bool.and_self,cond_true,cond_false,Nat.sub_zero,beq_self_eq_true]; done) | (simp (disch:=omega) only [wr64,wr8,wr16,wr32,ofNatE,Nat.zero_add,bleT,bltT,dT,dF,Bool.true_and,Bool.and_true,Bool.and_self,cond_true,cond_false,Nat.sub_zero,beq_self_eq_true]; rfl)
open Go.Proofs
def nb (v n:Nat) (d:Nat->Nat):Blk:=⟨v,1,n,fun j=>[.int .i64 (d j)],true,false⟩
def lgst (tm:Nat->Int):Nat->Nat
 | 0=>0
 | i+1=>if tm (lgst tm i)<=tm i then i else lgst tm i
theorem lgst_lt (tm:Nat->Int):∀ n,0<n->lgst tm n<n:=by
 intro n
 induction n with
 | zero=>intro h; omega
 | succ n ih =>
  intro _
  simp only [lgst]
  split
  ·omega
  ·rcases Nat.eq_zero_or_pos n with h | h
   ·subst h; simp [lgst]
   ·have:=ih h; omega
theorem lgst_congr {f g:Nat->Int}:∀ n,(∀ j,j<n->f j = g j)->lgst f n = lgst g n:=by
 intro n
 induction n with
 | zero=>intro _; rfl
 | succ n ih =>
  intro h
  have e:=ih fun j hj=>h j (by omega)
  simp only [lgst,e]
  rcases Nat.eq_zero_or_pos n with h0 | h0
  ·subst h0; simp [lgst]
  ·rw [h n (by omega),h (lgst g n) (by have:=lgst_lt g n h0; omega)]
def pstep (L:JL) (s:List Nat × Int × List Nat) (job:Nat):List Nat × Int × List Nat :=
 if s.2.1+L.tm job<=L.du job then (s.1 ++ [job],s.2.1+L.tm job,s.2.2)
 else ((s.1 ++ [job]).eraseIdx (lgst (fun j=>L.tm ((s.1 ++ [job]).getD j 0)) (s.1.length+1)),s.2.1+L.tm job - L.tm ((s.1 ++ [job]).getD (lgst (fun j=>L.tm ((s.1 ++ [job]).getD j 0)) (s.1.length+1)) 0),
  s.2.2 ++ [(s.1 ++ [job]).getD (lgst (fun j=>L.tm ((s.1 ++ [job]).getD j 0)) (s.1.length+1)) 0])
def pst (L:JL) (o:Nat->Nat):Nat->List Nat × Int × List Nat
 | 0=>([],0,[])
 | i+1=>pstep L (pst L o i) (o i)
def v13 (L:JL) (c:Option Nat) (v len:Nat) (x3:T) (t:Int) (o:Nat->Nat) (c2:Option Nat) (i g k:Nat):List T :=
 [jv L c,.own 0 v 0 len none,x3,.int .i64 t,.int .i64 g,ov L.n o c2,.int .i64 L.n,.int .i64 i,.own 0 v 0 len none,.int .i64 len,.int .i64 k]
def e13 (L:JL) (c:Option Nat) (v len:Nat) (x3:T) (t:Int) (o:Nat->Nat) (c2:Option Nat) (i g:Nat):List T :=
 [jv L c,.own 0 v 0 len none,x3,.int .i64 t,.int .i64 g,ov L.n o c2,.int .i64 L.n,.int .i64 i]
noncomputable def K13:Orc:=K41a.inl P41 G41 A41 noneO 0 22
theorem okK13:OrcOk P41 G41 K13:=told_inl hm41 hn41 okK41a none_ok
def v6 (L:JL) (c:Option Nat) (x2 x3:T) (t:Int) (o:Nat->Nat) (c2:Option Nat) (i:Nat):List T:=[jv L c,x2,x3,.int .i64 t,ov L.n o c2,.int .i64 L.n,.int .i64 i]
open Go.Proofs
theorem l13 (L:JL) (c:Option Nat) (v len nd:Nat) (d:Nat->Nat) (x3:T) (t:Int) (o:Nat->Nat) (c2:Option Nat) (i:Nat) (hr:Heap) (hL:L.Ok) (hlen:0<len) (hnd:len<=nd) (hn4:len<=400) (hd:∀ j,j<len->d j<L.n) :
 LoopOk P41 G41 (A41 13) 13 13 (litS (v13 L c v len x3 t o c2 i 0 0) (nb v nd d :: hr) (.exit 2) (e13 L c v len x3 t o c2 i (lgst (fun j=>L.tm (d j)) len)) (nb v nd d :: hr)):=by
 have hn:=hL.n
 have:=loop_steps (P:=P41) (Gl:=G41) (an:=A41 13) hm41 (f:=13) (r:=13) (by kernel_rfl) (fun k=>v13 L c v len x3 t o c2 i (lgst (fun j=>L.tm (d j)) k) k) (fun _=>nb v nd d :: hr) (n:=len) (e1:=.exit 2) (vs1:=e13 L c v len x3 t o c2 i (lgst (fun j=>L.tm (d j)) len)) (h1:=nb v nd d :: hr) (fun k hk=>?_) ?_
 ·exact this
 ·have hg:lgst (fun j=>L.tm (d j)) k<len:=by
   rcases Nat.eq_zero_or_pos k with h | h
   ·subst h; exact hlen
   ·have:=lgst_lt (fun j=>L.tm (d j)) k h; omega
  have e:lgst (fun j=>L.tm (d j)) (k+1) = if L.tm (d (lgst (fun j=>L.tm (d j)) k))<=L.tm (d k) then k else lgst (fun j=>L.tm (d j)) k:=rfl
  rw [e]
  generalize lgst (fun j=>L.tm (d j)) k = g at *
  have h1:=hd k hk
  have h2:=hd g hg
  refine Step.mk0 (A:=A41) (m:=0) okK13 rfl rfl loops0 (Eq.trans (show iterR P41 G41 A41 K13 0 13 [] 13 (v13 L c v len x3 t o c2 i g k) (nb v nd d :: hr) =
(
 bif decide (Int.ofNat k<Int.ofNat len) then
 bif v==v then
 bif decide (0<=Int.ofNat k)&&decide (Int.ofNat k<Int.ofNat len) then
 bif v==v then
 bif ((0:Nat)+k).blt nd then
 bif decide (0<=Int.ofNat (d (0+k)))&&decide (Int.ofNat (d (0+k))<Int.ofNat L.n) then
 bif v==v then
 bif decide (0<=Int.ofNat g)&&decide (Int.ofNat g<Int.ofNat len) then
 bif v==v then
 bif ((0:Nat)+g).blt nd then
 bif decide (0<=Int.ofNat (d (0+g)))&&decide (Int.ofNat (d (0+g))<Int.ofNat L.n) then
 bif decide (L.tm (d (0+g))<=L.tm (d (0+k))) then
 some ((.normal,[jv L c,.own 0 v 0 len
 none,x3,.int .i64 t,.int .i64 (.ofNat k),ov L.n o c2,.int .i64 (.ofNat L.n),.int .i64 (.ofNat i),.own 0 v 0 len
 none,.int .i64 (.ofNat len),.int .i64 (IntKind.i64.wrap (Int.ofNat k+1))],nb v nd d :: hr))
 else
 some ((.normal,[jv L c,.own 0 v 0 len
 none,x3,.int .i64 t,.int .i64 (.ofNat g),ov L.n o c2,.int .i64 (.ofNat L.n),.int .i64 (.ofNat i),.own 0 v 0 len
 none,.int .i64 (.ofNat len),.int .i64 (IntKind.i64.wrap (Int.ofNat k+1))],nb v nd d :: hr))
 else none else none else none else none else none else none else none else none else none else none else
 some ((.exit 2,[jv L c,.own 0 v 0 len
 none,x3,.int .i64 t,.int .i64 (.ofNat g),ov L.n o c2,.int .i64 (.ofNat L.n),.int .i64 (.ofNat i)],nb v nd d :: hr))) from by kernel_rfl) ?_) (.refl _)
  (repeat (first | (refine bift (by first | assumption | omega | (simp (disch:=omega) only [wr64,wr8,wr16,wr32,ofNatE,toNatE,toNatE1,Bool.and_eq_true,Bool.or_eq_true,Bool.not_eq_true',decide_eq_true_eq,decide_eq_false_iff_not,nble,nblt,nbeq,Nat.zero_add,Nat.add_zero,Int.zero_add,Int.add_zero,List.length_cons,List.length_nil,true_and,and_true,Nat.reduceAdd,and_self,beq_self_eq_true]; done) | (simp (disch:=omega) only [wr64,wr8,wr16,wr32,ofNatE,toNatE,toNatE1,Bool.and_eq_true,Bool.or_eq_true,Bool.not_eq_true',decide_eq_true_eq,decide_eq_false_iff_not,nble,nblt,nbeq,Nat.zero_add,Nat.add_zero,Int.zero_add,Int.add_zero,List.length_cons,List.length_nil,true_and,and_true,Nat.reduceAdd,and_self,beq_self_eq_true]; omega)) ?_) | (refine biff (by first | assumption | (simp (disch:=omega) only [wr64,wr8,wr16,wr32,ofNatE,toNatE,toNatE1,Bool.and_eq_true,Bool.or_eq_true,Bool.not_eq_true',decide_eq_true_eq,decide_eq_false_iff_not,nble,nblt,nbeq,Nat.zero_add,Nat.add_zero,Int.zero_add,Int.add_zero,List.length_cons,List.length_nil,true_and,and_true,Nat.reduceAdd,and_self,beq_self_eq_true]; done) | (simp (disch:=omega) only [wr64,wr8,wr16,wr32,ofNatE,toNatE,toNatE1,Bool.and_eq_true,Bool.or_eq_true,Bool.not_eq_true',decide_eq_true_eq,decide_eq_false_iff_not,nble,nblt,nbeq,Nat.zero_add,Nat.add_zero,Int.zero_add,Int.add_zero,List.length_cons,List.length_nil,true_and,and_true,Nat.reduceAdd,and_self,beq_self_eq_true]; omega)) ?_)))
  by_cases q:L.tm (d g)<=L.tm (d k)
  ·rw [if_pos q]
   (repeat (first | (refine bift (by first | assumption | omega | (simp (disch:=omega) only [wr64,wr8,wr16,wr32,ofNatE,toNatE,toNatE1,Bool.and_eq_true,Bool.or_eq_true,Bool.not_eq_true',decide_eq_true_eq,decide_eq_false_iff_not,nble,nblt,nbeq,Nat.zero_add,Nat.add_zero,Int.zero_add,Int.add_zero,List.length_cons,List.length_nil,true_and,and_true,Nat.reduceAdd,and_self,beq_self_eq_true]; done) | (simp (disch:=omega) only [wr64,wr8,wr16,wr32,ofNatE,toNatE,toNatE1,Bool.and_eq_true,Bool.or_eq_true,Bool.not_eq_true',decide_eq_true_eq,decide_eq_false_iff_not,nble,nblt,nbeq,Nat.zero_add,Nat.add_zero,Int.zero_add,Int.add_zero,List.length_cons,List.length_nil,true_and,and_true,Nat.reduceAdd,and_self,beq_self_eq_true]; omega)) ?_) | (refine biff (by first | assumption | (simp (disch:=omega) only [wr64,wr8,wr16,wr32,ofNatE,toNatE,toNatE1,Bool.and_eq_true,Bool.or_eq_true,Bool.not_eq_true',decide_eq_true_eq,decide_eq_false_iff_not,nble,nblt,nbeq,Nat.zero_add,Nat.add_zero,Int.zero_add,Int.add_zero,List.length_cons,List.length_nil,true_and,and_true,Nat.reduceAdd,and_self,beq_self_eq_true]; done) | (simp (disch:=omega) only [wr64,wr8,wr16,wr32,ofNatE,toNatE,toNatE1,Bool.and_eq_true,Bool.or_eq_true,Bool.not_eq_true',decide_eq_true_eq,decide_eq_false_iff_not,nble,nblt,nbeq,Nat.zero_add,Nat.add_zero,Int.zero_add,Int.add_zero,List.length_cons,List.length_nil,true_and,and_true,Nat.reduceAdd,and_self,beq_self_eq_true]; omega)) ?_)))
   first | rfl | (simp (disch:=omega) only [wr64,wr8,wr16,wr32,ofNatE,Nat.zero_add,bleT,bltT,dT,dF,Bool.true_and,Bool.and_true,Bool.and_self,cond_true,cond_false,Nat.sub_zero,beq_self_eq_true]; done) | (simp (disch:=omega) only [wr64,wr8,wr16,wr32,ofNatE,Nat.zero_add,bleT,bltT,dT,dF,Bool.true_and,Bool.and_true,Bool.and_self,cond_true,cond_false,Nat.sub_zero,beq_self_eq_true]; rfl)
  ·rw [if_neg q]
   (repeat (first | (refine bift (by first | assumption | omega | (simp (disch:=omega) only [wr64,wr8,wr16,wr32,ofNatE,toNatE,toNatE1,Bool.and_eq_true,Bool.or_eq_true,Bool.not_eq_true',decide_eq_true_eq,decide_eq_false_iff_not,nble,nblt,nbeq,Nat.zero_add,Nat.add_zero,Int.zero_add,Int.add_zero,List.length_cons,List.length_nil,true_and,and_true,Nat.reduceAdd,and_self,beq_self_eq_true]; done) | (simp (disch:=omega) only [wr64,wr8,wr16,wr32,ofNatE,toNatE,toNatE1,Bool.and_eq_true,Bool.or_eq_true,Bool.not_eq_true',decide_eq_true_eq,decide_eq_false_iff_not,nble,nblt,nbeq,Nat.zero_add,Nat.add_zero,Int.zero_add,Int.add_zero,List.length_cons,List.length_nil,true_and,and_true,Nat.reduceAdd,and_self,beq_self_eq_true]; omega)) ?_) | (refine biff (by first | assumption | (simp (disch:=omega) only [wr64,wr8,wr16,wr32,ofNatE,toNatE,toNatE1,Bool.and_eq_true,Bool.or_eq_true,Bool.not_eq_true',decide_eq_true_eq,decide_eq_false_iff_not,nble,nblt,nbeq,Nat.zero_add,Nat.add_zero,Int.zero_add,Int.add_zero,List.length_cons,List.length_nil,true_and,and_true,Nat.reduceAdd,and_self,beq_self_eq_true]; done) | (simp (disch:=omega) only [wr64,wr8,wr16,wr32,ofNatE,toNatE,toNatE1,Bool.and_eq_true,Bool.or_eq_true,Bool.not_eq_true',decide_eq_true_eq,decide_eq_false_iff_not,nble,nblt,nbeq,Nat.zero_add,Nat.add_zero,Int.zero_add,Int.add_zero,List.length_cons,List.length_nil,true_and,and_true,Nat.reduceAdd,and_self,beq_self_eq_true]; omega)) ?_)))
   first | rfl | (simp (disch:=omega) only [wr64,wr8,wr16,wr32,ofNatE,Nat.zero_add,bleT,bltT,dT,dF,Bool.true_and,Bool.and_true,Bool.and_self,cond_true,cond_false,Nat.sub_zero,beq_self_eq_true]; done) | (simp (disch:=omega) only [wr64,wr8,wr16,wr32,ofNatE,Nat.zero_add,bleT,bltT,dT,dF,Bool.true_and,Bool.and_true,Bool.and_self,cond_true,cond_false,Nat.sub_zero,beq_self_eq_true]; rfl)
 ·generalize lgst (fun j=>L.tm (d j)) len = g at *
  refine Last.mk0 (A:=A41) (m:=0) okK13 rfl rfl loops0 (by simp) (Eq.trans (show iterR P41 G41 A41 K13 0 13 [] 13 (v13 L c v len x3 t o c2 i g len) (nb v nd d :: hr) =
(
 bif decide (Int.ofNat len<Int.ofNat len) then
 bif v==v then
 bif decide (0<=Int.ofNat len)&&decide (Int.ofNat len<Int.ofNat len) then
 bif v==v then
 bif ((0:Nat)+len).blt nd then
 bif decide (0<=Int.ofNat (d (0+len)))&&decide (Int.ofNat (d (0+len))<Int.ofNat L.n) then
 bif v==v then
 bif decide (0<=Int.ofNat g)&&decide (Int.ofNat g<Int.ofNat len) then
 bif v==v then
 bif ((0:Nat)+g).blt nd then
 bif decide (0<=Int.ofNat (d (0+g)))&&decide (Int.ofNat (d (0+g))<Int.ofNat L.n) then
 bif decide (L.tm (d (0+g))<=L.tm (d (0+len))) then
 some ((.normal,[jv L c,.own 0 v 0 len
 none,x3,.int .i64 t,.int .i64 (.ofNat len),ov L.n o c2,.int .i64 (.ofNat L.n),.int .i64 (.ofNat i),.own 0 v 0 len
 none,.int .i64 (.ofNat len),.int .i64 (IntKind.i64.wrap (Int.ofNat len+1))],nb v nd d :: hr))
 else
 some ((.normal,[jv L c,.own 0 v 0 len
 none,x3,.int .i64 t,.int .i64 (.ofNat g),ov L.n o c2,.int .i64 (.ofNat L.n),.int .i64 (.ofNat i),.own 0 v 0 len
 none,.int .i64 (.ofNat len),.int .i64 (IntKind.i64.wrap (Int.ofNat len+1))],nb v nd d :: hr))
 else none else none else none else none else none else none else none else none else none else none else
 some ((.exit 2,[jv L c,.own 0 v 0 len
 none,x3,.int .i64 t,.int .i64 (.ofNat g),ov L.n o c2,.int .i64 (.ofNat L.n),.int .i64 (.ofNat i)],nb v nd d :: hr))) from by kernel_rfl) ?_) (.refl _)
  (repeat (first | (refine bift (by first | assumption | omega | (simp (disch:=omega) only [wr64,wr8,wr16,wr32,ofNatE,toNatE,toNatE1,Bool.and_eq_true,Bool.or_eq_true,Bool.not_eq_true',decide_eq_true_eq,decide_eq_false_iff_not,nble,nblt,nbeq,Nat.zero_add,Nat.add_zero,Int.zero_add,Int.add_zero,List.length_cons,List.length_nil,true_and,and_true,Nat.reduceAdd,and_self]; done) | (simp (disch:=omega) only [wr64,wr8,wr16,wr32,ofNatE,toNatE,toNatE1,Bool.and_eq_true,Bool.or_eq_true,Bool.not_eq_true',decide_eq_true_eq,decide_eq_false_iff_not,nble,nblt,nbeq,Nat.zero_add,Nat.add_zero,Int.zero_add,Int.add_zero,List.length_cons,List.length_nil,true_and,and_true,Nat.reduceAdd,and_self]; omega)) ?_) | (refine biff (by first | assumption | (simp (disch:=omega) only [wr64,wr8,wr16,wr32,ofNatE,toNatE,toNatE1,Bool.and_eq_true,Bool.or_eq_true,Bool.not_eq_true',decide_eq_true_eq,decide_eq_false_iff_not,nble,nblt,nbeq,Nat.zero_add,Nat.add_zero,Int.zero_add,Int.add_zero,List.length_cons,List.length_nil,true_and,and_true,Nat.reduceAdd,and_self]; done) | (simp (disch:=omega) only [wr64,wr8,wr16,wr32,ofNatE,toNatE,toNatE1,Bool.and_eq_true,Bool.or_eq_true,Bool.not_eq_true',decide_eq_true_eq,decide_eq_false_iff_not,nble,nblt,nbeq,Nat.zero_add,Nat.add_zero,Int.zero_add,Int.add_zero,List.length_cons,List.length_nil,true_and,and_true,Nat.reduceAdd,and_self]; omega)) ?_)))
  first | rfl | (simp (disch:=omega) only [wr64,wr8,wr16,wr32,ofNatE,Nat.zero_add,bleT,bltT,dT,dF,Bool.true_and,Bool.and_true,Bool.and_self,cond_true,cond_false,Nat.sub_zero,beq_self_eq_true]; done) | (simp (disch:=omega) only [wr64,wr8,wr16,wr32,ofNatE,Nat.zero_add,bleT,bltT,dT,dF,Bool.true_and,Bool.and_true,Bool.and_self,cond_true,cond_false,Nat.sub_zero,beq_self_eq_true]; rfl)
open Go.Proofs
def delD (d:Nat->Nat) (g m:Nat):Nat->Nat:=fun j=>if j<g then d j else if j<m then d (j+1) else if j<m+1 then 0 else d j
theorem delT (v m nd g:Nat) (d:Nat->Nat) (hr:Heap) (hg:g<=m) (hm:m+1<=nd) (hm4:m<=400):ToldRef P41 G41 22 [.own 0 v 0 (m+1) none,.int .i64 g,.int .i64 (g+1:Nat)] (nb v nd d :: hr) (.own 0 v 0 m none) (nb v nd (delD d g m) :: hr):=by
 by_cases q:g = m
 ·subst q
  have e:ToldRef P41 G41 22 [.own 0 v 0 (g+1) none,.int .i64 g,.int .i64 (g+1:Nat)] (nb v nd d :: hr) (.own 0 v 0 g none) (⟨v,1,nd,fun j=>bif Nat.ble g j&&Nat.blt j (g+1) then [.int .i64 0] else [.int .i64 (d j)],true,false⟩ :: hr):=by
   refine stepR_told hm41 hn41 (A:=A41) (m:=0) (K:=noneO) none_ok (by kernel_rfl) loops0 ?_
   refine Eq.trans (show stepR P41 G41 A41 noneO 0 22 [] [.own 0 v 0 (g+1) none,.int .i64 g,.int .i64 (g+1:Nat)] (nb v nd d :: hr) =
(
 bif v==v then
 bif v==v then
 bif decide (0<=Int.ofNat g)&&decide (Int.ofNat g<=Int.ofNat (g+1))&&decide (Int.ofNat (g+1)<=Int.ofNat (g+1))&&decide (Int.ofNat (g+1)<=Int.ofNat (nd - 0)) then
 bif decide (Int.ofNat g = Int.ofNat (g+1)) then
 some ((.own 0 v 0 (g+1)
 none,nb v nd d :: hr))
 else
 bif v==v then
 bif v==v then
 bif decide (0<=Int.ofNat g)&&decide (Int.ofNat g<=Int.ofNat (nd - 0)) then
 bif v==v then
 bif decide (0<=Int.ofNat (g+1))&&decide (Int.ofNat (g+1)<=Int.ofNat (g+1))&&decide (Int.ofNat (g+1)<=Int.ofNat (nd - 0)) then
 bif v==v then
 bif ((0:Nat)+(g+(1:Nat))+(g+(1:Nat) - (g+(1:Nat)))).ble nd then
 bif v==v then
 bif ((0:Nat)+(g - (0:Nat))).ble nd then
 bif g+1 - (g+1)==(0:Nat) then
 bif v==v then
 bif v==v then
 bif decide (0<=Int.ofNat (g - 0))&&decide (Int.ofNat (g - 0)<=Int.ofNat (g+1))&&decide (Int.ofNat (g+1)<=Int.ofNat (nd - 0)) then
 bif v==v then
 bif ((0:Nat)+(g - (0:Nat))+(g+(1:Nat) - (g - (0:Nat)))).ble nd then
 some ((.own 0 v 0 (g - 0)
 none,.mk v 1 nd (fun j =>
 bif ((0:Nat)+(g - (0:Nat))).ble j&&j.blt ((0:Nat)+(g - 0)+(g+1 - (g - 0))) then [.int .i64 0]
 else [.int .i64 (.ofNat (d j))]) true false :: hr))
 else none else none else none else none else none else
 bif ((g - (0:Nat)+(g+(1:Nat) - (g+(1:Nat)))) * (9:Nat)).ble 70368744177664 then
 bif ((0:Nat)+(g - (0:Nat))+(g+(1:Nat) - (g+(1:Nat)))).ble nd then
 bif v==v then
 bif v==v then
 bif decide (0<=Int.ofNat (g - 0+(g+1 - (g+1))))&&decide (Int.ofNat (g - 0+(g+1 - (g+1)))<=Int.ofNat (g+1))&&decide (Int.ofNat (g+1)<=Int.ofNat (nd - 0)) then
 bif v==v then
 bif ((0:Nat)+(g - (0:Nat)+(g+(1:Nat) - (g+(1:Nat))))+(g+(1:Nat) - (g - (0:Nat)+(g+(1:Nat) - (g+(1:Nat)))))).ble nd then
 some ((.own 0 v 0 (g - 0+(g+1 - (g+1)))
 none,.mk v 1 nd (fun j =>
 bif ((0:Nat)+(g - (0:Nat)+(g+(1:Nat) - (g+(1:Nat))))).ble j&&j.blt ((0:Nat)+(g - 0+(g+1 - (g+1)))+(g+1 - (g - 0+(g+1 - (g+1))))) then [.int .i64 0]
 else
 bif ((0:Nat)+(g - (0:Nat))).ble j&&j.blt ((0:Nat)+(g - 0)+(g+1 - (g+1))) then [.int .i64 (.ofNat (d ((0:Nat)+(g+1)+(j - ((0:Nat)+(g - 0))))))]
 else [.int .i64 (.ofNat (d j))]) true false :: hr))
 else none else none else none else none else none else
 bif v+1==v+1 then
 bif v+1==v+1 then
 bif decide (0<=Int.ofNat (g - 0+(g+1 - (g+1))))&&decide (Int.ofNat (g - 0+(g+1 - (g+1)))<=Int.ofNat (g+1))&&decide (Int.ofNat (g+1)<=Int.ofNat (g - 0+(g+1 - (g+1)) - (0:Nat))) then
 bif v+1==v+1 then
 bif ((0:Nat)+(g - (0:Nat)+(g+(1:Nat) - (g+(1:Nat))))+(g+(1:Nat) - (g - (0:Nat)+(g+(1:Nat) - (g+(1:Nat)))))).ble (g - 0+(g+1 - (g+1))) then
 some ((.own 0 (v+1) (0:Nat) (g - 0+(g+1 - (g+1)))
 none,.mk (v+1) (1:Nat) (g - 0+(g+1 - (g+1))) (fun j =>
 bif ((0:Nat)+(g - (0:Nat)+(g+(1:Nat) - (g+(1:Nat))))).ble j&&j.blt ((0:Nat)+(g - 0+(g+1 - (g+1)))+(g+1 - (g - 0+(g+1 - (g+1))))) then [.int .i64 0]
 else
 bif j.blt (g - 0) then [.int .i64 (.ofNat (d (0+j)))]
 else [.int .i64 (.ofNat (d ((0:Nat)+(g+1)+(j - (g - 0)))))]) true false :: hr))
 else none else none else none else none else none else none else none else none else none else none else none else none else none else none else none else none else none else
 none) from by kernel_rfl) ?_
   (repeat (first | (refine bift (by first | assumption | omega | (simp (disch:=omega) only [wr64,wr8,wr16,wr32,ofNatE,toNatE,toNatE1,Bool.and_eq_true,Bool.or_eq_true,Bool.not_eq_true',decide_eq_true_eq,decide_eq_false_iff_not,nble,nblt,nbeq,Nat.zero_add,Nat.add_zero,Int.zero_add,Int.add_zero,List.length_cons,List.length_nil,true_and,and_true,Nat.reduceAdd,and_self,beq_self_eq_true]; done) | (simp (disch:=omega) only [wr64,wr8,wr16,wr32,ofNatE,toNatE,toNatE1,Bool.and_eq_true,Bool.or_eq_true,Bool.not_eq_true',decide_eq_true_eq,decide_eq_false_iff_not,nble,nblt,nbeq,Nat.zero_add,Nat.add_zero,Int.zero_add,Int.add_zero,List.length_cons,List.length_nil,true_and,and_true,Nat.reduceAdd,and_self,beq_self_eq_true]; omega)) ?_) | (refine biff (by first | assumption | (simp (disch:=omega) only [wr64,wr8,wr16,wr32,ofNatE,toNatE,toNatE1,Bool.and_eq_true,Bool.or_eq_true,Bool.not_eq_true',decide_eq_true_eq,decide_eq_false_iff_not,nble,nblt,nbeq,Nat.zero_add,Nat.add_zero,Int.zero_add,Int.add_zero,List.length_cons,List.length_nil,true_and,and_true,Nat.reduceAdd,and_self,beq_self_eq_true]; done) | (simp (disch:=omega) only [wr64,wr8,wr16,wr32,ofNatE,toNatE,toNatE1,Bool.and_eq_true,Bool.or_eq_true,Bool.not_eq_true',decide_eq_true_eq,decide_eq_false_iff_not,nble,nblt,nbeq,Nat.zero_add,Nat.add_zero,Int.zero_add,Int.add_zero,List.length_cons,List.length_nil,true_and,and_true,Nat.reduceAdd,and_self,beq_self_eq_true]; omega)) ?_)))
   first | rfl | (simp (disch:=omega) only [wr64,wr8,wr16,wr32,ofNatE,Nat.zero_add,bleT,bltT,dT,dF,Bool.true_and,Bool.and_true,Bool.and_self,cond_true,cond_false,Nat.sub_zero,beq_self_eq_true,show g+(g+1 - g) = g+1 by omega]; done) | (simp (disch:=omega) only [wr64,wr8,wr16,wr32,ofNatE,Nat.zero_add,bleT,bltT,dT,dF,Bool.true_and,Bool.and_true,Bool.and_self,cond_true,cond_false,Nat.sub_zero,beq_self_eq_true,show g+(g+1 - g) = g+1 by omega]; rfl)
  refine e.res (.cons ⟨rfl,rfl,rfl,id,fun j hj=>?_⟩ (.refl _))
  show [T.int .i64 (delD d g g j:Nat)] = (bif Nat.ble g j&&Nat.blt j (g+1) then [.int .i64 0] else [.int .i64 (d j)])
  unfold delD
  by_cases q1:j<g
  ·rw [if_pos q1,bleF q1]; rfl
  ·rw [if_neg q1,if_neg q1,bleT (by omega)]
   by_cases q2:j<g+1
   ·rw [if_pos q2,bltT q2]; rfl
   ·rw [if_neg q2,bltF (by omega)]; rfl
 ·have e:ToldRef P41 G41 22 [.own 0 v 0 (m+1) none,.int .i64 g,.int .i64 (g+1:Nat)] (nb v nd d :: hr) (.own 0 v 0 (g+(m+1 - (g+1))) none) (⟨v,1,nd,fun j=>bif Nat.ble (g+(m+1 - (g+1))) j&&Nat.blt j (g+(m+1 - (g+1))+(m+1 - (g+(m+1 - (g+1))))) then [.int .i64 0] else
   (bif Nat.ble g j&&Nat.blt j (g+(m+1 - (g+1))) then [.int .i64 (d (g+1+(j - g)))] else [.int .i64 (d j)]),true,false⟩ :: hr):=by
   refine stepR_told hm41 hn41 (A:=A41) (m:=0) (K:=noneO) none_ok (by kernel_rfl) loops0 ?_
   refine Eq.trans (show stepR P41 G41 A41 noneO 0 22 [] [.own 0 v 0 (m+1) none,.int .i64 g,.int .i64 (g+1:Nat)] (nb v nd d :: hr) =
(
 bif v==v then
 bif v==v then
 bif decide (0<=Int.ofNat g)&&decide (Int.ofNat g<=Int.ofNat (g+1))&&decide (Int.ofNat (g+1)<=Int.ofNat (m+1))&&decide (Int.ofNat (m+1)<=Int.ofNat (nd - 0)) then
 bif decide (Int.ofNat g = Int.ofNat (g+1)) then
 some ((.own 0 v 0 (m+1)
 none,nb v nd d :: hr))
 else
 bif v==v then
 bif v==v then
 bif decide (0<=Int.ofNat g)&&decide (Int.ofNat g<=Int.ofNat (nd - 0)) then
 bif v==v then
 bif decide (0<=Int.ofNat (g+1))&&decide (Int.ofNat (g+1)<=Int.ofNat (m+1))&&decide (Int.ofNat (m+1)<=Int.ofNat (nd - 0)) then
 bif v==v then
 bif ((0:Nat)+(g+(1:Nat))+(m+(1:Nat) - (g+(1:Nat)))).ble nd then
 bif v==v then
 bif ((0:Nat)+(g - (0:Nat))).ble nd then
 bif m+1 - (g+1)==(0:Nat) then
 bif v==v then
 bif v==v then
 bif decide (0<=Int.ofNat (g - 0))&&decide (Int.ofNat (g - 0)<=Int.ofNat (m+1))&&decide (Int.ofNat (m+1)<=Int.ofNat (nd - 0)) then
 bif v==v then
 bif ((0:Nat)+(g - (0:Nat))+(m+(1:Nat) - (g - (0:Nat)))).ble nd then
 some ((.own 0 v 0 (g - 0)
 none,.mk v 1 nd (fun j =>
 bif ((0:Nat)+(g - (0:Nat))).ble j&&j.blt ((0:Nat)+(g - 0)+(m+1 - (g - 0))) then [.int .i64 0]
 else [.int .i64 (.ofNat (d j))]) true false :: hr))
 else none else none else none else none else none else
 bif ((g - (0:Nat)+(m+(1:Nat) - (g+(1:Nat)))) * (9:Nat)).ble 70368744177664 then
 bif ((0:Nat)+(g - (0:Nat))+(m+(1:Nat) - (g+(1:Nat)))).ble nd then
 bif v==v then
 bif v==v then
 bif decide (0<=Int.ofNat (g - 0+(m+1 - (g+1))))&&decide (Int.ofNat (g - 0+(m+1 - (g+1)))<=Int.ofNat (m+1))&&decide (Int.ofNat (m+1)<=Int.ofNat (nd - 0)) then
 bif v==v then
 bif ((0:Nat)+(g - (0:Nat)+(m+(1:Nat) - (g+(1:Nat))))+(m+(1:Nat) - (g - (0:Nat)+(m+(1:Nat) - (g+(1:Nat)))))).ble nd then
 some ((.own 0 v 0 (g - 0+(m+1 - (g+1)))
 none,.mk v 1 nd (fun j =>
 bif ((0:Nat)+(g - (0:Nat)+(m+(1:Nat) - (g+(1:Nat))))).ble j&&j.blt ((0:Nat)+(g - 0+(m+1 - (g+1)))+(m+1 - (g - 0+(m+1 - (g+1))))) then [.int .i64 0]
 else
 bif ((0:Nat)+(g - (0:Nat))).ble j&&j.blt ((0:Nat)+(g - 0)+(m+1 - (g+1))) then [.int .i64 (.ofNat (d ((0:Nat)+(g+1)+(j - ((0:Nat)+(g - 0))))))]
 else [.int .i64 (.ofNat (d j))]) true false :: hr))
 else none else none else none else none else none else
 bif v+1==v+1 then
 bif v+1==v+1 then
 bif decide (0<=Int.ofNat (g - 0+(m+1 - (g+1))))&&decide (Int.ofNat (g - 0+(m+1 - (g+1)))<=Int.ofNat (m+1))&&decide (Int.ofNat (m+1)<=Int.ofNat (g - 0+(m+1 - (g+1)) - (0:Nat))) then
 bif v+1==v+1 then
 bif ((0:Nat)+(g - (0:Nat)+(m+(1:Nat) - (g+(1:Nat))))+(m+(1:Nat) - (g - (0:Nat)+(m+(1:Nat) - (g+(1:Nat)))))).ble (g - 0+(m+1 - (g+1))) then
 some ((.own 0 (v+1) (0:Nat) (g - 0+(m+1 - (g+1)))
 none,.mk (v+1) (1:Nat) (g - 0+(m+1 - (g+1))) (fun j =>
 bif ((0:Nat)+(g - (0:Nat)+(m+(1:Nat) - (g+(1:Nat))))).ble j&&j.blt ((0:Nat)+(g - 0+(m+1 - (g+1)))+(m+1 - (g - 0+(m+1 - (g+1))))) then [.int .i64 0]
 else
 bif j.blt (g - 0) then [.int .i64 (.ofNat (d (0+j)))]
 else [.int .i64 (.ofNat (d ((0:Nat)+(g+1)+(j - (g - 0)))))]) true false :: hr))
 else none else none else none else none else none else none else none else none else none else none else none else none else none else none else none else none else none else
 none) from by kernel_rfl) ?_
   (repeat (first | (refine bift (by first | assumption | omega | (simp (disch:=omega) only [wr64,wr8,wr16,wr32,ofNatE,toNatE,toNatE1,Bool.and_eq_true,Bool.or_eq_true,Bool.not_eq_true',decide_eq_true_eq,decide_eq_false_iff_not,nble,nblt,nbeq,Nat.zero_add,Nat.add_zero,Int.zero_add,Int.add_zero,List.length_cons,List.length_nil,true_and,and_true,Nat.reduceAdd,and_self,beq_self_eq_true]; done) | (simp (disch:=omega) only [wr64,wr8,wr16,wr32,ofNatE,toNatE,toNatE1,Bool.and_eq_true,Bool.or_eq_true,Bool.not_eq_true',decide_eq_true_eq,decide_eq_false_iff_not,nble,nblt,nbeq,Nat.zero_add,Nat.add_zero,Int.zero_add,Int.add_zero,List.length_cons,List.length_nil,true_and,and_true,Nat.reduceAdd,and_self,beq_self_eq_true]; omega)) ?_) | (refine biff (by first | assumption | (simp (disch:=omega) only [wr64,wr8,wr16,wr32,ofNatE,toNatE,toNatE1,Bool.and_eq_true,Bool.or_eq_true,Bool.not_eq_true',decide_eq_true_eq,decide_eq_false_iff_not,nble,nblt,nbeq,Nat.zero_add,Nat.add_zero,Int.zero_add,Int.add_zero,List.length_cons,List.length_nil,true_and,and_true,Nat.reduceAdd,and_self,beq_self_eq_true]; done) | (simp (disch:=omega) only [wr64,wr8,wr16,wr32,ofNatE,toNatE,toNatE1,Bool.and_eq_true,Bool.or_eq_true,Bool.not_eq_true',decide_eq_true_eq,decide_eq_false_iff_not,nble,nblt,nbeq,Nat.zero_add,Nat.add_zero,Int.zero_add,Int.add_zero,List.length_cons,List.length_nil,true_and,and_true,Nat.reduceAdd,and_self,beq_self_eq_true]; omega)) ?_)))
   first | rfl | (simp (disch:=omega) only [wr64,wr8,wr16,wr32,ofNatE,Nat.zero_add,bleT,bltT,dT,dF,Bool.true_and,Bool.and_true,Bool.and_self,cond_true,cond_false,Nat.sub_zero,beq_self_eq_true,toNatE1,toNatE]; done) | (simp (disch:=omega) only [wr64,wr8,wr16,wr32,ofNatE,Nat.zero_add,bleT,bltT,dT,dF,Bool.true_and,Bool.and_true,Bool.and_self,cond_true,cond_false,Nat.sub_zero,beq_self_eq_true,toNatE1,toNatE]; rfl)
  have em:g+(m+1 - (g+1)) = m:=by omega
  rw [em] at e
  refine e.res (.cons ⟨rfl,rfl,rfl,id,fun j hj=>?_⟩ (.refl _))
  show [T.int .i64 (delD d g m j:Nat)] = (bif Nat.ble m j&&Nat.blt j (m+(m+1 - m)) then [.int .i64 0] else (bif Nat.ble g j&&Nat.blt j m then [.int .i64 (d (g+1+(j - g)))] else [.int .i64 (d j)]))
  unfold delD
  by_cases q1:j<g
  ·rw [if_pos q1,bleF (show j<m by omega),bleF q1]; rfl
  ·rw [if_neg q1,bleT (show g<=j by omega)]
   by_cases q2:j<m
   ·rw [if_pos q2,bleF q2,bltT q2,show g+1+(j - g) = j+1 by omega]; rfl
   ·rw [if_neg q2,bleT (show m<=j by omega),bltF (show m<=j by omega)]
    by_cases q3:j<m+1
    ·rw [if_pos q3,bltT (by omega)]; rfl
    ·rw [if_neg q3,bltF (by omega)]; rfl
open Go.Proofs
def tb (x:Nat):Blk:=⟨0,1,1,fun j=>[[T.int .i64 (x:Int)]].getD j [],true,true⟩
noncomputable def KP (l1:List T) (h0:Heap) (r:T) (h1:Heap):Orc:=K41a.addRef 22 (refS l1 h0 r h1)
def apD (d:Nat->Nat) (len x:Nat):Nat->Nat:=fun j=>if j = len then x else d j
theorem apD_get {d:Nat->Nat} {len x:Nat} {j:Nat} (hj:j<len+1):[T.int .i64 (apD d len x j:Nat)] = (bif Nat.blt j len then [T.int .i64 (d j:Nat)] else [[T.int .i64 (x:Int)]].getD (j - len) []):=by
 unfold apD
 by_cases q:j<len
 ·rw [bltT q,if_neg (by omega)]; rfl
 ·obtain rfl:j = len:=by omega
  rw [bltF (by omega),if_pos rfl,Nat.sub_self]; rfl
theorem apD_set {d:Nat->Nat} {len x:Nat} (j:Nat):[T.int .i64 (apD d len x j:Nat)] = (bif Nat.ble len j&&Nat.blt j (len+1) then [[T.int .i64 (x:Int)]].getD (j - len) [] else [T.int .i64 (d j:Nat)]):=by
 unfold apD
 by_cases q:j = len
 ·subst q; rw [if_pos rfl,bleT (Nat.le_refl _),bltT (by omega),Nat.sub_self]; rfl
 ·rw [if_neg q]
  by_cases q2:len<=j
  ·rw [bltF (by omega)]; simp
  ·rw [bleF (by omega)]; rfl
section
variable (L:JL) (c:Option Nat) (v len nd:Nat) (d:Nat->Nat) (t:Int) (o:Nat->Nat) (c2:Option Nat) (i:Nat)
theorem rA_in (hL:L.Ok) (hi:i<L.n) (ho:o i<L.n) (h1:len<=nd) (h2:len<=300) (ht:0<=t/\t<=100000000) (hdue:t+L.tm (o i)<=L.du (o i)) :
 ∃ v' nd',len+1<=nd'/\Step P41 G41 (A41 13) 13 6 0 (v6 L c (.own 0 v 0 len none) .nils t o c2 i) [nb v nd d] (v6 L c (.own 0 v' 0 (len+1) none) .nils (t+L.tm (o i)) o c2 (i+1)) [nb v' nd' (apD d len (o i))]:=by
 have hn:=hL.n
 have htm:=hL.tm (o i) ho
 by_cases q:len+1<=nd
 ·refine ⟨v,nd,q,Step.mkC (A:=A41) (m:=0) okK41a rfl rfl loops0 [0] (v2:=v6 L c (.own 0 v 0 (len+1) none) .nils (t+L.tm (o i)) o c2 (i+1)) (h2:=[⟨v,1,nd,fun j=>bif Nat.ble len j&&Nat.blt j (len+1) then [[T.int .i64 (o i:Int)]].getD (j - len) [] else [.int .i64 (d j)],true,false⟩])
   (v1:=v6 L c (.own 0 v 0 (len+1) none) .nils (t+L.tm (o i)) o c2 (i+1)) (h1:=[⟨v,1,nd,fun j=>bif Nat.ble len j&&Nat.blt j (len+1) then [[T.int .i64 (o i:Int)]].getD (j - len) [] else [.int .i64 (d j)],true,false⟩,tb (o i)]) (Eq.trans (show iterR P41 G41 A41 K41a 0 13 [] 6 (v6 L c (.own 0 v 0 len none) .nils t o c2 i) [nb v nd d] =
(
 bif decide (Int.ofNat i<Int.ofNat L.n) then
 bif decide (0<=Int.ofNat i)&&decide (Int.ofNat i<Int.ofNat L.n) then
 bif v==v then
 bif ((0:Nat)+len).ble nd then
 bif ((len+(1:Nat)) * (9:Nat)).ble 70368744177664 then
 bif ((0:Nat)+len+(1:Nat)).ble nd then
 bif decide (0<=Int.ofNat (o i))&&decide (Int.ofNat (o i)<Int.ofNat L.n) then
 bif decide (0<=Int.ofNat (o i))&&decide (Int.ofNat (o i)<Int.ofNat L.n) then
 bif decide (IntKind.i64.wrap (t+L.tm (o i))<=L.du (o i)) then
 some ((.normal,[jv L c,.own 0 v 0 (len+1)
 none,.nils,.int .i64 (IntKind.i64.wrap (t+L.tm (o i))),ov L.n o c2,.int .i64 (.ofNat L.n),.int .i64 (IntKind.i64.wrap (Int.ofNat i+1))],[.mk v 1 nd (fun j =>
 bif ((0:Nat)+len).ble j&&j.blt (0+len+1) then [[T.int .i64 (Int.ofNat (o i))]].getD ((0:Nat)+(j - (0+len))) []
 else [.int .i64 (.ofNat (d j))]) true false,.mk 0 1 1 (fun j=>[[T.int .i64 (Int.ofNat (o i))]].getD j []) true true]))
 else
 bif v==v then none else none else none else none else
 bif decide (0<=Int.ofNat (o i))&&decide (Int.ofNat (o i)<Int.ofNat L.n) then
 bif decide (0<=Int.ofNat (o i))&&decide (Int.ofNat (o i)<Int.ofNat L.n) then
 bif decide (IntKind.i64.wrap (t+L.tm (o i))<=L.du (o i)) then
 some ((.normal,[jv L c,.own 0 (v+1) (0:Nat) (len+1)
 none,.nils,.int .i64 (IntKind.i64.wrap (t+L.tm (o i))),ov L.n o c2,.int .i64 (.ofNat L.n),.int .i64 (IntKind.i64.wrap (Int.ofNat i+1))],[.mk (v+1) (1:Nat) (len+1) (fun j =>
 bif j.blt len then [.int .i64 (.ofNat (d (0+j)))]
 else [[T.int .i64 (Int.ofNat (o i))]].getD ((0:Nat)+(j - len)) []) true false,.mk 0 1 1 (fun j=>[[T.int .i64 (Int.ofNat (o i))]].getD j []) true true]))
 else
 bif v+1==v+1 then none else none else none else none else none else none else none else none else
 some ((.exit 0,[.own 0 v 0 len
 none,.nils],[nb v nd d]))) from by kernel_rfl) ?_) (by rfl) (by rfl) (by rfl) fun nt=>.same (.cons ⟨rfl,rfl,rfl,id,fun j hj=>apD_set j⟩ .nil)⟩
  (repeat (first | (refine bift (by first | assumption | omega | (simp (disch:=omega) only [wr64,wr8,wr16,wr32,ofNatE,toNatE,toNatE1,Bool.and_eq_true,Bool.or_eq_true,Bool.not_eq_true',decide_eq_true_eq,decide_eq_false_iff_not,nble,nblt,nbeq,Nat.zero_add,Nat.add_zero,Int.zero_add,Int.add_zero,List.length_cons,List.length_nil,true_and,and_true,Nat.reduceAdd,and_self,beq_self_eq_true]; done) | (simp (disch:=omega) only [wr64,wr8,wr16,wr32,ofNatE,toNatE,toNatE1,Bool.and_eq_true,Bool.or_eq_true,Bool.not_eq_true',decide_eq_true_eq,decide_eq_false_iff_not,nble,nblt,nbeq,Nat.zero_add,Nat.add_zero,Int.zero_add,Int.add_zero,List.length_cons,List.length_nil,true_and,and_true,Nat.reduceAdd,and_self,beq_self_eq_true]; omega)) ?_) | (refine biff (by first | assumption | (simp (disch:=omega) only [wr64,wr8,wr16,wr32,ofNatE,toNatE,toNatE1,Bool.and_eq_true,Bool.or_eq_true,Bool.not_eq_true',decide_eq_true_eq,decide_eq_false_iff_not,nble,nblt,nbeq,Nat.zero_add,Nat.add_zero,Int.zero_add,Int.add_zero,List.length_cons,List.length_nil,true_and,and_true,Nat.reduceAdd,and_self,beq_self_eq_true]; done) | (simp (disch:=omega) only [wr64,wr8,wr16,wr32,ofNatE,toNatE,toNatE1,Bool.and_eq_true,Bool.or_eq_true,Bool.not_eq_true',decide_eq_true_eq,decide_eq_false_iff_not,nble,nblt,nbeq,Nat.zero_add,Nat.add_zero,Int.zero_add,Int.add_zero,List.length_cons,List.length_nil,true_and,and_true,Nat.reduceAdd,and_self,beq_self_eq_true]; omega)) ?_)))
  first | rfl | (simp (disch:=omega) only [wr64,wr8,wr16,wr32,ofNatE,Nat.zero_add,bleT,bltT,dT,dF,Bool.true_and,Bool.and_true,Bool.and_self,cond_true,cond_false,Nat.sub_zero,beq_self_eq_true]; done) | (simp (disch:=omega) only [wr64,wr8,wr16,wr32,ofNatE,Nat.zero_add,bleT,bltT,dT,dF,Bool.true_and,Bool.and_true,Bool.and_self,cond_true,cond_false,Nat.sub_zero,beq_self_eq_true]; rfl)
 ·refine ⟨v+1,len+1,Nat.le_refl _,Step.mkC (A:=A41) (m:=0) okK41a rfl rfl loops0 [0] (v2:=v6 L c (.own 0 (v+1) 0 (len+1) none) .nils (t+L.tm (o i)) o c2 (i+1)) (h2:=[⟨v+1,1,len+1,fun j=>bif Nat.blt j len then [.int .i64 (d j)] else [[T.int .i64 (o i:Int)]].getD (j - len) [],true,false⟩])
   (v1:=v6 L c (.own 0 (v+1) 0 (len+1) none) .nils (t+L.tm (o i)) o c2 (i+1)) (h1:=[⟨v+1,1,len+1,fun j=>bif Nat.blt j len then [.int .i64 (d j)] else [[T.int .i64 (o i:Int)]].getD (j - len) [],true,false⟩,tb (o i)]) (Eq.trans (show iterR P41 G41 A41 K41a 0 13 [] 6 (v6 L c (.own 0 v 0 len none) .nils t o c2 i) [nb v nd d] =
(
 bif decide (Int.ofNat i<Int.ofNat L.n) then
 bif decide (0<=Int.ofNat i)&&decide (Int.ofNat i<Int.ofNat L.n) then
 bif v==v then
 bif ((0:Nat)+len).ble nd then
 bif ((len+(1:Nat)) * (9:Nat)).ble 70368744177664 then
 bif ((0:Nat)+len+(1:Nat)).ble nd then
 bif decide (0<=Int.ofNat (o i))&&decide (Int.ofNat (o i)<Int.ofNat L.n) then
 bif decide (0<=Int.ofNat (o i))&&decide (Int.ofNat (o i)<Int.ofNat L.n) then
 bif decide (IntKind.i64.wrap (t+L.tm (o i))<=L.du (o i)) then
 some ((.normal,[jv L c,.own 0 v 0 (len+1)
 none,.nils,.int .i64 (IntKind.i64.wrap (t+L.tm (o i))),ov L.n o c2,.int .i64 (.ofNat L.n),.int .i64 (IntKind.i64.wrap (Int.ofNat i+1))],[.mk v 1 nd (fun j =>
 bif ((0:Nat)+len).ble j&&j.blt (0+len+1) then [[T.int .i64 (Int.ofNat (o i))]].getD ((0:Nat)+(j - (0+len))) []
 else [.int .i64 (.ofNat (d j))]) true false,.mk 0 1 1 (fun j=>[[T.int .i64 (Int.ofNat (o i))]].getD j []) true true]))
 else
 bif v==v then none else none else none else none else
 bif decide (0<=Int.ofNat (o i))&&decide (Int.ofNat (o i)<Int.ofNat L.n) then
 bif decide (0<=Int.ofNat (o i))&&decide (Int.ofNat (o i)<Int.ofNat L.n) then
 bif decide (IntKind.i64.wrap (t+L.tm (o i))<=L.du (o i)) then
 some ((.normal,[jv L c,.own 0 (v+1) (0:Nat) (len+1)
 none,.nils,.int .i64 (IntKind.i64.wrap (t+L.tm (o i))),ov L.n o c2,.int .i64 (.ofNat L.n),.int .i64 (IntKind.i64.wrap (Int.ofNat i+1))],[.mk (v+1) (1:Nat) (len+1) (fun j =>
 bif j.blt len then [.int .i64 (.ofNat (d (0+j)))]
 else [[T.int .i64 (Int.ofNat (o i))]].getD ((0:Nat)+(j - len)) []) true false,.mk 0 1 1 (fun j=>[[T.int .i64 (Int.ofNat (o i))]].getD j []) true true]))
 else
 bif v+1==v+1 then none else none else none else none else none else none else none else none else
 some ((.exit 0,[.own 0 v 0 len
 none,.nils],[nb v nd d]))) from by kernel_rfl) ?_) (by rfl) (by rfl) (by rfl) fun nt=>.same (.cons ⟨rfl,rfl,rfl,id,fun j hj=>apD_get hj⟩ .nil)⟩
  (repeat (first | (refine bift (by first | assumption | omega | (simp (disch:=omega) only [wr64,wr8,wr16,wr32,ofNatE,toNatE,toNatE1,Bool.and_eq_true,Bool.or_eq_true,Bool.not_eq_true',decide_eq_true_eq,decide_eq_false_iff_not,nble,nblt,nbeq,Nat.zero_add,Nat.add_zero,Int.zero_add,Int.add_zero,List.length_cons,List.length_nil,true_and,and_true,Nat.reduceAdd,and_self,beq_self_eq_true]; done) | (simp (disch:=omega) only [wr64,wr8,wr16,wr32,ofNatE,toNatE,toNatE1,Bool.and_eq_true,Bool.or_eq_true,Bool.not_eq_true',decide_eq_true_eq,decide_eq_false_iff_not,nble,nblt,nbeq,Nat.zero_add,Nat.add_zero,Int.zero_add,Int.add_zero,List.length_cons,List.length_nil,true_and,and_true,Nat.reduceAdd,and_self,beq_self_eq_true]; omega)) ?_) | (refine biff (by first | assumption | (simp (disch:=omega) only [wr64,wr8,wr16,wr32,ofNatE,toNatE,toNatE1,Bool.and_eq_true,Bool.or_eq_true,Bool.not_eq_true',decide_eq_true_eq,decide_eq_false_iff_not,nble,nblt,nbeq,Nat.zero_add,Nat.add_zero,Int.zero_add,Int.add_zero,List.length_cons,List.length_nil,true_and,and_true,Nat.reduceAdd,and_self,beq_self_eq_true]; done) | (simp (disch:=omega) only [wr64,wr8,wr16,wr32,ofNatE,toNatE,toNatE1,Bool.and_eq_true,Bool.or_eq_true,Bool.not_eq_true',decide_eq_true_eq,decide_eq_false_iff_not,nble,nblt,nbeq,Nat.zero_add,Nat.add_zero,Int.zero_add,Int.add_zero,List.length_cons,List.length_nil,true_and,and_true,Nat.reduceAdd,and_self,beq_self_eq_true]; omega)) ?_)))
  first | rfl | (simp (disch:=omega) only [wr64,wr8,wr16,wr32,ofNatE,Nat.zero_add,bleT,bltT,dT,dF,Bool.true_and,Bool.and_true,Bool.and_self,cond_true,cond_false,Nat.sub_zero,beq_self_eq_true]; done) | (simp (disch:=omega) only [wr64,wr8,wr16,wr32,ofNatE,Nat.zero_add,bleT,bltT,dT,dF,Bool.true_and,Bool.and_true,Bool.and_self,cond_true,cond_false,Nat.sub_zero,beq_self_eq_true]; rfl)
end
open Go.Proofs
def lb1 (x:Nat):Blk:=⟨0,1,1,fun j=>[[T.int .i64 (x:Int)]].getD (0+j) [],true,false⟩
section
variable (L:JL) (c:Option Nat) (v len nd:Nat) (d:Nat->Nat) (t:Int) (o:Nat->Nat) (c2:Option Nat) (i:Nat)
theorem rA_out (hL:L.Ok) (hi:i<L.n) (ho:o i<L.n) (h1:len<=nd) (h2:len<=300) (ht:0<=t/\t<=100000000) (hd:∀ j,j<len->d j<L.n) (hdue:¬ t+L.tm (o i)<=L.du (o i)) (g:Nat) (hg:g = lgst (fun j=>L.tm (apD d len (o i) j)) (len+1)) :
 ∃ v' nd',len<=nd'/\Step P41 G41 (A41 13) 13 6 0 (v6 L c (.own 0 v 0 len none) .nils t o c2 i) [nb v nd d] (v6 L c (.own 0 v' 0 len none) (.own 1 0 0 1 none) (t+L.tm (o i) - L.tm (apD d len (o i) g)) o c2 (i+1)) [nb v' nd' (delD (apD d len (o i)) g len),nb 0 1 fun _=>apD d len (o i) g]:=by
 have hn:=hL.n
 have htm:=hL.tm (o i) ho
 have hgl:g<len+1:=by rw [hg]; exact lgst_lt _ _ (by omega)
 have hda:∀ j,j<len+1->apD d len (o i) j<L.n:=fun j hj=>by
  unfold apD
  by_cases q:j = len
  ·rw [if_pos q]; exact ho
  ·rw [if_neg q]; exact hd j (by omega)
 have hx:=hda g hgl
 have htx:=hL.tm _ hx
 have key:∀ v2 nd2,(len+1<=nd/\v2 = v/\nd2 = nd) ∨ (nd<len+1/\v2 = v+1/\nd2 = len+1)->len+1<=nd2->Step P41 G41 (A41 13) 13 6 0 (v6 L c (.own 0 v 0 len none) .nils t o c2 i) [nb v nd d] (v6 L c (.own 0 v2 0 len none) (.own 1 0 0 1 none) (t+L.tm (o i) - L.tm (apD d len (o i) g)) o c2 (i+1)) [nb v2 nd2 (delD (apD d len (o i)) g len),nb 0 1 fun _=>apD d len (o i) g]:=by
  intro v2 nd2 hcase hnd2
  have hl:=l13 L c v2 (len+1) nd2 (apD d len (o i)) .nils (t+L.tm (o i)) o c2 i [tb (o i)] hL (by omega) hnd2 (by omega) hda
  rw [← hg] at hl
  have hdl:=delT v2 len nd2 g (apD d len (o i)) [tb (o i),tb (apD d len (o i) g),lb1 (apD d len (o i) g)] (by omega) hnd2 (by omega)
  have hset:=apD_set (d:=d) (len:=len) (x:=o i)
  have hget:=fun (j:Nat) (hj:j<len+1)=>apD_get (d:=d) (x:=o i) hj
  generalize apD d len (o i) = dA at *
  have hdelta:∃ dd,delD dA g len = dd:=⟨_,rfl⟩
  obtain ⟨dd,hdd⟩:=hdelta
  rw [hdd] at hdl ⊢
  generalize ht2:t+L.tm (o i) = t2 at *
  refine Step.mkC (A:=A41) (m:=0) (l:=[(13,litS (v13 L c v2 (len+1) .nils t2 o c2 i 0 0) [nb v2 nd2 dA,tb (o i)] (.exit 2) (e13 L c v2 (len+1) .nils t2 o c2 i g) [nb v2 nd2 dA,tb (o i)])])
   (K:=KP [.own 0 v2 0 (len+1) none,.int .i64 g,.int .i64 (g+1:Nat)] [nb v2 nd2 dA,tb (o i),tb (dA g),lb1 (dA g)] (.own 0 v2 0 len none) [nb v2 nd2 dd,tb (o i),tb (dA g),lb1 (dA g)]) (told_addRef okK41a (refS_told hdl)) rfl rfl (loops1 hl) [0,3]
   (v2:=v6 L c (.own 0 v2 0 len none) (.own 1 0 0 1 none) (t2 - L.tm (dA g)) o c2 (i+1)) (h2:=[nb v2 nd2 dd,lb1 (dA g)])
   (v1:=v6 L c (.own 0 v2 0 len none) (.own 3 0 0 1 none) (t2 - L.tm (dA g)) o c2 (i+1)) (h1:=[nb v2 nd2 dd,tb (o i),tb (dA g),lb1 (dA g)])
   (Eq.trans (show iterR P41 G41 A41 (KP [.own 0 v2 0 (len+1) none,.int .i64 g,.int .i64 (g+1:Nat)] [nb v2 nd2 dA,tb (o i),tb (dA g),lb1 (dA g)] (.own 0 v2 0 len none) [nb v2 nd2 dd,tb (o i),tb (dA g),lb1 (dA g)]) 0 13 [(13,litS (v13 L c v2 (len+1) .nils t2 o c2 i 0 0) [nb v2 nd2 dA,tb (o i)] (.exit 2) (e13 L c v2 (len+1) .nils t2 o c2 i g) [nb v2 nd2 dA,tb (o i)])] 6 (v6 L c (.own 0 v 0 len none) .nils t o c2 i) [nb v nd d] =
(
 bif decide (Int.ofNat i<Int.ofNat L.n) then
 bif decide (0<=Int.ofNat i)&&decide (Int.ofNat i<Int.ofNat L.n) then
 bif v==v then
 bif ((0:Nat)+len).ble nd then
 bif ((len+(1:Nat)) * (9:Nat)).ble 70368744177664 then
 bif ((0:Nat)+len+(1:Nat)).ble nd then
 bif decide (0<=Int.ofNat (o i))&&decide (Int.ofNat (o i)<Int.ofNat L.n) then
 bif decide (0<=Int.ofNat (o i))&&decide (Int.ofNat (o i)<Int.ofNat L.n) then
 bif decide (IntKind.i64.wrap (t+L.tm (o i))<=L.du (o i)) then
 some ((.normal,[jv L c,.own 0 v 0 (len+1)
 none,.nils,.int .i64 (IntKind.i64.wrap (t+L.tm (o i))),ov L.n o c2,.int .i64 (.ofNat L.n),.int .i64 (IntKind.i64.wrap (Int.ofNat i+1))],[.mk v 1 nd (fun j =>
 bif ((0:Nat)+len).ble j&&j.blt (0+len+1) then [[T.int .i64 (Int.ofNat (o i))]].getD ((0:Nat)+(j - (0+len))) []
 else [.int .i64 (.ofNat (d j))]) true false,.mk 0 1 1 (fun j=>[[T.int .i64 (Int.ofNat (o i))]].getD j []) true true]))
 else
 bif v==v then
 bif weakF [jv L c,.own 0 v 0 (len+1)
 none,.nils,.int .i64 (IntKind.i64.wrap (t+L.tm (o i))),.int .i64 0,ov L.n o c2,.int .i64 (.ofNat L.n),.int .i64 (.ofNat i),.own 0 v 0 (len+1)
 none,.int .i64 (.ofNat (len+1)),.int .i64 0] [.mk v 1 nd (fun j =>
 bif ((0:Nat)+len).ble j&&j.blt (0+len+1) then [[T.int .i64 (Int.ofNat (o i))]].getD ((0:Nat)+(j - (0+len))) []
 else [.int .i64 (.ofNat (d j))]) true false,.mk 0 1 1 (fun j=>[[T.int .i64 (Int.ofNat (o i))]].getD j []) true true] [jv L c,.own 0 v2 0 (len+1)
 none,.nils,.int .i64 t2,.int .i64 0,ov L.n o c2,.int .i64 (.ofNat L.n),.int .i64 (.ofNat i),.own 0 v2 0 (len+1)
 none,.int .i64 (.ofNat (len+1)),.int .i64 0] [nb v2 nd2 dA,.mk 0 1 1 (fun j=>[[T.int .i64 (Int.ofNat (o i))]].getD j []) true true] then
 bif v2==v2 then
 bif decide (0<=Int.ofNat g)&&decide (Int.ofNat g<Int.ofNat (len+1)) then
 bif v2==v2 then
 bif ((0:Nat)+g).blt nd2 then
 bif decide (0<=Int.ofNat (dA (0+g)))&&decide (Int.ofNat (dA (0+g))<Int.ofNat L.n) then
 bif v2==v2 then
 bif decide (0<=Int.ofNat g)&&decide (Int.ofNat g<Int.ofNat (len+1)) then
 bif v2==v2 then
 bif ((0:Nat)+g).blt nd2 then
 bif sameStF [.own 0 v2 0 (len+1)
 none,.int .i64 (.ofNat g),.int .i64 (IntKind.i64.wrap (Int.ofNat g+1))] [nb v2 nd2 dA,.mk 0 1 1 (fun j=>[[T.int .i64 (Int.ofNat (o i))]].getD j []) true true,.mk 0 1 1 (fun j=>[[T.int .i64 (Int.ofNat (dA ((0:Nat)+g)))]].getD j []) true true,.mk 0 1 1 (fun j=>[[T.int .i64 (Int.ofNat (dA ((0:Nat)+g)))]].getD (0+j) []) true false] [.own 0 v2 0 (len+1)
 none,.int .i64 (.ofNat g),.int .i64 (.ofNat (g+1))] [nb v2 nd2 dA,.mk 0 1 1 (fun j=>[[T.int .i64 (Int.ofNat (o i))]].getD j []) true true,.mk 0 1 1 (fun j=>[[T.int .i64 (Int.ofNat (dA g))]].getD j []) true true,.mk 0 1 1 (fun j=>[[T.int .i64 (Int.ofNat (dA g))]].getD (0+j) []) true false] then
 some ((.normal,[jv L c,.own 0 v2 0 len
 none,.own [nb v2 nd2 dA,Blk.mk 0 1 1 (fun j=>[[T.int .i64 (Int.ofNat (o i))]].getD j []) true true,Blk.mk 0 1 1 (fun j=>[[T.int .i64 (Int.ofNat (dA ((0:Nat)+g)))]].getD j []) true true].length (0:Nat) (0:Nat) (1:Nat)
 none,.int .i64 (IntKind.i64.wrap (t2 - L.tm (dA (0+g)))),ov L.n o c2,.int .i64 (.ofNat L.n),.int .i64 (IntKind.i64.wrap (Int.ofNat i+1))],[nb v2 nd2 dd,.mk 0 1 1 (fun j=>[[T.int .i64 (Int.ofNat (o i))]].getD j []) true true,.mk 0 1 1 (fun j=>[[T.int .i64 (Int.ofNat (dA g))]].getD j []) true true,.mk 0 1 1 (fun j=>[[T.int .i64 (Int.ofNat (dA g))]].getD (0+j) []) true false]))
 else none else none else none else none else none else none else none else none else none else none else none else none else none else none else
 bif decide (0<=Int.ofNat (o i))&&decide (Int.ofNat (o i)<Int.ofNat L.n) then
 bif decide (0<=Int.ofNat (o i))&&decide (Int.ofNat (o i)<Int.ofNat L.n) then
 bif decide (IntKind.i64.wrap (t+L.tm (o i))<=L.du (o i)) then
 some ((.normal,[jv L c,.own 0 (v+1) (0:Nat) (len+1)
 none,.nils,.int .i64 (IntKind.i64.wrap (t+L.tm (o i))),ov L.n o c2,.int .i64 (.ofNat L.n),.int .i64 (IntKind.i64.wrap (Int.ofNat i+1))],[.mk (v+1) (1:Nat) (len+1) (fun j =>
 bif j.blt len then [.int .i64 (.ofNat (d (0+j)))]
 else [[T.int .i64 (Int.ofNat (o i))]].getD ((0:Nat)+(j - len)) []) true false,.mk 0 1 1 (fun j=>[[T.int .i64 (Int.ofNat (o i))]].getD j []) true true]))
 else
 bif v+1==v+1 then
 bif weakF [jv L c,.own 0 (v+1) (0:Nat) (len+1)
 none,.nils,.int .i64 (IntKind.i64.wrap (t+L.tm (o i))),.int .i64 0,ov L.n o c2,.int .i64 (.ofNat L.n),.int .i64 (.ofNat i),.own 0 (v+1) (0:Nat) (len+1)
 none,.int .i64 (.ofNat (len+1)),.int .i64 0] [.mk (v+1) (1:Nat) (len+1) (fun j =>
 bif j.blt len then [.int .i64 (.ofNat (d (0+j)))]
 else [[T.int .i64 (Int.ofNat (o i))]].getD ((0:Nat)+(j - len)) []) true false,.mk 0 1 1 (fun j=>[[T.int .i64 (Int.ofNat (o i))]].getD j []) true true] [jv L c,.own 0 v2 0 (len+1)
 none,.nils,.int .i64 t2,.int .i64 0,ov L.n o c2,.int .i64 (.ofNat L.n),.int .i64 (.ofNat i),.own 0 v2 0 (len+1)
 none,.int .i64 (.ofNat (len+1)),.int .i64 0] [nb v2 nd2 dA,.mk 0 1 1 (fun j=>[[T.int .i64 (Int.ofNat (o i))]].getD j []) true true] then
 bif v2==v2 then
 bif decide (0<=Int.ofNat g)&&decide (Int.ofNat g<Int.ofNat (len+1)) then
 bif v2==v2 then
 bif ((0:Nat)+g).blt nd2 then
 bif decide (0<=Int.ofNat (dA (0+g)))&&decide (Int.ofNat (dA (0+g))<Int.ofNat L.n) then
 bif v2==v2 then
 bif decide (0<=Int.ofNat g)&&decide (Int.ofNat g<Int.ofNat (len+1)) then
 bif v2==v2 then
 bif ((0:Nat)+g).blt nd2 then
 bif sameStF [.own 0 v2 0 (len+1)
 none,.int .i64 (.ofNat g),.int .i64 (IntKind.i64.wrap (Int.ofNat g+1))] [nb v2 nd2 dA,.mk 0 1 1 (fun j=>[[T.int .i64 (Int.ofNat (o i))]].getD j []) true true,.mk 0 1 1 (fun j=>[[T.int .i64 (Int.ofNat (dA ((0:Nat)+g)))]].getD j []) true true,.mk 0 1 1 (fun j=>[[T.int .i64 (Int.ofNat (dA ((0:Nat)+g)))]].getD (0+j) []) true false] [.own 0 v2 0 (len+1)
 none,.int .i64 (.ofNat g),.int .i64 (.ofNat (g+1))] [nb v2 nd2 dA,.mk 0 1 1 (fun j=>[[T.int .i64 (Int.ofNat (o i))]].getD j []) true true,.mk 0 1 1 (fun j=>[[T.int .i64 (Int.ofNat (dA g))]].getD j []) true true,.mk 0 1 1 (fun j=>[[T.int .i64 (Int.ofNat (dA g))]].getD (0+j) []) true false] then
 some ((.normal,[jv L c,.own 0 v2 0 len
 none,.own [nb v2 nd2 dA,Blk.mk 0 1 1 (fun j=>[[T.int .i64 (Int.ofNat (o i))]].getD j []) true true,Blk.mk 0 1 1 (fun j=>[[T.int .i64 (Int.ofNat (dA ((0:Nat)+g)))]].getD j []) true true].length (0:Nat) (0:Nat) (1:Nat)
 none,.int .i64 (IntKind.i64.wrap (t2 - L.tm (dA (0+g)))),ov L.n o c2,.int .i64 (.ofNat L.n),.int .i64 (IntKind.i64.wrap (Int.ofNat i+1))],[nb v2 nd2 dd,.mk 0 1 1 (fun j=>[[T.int .i64 (Int.ofNat (o i))]].getD j []) true true,.mk 0 1 1 (fun j=>[[T.int .i64 (Int.ofNat (dA g))]].getD j []) true true,.mk 0 1 1 (fun j=>[[T.int .i64 (Int.ofNat (dA g))]].getD (0+j) []) true false]))
 else none else none else none else none else none else none else none else none else none else none else none else none else none else none else none else none else none else none else
 some ((.exit 0,[.own 0 v 0 len
 none,.nils],[nb v nd d]))) from by kernel_rfl) ?_) (by rfl) (by rfl) (by rfl) fun nt=>.same (.cons ⟨rfl,rfl,rfl,id,fun j hj=>rfl⟩ (.cons ⟨rfl,rfl,rfl,id,fun j hj=>by
    have hj':j<1:=hj
    obtain rfl:j = 0:=by omega
    rfl⟩ .nil))
  have ew:IntKind.i64.wrap (t+L.tm (o i)) = t2:=by rw [wr64 (by omega) (by omega),ht2]
  rw [ew,Nat.zero_add g]
  rcases hcase with ⟨q,rfl,rfl⟩ | ⟨q,rfl,rfl⟩
  all_goals
   (repeat (first | (refine bift (by first | assumption | omega | (simp (disch:=omega) only [wr64,wr8,wr16,wr32,ofNatE,toNatE,toNatE1,Bool.and_eq_true,Bool.or_eq_true,Bool.not_eq_true',decide_eq_true_eq,decide_eq_false_iff_not,nble,nblt,nbeq,Nat.zero_add,Nat.add_zero,Int.zero_add,Int.add_zero,List.length_cons,List.length_nil,true_and,and_true,Nat.reduceAdd,and_self,beq_self_eq_true]; done) | (simp (disch:=omega) only [wr64,wr8,wr16,wr32,ofNatE,toNatE,toNatE1,Bool.and_eq_true,Bool.or_eq_true,Bool.not_eq_true',decide_eq_true_eq,decide_eq_false_iff_not,nble,nblt,nbeq,Nat.zero_add,Nat.add_zero,Int.zero_add,Int.add_zero,List.length_cons,List.length_nil,true_and,and_true,Nat.reduceAdd,and_self,beq_self_eq_true]; omega)) ?_) | (refine biff (by first | assumption | (simp (disch:=omega) only [wr64,wr8,wr16,wr32,ofNatE,toNatE,toNatE1,Bool.and_eq_true,Bool.or_eq_true,Bool.not_eq_true',decide_eq_true_eq,decide_eq_false_iff_not,nble,nblt,nbeq,Nat.zero_add,Nat.add_zero,Int.zero_add,Int.add_zero,List.length_cons,List.length_nil,true_and,and_true,Nat.reduceAdd,and_self,beq_self_eq_true]; done) | (simp (disch:=omega) only [wr64,wr8,wr16,wr32,ofNatE,toNatE,toNatE1,Bool.and_eq_true,Bool.or_eq_true,Bool.not_eq_true',decide_eq_true_eq,decide_eq_false_iff_not,nble,nblt,nbeq,Nat.zero_add,Nat.add_zero,Int.zero_add,Int.add_zero,List.length_cons,List.length_nil,true_and,and_true,Nat.reduceAdd,and_self,beq_self_eq_true]; omega)) ?_)))
   refine bift (weakF_of ⟨rfl,.cons ⟨rfl,rfl,rfl,id,fun j hj=>?_⟩ (.refl _)⟩) ?_
   ·first
     | (simp only [Nat.zero_add]; exact hset j)
     | (simp only [Nat.zero_add]; exact hget j hj)
   (repeat (first | (refine bift (by first | assumption | omega | (simp (disch:=omega) only [wr64,wr8,wr16,wr32,ofNatE,toNatE,toNatE1,Bool.and_eq_true,Bool.or_eq_true,Bool.not_eq_true',decide_eq_true_eq,decide_eq_false_iff_not,nble,nblt,nbeq,Nat.zero_add,Nat.add_zero,Int.zero_add,Int.add_zero,List.length_cons,List.length_nil,true_and,and_true,Nat.reduceAdd,and_self,beq_self_eq_true]; done) | (simp (disch:=omega) only [wr64,wr8,wr16,wr32,ofNatE,toNatE,toNatE1,Bool.and_eq_true,Bool.or_eq_true,Bool.not_eq_true',decide_eq_true_eq,decide_eq_false_iff_not,nble,nblt,nbeq,Nat.zero_add,Nat.add_zero,Int.zero_add,Int.add_zero,List.length_cons,List.length_nil,true_and,and_true,Nat.reduceAdd,and_self,beq_self_eq_true]; omega)) ?_) | (refine biff (by first | assumption | (simp (disch:=omega) only [wr64,wr8,wr16,wr32,ofNatE,toNatE,toNatE1,Bool.and_eq_true,Bool.or_eq_true,Bool.not_eq_true',decide_eq_true_eq,decide_eq_false_iff_not,nble,nblt,nbeq,Nat.zero_add,Nat.add_zero,Int.zero_add,Int.add_zero,List.length_cons,List.length_nil,true_and,and_true,Nat.reduceAdd,and_self,beq_self_eq_true]; done) | (simp (disch:=omega) only [wr64,wr8,wr16,wr32,ofNatE,toNatE,toNatE1,Bool.and_eq_true,Bool.or_eq_true,Bool.not_eq_true',decide_eq_true_eq,decide_eq_false_iff_not,nble,nblt,nbeq,Nat.zero_add,Nat.add_zero,Int.zero_add,Int.add_zero,List.length_cons,List.length_nil,true_and,and_true,Nat.reduceAdd,and_self,beq_self_eq_true]; omega)) ?_)))
   refine bift (sameStF_iff.2 ⟨?_,.refl _⟩) ?_
   ·first | rfl | (simp (disch:=omega) only [wr64,wr8,wr16,wr32,ofNatE]; done) | (simp (disch:=omega) only [wr64,wr8,wr16,wr32,ofNatE]; rfl)
   first | rfl | (simp (disch:=omega) only [wr64,wr8,wr16,wr32,ofNatE]; done) | (simp (disch:=omega) only [wr64,wr8,wr16,wr32,ofNatE]; rfl)
 by_cases q:len+1<=nd
 ·exact ⟨v,nd,by omega,key v nd (.inl ⟨q,rfl,rfl⟩) q⟩
 ·exact ⟨v+1,len+1,by omega,key (v+1) (len+1) (.inr ⟨by omega,rfl,rfl⟩) (Nat.le_refl _)⟩
end
open Go.Proofs
section
variable (L:JL) (c:Option Nat) (v len nd u ll nl:Nat) (d e:Nat->Nat) (t:Int) (o:Nat->Nat) (c2:Option Nat) (i:Nat)
theorem rB_in (hL:L.Ok) (hi:i<L.n) (ho:o i<L.n) (h1:len<=nd) (h2:len<=300) (ht:0<=t/\t<=100000000) (hdue:t+L.tm (o i)<=L.du (o i)) :
 ∃ v' nd',len+1<=nd'/\Step P41 G41 (A41 13) 13 6 0 (v6 L c (.own 0 v 0 len none) (.own 1 u 0 ll none) t o c2 i) [nb v nd d,nb u nl e] (v6 L c (.own 0 v' 0 (len+1) none) (.own 1 u 0 ll none) (t+L.tm (o i)) o c2 (i+1)) [nb v' nd' (apD d len (o i)),nb u nl e]:=by
 have hn:=hL.n
 have htm:=hL.tm (o i) ho
 by_cases q:len+1<=nd
 ·refine ⟨v,nd,q,Step.mkC (A:=A41) (m:=0) okK41a rfl rfl loops0 [0,1] (v2:=v6 L c (.own 0 v 0 (len+1) none) (.own 1 u 0 ll none) (t+L.tm (o i)) o c2 (i+1)) (h2:=[⟨v,1,nd,fun j=>bif Nat.ble len j&&Nat.blt j (len+1) then [[T.int .i64 (o i:Int)]].getD (j - len) [] else [.int .i64 (d j)],true,false⟩,nb u nl e])
   (v1:=v6 L c (.own 0 v 0 (len+1) none) (.own 1 u 0 ll none) (t+L.tm (o i)) o c2 (i+1)) (h1:=[⟨v,1,nd,fun j=>bif Nat.ble len j&&Nat.blt j (len+1) then [[T.int .i64 (o i:Int)]].getD (j - len) [] else [.int .i64 (d j)],true,false⟩,nb u nl e,tb (o i)]) (Eq.trans (show iterR P41 G41 A41 K41a 0 13 [] 6 (v6 L c (.own 0 v 0 len none) (.own 1 u 0 ll none) t o c2 i) [nb v nd d,nb u nl e] =
(
 bif decide (Int.ofNat i<Int.ofNat L.n) then
 bif decide (0<=Int.ofNat i)&&decide (Int.ofNat i<Int.ofNat L.n) then
 bif v==v then
 bif ((0:Nat)+len).ble nd then
 bif ((len+(1:Nat)) * (9:Nat)).ble 70368744177664 then
 bif ((0:Nat)+len+(1:Nat)).ble nd then
 bif decide (0<=Int.ofNat (o i))&&decide (Int.ofNat (o i)<Int.ofNat L.n) then
 bif decide (0<=Int.ofNat (o i))&&decide (Int.ofNat (o i)<Int.ofNat L.n) then
 bif decide (IntKind.i64.wrap (t+L.tm (o i))<=L.du (o i)) then
 some ((.normal,[jv L c,.own 0 v 0 (len+1)
 none,.own 1 u 0 ll
 none,.int .i64 (IntKind.i64.wrap (t+L.tm (o i))),ov L.n o c2,.int .i64 (.ofNat L.n),.int .i64 (IntKind.i64.wrap (Int.ofNat i+1))],[.mk v 1 nd (fun j =>
 bif ((0:Nat)+len).ble j&&j.blt (0+len+1) then [[T.int .i64 (Int.ofNat (o i))]].getD ((0:Nat)+(j - (0+len))) []
 else [.int .i64 (.ofNat (d j))]) true false,nb u nl e,.mk 0 1 1 (fun j=>[[T.int .i64 (Int.ofNat (o i))]].getD j []) true true]))
 else
 bif v==v then none else none else none else none else
 bif decide (0<=Int.ofNat (o i))&&decide (Int.ofNat (o i)<Int.ofNat L.n) then
 bif decide (0<=Int.ofNat (o i))&&decide (Int.ofNat (o i)<Int.ofNat L.n) then
 bif decide (IntKind.i64.wrap (t+L.tm (o i))<=L.du (o i)) then
 some ((.normal,[jv L c,.own 0 (v+1) (0:Nat) (len+1)
 none,.own 1 u 0 ll
 none,.int .i64 (IntKind.i64.wrap (t+L.tm (o i))),ov L.n o c2,.int .i64 (.ofNat L.n),.int .i64 (IntKind.i64.wrap (Int.ofNat i+1))],[.mk (v+1) (1:Nat) (len+1) (fun j =>
 bif j.blt len then [.int .i64 (.ofNat (d (0+j)))]
 else [[T.int .i64 (Int.ofNat (o i))]].getD ((0:Nat)+(j - len)) []) true false,nb u nl e,.mk 0 1 1 (fun j=>[[T.int .i64 (Int.ofNat (o i))]].getD j []) true true]))
 else
 bif v+1==v+1 then none else none else none else none else none else none else none else none else
 some ((.exit 0,[.own 0 v 0 len
 none,.own 1 u 0 ll
 none],[nb v nd d,nb u nl e]))) from by kernel_rfl) ?_) (by rfl) (by rfl) (by rfl) fun nt=>.same (.cons ⟨rfl,rfl,rfl,id,fun j hj=>apD_set j⟩ (.refl _))⟩
  (repeat (first | (refine bift (by first | assumption | omega | (simp (disch:=omega) only [wr64,wr8,wr16,wr32,ofNatE,toNatE,toNatE1,Bool.and_eq_true,Bool.or_eq_true,Bool.not_eq_true',decide_eq_true_eq,decide_eq_false_iff_not,nble,nblt,nbeq,Nat.zero_add,Nat.add_zero,Int.zero_add,Int.add_zero,List.length_cons,List.length_nil,true_and,and_true,Nat.reduceAdd,and_self,beq_self_eq_true]; done) | (simp (disch:=omega) only [wr64,wr8,wr16,wr32,ofNatE,toNatE,toNatE1,Bool.and_eq_true,Bool.or_eq_true,Bool.not_eq_true',decide_eq_true_eq,decide_eq_false_iff_not,nble,nblt,nbeq,Nat.zero_add,Nat.add_zero,Int.zero_add,Int.add_zero,List.length_cons,List.length_nil,true_and,and_true,Nat.reduceAdd,and_self,beq_self_eq_true]; omega)) ?_) | (refine biff (by first | assumption | (simp (disch:=omega) only [wr64,wr8,wr16,wr32,ofNatE,toNatE,toNatE1,Bool.and_eq_true,Bool.or_eq_true,Bool.not_eq_true',decide_eq_true_eq,decide_eq_false_iff_not,nble,nblt,nbeq,Nat.zero_add,Nat.add_zero,Int.zero_add,Int.add_zero,List.length_cons,List.length_nil,true_and,and_true,Nat.reduceAdd,and_self,beq_self_eq_true]; done) | (simp (disch:=omega) only [wr64,wr8,wr16,wr32,ofNatE,toNatE,toNatE1,Bool.and_eq_true,Bool.or_eq_true,Bool.not_eq_true',decide_eq_true_eq,decide_eq_false_iff_not,nble,nblt,nbeq,Nat.zero_add,Nat.add_zero,Int.zero_add,Int.add_zero,List.length_cons,List.length_nil,true_and,and_true,Nat.reduceAdd,and_self,beq_self_eq_true]; omega)) ?_)))
  first | rfl | (simp (disch:=omega) only [wr64,wr8,wr16,wr32,ofNatE,Nat.zero_add,bleT,bltT,dT,dF,Bool.true_and,Bool.and_true,Bool.and_self,cond_true,cond_false,Nat.sub_zero,beq_self_eq_true]; done) | (simp (disch:=omega) only [wr64,wr8,wr16,wr32,ofNatE,Nat.zero_add,bleT,bltT,dT,dF,Bool.true_and,Bool.and_true,Bool.and_self,cond_true,cond_false,Nat.sub_zero,beq_self_eq_true]; rfl)
 ·refine ⟨v+1,len+1,Nat.le_refl _,Step.mkC (A:=A41) (m:=0) okK41a rfl rfl loops0 [0,1] (v2:=v6 L c (.own 0 (v+1) 0 (len+1) none) (.own 1 u 0 ll none) (t+L.tm (o i)) o c2 (i+1)) (h2:=[⟨v+1,1,len+1,fun j=>bif Nat.blt j len then [.int .i64 (d j)] else [[T.int .i64 (o i:Int)]].getD (j - len) [],true,false⟩,nb u nl e])
   (v1:=v6 L c (.own 0 (v+1) 0 (len+1) none) (.own 1 u 0 ll none) (t+L.tm (o i)) o c2 (i+1)) (h1:=[⟨v+1,1,len+1,fun j=>bif Nat.blt j len then [.int .i64 (d j)] else [[T.int .i64 (o i:Int)]].getD (j - len) [],true,false⟩,nb u nl e,tb (o i)]) (Eq.trans (show iterR P41 G41 A41 K41a 0 13 [] 6 (v6 L c (.own 0 v 0 len none) (.own 1 u 0 ll none) t o c2 i) [nb v nd d,nb u nl e] =
(
 bif decide (Int.ofNat i<Int.ofNat L.n) then
 bif decide (0<=Int.ofNat i)&&decide (Int.ofNat i<Int.ofNat L.n) then
 bif v==v then
 bif ((0:Nat)+len).ble nd then
 bif ((len+(1:Nat)) * (9:Nat)).ble 70368744177664 then
 bif ((0:Nat)+len+(1:Nat)).ble nd then
 bif decide (0<=Int.ofNat (o i))&&decide (Int.ofNat (o i)<Int.ofNat L.n) then
 bif decide (0<=Int.ofNat (o i))&&decide (Int.ofNat (o i)<Int.ofNat L.n) then
 bif decide (IntKind.i64.wrap (t+L.tm (o i))<=L.du (o i)) then
 some ((.normal,[jv L c,.own 0 v 0 (len+1)
 none,.own 1 u 0 ll
 none,.int .i64 (IntKind.i64.wrap (t+L.tm (o i))),ov L.n o c2,.int .i64 (.ofNat L.n),.int .i64 (IntKind.i64.wrap (Int.ofNat i+1))],[.mk v 1 nd (fun j =>
 bif ((0:Nat)+len).ble j&&j.blt (0+len+1) then [[T.int .i64 (Int.ofNat (o i))]].getD ((0:Nat)+(j - (0+len))) []
 else [.int .i64 (.ofNat (d j))]) true false,nb u nl e,.mk 0 1 1 (fun j=>[[T.int .i64 (Int.ofNat (o i))]].getD j []) true true]))
 else
 bif v==v then none else none else none else none else
 bif decide (0<=Int.ofNat (o i))&&decide (Int.ofNat (o i)<Int.ofNat L.n) then
 bif decide (0<=Int.ofNat (o i))&&decide (Int.ofNat (o i)<Int.ofNat L.n) then
 bif decide (IntKind.i64.wrap (t+L.tm (o i))<=L.du (o i)) then
 some ((.normal,[jv L c,.own 0 (v+1) (0:Nat) (len+1)
 none,.own 1 u 0 ll
 none,.int .i64 (IntKind.i64.wrap (t+L.tm (o i))),ov L.n o c2,.int .i64 (.ofNat L.n),.int .i64 (IntKind.i64.wrap (Int.ofNat i+1))],[.mk (v+1) (1:Nat) (len+1) (fun j =>
 bif j.blt len then [.int .i64 (.ofNat (d (0+j)))]
 else [[T.int .i64 (Int.ofNat (o i))]].getD ((0:Nat)+(j - len)) []) true false,nb u nl e,.mk 0 1 1 (fun j=>[[T.int .i64 (Int.ofNat (o i))]].getD j []) true true]))
 else
 bif v+1==v+1 then none else none else none else none else none else none else none else none else
 some ((.exit 0,[.own 0 v 0 len
 none,.own 1 u 0 ll
 none],[nb v nd d,nb u nl e]))) from by kernel_rfl) ?_) (by rfl) (by rfl) (by rfl) fun nt=>.same (.cons ⟨rfl,rfl,rfl,id,fun j hj=>apD_get hj⟩ (.refl _))⟩
  (repeat (first | (refine bift (by first | assumption | omega | (simp (disch:=omega) only [wr64,wr8,wr16,wr32,ofNatE,toNatE,toNatE1,Bool.and_eq_true,Bool.or_eq_true,Bool.not_eq_true',decide_eq_true_eq,decide_eq_false_iff_not,nble,nblt,nbeq,Nat.zero_add,Nat.add_zero,Int.zero_add,Int.add_zero,List.length_cons,List.length_nil,true_and,and_true,Nat.reduceAdd,and_self,beq_self_eq_true]; done) | (simp (disch:=omega) only [wr64,wr8,wr16,wr32,ofNatE,toNatE,toNatE1,Bool.and_eq_true,Bool.or_eq_true,Bool.not_eq_true',decide_eq_true_eq,decide_eq_false_iff_not,nble,nblt,nbeq,Nat.zero_add,Nat.add_zero,Int.zero_add,Int.add_zero,List.length_cons,List.length_nil,true_and,and_true,Nat.reduceAdd,and_self,beq_self_eq_true]; omega)) ?_) | (refine biff (by first | assumption | (simp (disch:=omega) only [wr64,wr8,wr16,wr32,ofNatE,toNatE,toNatE1,Bool.and_eq_true,Bool.or_eq_true,Bool.not_eq_true',decide_eq_true_eq,decide_eq_false_iff_not,nble,nblt,nbeq,Nat.zero_add,Nat.add_zero,Int.zero_add,Int.add_zero,List.length_cons,List.length_nil,true_and,and_true,Nat.reduceAdd,and_self,beq_self_eq_true]; done) | (simp (disch:=omega) only [wr64,wr8,wr16,wr32,ofNatE,toNatE,toNatE1,Bool.and_eq_true,Bool.or_eq_true,Bool.not_eq_true',decide_eq_true_eq,decide_eq_false_iff_not,nble,nblt,nbeq,Nat.zero_add,Nat.add_zero,Int.zero_add,Int.add_zero,List.length_cons,List.length_nil,true_and,and_true,Nat.reduceAdd,and_self,beq_self_eq_true]; omega)) ?_)))
  first | rfl | (simp (disch:=omega) only [wr64,wr8,wr16,wr32,ofNatE,Nat.zero_add,bleT,bltT,dT,dF,Bool.true_and,Bool.and_true,Bool.and_self,cond_true,cond_false,Nat.sub_zero,beq_self_eq_true]; done) | (simp (disch:=omega) only [wr64,wr8,wr16,wr32,ofNatE,Nat.zero_add,bleT,bltT,dT,dF,Bool.true_and,Bool.and_true,Bool.and_self,cond_true,cond_false,Nat.sub_zero,beq_self_eq_true]; rfl)
theorem rB_out (hL:L.Ok) (hi:i<L.n) (ho:o i<L.n) (h1:len<=nd) (h2:len<=300) (h3:ll<=nl) (h4:ll<=300) (ht:0<=t/\t<=100000000) (hd:∀ j,j<len->d j<L.n) (hdue:¬ t+L.tm (o i)<=L.du (o i)) (g:Nat) (hg:g = lgst (fun j=>L.tm (apD d len (o i) j)) (len+1)) :
 ∃ v' nd' u' nl',len<=nd'/\ll+1<=nl'/\Step P41 G41 (A41 13) 13 6 0 (v6 L c (.own 0 v 0 len none) (.own 1 u 0 ll none) t o c2 i) [nb v nd d,nb u nl e] (v6 L c (.own 0 v' 0 len none) (.own 1 u' 0 (ll+1) none) (t+L.tm (o i) - L.tm (apD d len (o i) g)) o c2 (i+1)) [nb v' nd' (delD (apD d len (o i)) g len),nb u' nl' (apD e ll (apD d len (o i) g))]:=by
 have hn:=hL.n
 have htm:=hL.tm (o i) ho
 have hgl:g<len+1:=by rw [hg]; exact lgst_lt _ _ (by omega)
 have hda:∀ j,j<len+1->apD d len (o i) j<L.n:=fun j hj=>by
  unfold apD
  by_cases q:j = len
  ·rw [if_pos q]; exact ho
  ·rw [if_neg q]; exact hd j (by omega)
 have hx:=hda g hgl
 have htx:=hL.tm _ hx
 have key:∀ v2 nd2 u2 nl2,(len+1<=nd/\v2 = v/\nd2 = nd) ∨ (nd<len+1/\v2 = v+1/\nd2 = len+1)->len+1<=nd2->(ll+1<=nl/\u2 = u/\nl2 = nl) ∨ (nl<ll+1/\u2 = u+1/\nl2 = ll+1) →
  Step P41 G41 (A41 13) 13 6 0 (v6 L c (.own 0 v 0 len none) (.own 1 u 0 ll none) t o c2 i) [nb v nd d,nb u nl e] (v6 L c (.own 0 v2 0 len none) (.own 1 u2 0 (ll+1) none) (t+L.tm (o i) - L.tm (apD d len (o i) g)) o c2 (i+1)) [nb v2 nd2 (delD (apD d len (o i)) g len),nb u2 nl2 (apD e ll (apD d len (o i) g))]:=by
  intro v2 nd2 u2 nl2 hcase hnd2 hcase2
  have hl:=l13 L c v2 (len+1) nd2 (apD d len (o i)) (.own 1 u 0 ll none) (t+L.tm (o i)) o c2 i [nb u nl e,tb (o i)] hL (by omega) hnd2 (by omega) hda
  rw [← hg] at hl
  have hdl:=delT v2 len nd2 g (apD d len (o i)) [nb u2 nl2 (apD e ll (apD d len (o i) g)),tb (o i),tb (apD d len (o i) g)] (by omega) hnd2 (by omega)
  have hset:=apD_set (d:=d) (len:=len) (x:=o i)
  have hget:=fun (j:Nat) (hj:j<len+1)=>apD_get (d:=d) (x:=o i) hj
  have kset:=apD_set (d:=e) (len:=ll) (x:=apD d len (o i) g)
  have kget:=fun (j:Nat) (hj:j<ll+1)=>apD_get (d:=e) (x:=apD d len (o i) g) hj
  generalize apD d len (o i) = dA at *
  generalize apD e ll (dA g) = eA at *
  have hdelta:∃ dd,delD dA g len = dd:=⟨_,rfl⟩
  obtain ⟨dd,hdd⟩:=hdelta
  rw [hdd] at hdl ⊢
  generalize ht2:t+L.tm (o i) = t2 at *
  refine Step.mkC (A:=A41) (m:=0) (l:=[(13,litS (v13 L c v2 (len+1) (.own 1 u 0 ll none) t2 o c2 i 0 0) [nb v2 nd2 dA,nb u nl e,tb (o i)] (.exit 2) (e13 L c v2 (len+1) (.own 1 u 0 ll none) t2 o c2 i g) [nb v2 nd2 dA,nb u nl e,tb (o i)])])
   (K:=KP [.own 0 v2 0 (len+1) none,.int .i64 g,.int .i64 (g+1:Nat)] [nb v2 nd2 dA,nb u2 nl2 eA,tb (o i),tb (dA g)] (.own 0 v2 0 len none) [nb v2 nd2 dd,nb u2 nl2 eA,tb (o i),tb (dA g)]) (told_addRef okK41a (refS_told hdl)) rfl rfl (loops1 hl) [0,1]
   (v2:=v6 L c (.own 0 v2 0 len none) (.own 1 u2 0 (ll+1) none) (t2 - L.tm (dA g)) o c2 (i+1)) (h2:=[nb v2 nd2 dd,nb u2 nl2 eA])
   (v1:=v6 L c (.own 0 v2 0 len none) (.own 1 u2 0 (ll+1) none) (t2 - L.tm (dA g)) o c2 (i+1)) (h1:=[nb v2 nd2 dd,nb u2 nl2 eA,tb (o i),tb (dA g)])
   (Eq.trans (show iterR P41 G41 A41 (KP [.own 0 v2 0 (len+1) none,.int .i64 g,.int .i64 (g+1:Nat)] [nb v2 nd2 dA,nb u2 nl2 eA,tb (o i),tb (dA g)] (.own 0 v2 0 len none) [nb v2 nd2 dd,nb u2 nl2 eA,tb (o i),tb (dA g)]) 0 13 [(13,litS (v13 L c v2 (len+1) (.own 1 u 0 ll none) t2 o c2 i 0 0) [nb v2 nd2 dA,nb u nl e,tb (o i)] (.exit 2) (e13 L c v2 (len+1) (.own 1 u 0 ll none) t2 o c2 i g) [nb v2 nd2 dA,nb u nl e,tb (o i)])] 6 (v6 L c (.own 0 v 0 len none) (.own 1 u 0 ll none) t o c2 i) [nb v nd d,nb u nl e] =
(
 bif decide (Int.ofNat i<Int.ofNat L.n) then
 bif decide (0<=Int.ofNat i)&&decide (Int.ofNat i<Int.ofNat L.n) then
 bif v==v then
 bif ((0:Nat)+len).ble nd then
 bif ((len+(1:Nat)) * (9:Nat)).ble 70368744177664 then
 bif ((0:Nat)+len+(1:Nat)).ble nd then
 bif decide (0<=Int.ofNat (o i))&&decide (Int.ofNat (o i)<Int.ofNat L.n) then
 bif decide (0<=Int.ofNat (o i))&&decide (Int.ofNat (o i)<Int.ofNat L.n) then
 bif decide (IntKind.i64.wrap (t+L.tm (o i))<=L.du (o i)) then
 some ((.normal,[jv L c,.own 0 v 0 (len+1)
 none,.own 1 u 0 ll
 none,.int .i64 (IntKind.i64.wrap (t+L.tm (o i))),ov L.n o c2,.int .i64 (.ofNat L.n),.int .i64 (IntKind.i64.wrap (Int.ofNat i+1))],[.mk v 1 nd (fun j =>
 bif ((0:Nat)+len).ble j&&j.blt (0+len+1) then [[T.int .i64 (Int.ofNat (o i))]].getD ((0:Nat)+(j - (0+len))) []
 else [.int .i64 (.ofNat (d j))]) true false,nb u nl e,.mk 0 1 1 (fun j=>[[T.int .i64 (Int.ofNat (o i))]].getD j []) true true]))
 else
 bif v==v then
 bif weakF [jv L c,.own 0 v 0 (len+1)
 none,.own 1 u 0 ll
 none,.int .i64 (IntKind.i64.wrap (t+L.tm (o i))),.int .i64 0,ov L.n o c2,.int .i64 (.ofNat L.n),.int .i64 (.ofNat i),.own 0 v 0 (len+1)
 none,.int .i64 (.ofNat (len+1)),.int .i64 0] [.mk v 1 nd (fun j =>
 bif ((0:Nat)+len).ble j&&j.blt (0+len+1) then [[T.int .i64 (Int.ofNat (o i))]].getD ((0:Nat)+(j - (0+len))) []
 else [.int .i64 (.ofNat (d j))]) true false,nb u nl e,.mk 0 1 1 (fun j=>[[T.int .i64 (Int.ofNat (o i))]].getD j []) true true] [jv L c,.own 0 v2 0 (len+1)
 none,.own 1 u 0 ll
 none,.int .i64 t2,.int .i64 0,ov L.n o c2,.int .i64 (.ofNat L.n),.int .i64 (.ofNat i),.own 0 v2 0 (len+1)
 none,.int .i64 (.ofNat (len+1)),.int .i64 0] [nb v2 nd2 dA,nb u nl e,.mk 0 1 1 (fun j=>[[T.int .i64 (Int.ofNat (o i))]].getD j []) true true] then
 bif v2==v2 then
 bif decide (0<=Int.ofNat g)&&decide (Int.ofNat g<Int.ofNat (len+1)) then
 bif v2==v2 then
 bif ((0:Nat)+g).blt nd2 then
 bif decide (0<=Int.ofNat (dA (0+g)))&&decide (Int.ofNat (dA (0+g))<Int.ofNat L.n) then
 bif v2==v2 then
 bif decide (0<=Int.ofNat g)&&decide (Int.ofNat g<Int.ofNat (len+1)) then
 bif v2==v2 then
 bif ((0:Nat)+g).blt nd2 then
 bif u==u then
 bif ((0:Nat)+ll).ble nl then
 bif ((ll+(1:Nat)) * (9:Nat)).ble 70368744177664 then
 bif ((0:Nat)+ll+(1:Nat)).ble nl then
 bif sameStF [.own 0 v2 0 (len+1)
 none,.int .i64 (.ofNat g),.int .i64 (IntKind.i64.wrap (Int.ofNat g+1))] [nb v2 nd2 dA,.mk u 1 nl (fun j =>
 bif ((0:Nat)+ll).ble j&&j.blt (0+ll+1) then [[T.int .i64 (Int.ofNat (dA ((0:Nat)+g)))]].getD ((0:Nat)+(j - (0+ll))) []
 else [.int .i64 (.ofNat (e j))]) true false,.mk 0 1 1 (fun j=>[[T.int .i64 (Int.ofNat (o i))]].getD j []) true true,.mk 0 1 1 (fun j=>[[T.int .i64 (Int.ofNat (dA ((0:Nat)+g)))]].getD j []) true true] [.own 0 v2 0 (len+1)
 none,.int .i64 (.ofNat g),.int .i64 (.ofNat (g+1))] [nb v2 nd2 dA,nb u2 nl2 eA,.mk 0 1 1 (fun j=>[[T.int .i64 (Int.ofNat (o i))]].getD j []) true true,.mk 0 1 1 (fun j=>[[T.int .i64 (Int.ofNat (dA g))]].getD j []) true true] then
 some ((.normal,[jv L c,.own 0 v2 0 len
 none,.own 1 u 0 (ll+1)
 none,.int .i64 (IntKind.i64.wrap (t2 - L.tm (dA (0+g)))),ov L.n o c2,.int .i64 (.ofNat L.n),.int .i64 (IntKind.i64.wrap (Int.ofNat i+1))],[nb v2 nd2 dd,nb u2 nl2 eA,.mk 0 1 1 (fun j=>[[T.int .i64 (Int.ofNat (o i))]].getD j []) true true,.mk 0 1 1 (fun j=>[[T.int .i64 (Int.ofNat (dA g))]].getD j []) true true]))
 else none else
 bif sameStF [.own 0 v2 0 (len+1)
 none,.int .i64 (.ofNat g),.int .i64 (IntKind.i64.wrap (Int.ofNat g+1))] [nb v2 nd2 dA,.mk (u+1) (1:Nat) (ll+1) (fun j =>
 bif j.blt ll then [.int .i64 (.ofNat (e (0+j)))]
 else [[T.int .i64 (Int.ofNat (dA ((0:Nat)+g)))]].getD ((0:Nat)+(j - ll)) []) true false,.mk 0 1 1 (fun j=>[[T.int .i64 (Int.ofNat (o i))]].getD j []) true true,.mk 0 1 1 (fun j=>[[T.int .i64 (Int.ofNat (dA ((0:Nat)+g)))]].getD j []) true true] [.own 0 v2 0 (len+1)
 none,.int .i64 (.ofNat g),.int .i64 (.ofNat (g+1))] [nb v2 nd2 dA,nb u2 nl2 eA,.mk 0 1 1 (fun j=>[[T.int .i64 (Int.ofNat (o i))]].getD j []) true true,.mk 0 1 1 (fun j=>[[T.int .i64 (Int.ofNat (dA g))]].getD j []) true true] then
 some ((.normal,[jv L c,.own 0 v2 0 len
 none,.own 1 (u+1) (0:Nat) (ll+1)
 none,.int .i64 (IntKind.i64.wrap (t2 - L.tm (dA (0+g)))),ov L.n o c2,.int .i64 (.ofNat L.n),.int .i64 (IntKind.i64.wrap (Int.ofNat i+1))],[nb v2 nd2 dd,nb u2 nl2 eA,.mk 0 1 1 (fun j=>[[T.int .i64 (Int.ofNat (o i))]].getD j []) true true,.mk 0 1 1 (fun j=>[[T.int .i64 (Int.ofNat (dA g))]].getD j []) true true]))
 else none else none else none else none else none else none else none else none else none else none else none else none else none else none else none else none else none else
 bif decide (0<=Int.ofNat (o i))&&decide (Int.ofNat (o i)<Int.ofNat L.n) then
 bif decide (0<=Int.ofNat (o i))&&decide (Int.ofNat (o i)<Int.ofNat L.n) then
 bif decide (IntKind.i64.wrap (t+L.tm (o i))<=L.du (o i)) then
 some ((.normal,[jv L c,.own 0 (v+1) (0:Nat) (len+1)
 none,.own 1 u 0 ll
 none,.int .i64 (IntKind.i64.wrap (t+L.tm (o i))),ov L.n o c2,.int .i64 (.ofNat L.n),.int .i64 (IntKind.i64.wrap (Int.ofNat i+1))],[.mk (v+1) (1:Nat) (len+1) (fun j =>
 bif j.blt len then [.int .i64 (.ofNat (d (0+j)))]
 else [[T.int .i64 (Int.ofNat (o i))]].getD ((0:Nat)+(j - len)) []) true false,nb u nl e,.mk 0 1 1 (fun j=>[[T.int .i64 (Int.ofNat (o i))]].getD j []) true true]))
 else
 bif v+1==v+1 then
 bif weakF [jv L c,.own 0 (v+1) (0:Nat) (len+1)
 none,.own 1 u 0 ll
 none,.int .i64 (IntKind.i64.wrap (t+L.tm (o i))),.int .i64 0,ov L.n o c2,.int .i64 (.ofNat L.n),.int .i64 (.ofNat i),.own 0 (v+1) (0:Nat) (len+1)
 none,.int .i64 (.ofNat (len+1)),.int .i64 0] [.mk (v+1) (1:Nat) (len+1) (fun j =>
 bif j.blt len then [.int .i64 (.ofNat (d (0+j)))]
 else [[T.int .i64 (Int.ofNat (o i))]].getD ((0:Nat)+(j - len)) []) true false,nb u nl e,.mk 0 1 1 (fun j=>[[T.int .i64 (Int.ofNat (o i))]].getD j []) true true] [jv L c,.own 0 v2 0 (len+1)
 none,.own 1 u 0 ll
 none,.int .i64 t2,.int .i64 0,ov L.n o c2,.int .i64 (.ofNat L.n),.int .i64 (.ofNat i),.own 0 v2 0 (len+1)
 none,.int .i64 (.ofNat (len+1)),.int .i64 0] [nb v2 nd2 dA,nb u nl e,.mk 0 1 1 (fun j=>[[T.int .i64 (Int.ofNat (o i))]].getD j []) true true] then
 bif v2==v2 then
 bif decide (0<=Int.ofNat g)&&decide (Int.ofNat g<Int.ofNat (len+1)) then
 bif v2==v2 then
 bif ((0:Nat)+g).blt nd2 then
 bif decide (0<=Int.ofNat (dA (0+g)))&&decide (Int.ofNat (dA (0+g))<Int.ofNat L.n) then
 bif v2==v2 then
 bif decide (0<=Int.ofNat g)&&decide (Int.ofNat g<Int.ofNat (len+1)) then
 bif v2==v2 then
 bif ((0:Nat)+g).blt nd2 then
 bif u==u then
 bif ((0:Nat)+ll).ble nl then
 bif ((ll+(1:Nat)) * (9:Nat)).ble 70368744177664 then
 bif ((0:Nat)+ll+(1:Nat)).ble nl then
 bif sameStF [.own 0 v2 0 (len+1)
 none,.int .i64 (.ofNat g),.int .i64 (IntKind.i64.wrap (Int.ofNat g+1))] [nb v2 nd2 dA,.mk u 1 nl (fun j =>
 bif ((0:Nat)+ll).ble j&&j.blt (0+ll+1) then [[T.int .i64 (Int.ofNat (dA ((0:Nat)+g)))]].getD ((0:Nat)+(j - (0+ll))) []
 else [.int .i64 (.ofNat (e j))]) true false,.mk 0 1 1 (fun j=>[[T.int .i64 (Int.ofNat (o i))]].getD j []) true true,.mk 0 1 1 (fun j=>[[T.int .i64 (Int.ofNat (dA ((0:Nat)+g)))]].getD j []) true true] [.own 0 v2 0 (len+1)
 none,.int .i64 (.ofNat g),.int .i64 (.ofNat (g+1))] [nb v2 nd2 dA,nb u2 nl2 eA,.mk 0 1 1 (fun j=>[[T.int .i64 (Int.ofNat (o i))]].getD j []) true true,.mk 0 1 1 (fun j=>[[T.int .i64 (Int.ofNat (dA g))]].getD j []) true true] then
 some ((.normal,[jv L c,.own 0 v2 0 len
 none,.own 1 u 0 (ll+1)
 none,.int .i64 (IntKind.i64.wrap (t2 - L.tm (dA (0+g)))),ov L.n o c2,.int .i64 (.ofNat L.n),.int .i64 (IntKind.i64.wrap (Int.ofNat i+1))],[nb v2 nd2 dd,nb u2 nl2 eA,.mk 0 1 1 (fun j=>[[T.int .i64 (Int.ofNat (o i))]].getD j []) true true,.mk 0 1 1 (fun j=>[[T.int .i64 (Int.ofNat (dA g))]].getD j []) true true]))
 else none else
 bif sameStF [.own 0 v2 0 (len+1)
 none,.int .i64 (.ofNat g),.int .i64 (IntKind.i64.wrap (Int.ofNat g+1))] [nb v2 nd2 dA,.mk (u+1) (1:Nat) (ll+1) (fun j =>
 bif j.blt ll then [.int .i64 (.ofNat (e (0+j)))]
 else [[T.int .i64 (Int.ofNat (dA ((0:Nat)+g)))]].getD ((0:Nat)+(j - ll)) []) true false,.mk 0 1 1 (fun j=>[[T.int .i64 (Int.ofNat (o i))]].getD j []) true true,.mk 0 1 1 (fun j=>[[T.int .i64 (Int.ofNat (dA ((0:Nat)+g)))]].getD j []) true true] [.own 0 v2 0 (len+1)
 none,.int .i64 (.ofNat g),.int .i64 (.ofNat (g+1))] [nb v2 nd2 dA,nb u2 nl2 eA,.mk 0 1 1 (fun j=>[[T.int .i64 (Int.ofNat (o i))]].getD j []) true true,.mk 0 1 1 (fun j=>[[T.int .i64 (Int.ofNat (dA g))]].getD j []) true true] then
 some ((.normal,[jv L c,.own 0 v2 0 len
 none,.own 1 (u+1) (0:Nat) (ll+1)
 none,.int .i64 (IntKind.i64.wrap (t2 - L.tm (dA (0+g)))),ov L.n o c2,.int .i64 (.ofNat L.n),.int .i64 (IntKind.i64.wrap (Int.ofNat i+1))],[nb v2 nd2 dd,nb u2 nl2 eA,.mk 0 1 1 (fun j=>[[T.int .i64 (Int.ofNat (o i))]].getD j []) true true,.mk 0 1 1 (fun j=>[[T.int .i64 (Int.ofNat (dA g))]].getD j []) true true]))
 else none else none else none else none else none else none else none else none else none else none else none else none else none else none else none else none else none else none else none else none else none else
 some ((.exit 0,[.own 0 v 0 len
 none,.own 1 u 0 ll
 none],[nb v nd d,nb u nl e]))) from by kernel_rfl) ?_) (by rfl) (by rfl) (by rfl) fun nt=>.same (.refl _)
  have ew:IntKind.i64.wrap (t+L.tm (o i)) = t2:=by rw [wr64 (by omega) (by omega),ht2]
  rw [ew,Nat.zero_add g]
  rcases hcase with ⟨q,rfl,rfl⟩ | ⟨q,rfl,rfl⟩ <;> rcases hcase2 with ⟨q',rfl,rfl⟩ | ⟨q',rfl,rfl⟩
  all_goals
   (repeat (first | (refine bift (by first | assumption | omega | (simp (disch:=omega) only [wr64,wr8,wr16,wr32,ofNatE,toNatE,toNatE1,Bool.and_eq_true,Bool.or_eq_true,Bool.not_eq_true',decide_eq_true_eq,decide_eq_false_iff_not,nble,nblt,nbeq,Nat.zero_add,Nat.add_zero,Int.zero_add,Int.add_zero,List.length_cons,List.length_nil,true_and,and_true,Nat.reduceAdd,and_self,beq_self_eq_true]; done) | (simp (disch:=omega) only [wr64,wr8,wr16,wr32,ofNatE,toNatE,toNatE1,Bool.and_eq_true,Bool.or_eq_true,Bool.not_eq_true',decide_eq_true_eq,decide_eq_false_iff_not,nble,nblt,nbeq,Nat.zero_add,Nat.add_zero,Int.zero_add,Int.add_zero,List.length_cons,List.length_nil,true_and,and_true,Nat.reduceAdd,and_self,beq_self_eq_true]; omega)) ?_) | (refine biff (by first | assumption | (simp (disch:=omega) only [wr64,wr8,wr16,wr32,ofNatE,toNatE,toNatE1,Bool.and_eq_true,Bool.or_eq_true,Bool.not_eq_true',decide_eq_true_eq,decide_eq_false_iff_not,nble,nblt,nbeq,Nat.zero_add,Nat.add_zero,Int.zero_add,Int.add_zero,List.length_cons,List.length_nil,true_and,and_true,Nat.reduceAdd,and_self,beq_self_eq_true]; done) | (simp (disch:=omega) only [wr64,wr8,wr16,wr32,ofNatE,toNatE,toNatE1,Bool.and_eq_true,Bool.or_eq_true,Bool.not_eq_true',decide_eq_true_eq,decide_eq_false_iff_not,nble,nblt,nbeq,Nat.zero_add,Nat.add_zero,Int.zero_add,Int.add_zero,List.length_cons,List.length_nil,true_and,and_true,Nat.reduceAdd,and_self,beq_self_eq_true]; omega)) ?_)))
   refine bift (weakF_of ⟨rfl,.cons ⟨rfl,rfl,rfl,id,fun j hj=>?_⟩ (.refl _)⟩) ?_
   ·first
     | (simp only [Nat.zero_add]; exact hset j)
     | (simp only [Nat.zero_add]; exact hget j hj)
   (repeat (first | (refine bift (by first | assumption | omega | (simp (disch:=omega) only [wr64,wr8,wr16,wr32,ofNatE,toNatE,toNatE1,Bool.and_eq_true,Bool.or_eq_true,Bool.not_eq_true',decide_eq_true_eq,decide_eq_false_iff_not,nble,nblt,nbeq,Nat.zero_add,Nat.add_zero,Int.zero_add,Int.add_zero,List.length_cons,List.length_nil,true_and,and_true,Nat.reduceAdd,and_self,beq_self_eq_true]; done) | (simp (disch:=omega) only [wr64,wr8,wr16,wr32,ofNatE,toNatE,toNatE1,Bool.and_eq_true,Bool.or_eq_true,Bool.not_eq_true',decide_eq_true_eq,decide_eq_false_iff_not,nble,nblt,nbeq,Nat.zero_add,Nat.add_zero,Int.zero_add,Int.add_zero,List.length_cons,List.length_nil,true_and,and_true,Nat.reduceAdd,and_self,beq_self_eq_true]; omega)) ?_) | (refine biff (by first | assumption | (simp (disch:=omega) only [wr64,wr8,wr16,wr32,ofNatE,toNatE,toNatE1,Bool.and_eq_true,Bool.or_eq_true,Bool.not_eq_true',decide_eq_true_eq,decide_eq_false_iff_not,nble,nblt,nbeq,Nat.zero_add,Nat.add_zero,Int.zero_add,Int.add_zero,List.length_cons,List.length_nil,true_and,and_true,Nat.reduceAdd,and_self,beq_self_eq_true]; done) | (simp (disch:=omega) only [wr64,wr8,wr16,wr32,ofNatE,toNatE,toNatE1,Bool.and_eq_true,Bool.or_eq_true,Bool.not_eq_true',decide_eq_true_eq,decide_eq_false_iff_not,nble,nblt,nbeq,Nat.zero_add,Nat.add_zero,Int.zero_add,Int.add_zero,List.length_cons,List.length_nil,true_and,and_true,Nat.reduceAdd,and_self,beq_self_eq_true]; omega)) ?_)))
   refine bift (sameStF_iff.2 ⟨?_,.cons ⟨rfl,rfl,rfl,id,fun _ _=>rfl⟩ (.cons ⟨rfl,rfl,rfl,id,fun j hj=>?_⟩ (.refl _))⟩) ?_
   ·first | rfl | (simp (disch:=omega) only [wr64,wr8,wr16,wr32,ofNatE]; done) | (simp (disch:=omega) only [wr64,wr8,wr16,wr32,ofNatE]; rfl)
   ·first
     | (simp only [Nat.zero_add]; exact kset j)
     | (simp only [Nat.zero_add]; exact kget j hj)
   first | rfl | (simp (disch:=omega) only [wr64,wr8,wr16,wr32,ofNatE]; done) | (simp (disch:=omega) only [wr64,wr8,wr16,wr32,ofNatE]; rfl)
 by_cases q:len+1<=nd <;> by_cases q':ll+1<=nl
 ·exact ⟨v,nd,u,nl,by omega,q',key v nd u nl (.inl ⟨q,rfl,rfl⟩) q (.inl ⟨q',rfl,rfl⟩)⟩
 ·exact ⟨v,nd,u+1,ll+1,by omega,Nat.le_refl _,key v nd (u+1) (ll+1) (.inl ⟨q,rfl,rfl⟩) q (.inr ⟨by omega,rfl,rfl⟩)⟩
 ·exact ⟨v+1,len+1,u,nl,by omega,q',key (v+1) (len+1) u nl (.inr ⟨by omega,rfl,rfl⟩) (Nat.le_refl _) (.inl ⟨q',rfl,rfl⟩)⟩
 ·exact ⟨v+1,len+1,u+1,ll+1,by omega,Nat.le_refl _,key (v+1) (len+1) (u+1) (ll+1) (.inr ⟨by omega,rfl,rfl⟩) (Nat.le_refl _) (.inr ⟨by omega,rfl,rfl⟩)⟩
end
section
variable (L:JL) (c:Option Nat) (o:Nat->Nat) (c2:Option Nat)
theorem r0_in (hL:L.Ok) (hi:0<L.n) (ho:o 0<L.n) (hdue:L.tm (o 0)<=L.du (o 0)) :
 Step P41 G41 (A41 13) 13 6 0 (v6 L c .nils .nils 0 o c2 0) [] (v6 L c (.own 0 0 0 1 none) .nils (L.tm (o 0)) o c2 1) [nb 0 1 fun _=>o 0]:=by
 have hn:=hL.n
 have htm:=hL.tm (o 0) ho
 refine Step.mkC (A:=A41) (m:=0) okK41a rfl rfl loops0 [1] (v2:=v6 L c (.own 0 0 0 1 none) .nils (L.tm (o 0)) o c2 1) (h2:=[lb1 (o 0)])
  (v1:=v6 L c (.own 1 0 0 1 none) .nils (L.tm (o 0)) o c2 1) (h1:=[tb (o 0),lb1 (o 0)]) (Eq.trans (show iterR P41 G41 A41 K41a 0 13 [] 6 (v6 L c .nils .nils 0 o c2 0) [] =
(
 bif decide (0<Int.ofNat L.n) then
 bif decide (0<Int.ofNat L.n) then
 bif decide (0<=Int.ofNat (o (0:Nat)))&&decide (Int.ofNat (o (0:Nat))<Int.ofNat L.n) then
 bif decide (0<=Int.ofNat (o (0:Nat)))&&decide (Int.ofNat (o (0:Nat))<Int.ofNat L.n) then
 bif decide (IntKind.i64.wrap ((0:Int)+L.tm (o (0:Nat)))<=L.du (o (0:Nat))) then
 some ((.normal,[jv L c,.own [Blk.mk 0 1 1 (fun j=>[[T.int .i64 (Int.ofNat (o (0:Nat)))]].getD j []) true true].length (0:Nat) (0:Nat) (1:Nat)
 none,.nils,.int .i64 (IntKind.i64.wrap ((0:Int)+L.tm (o (0:Nat)))),ov L.n o c2,.int .i64 (.ofNat L.n),.int .i64 1],[.mk 0 1 1 (fun j=>[[T.int .i64 (Int.ofNat (o (0:Nat)))]].getD j []) true true,.mk 0 1 1 (fun j=>[[T.int .i64 (Int.ofNat (o (0:Nat)))]].getD (0+j) []) true false]))
 else none else none else none else none else
 some ((.exit 0,[.nils,.nils],[]))) from by kernel_rfl) ?_) (by rfl) (by rfl) (by rfl) fun nt=>.same (.cons ⟨rfl,rfl,rfl,id,fun j hj=>by
   have hj':j<1:=hj
   obtain rfl:j = 0:=by omega
   rfl⟩ .nil)
 (repeat (first | (refine bift (by first | assumption | omega | (simp (disch:=omega) only [wr64,wr8,wr16,wr32,ofNatE,toNatE,toNatE1,Bool.and_eq_true,Bool.or_eq_true,Bool.not_eq_true',decide_eq_true_eq,decide_eq_false_iff_not,nble,nblt,nbeq,Nat.zero_add,Nat.add_zero,Int.zero_add,Int.add_zero,List.length_cons,List.length_nil,true_and,and_true,Nat.reduceAdd,and_self]; done) | (simp (disch:=omega) only [wr64,wr8,wr16,wr32,ofNatE,toNatE,toNatE1,Bool.and_eq_true,Bool.or_eq_true,Bool.not_eq_true',decide_eq_true_eq,decide_eq_false_iff_not,nble,nblt,nbeq,Nat.zero_add,Nat.add_zero,Int.zero_add,Int.add_zero,List.length_cons,List.length_nil,true_and,and_true,Nat.reduceAdd,and_self]; omega)) ?_) | (refine biff (by first | assumption | (simp (disch:=omega) only [wr64,wr8,wr16,wr32,ofNatE,toNatE,toNatE1,Bool.and_eq_true,Bool.or_eq_true,Bool.not_eq_true',decide_eq_true_eq,decide_eq_false_iff_not,nble,nblt,nbeq,Nat.zero_add,Nat.add_zero,Int.zero_add,Int.add_zero,List.length_cons,List.length_nil,true_and,and_true,Nat.reduceAdd,and_self]; done) | (simp (disch:=omega) only [wr64,wr8,wr16,wr32,ofNatE,toNatE,toNatE1,Bool.and_eq_true,Bool.or_eq_true,Bool.not_eq_true',decide_eq_true_eq,decide_eq_false_iff_not,nble,nblt,nbeq,Nat.zero_add,Nat.add_zero,Int.zero_add,Int.add_zero,List.length_cons,List.length_nil,true_and,and_true,Nat.reduceAdd,and_self]; omega)) ?_)))
 first | rfl | (simp (disch:=omega) only [wr64,wr8,wr16,wr32,ofNatE,Int.zero_add]; done) | (simp (disch:=omega) only [wr64,wr8,wr16,wr32,ofNatE,Int.zero_add]; rfl)
theorem r0_out (hL:L.Ok) (hi:0<L.n) (ho:o 0<L.n) (hdue:¬ L.tm (o 0)<=L.du (o 0)) :
 Step P41 G41 (A41 13) 13 6 0 (v6 L c .nils .nils 0 o c2 0) [] (v6 L c (.own 0 0 0 0 none) (.own 1 0 0 1 none) 0 o c2 1) [nb 0 1 fun _=>0,nb 0 1 fun _=>o 0]:=by
 have hn:=hL.n
 have htm:=hL.tm (o 0) ho
 refine Step.mkC (A:=A41) (m:=2) okK13 rfl rfl loops0 [1,3] (v2:=v6 L c (.own 0 0 0 0 none) (.own 1 0 0 1 none) 0 o c2 1) (h2:=[⟨0,1,1,fun j=>bif Nat.blt j 1 then [.int .i64 0] else [[T.int .i64 (o 0:Int)]].getD (0+j) [],true,false⟩,lb1 (o 0)])
  (v1:=v6 L c (.own 1 0 0 0 none) (.own 3 0 0 1 none) 0 o c2 1) (h1:=[tb (o 0),⟨0,1,1,fun j=>bif Nat.blt j 1 then [.int .i64 0] else [[T.int .i64 (o 0:Int)]].getD (0+j) [],true,false⟩,tb (o 0),lb1 (o 0)]) (Eq.trans (show iterR P41 G41 A41 K13 2 13 [] 6 (v6 L c .nils .nils 0 o c2 0) [] =
(
 bif decide (0<Int.ofNat L.n) then
 bif decide (0<Int.ofNat L.n) then
 bif decide (0<=Int.ofNat (o (0:Nat)))&&decide (Int.ofNat (o (0:Nat))<Int.ofNat L.n) then
 bif decide (0<=Int.ofNat (o (0:Nat)))&&decide (Int.ofNat (o (0:Nat))<Int.ofNat L.n) then
 bif decide (IntKind.i64.wrap ((0:Int)+L.tm (o (0:Nat)))<=L.du (o (0:Nat))) then
 some ((.normal,[jv L c,.own [Blk.mk 0 1 1 (fun j=>[[T.int .i64 (Int.ofNat (o (0:Nat)))]].getD j []) true true].length (0:Nat) (0:Nat) (1:Nat)
 none,.nils,.int .i64 (IntKind.i64.wrap ((0:Int)+L.tm (o (0:Nat)))),ov L.n o c2,.int .i64 (.ofNat L.n),.int .i64 1],[.mk 0 1 1 (fun j=>[[T.int .i64 (Int.ofNat (o (0:Nat)))]].getD j []) true true,.mk 0 1 1 (fun j=>[[T.int .i64 (Int.ofNat (o (0:Nat)))]].getD (0+j) []) true false]))
 else
 bif decide (0<=Int.ofNat (o (0:Nat)))&&decide (Int.ofNat (o (0:Nat))<Int.ofNat L.n) then
 bif decide (0<=Int.ofNat (o (0:Nat)))&&decide (Int.ofNat (o (0:Nat))<Int.ofNat L.n) then
 bif decide (L.tm (o (0:Nat))<=L.tm (o (0:Nat))) then
 bif decide (0<=Int.ofNat (o (0:Nat)))&&decide (Int.ofNat (o (0:Nat))<Int.ofNat L.n) then
 some ((.normal,[jv L c,.own [Blk.mk 0 1 1 (fun j=>[[T.int .i64 (Int.ofNat (o (0:Nat)))]].getD j []) true true].length (0:Nat) (0:Nat) (0:Nat)
 none,.own [Blk.mk 0 1 1 (fun j=>[[T.int .i64 (Int.ofNat (o (0:Nat)))]].getD j []) true true,Blk.mk 0 1 1 (fun j=>[[T.int .i64 (Int.ofNat (o (0:Nat)))]].getD ((0:Nat)+j) []) true false,Blk.mk 0 1 1 (fun j=>[[T.int .i64 (Int.ofNat (o (0:Nat)))]].getD j []) true true].length (0:Nat) (0:Nat) (1:Nat)
 none,.int .i64 (IntKind.i64.wrap (IntKind.i64.wrap ((0:Int)+L.tm (o (0:Nat))) - L.tm (o (0:Nat)))),ov L.n o c2,.int .i64 (.ofNat L.n),.int .i64 1],[.mk 0 1 1 (fun j=>[[T.int .i64 (Int.ofNat (o (0:Nat)))]].getD j []) true true,.mk 0 1 1 (fun j =>
 bif Nat.ble 0 j&&j.blt 1 then [.int .i64 0]
 else [[T.int .i64 (Int.ofNat (o (0:Nat)))]].getD (0+j) []) true false,.mk 0 1 1 (fun j=>[[T.int .i64 (Int.ofNat (o (0:Nat)))]].getD j []) true true,.mk 0 1 1 (fun j=>[[T.int .i64 (Int.ofNat (o (0:Nat)))]].getD (0+j) []) true false]))
 else none else
 bif decide (0<=Int.ofNat (o (0:Nat)))&&decide (Int.ofNat (o (0:Nat))<Int.ofNat L.n) then
 some ((.normal,[jv L c,.own [Blk.mk 0 1 1 (fun j=>[[T.int .i64 (Int.ofNat (o (0:Nat)))]].getD j []) true true].length (0:Nat) (0:Nat) (0:Nat)
 none,.own [Blk.mk 0 1 1 (fun j=>[[T.int .i64 (Int.ofNat (o (0:Nat)))]].getD j []) true true,Blk.mk 0 1 1 (fun j=>[[T.int .i64 (Int.ofNat (o (0:Nat)))]].getD ((0:Nat)+j) []) true false,Blk.mk 0 1 1 (fun j=>[[T.int .i64 (Int.ofNat (o (0:Nat)))]].getD j []) true true].length (0:Nat) (0:Nat) (1:Nat)
 none,.int .i64 (IntKind.i64.wrap (IntKind.i64.wrap ((0:Int)+L.tm (o (0:Nat))) - L.tm (o (0:Nat)))),ov L.n o c2,.int .i64 (.ofNat L.n),.int .i64 1],[.mk 0 1 1 (fun j=>[[T.int .i64 (Int.ofNat (o (0:Nat)))]].getD j []) true true,.mk 0 1 1 (fun j =>
 bif Nat.ble 0 j&&j.blt 1 then [.int .i64 0]
 else [[T.int .i64 (Int.ofNat (o (0:Nat)))]].getD (0+j) []) true false,.mk 0 1 1 (fun j=>[[T.int .i64 (Int.ofNat (o (0:Nat)))]].getD j []) true true,.mk 0 1 1 (fun j=>[[T.int .i64 (Int.ofNat (o (0:Nat)))]].getD (0+j) []) true false]))
 else none else none else none else none else none else none else
 some ((.exit 0,[.nils,.nils],[]))) from by kernel_rfl) ?_) (by rfl) (by rfl) (by rfl) fun nt=>.same (.cons ⟨rfl,rfl,rfl,id,fun j hj=>by
   have hj':j<1:=hj
   obtain rfl:j = 0:=by omega
   rfl⟩ (.cons ⟨rfl,rfl,rfl,id,fun j hj=>by
   have hj':j<1:=hj
   obtain rfl:j = 0:=by omega
   rfl⟩ .nil))
 (repeat (first | (refine bift (by first | assumption | omega | (simp (disch:=omega) only [wr64,wr8,wr16,wr32,ofNatE,toNatE,toNatE1,Bool.and_eq_true,Bool.or_eq_true,Bool.not_eq_true',decide_eq_true_eq,decide_eq_false_iff_not,nble,nblt,nbeq,Nat.zero_add,Nat.add_zero,Int.zero_add,Int.add_zero,List.length_cons,List.length_nil,true_and,and_true,Nat.reduceAdd,and_self]; done) | (simp (disch:=omega) only [wr64,wr8,wr16,wr32,ofNatE,toNatE,toNatE1,Bool.and_eq_true,Bool.or_eq_true,Bool.not_eq_true',decide_eq_true_eq,decide_eq_false_iff_not,nble,nblt,nbeq,Nat.zero_add,Nat.add_zero,Int.zero_add,Int.add_zero,List.length_cons,List.length_nil,true_and,and_true,Nat.reduceAdd,and_self]; omega)) ?_) | (refine biff (by first | assumption | (simp (disch:=omega) only [wr64,wr8,wr16,wr32,ofNatE,toNatE,toNatE1,Bool.and_eq_true,Bool.or_eq_true,Bool.not_eq_true',decide_eq_true_eq,decide_eq_false_iff_not,nble,nblt,nbeq,Nat.zero_add,Nat.add_zero,Int.zero_add,Int.add_zero,List.length_cons,List.length_nil,true_and,and_true,Nat.reduceAdd,and_self]; done) | (simp (disch:=omega) only [wr64,wr8,wr16,wr32,ofNatE,toNatE,toNatE1,Bool.and_eq_true,Bool.or_eq_true,Bool.not_eq_true',decide_eq_true_eq,decide_eq_false_iff_not,nble,nblt,nbeq,Nat.zero_add,Nat.add_zero,Int.zero_add,Int.add_zero,List.length_cons,List.length_nil,true_and,and_true,Nat.reduceAdd,and_self]; omega)) ?_)))
 first | rfl | (simp (disch:=omega) only [wr64,wr8,wr16,wr32,ofNatE,Int.zero_add,Int.sub_self]; done) | (simp (disch:=omega) only [wr64,wr8,wr16,wr32,ofNatE,Int.zero_add,Int.sub_self]; rfl)
end
open Go.Proofs
def lv (l:List Nat):T:=.view 1 l.length (fun j=>[.int .i64 (l.getD j 0:Nat)]) (some l.length)
def like (d:Nat->Nat) (l:List Nat):Prop:=∀ j,j<l.length->d j = l.getD j 0
theorem like_app {d:Nat->Nat} {l:List Nat} (h:like d l) (x:Nat):like (apD d l.length x) (l ++ [x]):=by
 intro j hj
 rw [List.length_append,List.length_singleton] at hj
 unfold apD
 by_cases q:j = l.length
 ·rw [if_pos q,q,getD_app_r]
 ·rw [if_neg q,getD_app_l (by omega),h j (by omega)]
theorem getD_eraseIdx {l:List Nat} {g j:Nat} (hj:j<(l.eraseIdx g).length) (hg:g<l.length):(l.eraseIdx g).getD j 0 = if j<g then l.getD j 0 else l.getD (j+1) 0:=by
 have hl:=List.length_eraseIdx_of_lt hg
 rw [List.getD_eq_getElem?_getD,List.getD_eq_getElem?_getD,List.getD_eq_getElem?_getD,List.getElem?_eraseIdx]
 split <;> rfl
theorem like_del {d:Nat->Nat} {l:List Nat} {g m:Nat} (h:like d l) (hl:l.length = m+1) (hg:g<m+1):like (delD d g m) (l.eraseIdx g):=by
 intro j hj
 have hel:=List.length_eraseIdx_of_lt (l:=l) (i:=g) (by omega)
 rw [getD_eraseIdx hj (by omega)]
 unfold delD
 by_cases q:j<g
 ·rw [if_pos q,if_pos q,h j (by omega)]
 ·rw [if_neg q,if_neg q,if_pos (by omega),h (j+1) (by omega)]
theorem like1 (x:Nat):like (fun _=>x) [x]:=by
 intro j hj
 have hj':j<1:=hj
 obtain rfl:j = 0:=by omega
 rfl
theorem like0 (d:Nat->Nat):like d []:=fun j hj=>by cases hj
structure Pok (L:JL) (s:List Nat × Int × List Nat) (i:Nat):Prop where
 ld:s.1.length+s.2.2.length = i
 d:∀ x ∈ s.1,x<L.n
 e:∀ x ∈ s.2.2,x<L.n
 t:s.2.1 = (s.1.map L.tm).sum
theorem sum_bd {L:JL} (hL:L.Ok):∀ {l:List Nat},(∀ x ∈ l,x<L.n)->0<=(l.map L.tm).sum/\(l.map L.tm).sum<=100000 * l.length
 | [],_=>by simp
 | a :: l,h=>by
  have:=sum_bd hL (l:=l) fun x hx=>h x (by simp [hx])
  have:=hL.tm a (h a (by simp))
  simp only [List.map_cons,List.sum_cons,List.length_cons]
  omega
theorem sum_erase {L:JL}:∀ {l:List Nat} {g:Nat},g<l.length->((l.eraseIdx g).map L.tm).sum = (l.map L.tm).sum - L.tm (l.getD g 0)
 | a :: l,0,_=>by simp only [List.eraseIdx_cons_zero,List.map_cons,List.sum_cons,List.getD_cons_zero]; omega
 | a :: l,g+1,h=>by
  have:=sum_erase (L:=L) (l:=l) (g:=g) (by simpa using h)
  simp only [List.eraseIdx_cons_succ,List.map_cons,List.sum_cons,List.getD_cons_succ,this]
  omega
theorem getD_mem {l:List Nat} {g:Nat} (h:g<l.length):l.getD g 0 ∈ l:=by
 rw [List.getD_eq_getElem?_getD,List.getElem?_eq_getElem h]; exact List.getElem_mem _
theorem Pok.step {L:JL} {s:List Nat × Int × List Nat} {i x:Nat} (h:Pok L s i) (hx:x<L.n):Pok L (pstep L s x) (i+1):=by
 obtain ⟨h1,h2,h3,h4⟩:=h
 have hA:∀ y ∈ s.1 ++ [x],y<L.n:=fun y hy=>by
  rcases List.mem_append.1 hy with q | q
  ·exact h2 y q
  ·simp at q; omega
 have hsum:((s.1 ++ [x]).map L.tm).sum = s.2.1+L.tm x:=by simp [h4]
 unfold pstep
 split
 ·exact ⟨by simp; omega,hA,h3,hsum.symm⟩
 ·have hg:=lgst_lt (fun j=>L.tm ((s.1 ++ [x]).getD j 0)) (s.1.length+1) (by omega)
  generalize lgst (fun j=>L.tm ((s.1 ++ [x]).getD j 0)) (s.1.length+1) = g at *
  have hl:(s.1 ++ [x]).length = s.1.length+1:=by simp
  refine ⟨?_,fun y hy=>hA y (List.mem_of_mem_eraseIdx hy),fun y hy=>?_,?_⟩
  ·show ((s.1 ++ [x]).eraseIdx g).length+(s.2.2 ++ [(s.1 ++ [x]).getD g 0]).length = i+1
   rw [List.length_eraseIdx_of_lt (by omega)]; simp; omega
  ·rcases List.mem_append.1 hy with q | q
   ·exact h3 y q
   ·rw [List.mem_singleton.1 q]; exact hA _ (getD_mem (by omega))
  ·show s.2.1+L.tm x - L.tm ((s.1 ++ [x]).getD g 0) = _
   rw [sum_erase (by omega),hsum]
theorem pst_ok {L:JL} {o:Nat->Nat}:∀ i,(∀ j,j<i->o j<L.n)->Pok L (pst L o i) i
 | 0,_=>⟨rfl,fun x hx=>by simp [pst] at hx,fun x hx=>by simp [pst] at hx,rfl⟩
 | i+1,h=>(pst_ok i fun j hj=>h j (by omega)).step (h i (by omega))
inductive P6 (L:JL) (c:Option Nat) (o:Nat->Nat) (c2:Option Nat) (i:Nat):List T->Heap->Prop
 | z (hi:i = 0):P6 L c o c2 i (v6 L c .nils .nils 0 o c2 0) []
 | a (hi:0<i) (he:(pst L o i).2.2 = []) (v nd:Nat) (d:Nat->Nat) (hn:(pst L o i).1.length<=nd) (hd:like d (pst L o i).1):P6 L c o c2 i (v6 L c (.own 0 v 0 (pst L o i).1.length none) .nils (pst L o i).2.1 o c2 i) [nb v nd d]
 | b (hi:0<i) (v nd u nl:Nat) (d e:Nat->Nat) (hn:(pst L o i).1.length<=nd) (hd:like d (pst L o i).1) (hm:(pst L o i).2.2.length<=nl) (he:like e (pst L o i).2.2) :
  P6 L c o c2 i (v6 L c (.own 0 v 0 (pst L o i).1.length none) (.own 1 u 0 (pst L o i).2.2.length none) (pst L o i).2.1 o c2 i) [nb v nd d,nb u nl e]
inductive E6 (L:JL) (o:Nat->Nat):List T->Heap->Prop
 | z (hi:L.n = 0):E6 L o [.nils,.nils] []
 | a (he:(pst L o L.n).2.2 = []) (v nd:Nat) (d:Nat->Nat) (hn:(pst L o L.n).1.length<=nd) (hd:like d (pst L o L.n).1):E6 L o [.own 0 v 0 (pst L o L.n).1.length none,.nils] [nb v nd d]
 | b (v nd u nl:Nat) (d e:Nat->Nat) (hn:(pst L o L.n).1.length<=nd) (hd:like d (pst L o L.n).1) (hm:(pst L o L.n).2.2.length<=nl) (he:like e (pst L o L.n).2.2) :
  E6 L o [.own 0 v 0 (pst L o L.n).1.length none,.own 1 u 0 (pst L o L.n).2.2.length none] [nb v nd d,nb u nl e]
theorem x6z (L:JL) (c:Option Nat)  (t:Int) (o:Nat->Nat) (c2:Option Nat):Last P41 G41 (A41 13) 13 6 0 (v6 L c .nils .nils t o c2 L.n) [] (.exit 0) [.nils,.nils] []:=by
 refine Last.mk0 (A:=A41) (m:=0) okK41a rfl rfl loops0 (by simp) (Eq.trans (show iterR P41 G41 A41 K41a 0 13 [] 6 (v6 L c .nils .nils t o c2 L.n) [] =
(
 bif decide (Int.ofNat L.n<Int.ofNat L.n) then
 bif decide (0<=Int.ofNat L.n)&&decide (Int.ofNat L.n<Int.ofNat L.n) then
 bif decide (0<=Int.ofNat (o L.n))&&decide (Int.ofNat (o L.n)<Int.ofNat L.n) then
 bif decide (0<=Int.ofNat (o L.n))&&decide (Int.ofNat (o L.n)<Int.ofNat L.n) then
 bif decide (IntKind.i64.wrap (t+L.tm (o L.n))<=L.du (o L.n)) then
 some ((.normal,[jv L c,.own [Blk.mk 0 1 1 (fun j=>[[T.int .i64 (Int.ofNat (o L.n))]].getD j []) true true].length (0:Nat) (0:Nat) (1:Nat)
 none,.nils,.int .i64 (IntKind.i64.wrap (t+L.tm (o L.n))),ov L.n o c2,.int .i64 (.ofNat L.n),.int .i64 (IntKind.i64.wrap (Int.ofNat L.n+1))],[.mk 0 1 1 (fun j=>[[T.int .i64 (Int.ofNat (o L.n))]].getD j []) true true,.mk 0 1 1 (fun j=>[[T.int .i64 (Int.ofNat (o L.n))]].getD (0+j) []) true false]))
 else none else none else none else none else
 some ((.exit 0,[.nils,.nils],[]))) from by kernel_rfl) ?_) (.refl _)
 (repeat (first | (refine bift (by first | assumption | omega | (simp (disch:=omega) only [wr64,wr8,wr16,wr32,ofNatE,toNatE,toNatE1,Bool.and_eq_true,Bool.or_eq_true,Bool.not_eq_true',decide_eq_true_eq,decide_eq_false_iff_not,nble,nblt,nbeq,Nat.zero_add,Nat.add_zero,Int.zero_add,Int.add_zero,List.length_cons,List.length_nil,true_and,and_true,Nat.reduceAdd,and_self]; done) | (simp (disch:=omega) only [wr64,wr8,wr16,wr32,ofNatE,toNatE,toNatE1,Bool.and_eq_true,Bool.or_eq_true,Bool.not_eq_true',decide_eq_true_eq,decide_eq_false_iff_not,nble,nblt,nbeq,Nat.zero_add,Nat.add_zero,Int.zero_add,Int.add_zero,List.length_cons,List.length_nil,true_and,and_true,Nat.reduceAdd,and_self]; omega)) ?_) | (refine biff (by first | assumption | (simp (disch:=omega) only [wr64,wr8,wr16,wr32,ofNatE,toNatE,toNatE1,Bool.and_eq_true,Bool.or_eq_true,Bool.not_eq_true',decide_eq_true_eq,decide_eq_false_iff_not,nble,nblt,nbeq,Nat.zero_add,Nat.add_zero,Int.zero_add,Int.add_zero,List.length_cons,List.length_nil,true_and,and_true,Nat.reduceAdd,and_self]; done) | (simp (disch:=omega) only [wr64,wr8,wr16,wr32,ofNatE,toNatE,toNatE1,Bool.and_eq_true,Bool.or_eq_true,Bool.not_eq_true',decide_eq_true_eq,decide_eq_false_iff_not,nble,nblt,nbeq,Nat.zero_add,Nat.add_zero,Int.zero_add,Int.add_zero,List.length_cons,List.length_nil,true_and,and_true,Nat.reduceAdd,and_self]; omega)) ?_)))
 first | rfl | (simp (disch:=omega) only [wr64,wr8,wr16,wr32,ofNatE,Nat.zero_add,bleT,bltT,dT,dF,Bool.true_and,Bool.and_true,Bool.and_self,cond_true,cond_false,Nat.sub_zero,beq_self_eq_true]; done) | (simp (disch:=omega) only [wr64,wr8,wr16,wr32,ofNatE,Nat.zero_add,bleT,bltT,dT,dF,Bool.true_and,Bool.and_true,Bool.and_self,cond_true,cond_false,Nat.sub_zero,beq_self_eq_true]; rfl)
theorem x6a (L:JL) (c:Option Nat) (v m nd:Nat) (d:Nat->Nat) (t:Int) (o:Nat->Nat) (c2:Option Nat):Last P41 G41 (A41 13) 13 6 0 (v6 L c (.own 0 v 0 m none) .nils t o c2 L.n) [nb v nd d] (.exit 0) [.own 0 v 0 m none,.nils] [nb v nd d]:=by
 refine Last.mk0 (A:=A41) (m:=0) okK41a rfl rfl loops0 (by simp) (Eq.trans (show iterR P41 G41 A41 K41a 0 13 [] 6 (v6 L c (.own 0 v 0 m none) .nils t o c2 L.n) [nb v nd d] =
(
 bif decide (Int.ofNat L.n<Int.ofNat L.n) then
 bif decide (0<=Int.ofNat L.n)&&decide (Int.ofNat L.n<Int.ofNat L.n) then
 bif v==v then
 bif ((0:Nat)+m).ble nd then
 bif ((m+(1:Nat)) * (9:Nat)).ble 70368744177664 then
 bif ((0:Nat)+m+(1:Nat)).ble nd then
 bif decide (0<=Int.ofNat (o L.n))&&decide (Int.ofNat (o L.n)<Int.ofNat L.n) then
 bif decide (0<=Int.ofNat (o L.n))&&decide (Int.ofNat (o L.n)<Int.ofNat L.n) then
 bif decide (IntKind.i64.wrap (t+L.tm (o L.n))<=L.du (o L.n)) then
 some ((.normal,[jv L c,.own 0 v 0 (m+1)
 none,.nils,.int .i64 (IntKind.i64.wrap (t+L.tm (o L.n))),ov L.n o c2,.int .i64 (.ofNat L.n),.int .i64 (IntKind.i64.wrap (Int.ofNat L.n+1))],[.mk v 1 nd (fun j =>
 bif ((0:Nat)+m).ble j&&j.blt (0+m+1) then [[T.int .i64 (Int.ofNat (o L.n))]].getD ((0:Nat)+(j - (0+m))) []
 else [.int .i64 (.ofNat (d j))]) true false,.mk 0 1 1 (fun j=>[[T.int .i64 (Int.ofNat (o L.n))]].getD j []) true true]))
 else
 bif v==v then none else none else none else none else
 bif decide (0<=Int.ofNat (o L.n))&&decide (Int.ofNat (o L.n)<Int.ofNat L.n) then
 bif decide (0<=Int.ofNat (o L.n))&&decide (Int.ofNat (o L.n)<Int.ofNat L.n) then
 bif decide (IntKind.i64.wrap (t+L.tm (o L.n))<=L.du (o L.n)) then
 some ((.normal,[jv L c,.own 0 (v+1) (0:Nat) (m+1)
 none,.nils,.int .i64 (IntKind.i64.wrap (t+L.tm (o L.n))),ov L.n o c2,.int .i64 (.ofNat L.n),.int .i64 (IntKind.i64.wrap (Int.ofNat L.n+1))],[.mk (v+1) (1:Nat) (m+1) (fun j =>
 bif j.blt m then [.int .i64 (.ofNat (d (0+j)))]
 else [[T.int .i64 (Int.ofNat (o L.n))]].getD ((0:Nat)+(j - m)) []) true false,.mk 0 1 1 (fun j=>[[T.int .i64 (Int.ofNat (o L.n))]].getD j []) true true]))
 else
 bif v+1==v+1 then none else none else none else none else none else none else none else none else
 some ((.exit 0,[.own 0 v 0 m
 none,.nils],[nb v nd d]))) from by kernel_rfl) ?_) (.refl _)
 (repeat (first | (refine bift (by first | assumption | omega | (simp (disch:=omega) only [wr64,wr8,wr16,wr32,ofNatE,toNatE,toNatE1,Bool.and_eq_true,Bool.or_eq_true,Bool.not_eq_true',decide_eq_true_eq,decide_eq_false_iff_not,nble,nblt,nbeq,Nat.zero_add,Nat.add_zero,Int.zero_add,Int.add_zero,List.length_cons,List.length_nil,true_and,and_true,Nat.reduceAdd,and_self]; done) | (simp (disch:=omega) only [wr64,wr8,wr16,wr32,ofNatE,toNatE,toNatE1,Bool.and_eq_true,Bool.or_eq_true,Bool.not_eq_true',decide_eq_true_eq,decide_eq_false_iff_not,nble,nblt,nbeq,Nat.zero_add,Nat.add_zero,Int.zero_add,Int.add_zero,List.length_cons,List.length_nil,true_and,and_true,Nat.reduceAdd,and_self]; omega)) ?_) | (refine biff (by first | assumption | (simp (disch:=omega) only [wr64,wr8,wr16,wr32,ofNatE,toNatE,toNatE1,Bool.and_eq_true,Bool.or_eq_true,Bool.not_eq_true',decide_eq_true_eq,decide_eq_false_iff_not,nble,nblt,nbeq,Nat.zero_add,Nat.add_zero,Int.zero_add,Int.add_zero,List.length_cons,List.length_nil,true_and,and_true,Nat.reduceAdd,and_self]; done) | (simp (disch:=omega) only [wr64,wr8,wr16,wr32,ofNatE,toNatE,toNatE1,Bool.and_eq_true,Bool.or_eq_true,Bool.not_eq_true',decide_eq_true_eq,decide_eq_false_iff_not,nble,nblt,nbeq,Nat.zero_add,Nat.add_zero,Int.zero_add,Int.add_zero,List.length_cons,List.length_nil,true_and,and_true,Nat.reduceAdd,and_self]; omega)) ?_)))
 first | rfl | (simp (disch:=omega) only [wr64,wr8,wr16,wr32,ofNatE,Nat.zero_add,bleT,bltT,dT,dF,Bool.true_and,Bool.and_true,Bool.and_self,cond_true,cond_false,Nat.sub_zero,beq_self_eq_true]; done) | (simp (disch:=omega) only [wr64,wr8,wr16,wr32,ofNatE,Nat.zero_add,bleT,bltT,dT,dF,Bool.true_and,Bool.and_true,Bool.and_self,cond_true,cond_false,Nat.sub_zero,beq_self_eq_true]; rfl)
theorem x6b (L:JL) (c:Option Nat) (v m nd u q nl:Nat) (d e:Nat->Nat) (t:Int) (o:Nat->Nat) (c2:Option Nat):Last P41 G41 (A41 13) 13 6 0 (v6 L c (.own 0 v 0 m none) (.own 1 u 0 q none) t o c2 L.n) [nb v nd d,nb u nl e] (.exit 0) [.own 0 v 0 m none,.own 1 u 0 q none] [nb v nd d,nb u nl e]:=by
 refine Last.mk0 (A:=A41) (m:=0) okK41a rfl rfl loops0 (by simp) (Eq.trans (show iterR P41 G41 A41 K41a 0 13 [] 6 (v6 L c (.own 0 v 0 m none) (.own 1 u 0 q none) t o c2 L.n) [nb v nd d,nb u nl e] =
(
 bif decide (Int.ofNat L.n<Int.ofNat L.n) then
 bif decide (0<=Int.ofNat L.n)&&decide (Int.ofNat L.n<Int.ofNat L.n) then
 bif v==v then
 bif ((0:Nat)+m).ble nd then
 bif ((m+(1:Nat)) * (9:Nat)).ble 70368744177664 then
 bif ((0:Nat)+m+(1:Nat)).ble nd then
 bif decide (0<=Int.ofNat (o L.n))&&decide (Int.ofNat (o L.n)<Int.ofNat L.n) then
 bif decide (0<=Int.ofNat (o L.n))&&decide (Int.ofNat (o L.n)<Int.ofNat L.n) then
 bif decide (IntKind.i64.wrap (t+L.tm (o L.n))<=L.du (o L.n)) then
 some ((.normal,[jv L c,.own 0 v 0 (m+1)
 none,.own 1 u 0 q
 none,.int .i64 (IntKind.i64.wrap (t+L.tm (o L.n))),ov L.n o c2,.int .i64 (.ofNat L.n),.int .i64 (IntKind.i64.wrap (Int.ofNat L.n+1))],[.mk v 1 nd (fun j =>
 bif ((0:Nat)+m).ble j&&j.blt (0+m+1) then [[T.int .i64 (Int.ofNat (o L.n))]].getD ((0:Nat)+(j - (0+m))) []
 else [.int .i64 (.ofNat (d j))]) true false,nb u nl e,.mk 0 1 1 (fun j=>[[T.int .i64 (Int.ofNat (o L.n))]].getD j []) true true]))
 else
 bif v==v then none else none else none else none else
 bif decide (0<=Int.ofNat (o L.n))&&decide (Int.ofNat (o L.n)<Int.ofNat L.n) then
 bif decide (0<=Int.ofNat (o L.n))&&decide (Int.ofNat (o L.n)<Int.ofNat L.n) then
 bif decide (IntKind.i64.wrap (t+L.tm (o L.n))<=L.du (o L.n)) then
 some ((.normal,[jv L c,.own 0 (v+1) (0:Nat) (m+1)
 none,.own 1 u 0 q
 none,.int .i64 (IntKind.i64.wrap (t+L.tm (o L.n))),ov L.n o c2,.int .i64 (.ofNat L.n),.int .i64 (IntKind.i64.wrap (Int.ofNat L.n+1))],[.mk (v+1) (1:Nat) (m+1) (fun j =>
 bif j.blt m then [.int .i64 (.ofNat (d (0+j)))]
 else [[T.int .i64 (Int.ofNat (o L.n))]].getD ((0:Nat)+(j - m)) []) true false,nb u nl e,.mk 0 1 1 (fun j=>[[T.int .i64 (Int.ofNat (o L.n))]].getD j []) true true]))
 else
 bif v+1==v+1 then none else none else none else none else none else none else none else none else
 some ((.exit 0,[.own 0 v 0 m
 none,.own 1 u 0 q
 none],[nb v nd d,nb u nl e]))) from by kernel_rfl) ?_) (.refl _)
 (repeat (first | (refine bift (by first | assumption | omega | (simp (disch:=omega) only [wr64,wr8,wr16,wr32,ofNatE,toNatE,toNatE1,Bool.and_eq_true,Bool.or_eq_true,Bool.not_eq_true',decide_eq_true_eq,decide_eq_false_iff_not,nble,nblt,nbeq,Nat.zero_add,Nat.add_zero,Int.zero_add,Int.add_zero,List.length_cons,List.length_nil,true_and,and_true,Nat.reduceAdd,and_self]; done) | (simp (disch:=omega) only [wr64,wr8,wr16,wr32,ofNatE,toNatE,toNatE1,Bool.and_eq_true,Bool.or_eq_true,Bool.not_eq_true',decide_eq_true_eq,decide_eq_false_iff_not,nble,nblt,nbeq,Nat.zero_add,Nat.add_zero,Int.zero_add,Int.add_zero,List.length_cons,List.length_nil,true_and,and_true,Nat.reduceAdd,and_self]; omega)) ?_) | (refine biff (by first | assumption | (simp (disch:=omega) only [wr64,wr8,wr16,wr32,ofNatE,toNatE,toNatE1,Bool.and_eq_true,Bool.or_eq_true,Bool.not_eq_true',decide_eq_true_eq,decide_eq_false_iff_not,nble,nblt,nbeq,Nat.zero_add,Nat.add_zero,Int.zero_add,Int.add_zero,List.length_cons,List.length_nil,true_and,and_true,Nat.reduceAdd,and_self]; done) | (simp (disch:=omega) only [wr64,wr8,wr16,wr32,ofNatE,toNatE,toNatE1,Bool.and_eq_true,Bool.or_eq_true,Bool.not_eq_true',decide_eq_true_eq,decide_eq_false_iff_not,nble,nblt,nbeq,Nat.zero_add,Nat.add_zero,Int.zero_add,Int.add_zero,List.length_cons,List.length_nil,true_and,and_true,Nat.reduceAdd,and_self]; omega)) ?_)))
 first | rfl | (simp (disch:=omega) only [wr64,wr8,wr16,wr32,ofNatE,Nat.zero_add,bleT,bltT,dT,dF,Bool.true_and,Bool.and_true,Bool.and_self,cond_true,cond_false,Nat.sub_zero,beq_self_eq_true]; done) | (simp (disch:=omega) only [wr64,wr8,wr16,wr32,ofNatE,Nat.zero_add,bleT,bltT,dT,dF,Bool.true_and,Bool.and_true,Bool.and_self,cond_true,cond_false,Nat.sub_zero,beq_self_eq_true]; rfl)
theorem step6 (L:JL) (c:Option Nat) (o:Nat->Nat) (c2:Option Nat) (i:Nat) (vs:List T) (h:Heap) (hL:L.Ok) (hi:i<L.n) (ho:∀ j,j<L.n->o j<L.n) (hp:P6 L c o c2 i vs h):∃ vs' h',Step P41 G41 (A41 13) 13 6 0 vs h vs' h'/\P6 L c o c2 (i+1) vs' h':=by
 have hn:=hL.n
 have hok:=pst_ok (L:=L) (o:=o) i fun j hj=>ho j (by omega)
 have hbd:=sum_bd hL hok.d
 have htm:=hL.tm _ (ho i hi)
 have hld:=hok.ld
 have e1:pst L o (i+1) = pstep L (pst L o i) (o i):=rfl
 by_cases hdue:(pst L o i).2.1+L.tm (o i)<=L.du (o i)
 ·have e2:pst L o (i+1) = ((pst L o i).1 ++ [o i],(pst L o i).2.1+L.tm (o i),(pst L o i).2.2):=by rw [e1]; unfold pstep; rw [if_pos hdue]
  have e3:(pst L o (i+1)).1.length = (pst L o i).1.length+1:=by rw [e2]; simp
  have e4:(pst L o (i+1)).2.1 = (pst L o i).2.1+L.tm (o i):=by rw [e2]
  cases hp with
  | z hi0 =>
   subst hi0
   have hdue':L.tm (o 0)<=L.du (o 0):=by simpa [pst] using hdue
   refine ⟨_,_,r0_in L c o c2 hL hi (ho 0 hi) hdue',?_⟩
   have:=P6.a (L:=L) (c:=c) (o:=o) (c2:=c2) (i:=1) (by omega) (by rw [e2]; rfl) 0 1 (fun _=>o 0) (by rw [e2]; simp [pst]) (by rw [e2]; exact like1 _)
   rw [show (pst L o 1).1.length = 1 by rw [e2]; rfl,show (pst L o 1).2.1 = L.tm (o 0) by rw [e2]; simp [pst]] at this
   exact this
  | a h0 he v nd d hnd hd =>
   obtain ⟨v',nd',q1,q2⟩:=rA_in L c v (pst L o i).1.length nd d (pst L o i).2.1 o c2 i hL hi (ho i hi) hnd (by omega) (by rw [hok.t]; omega) hdue
   refine ⟨_,_,q2,?_⟩
   have:=P6.a (L:=L) (c:=c) (o:=o) (c2:=c2) (i:=i+1) (by omega) (by rw [e2]; exact he) v' nd' (apD d (pst L o i).1.length (o i)) (by rw [e3]; exact q1) (by rw [e2]; exact like_app hd _)
   rw [e3,e4] at this
   exact this
  | b h0 v nd u nl d e hnd hd hnl he =>
   obtain ⟨v',nd',q1,q2⟩:=rB_in L c v (pst L o i).1.length nd u (pst L o i).2.2.length nl d e (pst L o i).2.1 o c2 i hL hi (ho i hi) hnd (by omega) (by rw [hok.t]; omega) hdue
   refine ⟨_,_,q2,?_⟩
   have e5:(pst L o (i+1)).2.2 = (pst L o i).2.2:=by rw [e2]
   have:=P6.b (L:=L) (c:=c) (o:=o) (c2:=c2) (i:=i+1) (by omega) v' nd' u nl (apD d (pst L o i).1.length (o i)) e (by rw [e3]; exact q1) (by rw [e2]; exact like_app hd _) (by rw [e5]; exact hnl) (by rw [e5]; exact he)
   rw [e3,e4,e5] at this
   exact this
 ·have hmain:∀ d:Nat->Nat,like d (pst L o i).1->∃ g,g = lgst (fun j=>L.tm (apD d (pst L o i).1.length (o i) j)) ((pst L o i).1.length+1)/\g<(pst L o i).1.length+1/\(∀ j,j<(pst L o i).1.length->d j<L.n) ∧
   pst L o (i+1) = (((pst L o i).1 ++ [o i]).eraseIdx g,(pst L o i).2.1+L.tm (o i) - L.tm (apD d (pst L o i).1.length (o i) g),(pst L o i).2.2 ++ [apD d (pst L o i).1.length (o i) g]) ∧
   (pst L o (i+1)).1.length = (pst L o i).1.length/\like (delD (apD d (pst L o i).1.length (o i)) g (pst L o i).1.length) (pst L o (i+1)).1:=by
   intro d hd
   have hla:=like_app hd (o i)
   have hlen:((pst L o i).1 ++ [o i]).length = (pst L o i).1.length+1:=by simp
   have hg0:lgst (fun j=>L.tm (apD d (pst L o i).1.length (o i) j)) ((pst L o i).1.length+1) = lgst (fun j=>L.tm (((pst L o i).1 ++ [o i]).getD j 0)) ((pst L o i).1.length+1):=lgst_congr _ fun j hj=>by rw [hla j (by rw [hlen]; exact hj)]
   have hgl:=lgst_lt (fun j=>L.tm (apD d (pst L o i).1.length (o i) j)) ((pst L o i).1.length+1) (by omega)
   refine ⟨_,rfl,hgl,fun j hj=>by rw [hd j hj]; exact hok.d _ (getD_mem hj),?_⟩
   have e2:pst L o (i+1) = (((pst L o i).1 ++ [o i]).eraseIdx (lgst (fun j=>L.tm (apD d (pst L o i).1.length (o i) j)) ((pst L o i).1.length+1)),(pst L o i).2.1+L.tm (o i) - L.tm (apD d (pst L o i).1.length (o i) (lgst (fun j=>L.tm (apD d (pst L o i).1.length (o i) j)) ((pst L o i).1.length+1))),(pst L o i).2.2 ++ [apD d (pst L o i).1.length (o i) (lgst (fun j=>L.tm (apD d (pst L o i).1.length (o i) j)) ((pst L o i).1.length+1))]):=by
    rw [e1]; unfold pstep; rw [if_neg hdue,← hg0,hla _ (by rw [hlen]; exact hgl)]
   refine ⟨e2,?_,?_⟩
   ·rw [e2]
    show (List.eraseIdx _ _).length = _
    rw [List.length_eraseIdx_of_lt (by rw [hlen]; exact hgl),hlen]; omega
   ·rw [e2]
    exact like_del hla hlen hgl
  cases hp with
  | z hi0 =>
   subst hi0
   have hdue':¬ L.tm (o 0)<=L.du (o 0):=by simpa [pst] using hdue
   have e2:pst L o 1 = ([],0,[o 0]):=by
    rw [e1]; unfold pstep; rw [if_neg hdue]; simp [pst,lgst]
   refine ⟨_,_,r0_out L c o c2 hL hi (ho 0 hi) hdue',?_⟩
   have:=P6.b (L:=L) (c:=c) (o:=o) (c2:=c2) (i:=1) (by omega) 0 1 0 1 (fun _=>0) (fun _=>o 0) (by rw [e2]; simp) (by rw [e2]; exact like0 _) (by rw [e2]; simp) (by rw [e2]; exact like1 _)
   rw [show (pst L o 1).1.length = 0 by rw [e2]; rfl,show (pst L o 1).2.1 = 0 by rw [e2],show (pst L o 1).2.2.length = 1 by rw [e2]; rfl] at this
   exact this
  | a h0 he v nd d hnd hd =>
   obtain ⟨g,hg,hgl,hdn,e2,e3,hdl⟩:=hmain d hd
   obtain ⟨v',nd',q1,q2⟩:=rA_out L c v (pst L o i).1.length nd d (pst L o i).2.1 o c2 i hL hi (ho i hi) hnd (by omega) (by rw [hok.t]; omega) hdn hdue g hg
   refine ⟨_,_,q2,?_⟩
   have e5:(pst L o (i+1)).2.2 = [apD d (pst L o i).1.length (o i) g]:=by rw [e2,he]; rfl
   have:=P6.b (L:=L) (c:=c) (o:=o) (c2:=c2) (i:=i+1) (by omega) v' nd' 0 1 _ (fun _=>apD d (pst L o i).1.length (o i) g) (by rw [e3]; exact q1) hdl (by rw [e5]; simp) (by rw [e5]; exact like1 _)
   rw [e3,show (pst L o (i+1)).2.1 = (pst L o i).2.1+L.tm (o i) - L.tm (apD d (pst L o i).1.length (o i) g) by rw [e2],show (pst L o (i+1)).2.2.length = 1 by rw [e5]; rfl] at this
   exact this
  | b h0 v nd u nl d e hnd hd hnl he =>
   obtain ⟨g,hg,hgl,hdn,e2,e3,hdl⟩:=hmain d hd
   obtain ⟨v',nd',u',nl',q1,q3,q2⟩:=rB_out L c v (pst L o i).1.length nd u (pst L o i).2.2.length nl d e (pst L o i).2.1 o c2 i hL hi (ho i hi) hnd (by omega) hnl (by omega) (by rw [hok.t]; omega) hdn hdue g hg
   refine ⟨_,_,q2,?_⟩
   have e5:(pst L o (i+1)).2.2 = (pst L o i).2.2 ++ [apD d (pst L o i).1.length (o i) g]:=by rw [e2]
   have e6:(pst L o (i+1)).2.2.length = (pst L o i).2.2.length+1:=by rw [e5]; simp
   have:=P6.b (L:=L) (c:=c) (o:=o) (c2:=c2) (i:=i+1) (by omega) v' nd' u' nl' _ (apD e (pst L o i).2.2.length (apD d (pst L o i).1.length (o i) g)) (by rw [e3]; exact q1) hdl (by rw [e6]; exact q3) (by rw [e5]; exact like_app he _)
   rw [e3,show (pst L o (i+1)).2.1 = (pst L o i).2.1+L.tm (o i) - L.tm (apD d (pst L o i).1.length (o i) g) by rw [e2],e6] at this
   exact this
theorem l6 (L:JL) (c:Option Nat) (o:Nat->Nat) (c2:Option Nat) (hL:L.Ok) (ho:∀ j,j<L.n->o j<L.n):∃ vs1 h1,E6 L o vs1 h1/\LoopOk P41 G41 (A41 13) 13 6 (litS (v6 L c .nils .nils 0 o c2 0) [] (.exit 0) vs1 h1):=by
 obtain ⟨e,vs1,h1,⟨rfl,hE⟩,hl⟩:=loop_exists (P:=P41) (Gl:=G41) (an:=A41 13) hm41 (f:=13) (r:=6) (k:=0) (by kernel_rfl) (fun n vs h=>∃ i,i<=L.n/\n = L.n - i/\P6 L c o c2 i vs h) (fun e vs h=>e = .exit 0/\E6 L o vs h)
  (fun n vs h ⟨i,hi,hn,hp⟩=>by
   rcases Nat.lt_or_ge i L.n with q | q
   ·obtain ⟨vs',h',q1,q2⟩:=step6 L c o c2 i vs h hL q ho hp
    exact .inl ⟨L.n - (i+1),vs',h',by omega,q1,i+1,by omega,rfl,q2⟩
   ·obtain rfl:i = L.n:=by omega
    cases hp with
    | z hz =>
     have:=x6z L c 0 o c2
     rw [hz] at this
     exact .inr ⟨_,_,_,this,rfl,.z hz⟩
    | a _ he v nd d hnd hd=>exact .inr ⟨_,_,_,x6a L c _ _ _ _ _ o c2,rfl,.a he v nd d hnd hd⟩
    | b _ v nd u nl d e hnd hd hnl he=>exact .inr ⟨_,_,_,x6b L c _ _ _ _ _ _ _ _ _ o c2,rfl,.b v nd u nl d e hnd hd hnl he⟩)
  (n:=L.n) (vs:=v6 L c .nils .nils 0 o c2 0) (h:=[]) rfl ⟨0,by omega,by omega,.z rfl⟩
 exact ⟨vs1,h1,hE,hl⟩
open Go.Proofs
def srtN (l:List Nat):List Nat:=l.mergeSort fun x y=>decide (x<=y)
noncomputable def KQ (l1 l2:List (List T)) (r2:T) (a3:List T) (h0 h1:Heap):Orc:=((KL l1 l2 r2).addRef 23 (refS a3 h0 (.tup []) h1)).inl P41 G41 A41 noneO 0 24
theorem okKQ {L:JL} {c:Option Nat} (hL:L.Ok) {l1 l2:List (List T)} (h1:∀ a ∈ l1,∃ m:Int,1<=m/\m<=16/\a = [jv L c,.int .i64 m]) (h2:∀ a ∈ l2,a = [jv L c]) {a3:List T} {hp hq:Heap} (t:ToldRef P41 G41 23 a3 hp (.tup []) hq):OrcOk P41 G41 (KQ l1 l2 (.new (iv L.n (ordI L) (some L.n))) a3 hp hq) :=
 told_inl hm41 hn41 (told_addRef (okKL hL h1 h2) (refS_told t)) none_ok
theorem sortNil (h:Heap):ToldRef P41 G41 23 [.nils] h (.tup []) h:=by
 refine ⟨⟨Try.f23,Try.func23,by kernel_rfl,by kernel_rfl⟩,fun g w cargs hr hno hgl ha=>?_⟩
 obtain ⟨v0,a1,a2⟩:=ha.2 0 _ rfl
 obtain rfl:=args1 ha.1.symm a1
 obtain rfl:=a2.nils
 exact (sortsI41.2 none 0 w).mono fun e w' ⟨he,hw⟩=>by
  rw [hw]
  exact ⟨_,he,.pure hr (VR.mk_tup rfl fun i c hi=>by simp at hi)⟩
theorem sortOwn (v nd u nl m:Nat) (d e:Nat->Nat) (hm:m<=nl) (h4:m<=400):ToldRef P41 G41 23 [.own 1 u 0 m none] [nb v nd d,nb u nl e] (.tup []) [nb v nd d,⟨u,1,nl,fun j=>bif Nat.blt j m then [.int .i64 ((sortedI (fun j=>e j) m).getD j 0)] else [.int .i64 (e j)],true,false⟩] :=
 sortI_ref (P:=P41) (Gl:=G41) (f:=23) sortsI41 ⟨Try.f23,Try.func23,by kernel_rfl,by kernel_rfl⟩ (h:=[nb v nd d,nb u nl e]) (i:=1) (b:=nb u nl e) (m:=m) (cap:=none) rfl rfl hm (by omega) (x:=fun j=>e j) (fun j hj=>rfl)
theorem sortedI_like {e:Nat->Nat} {l:List Nat} (h:like e l) {j:Nat} (hj:j<l.length):(sortedI (fun j=>e j) l.length).getD j 0 = ((srtN l).getD j 0:Nat):=by
 have e1:(List.range l.length).map (fun j=>(e j:Int)) = l.map (fun x:Nat=>(x:Int)):=by
  refine List.ext_getElem (by simp) fun k h1 h2=>?_
  have hk:k<l.length:=by simpa using h1
  have:=h k hk
  rw [List.getD_eq_getElem?_getD,List.getElem?_eq_getElem hk] at this
  simp only [List.getElem_map,List.getElem_range]
  rw [this]; rfl
 have e2:sortedI (fun j=>e j) l.length = (srtN l).map (fun x:Nat=>(x:Int)):=by
  unfold sortedI srtN
  rw [e1,List.map_mergeSort (s:=fun x y:Int=>decide (x<=y))]
  intro a _ b _
  simp
 rw [e2]
 have hl:(srtN l).length = l.length:=by unfold srtN; simp
 rw [List.getD_eq_getElem?_getD,List.getD_eq_getElem?_getD,List.getElem?_map,List.getElem?_eq_getElem (by omega)]
 rfl
theorem simLike {d:Nat->Nat} {l:List Nat} {n:Nat} (h:like d l) (hn:n = l.length) {g:Nat->List T} (hg:∀ j,j<l.length->g j = [.int .i64 (d j:Nat)]):Sim (.view 1 n g (some n)) (lv l):=by
 subst hn
 refine .view (.inl rfl) fun j hj=>?_
 rw [hg j hj,h j hj]
 exact .refl _
theorem punT (L:JL) (c:Option Nat) (hL:L.Ok) (o:Nat->Nat) (ho:∀ j,j<L.n->o j = (ordL L.du L.n).getD j 0):ToldOk P41 G41 13 [jv L c] (.tup [.new (lv (pst L o L.n).1),.new (lv (srtN (pst L o L.n).2.2)),.int .i64 0]):=by
 have hn:=hL.n
 have hol:∀ j,j<L.n->o j<L.n:=fun j hj=>by rw [ho j hj]; exact ord_lt hj
 obtain ⟨vs1,h1,hE,hl⟩:=l6 L c o (some L.n) hL hol
 have hok:=pst_ok (L:=L) (o:=o) L.n hol
 have hld:=hok.ld
 have hbd:∀ j,j<L.n->ordI L j = (o j:Int):=fun j hj=>by rw [ho j hj]; rfl
 have wk:∀ (y:Nat->Int),(∀ j,j<L.n->y j = (o j:Int))->weakF [jv L c,.nils,.nils,.int .i64 0,iv L.n y (some L.n),.int .i64 L.n,.int .i64 0] [] (v6 L c .nils .nils 0 o (some L.n) 0) [] = true:=fun y hy=>weakF_iff.2 fun Gl prom nt l=>WeakTo.simV rfl (fun i x z h1 h2=>by
  match i with
  | 0=>simp [v6] at h1 h2; subst h1; subst h2; exact .refl _
  | 1=>simp [v6] at h1 h2; subst h1; subst h2; exact .refl _
  | 2=>simp [v6] at h1 h2; subst h1; subst h2; exact .refl _
  | 3=>simp [v6] at h1 h2; subst h1; subst h2; exact .refl _
  | 4 =>
   simp [v6] at h1 h2; subst h1; subst h2
   refine .inr ⟨.view (.inl rfl) fun j hj=>?_,⟨_,_,_,_,rfl⟩,⟨_,_,_,_,rfl⟩⟩
   rw [hy j hj]; exact .refl _
  | 5=>simp [v6] at h1 h2; subst h1; subst h2; exact .refl _
  | 6=>simp [v6] at h1 h2; subst h1; subst h2; exact .refl _
  | k+7=>simp [v6] at h1)
 have main:∀ (a3:List T) (hp hq:Heap) (r:List T),ToldRef P41 G41 23 a3 hp (.tup []) hq->(∀ (l1 l2:List (List T)) (y:Nat->Int),(∀ j,j<L.n->y j = (o j:Int))->[jv L c,.int .i64 1] ∈ l1->[jv L c] ∈ l2->stepL P41 G41 A41 (KQ l1 l2 (.new (iv L.n y (some L.n))) a3 hp hq) 0 13 [(6,litS (v6 L c .nils .nils 0 o (some L.n) 0) [] (.exit 0) vs1 h1)] [jv L c] = some (.tup r))->ToldOk P41 G41 13 [jv L c] (.tup r):=by
  intro a3 hp hq r t hk
  exact stepL_told hm41 hn41 (okKQ (c:=c) hL (l1:=[[jv L c,.int .i64 1]]) (l2:=[[jv L c]]) (fun a ha=>⟨1,by omega,by omega,by simpa using ha⟩) (fun a ha=>by simpa using ha) t) (A:=A41) (m:=0) (by kernel_rfl) (loops1 hl) (hk _ _ _ hbd (List.mem_singleton.2 rfl) (List.mem_singleton.2 rfl))
 cases hE with
 | z hz =>
  have e0:pst L o L.n = ([],0,[]):=by rw [hz]; rfl
  rw [e0]
  refine (main [.nils] [] [] [.nils,.nils,.int .i64 0] (sortNil []) fun l1 l2 y hy m1 m2=>?_).tupTo (.cons (.niln _ _ _ (.inr rfl)) (.cons (by rw [show srtN [] = [] from List.mergeSort_nil]; exact .niln _ _ _ (.inr rfl)) (.cons (.refl _) .nil)))
  refine Eq.trans (show stepL P41 G41 A41 (KQ l1 l2 (.new (iv L.n y (some L.n))) [.nils] [] []) 0 13 [(6,litS (v6 L c .nils .nils 0 o (some L.n) 0) [] (.exit 0) [.nils,.nils] [])] [jv L c] =
(
 bif sameArgsF [jv L c,.int .i64 1] l1 then
 bif sameArgsF [jv L c] l2 then
 bif weakF [jv L c,.nils,.nils,.int .i64 0,.view 1 L.n (fun j=>[.int .i64 (y j)]) (some L.n),.int .i64 (.ofNat L.n),.int .i64 0] [] [jv L c,.nils,.nils,.int .i64 0,ov L.n o (some L.n),.int .i64 (.ofNat L.n),.int .i64 0] [] then
 bif sameStF [.nils] [] [.nils] [] then
 some (.tup [.nils,.nils,.int .i64 0])
 else none else none else none else
 none) from by kernel_rfl) ?_
  refine bift (sameArgsF_iff.2 m1) ?_
  refine bift (sameArgsF_iff.2 m2) ?_
  refine bift (wk y hy) ?_
  exact bift (sameStF_iff.2 ⟨rfl,.refl _⟩) rfl
 | a he v nd d hnd hd =>
  rw [he]
  generalize hD:(pst L o L.n).1 = D at *
  generalize hm:D.length = m at *
  have:=(main [.nils] [nb v nd d] [nb v nd d] [.fresh true 1 nd (fun j=>[.int .i64 (d (0+j):Nat)]) m (some m),.nils,.int .i64 0] (sortNil _) fun l1 l2 y hy m1 m2=>?_).frz
  ·refine this.tupTo (.cons (.new (simLike hd hm.symm fun j hj=>by rw [Nat.zero_add])) (.cons (by rw [show srtN [] = [] from List.mergeSort_nil]; exact .niln _ _ _ (.inr rfl)) (.cons (.refl _) .nil)))
  ·refine Eq.trans (show stepL P41 G41 A41 (KQ l1 l2 (.new (iv L.n y (some L.n))) [.nils] [nb v nd d] [nb v nd d]) 0 13 [(6,litS (v6 L c .nils .nils 0 o (some L.n) 0) [] (.exit 0) [.own 0 v 0 m none,.nils] [nb v nd d])] [jv L c] =
(
 bif sameArgsF [jv L c,.int .i64 1] l1 then
 bif sameArgsF [jv L c] l2 then
 bif weakF [jv L c,.nils,.nils,.int .i64 0,.view 1 L.n (fun j=>[.int .i64 (y j)]) (some L.n),.int .i64 (.ofNat L.n),.int .i64 0] [] [jv L c,.nils,.nils,.int .i64 0,ov L.n o (some L.n),.int .i64 (.ofNat L.n),.int .i64 0] [] then
 bif sameStF [.nils] [nb v nd d] [.nils] [nb v nd d] then
 bif v==v then
 bif v==v then
 bif v==v then
 bif decide (0<=Int.ofNat m)&&decide (Int.ofNat m<=Int.ofNat m)&&decide (Int.ofNat m<=Int.ofNat (nd - 0)) then
 some (.tup [bif v==v&&((0:Nat)+(m - (0:Nat))).ble nd then .fresh true (1:Nat) (nd - 0) (fun j=>[.int .i64 (.ofNat (d (0+j)))]) (m - 0) (some (m - 0))
 else .undef,.nils,.int .i64 0])
 else none else none else none else none else none else none else none else
 none) from by kernel_rfl) ?_
   refine bift (sameArgsF_iff.2 m1) ?_
   refine bift (sameArgsF_iff.2 m2) ?_
   refine bift (wk y hy) ?_
   refine bift (sameStF_iff.2 ⟨rfl,.refl _⟩) ?_
   (repeat (first | (refine bift (by first | assumption | omega | (simp (disch:=omega) only [wr64,wr8,wr16,wr32,ofNatE,toNatE,toNatE1,Bool.and_eq_true,Bool.or_eq_true,Bool.not_eq_true',decide_eq_true_eq,decide_eq_false_iff_not,nble,nblt,nbeq,Nat.zero_add,Nat.add_zero,Int.zero_add,Int.add_zero,List.length_cons,List.length_nil,true_and,and_true,Nat.reduceAdd,and_self,beq_self_eq_true,Nat.sub_zero]; done) | (simp (disch:=omega) only [wr64,wr8,wr16,wr32,ofNatE,toNatE,toNatE1,Bool.and_eq_true,Bool.or_eq_true,Bool.not_eq_true',decide_eq_true_eq,decide_eq_false_iff_not,nble,nblt,nbeq,Nat.zero_add,Nat.add_zero,Int.zero_add,Int.add_zero,List.length_cons,List.length_nil,true_and,and_true,Nat.reduceAdd,and_self,beq_self_eq_true,Nat.sub_zero]; omega)) ?_) | (refine biff (by first | assumption | (simp (disch:=omega) only [wr64,wr8,wr16,wr32,ofNatE,toNatE,toNatE1,Bool.and_eq_true,Bool.or_eq_true,Bool.not_eq_true',decide_eq_true_eq,decide_eq_false_iff_not,nble,nblt,nbeq,Nat.zero_add,Nat.add_zero,Int.zero_add,Int.add_zero,List.length_cons,List.length_nil,true_and,and_true,Nat.reduceAdd,and_self,beq_self_eq_true,Nat.sub_zero]; done) | (simp (disch:=omega) only [wr64,wr8,wr16,wr32,ofNatE,toNatE,toNatE1,Bool.and_eq_true,Bool.or_eq_true,Bool.not_eq_true',decide_eq_true_eq,decide_eq_false_iff_not,nble,nblt,nbeq,Nat.zero_add,Nat.add_zero,Int.zero_add,Int.add_zero,List.length_cons,List.length_nil,true_and,and_true,Nat.reduceAdd,and_self,beq_self_eq_true,Nat.sub_zero]; omega)) ?_)))
   first | rfl | (simp (disch:=omega) only [wr64,wr8,wr16,wr32,ofNatE,Nat.zero_add,bleT,bltT,dT,dF,Bool.true_and,Bool.and_true,Bool.and_self,cond_true,cond_false,Nat.sub_zero,beq_self_eq_true]; done) | (simp (disch:=omega) only [wr64,wr8,wr16,wr32,ofNatE,Nat.zero_add,bleT,bltT,dT,dF,Bool.true_and,Bool.and_true,Bool.and_self,cond_true,cond_false,Nat.sub_zero,beq_self_eq_true]; rfl)
 | b v nd u nl d e hnd hd hnl he =>
  have hso:=sortOwn v nd u nl (pst L o L.n).2.2.length d e hnl (by omega)
  have hsl:=fun (j:Nat) (hj:j<(pst L o L.n).2.2.length)=>sortedI_like he hj
  generalize hD:(pst L o L.n).1 = D at *
  generalize hm:D.length = m at *
  generalize hE':(pst L o L.n).2.2 = E at *
  generalize hq:E.length = q at *
  generalize sortedI (fun j=>e j) q = z at *
  generalize hh:(fun j=>bif Nat.blt j q then [T.int .i64 (z.getD j 0)] else [.int .i64 (e j)]) = G at *
  have:=(main [.own 1 u 0 q none] [nb v nd d,nb u nl e] [nb v nd d,⟨u,1,nl,G,true,false⟩] [.fresh true 1 nd (fun j=>[.int .i64 (d (0+j):Nat)]) m (some m),.fresh true 1 nl (fun j=>G (0+j)) q (some q),.int .i64 0] hso fun l1 l2 y hy m1 m2=>?_).frz
  ·have hlen:(srtN E).length = q:=by unfold srtN; simp [hq]
   refine this.tupTo (.cons (.new (simLike hd hm.symm fun j hj=>by rw [Nat.zero_add])) (.cons (.new ?_) (.cons (.refl _) .nil)))
   refine simLike (d:=fun j=>(srtN E).getD j 0) (fun j hj=>rfl) hlen.symm fun j hj=>?_
   rw [Nat.zero_add,← hh]
   simp only
   rw [bltT (by omega),cond_true,hsl j (by omega)]
  ·refine Eq.trans (show stepL P41 G41 A41 (KQ l1 l2 (.new (iv L.n y (some L.n))) [.own 1 u 0 q none] [nb v nd d,nb u nl e] [nb v nd d,⟨u,1,nl,G,true,false⟩]) 0 13 [(6,litS (v6 L c .nils .nils 0 o (some L.n) 0) [] (.exit 0) [.own 0 v 0 m none,.own 1 u 0 q none] [nb v nd d,nb u nl e])] [jv L c] =
(
 bif sameArgsF [jv L c,.int .i64 1] l1 then
 bif sameArgsF [jv L c] l2 then
 bif weakF [jv L c,.nils,.nils,.int .i64 0,.view 1 L.n (fun j=>[.int .i64 (y j)]) (some L.n),.int .i64 (.ofNat L.n),.int .i64 0] [] [jv L c,.nils,.nils,.int .i64 0,ov L.n o (some L.n),.int .i64 (.ofNat L.n),.int .i64 0] [] then
 bif sameStF [.own 1 u 0 q
 none] [nb v nd d,nb u nl e] [.own 1 u 0 q
 none] [nb v nd d,nb u nl e] then
 bif v==v then
 bif v==v then
 bif v==v then
 bif decide (0<=Int.ofNat m)&&decide (Int.ofNat m<=Int.ofNat m)&&decide (Int.ofNat m<=Int.ofNat (nd - 0)) then
 bif u==u then
 bif u==u then
 bif u==u then
 bif decide (0<=Int.ofNat q)&&decide (Int.ofNat q<=Int.ofNat q)&&decide (Int.ofNat q<=Int.ofNat (nl - 0)) then
 some (.tup [bif v==v&&((0:Nat)+(m - (0:Nat))).ble nd then .fresh true (1:Nat) (nd - 0) (fun j=>[.int .i64 (.ofNat (d (0+j)))]) (m - 0) (some (m - 0))
 else .undef,
 bif u==u&&((0:Nat)+(q - (0:Nat))).ble nl then .fresh true (1:Nat) (nl - 0) (fun j=>G (0+j)) (q - 0) (some (q - 0))
 else .undef,.int .i64 0])
 else none else none else none else none else none else none else none else none else none else none else none else
 none) from by kernel_rfl) ?_
   refine bift (sameArgsF_iff.2 m1) ?_
   refine bift (sameArgsF_iff.2 m2) ?_
   refine bift (wk y hy) ?_
   (repeat (first | (refine bift (by first | assumption | omega | (simp (disch:=omega) only [wr64,wr8,wr16,wr32,ofNatE,toNatE,toNatE1,Bool.and_eq_true,Bool.or_eq_true,Bool.not_eq_true',decide_eq_true_eq,decide_eq_false_iff_not,nble,nblt,nbeq,Nat.zero_add,Nat.add_zero,Int.zero_add,Int.add_zero,List.length_cons,List.length_nil,true_and,and_true,Nat.reduceAdd,and_self,beq_self_eq_true]; done) | (simp (disch:=omega) only [wr64,wr8,wr16,wr32,ofNatE,toNatE,toNatE1,Bool.and_eq_true,Bool.or_eq_true,Bool.not_eq_true',decide_eq_true_eq,decide_eq_false_iff_not,nble,nblt,nbeq,Nat.zero_add,Nat.add_zero,Int.zero_add,Int.add_zero,List.length_cons,List.length_nil,true_and,and_true,Nat.reduceAdd,and_self,beq_self_eq_true]; omega)) ?_) | (refine biff (by first | assumption | (simp (disch:=omega) only [wr64,wr8,wr16,wr32,ofNatE,toNatE,toNatE1,Bool.and_eq_true,Bool.or_eq_true,Bool.not_eq_true',decide_eq_true_eq,decide_eq_false_iff_not,nble,nblt,nbeq,Nat.zero_add,Nat.add_zero,Int.zero_add,Int.add_zero,List.length_cons,List.length_nil,true_and,and_true,Nat.reduceAdd,and_self,beq_self_eq_true]; done) | (simp (disch:=omega) only [wr64,wr8,wr16,wr32,ofNatE,toNatE,toNatE1,Bool.and_eq_true,Bool.or_eq_true,Bool.not_eq_true',decide_eq_true_eq,decide_eq_false_iff_not,nble,nblt,nbeq,Nat.zero_add,Nat.add_zero,Int.zero_add,Int.add_zero,List.length_cons,List.length_nil,true_and,and_true,Nat.reduceAdd,and_self,beq_self_eq_true]; omega)) ?_)))
   refine bift (sameStF_iff.2 ⟨rfl,.refl _⟩) ?_
   (repeat (first | (refine bift (by first | assumption | omega | (simp (disch:=omega) only [wr64,wr8,wr16,wr32,ofNatE,toNatE,toNatE1,Bool.and_eq_true,Bool.or_eq_true,Bool.not_eq_true',decide_eq_true_eq,decide_eq_false_iff_not,nble,nblt,nbeq,Nat.zero_add,Nat.add_zero,Int.zero_add,Int.add_zero,List.length_cons,List.length_nil,true_and,and_true,Nat.reduceAdd,and_self,beq_self_eq_true,Nat.sub_zero]; done) | (simp (disch:=omega) only [wr64,wr8,wr16,wr32,ofNatE,toNatE,toNatE1,Bool.and_eq_true,Bool.or_eq_true,Bool.not_eq_true',decide_eq_true_eq,decide_eq_false_iff_not,nble,nblt,nbeq,Nat.zero_add,Nat.add_zero,Int.zero_add,Int.add_zero,List.length_cons,List.length_nil,true_and,and_true,Nat.reduceAdd,and_self,beq_self_eq_true,Nat.sub_zero]; omega)) ?_) | (refine biff (by first | assumption | (simp (disch:=omega) only [wr64,wr8,wr16,wr32,ofNatE,toNatE,toNatE1,Bool.and_eq_true,Bool.or_eq_true,Bool.not_eq_true',decide_eq_true_eq,decide_eq_false_iff_not,nble,nblt,nbeq,Nat.zero_add,Nat.add_zero,Int.zero_add,Int.add_zero,List.length_cons,List.length_nil,true_and,and_true,Nat.reduceAdd,and_self,beq_self_eq_true,Nat.sub_zero]; done) | (simp (disch:=omega) only [wr64,wr8,wr16,wr32,ofNatE,toNatE,toNatE1,Bool.and_eq_true,Bool.or_eq_true,Bool.not_eq_true',decide_eq_true_eq,decide_eq_false_iff_not,nble,nblt,nbeq,Nat.zero_add,Nat.add_zero,Int.zero_add,Int.add_zero,List.length_cons,List.length_nil,true_and,and_true,Nat.reduceAdd,and_self,beq_self_eq_true,Nat.sub_zero]; omega)) ?_)))
   first | rfl | (simp (disch:=omega) only [wr64,wr8,wr16,wr32,ofNatE,Nat.zero_add,bleT,bltT,dT,dF,Bool.true_and,Bool.and_true,Bool.and_self,cond_true,cond_false,Nat.sub_zero,beq_self_eq_true]; done) | (simp (disch:=omega) only [wr64,wr8,wr16,wr32,ofNatE,Nat.zero_add,bleT,bltT,dT,dF,Bool.true_and,Bool.and_true,Bool.and_self,cond_true,cond_false,Nat.sub_zero,beq_self_eq_true]; rfl)
open Go.Proofs
def ableB (on:Int) (k:Nat):Bool:=decide (on = 0) || decide (bitsOf .and .u32 (on.fdiv (2 ^ min k 32)) 1 = 1)
def abL (on:Int) (m:Nat):List Nat:=(List.range m).filter (ableB on)
theorem abL_succ (on:Int) (k:Nat):abL on (k+1) = if ableB on k = true then abL on k ++ [k] else abL on k:=by
 unfold abL
 rw [List.range_succ,List.filter_append]
 by_cases h:ableB on k = true
 ·rw [if_pos h]; simp [h]
 ·rw [if_neg h]; simp [h]
theorem abL_le {on:Int} {k m:Nat} (h:k<=m):(abL on k).length<=(abL on m).length:=by
 induction h with
 | refl=>exact Nat.le_refl _
 | step _ ih =>
  rw [abL_succ]
  split
  ·simp; omega
  ·exact ih
theorem abL_get {on:Int} {k m:Nat} (h:k<m) (hk:ableB on k = true):(abL on m).getD (abL on k).length 0 = k/\(abL on k).length<(abL on m).length:=by
 have key:∀ n,k<n->(abL on n)[(abL on k).length]? = some k:=by
  intro n
  induction n with
  | zero=>intro h; omega
  | succ n ih =>
   intro hn
   rw [abL_succ]
   rcases Nat.lt_or_ge k n with q | q
   ·have:=ih q
    split
    ·rw [List.getElem?_append_left (lt_of_get this)]; exact this
    ·exact this
   ·obtain rfl:k = n:=by omega
    rw [if_pos hk,List.getElem?_append_right (Nat.le_refl _),Nat.sub_self]; rfl
 have:=key m h
 exact ⟨by rw [List.getD_eq_getElem?_getD,this]; rfl,lt_of_get this⟩
def jcells (a b c on:Int):List T:=[.int .i64 a,.int .i64 b,.int .i64 c,.int .u32 on]
def vs48 (l:Nat) (a b c on:Int) (m k:Int):List T:=[.yld l,.vp (jcells a b c on),.int .i64 m,.int .i64 k]
theorem seq48 (m:Nat) (a b c on:Int) (hm:m<=16):SeqTold P41 G41 48 [.vp [.int .i64 m],.vp (jcells a b c on)] (abL on m).length (fun i=>[.int .i64 ((abL on m).getD i 0:Nat)]):=by
 refine seq_told (prom:=[]) Try.func48 rfl (by kernel_rfl) (by kernel_rfl) (by decide +kernel) (Nat.le_of_ble_eq_true (by kernel_rfl)) fun l R J Jx hJ hJx hy X g w W hi=>?_
 refine wpIn_seq ?_
 refine It.exk (m:=0) (l:=[0,1,2]) (vs:=[.yld l,.vp [.int .i64 m],.vp (jcells a b c on)]) (h:=[]) (l':=[0,2,5,6]) (vs':=vs48 l a b c on m 0) (h':=[]) (e:=.normal) hm41 none_ok (by decide +kernel) (by kernel_rfl) (by kernel_rfl) (hJ 0) (hi.only _) fun X1 g1 a1 W1 hi1=>?_
 refine wpIn_block ?_
 refine wpIn_loop_num (fun n a' W=>∃ (k:Nat) (X:Nat->Prop) (g:Gh),k<=m/\n = m - k/\It G41 [] Try.f48.ntmps R (J (abL on k).length) X g (mkSt [0,2,5,6] (vs48 l a b c on m k) []) a' W) (fun n a' W hI=>?_) m a1 W1 ⟨0,X1,g1,by omega,by omega,hi1⟩
 obtain ⟨k,X,g,hkm,rfl,hi⟩:=hI
 refine wpIn_seq ?_
 by_cases hlt:(k:Int)<(m:Int)
 ·have hkl:k<m:=by omega
  refine It.exk (m:=0) (l:=[0,2,5,6]) (vs:=vs48 l a b c on m k) (h:=[]) (l':=[0,2,5,6,7]) (vs':=vs48 l a b c on m k ++ [.bool true]) (h':=[]) (e:=.normal) hm41 none_ok (by decide +kernel) (Eq.trans (b:=bif decide ((k:Int)<m) then some (.normal,vs48 l a b c on m k ++ [.bool true],[]) else some (.normal,vs48 l a b c on m k ++ [.bool false],[])) (by kernel_rfl) (by rw [decide_eq_true hlt]; rfl)) (by kernel_rfl) (hJ _) hi fun X1 g1 a1 W1 hi1=>?_
  refine wpIn_seq ?_
  refine It.exk (m:=0) (l:=[0,2,5,6,7]) (vs:=vs48 l a b c on m k ++ [.bool true]) (h:=[]) (l':=[0,2,5,6]) (vs':=vs48 l a b c on m k) (h':=[]) (e:=.normal) hm41 none_ok (by decide +kernel) (by kernel_rfl) (by kernel_rfl) (hJ _) hi1 fun X2 g2 a2 W2 hi2=>?_
  refine wpIn_seq ?_
  refine wpIn_block ?_
  refine wpIn_seq ?_
  refine It.exk (m:=0) (l:=[0,2,5,6]) (vs:=vs48 l a b c on m k) (h:=[]) (l':=[0,2,4,5,6]) (vs':=[.yld l,.vp (jcells a b c on),.int .i64 k,.int .i64 m,.int .i64 k]) (h':=[]) (e:=.normal) hm41 none_ok (by decide +kernel) (by kernel_rfl) (by kernel_rfl) (hJ _) hi2 fun X3 g3 a3 W3 hi3=>?_
  refine wpIn_seq ?_
  by_cases hab:ableB on k = true
  ·obtain ⟨hget,hlen⟩:=abL_get (m:=m) hkl hab
   refine It.yield (k:=14) (l:=[0,2,4,5,6]) (l':=[0,2,5,6,25]) (vs:=[.yld l,.vp (jcells a b c on),.int .i64 k,.int .i64 m,.int .i64 k]) (h:=[]) (hT:=[]) (hF:=[])
    (vsT:=vs48 l a b c on m k ++ [.bool false]) (vsF:=vs48 l a b c on m k ++ [.bool true]) none_ok (l0:=l) (xs:=[.int .i64 k]) ?_ ?_ (hJ _) (hJ ((abL on k).length+1)) (hJx (abL on k).length) hi3 (fun X W args hj hp=>hy (abL on k).length X W args hlen hj (by rw [hget]; exact hp)) (fun X4 g4 a4 W4 hi4=>?_) (fun X4 g4 a4 W4 hi4=>?_)
   ·refine Eq.trans (b:=bif decide (on = 0) then some (l,[.int .i64 k],(vs48 l a b c on m k ++ [.bool false],[]),(vs48 l a b c on m k ++ [.bool true],[])) else bif decide (bitsOf .and .u32 (on.fdiv (2 ^ min k 32)) 1 = 1) then some (l,[.int .i64 k],(vs48 l a b c on m k ++ [.bool false],[]),(vs48 l a b c on m k ++ [.bool true],[])) else none) (by kernel_rfl) ?_
    simp only [ableB,Bool.or_eq_true] at hab
    rcases hab with h | h
    ·rw [h]; rfl
    ·rw [h]; exact bifd (fun _=>rfl) (fun _=>rfl)
   ·rfl
   ·refine It.exk (m:=0) (l:=[0,2,5,6,25]) (vs:=vs48 l a b c on m k ++ [.bool false]) (h:=[]) (l':=[0,2,5,6]) (vs':=vs48 l a b c on m k) (h':=[]) (e:=.normal) hm41 none_ok (by decide +kernel) (by kernel_rfl) (by kernel_rfl) (hJ _) hi4 fun X5 g5 a5 W5 hi5=>?_
    refine It.exk (m:=0) (l:=[0,2,5,6]) (vs:=vs48 l a b c on m k) (h:=[]) (l':=[0,2,5,6]) (vs':=vs48 l a b c on m (IntKind.i64.wrap ((k:Int)+1))) (h':=[]) (e:=.normal) hm41 none_ok (by decide +kernel) (by kernel_rfl) (by kernel_rfl) (hJ _) hi5 fun X6 g6 a6 W6 hi6=>?_
    rw [wr64 (by omega) (by omega)] at hi6
    have e1:(abL on k).length+1 = (abL on (k+1)).length:=by rw [abL_succ,if_pos hab]; simp
    rw [e1] at hi6
    exact ⟨m - (k+1),by omega,k+1,X6,g6,by omega,rfl,hi6⟩
   ·refine It.exk (m:=0) (l:=[0,2,5,6,25]) (vs:=vs48 l a b c on m k ++ [.bool true]) (h:=[]) (l':=[]) (vs':=[]) (h':=[]) (e:=.ret) hm41 none_ok (by decide +kernel) (by kernel_rfl) (by kernel_rfl) (hJx _) hi4 fun X5 g5 a5 W5 hi5=>?_
    exact ⟨.inr rfl,X5,g5,_,.inr ⟨_,hlen,hi5⟩⟩
  ·refine It.exk (m:=0) (l:=[0,2,4,5,6]) (vs:=[.yld l,.vp (jcells a b c on),.int .i64 k,.int .i64 m,.int .i64 k]) (h:=[]) (l':=[0,2,5,6,25]) (vs':=vs48 l a b c on m k ++ [.bool false]) (h':=[]) (e:=.normal) hm41 none_ok (by decide +kernel) (Eq.trans (b:=bif decide (on = 0) then none else bif decide (bitsOf .and .u32 (on.fdiv (2 ^ min k 32)) 1 = 1) then none else some (.normal,vs48 l a b c on m k ++ [.bool false],[])) (by kernel_rfl) ?_) (by kernel_rfl) (hJ _) hi3 fun X4 g4 a4 W4 hi4=>?_
   ·simp only [ableB,Bool.or_eq_true,not_or,Bool.not_eq_true] at hab
    rw [hab.1,hab.2]; rfl
   ·refine It.exk (m:=0) (l:=[0,2,5,6,25]) (vs:=vs48 l a b c on m k ++ [.bool false]) (h:=[]) (l':=[0,2,5,6]) (vs':=vs48 l a b c on m k) (h':=[]) (e:=.normal) hm41 none_ok (by decide +kernel) (by kernel_rfl) (by kernel_rfl) (hJ _) hi4 fun X5 g5 a5 W5 hi5=>?_
    refine It.exk (m:=0) (l:=[0,2,5,6]) (vs:=vs48 l a b c on m k) (h:=[]) (l':=[0,2,5,6]) (vs':=vs48 l a b c on m (IntKind.i64.wrap ((k:Int)+1))) (h':=[]) (e:=.normal) hm41 none_ok (by decide +kernel) (by kernel_rfl) (by kernel_rfl) (hJ _) hi5 fun X6 g6 a6 W6 hi6=>?_
    rw [wr64 (by omega) (by omega)] at hi6
    have e1:abL on k = abL on (k+1):=by rw [abL_succ,if_neg hab]
    rw [e1] at hi6
    exact ⟨m - (k+1),by omega,k+1,X6,g6,by omega,rfl,hi6⟩
 ·obtain rfl:k = m:=by omega
  refine It.exk (m:=0) (l:=[0,2,5,6]) (vs:=vs48 l a b c on k k) (h:=[]) (l':=[7]) (vs':=[.bool false]) (h':=[]) (e:=.normal) hm41 none_ok (by decide +kernel) (Eq.trans (b:=bif decide ((k:Int)<(k:Int)) then some (.normal,[.bool true],[]) else some (.normal,[.bool false],[])) (by kernel_rfl) (by rw [decide_eq_false hlt]; rfl)) (by kernel_rfl) (hJ _) hi fun X1 g1 a1 W1 hi1=>?_
  refine wpIn_seq ?_
  refine It.exk (m:=0) (l:=[7]) (vs:=[.bool false]) (h:=[]) (l':=[]) (vs':=[]) (h':=[]) (e:=.exit 0) hm41 none_ok (by decide +kernel) (by kernel_rfl) (by kernel_rfl) (hJ _) hi1 fun X2 g2 a2 W2 hi2=>?_
  exact ⟨.inl rfl,X2,g2,_,.inl hi2⟩
open Go.Proofs
def A41r:FuncId->Ann:=fun f=>match f with
 | 25=>⟨[7],fun r o=>match r with | 5=>bif o then [4] else [1,15,16,17] | 9=>bif o then [1,8,15,16,17] else [1,8,15,16,17,23] | _=>[],false⟩
 | 27=>⟨[],fun r o=>match r with | 3=>bif o then [3,5,6,7] else [3,5,6,7,15] | _=>[],false⟩
 | f=>A41 f
def jT (a b c on:Int):T:=.agg (jcells a b c on)
def maxB (a b:Int):Int:=bif decide (a<b) then b else a
def gvst (rd:Nat->Int) (tm af:Int) (s:Int × Int × Int) (m:Nat):Int × Int × Int:=if s.1<0 ∨ maxB (rd m) af<s.2.1 then ((m:Int),maxB (rd m) af,maxB (rd m) af+tm) else s
def gvn (rd:Nat->Int) (tm af:Int) (l:List Nat) (i:Nat):Int × Int × Int:=(l.take i).foldl (gvst rd tm af) (-1,0,0)
def h27 (a b c on:Int) (mm:Nat) (rd:Nat->Int) (cp:Option Nat) (x:T) (s:Int × Int × Int):Heap:=[⟨0,4,1,fun _=>jcells a b c on,true,false⟩,box1 (iv mm rd cp),⟨0,4,1,fun _=>[.int .i64 0,.int .i64 0,.int .i64 0,.int .i64 0],true,false⟩,⟨0,4,1,fun _=>[x,.int .i64 s.1,.int .i64 s.2.1,.int .i64 s.2.2],true,false⟩]
def v27 (mm:Nat) (a b c on:Int):List T:=[.ptr 0 0 0 0,.ptr 1 0 0 0,.ptr 2 0 0 0,.ptr 3 0 0 0,.fn 48 [.vp [.int .i64 mm],.vp (jcells a b c on)]]
noncomputable def K27 (r:T) (l:List (List T)):Orc:=noneO.add 34 (callS l r)
theorem ableT (a b c on:Int) (m:Int):ToldOk P41 G41 34 [jT a b c on,.int .i64 m] (.fn 48 [.vp [.int .i64 m],.vp (jcells a b c on)]):=by
 refine stepV_told hm41 hn41 none_ok (K:=noneO) (A:=A41) (m:=0) ?_
 refine Eq.trans (show stepV P41 G41 A41 noneO 0 34 [jT a b c on,.int .i64 m] =
(
 some (.fn (48:Nat) [.vp [.int .i64 m],.vp [.int .i64 a,.int .i64 b,.int .i64 c,.int .u32 on]])) from by kernel_rfl) ?_
 rfl
theorem r27 (a b c on:Int) (mm:Nat) (rd:Nat->Int) (cp:Option Nat) (name:Int) (s:Int × Int × Int) (k:Nat) (hk:k<mm) (hrd:∀ j,j<mm->-1000000000000<=rd j/\rd j<=1000000000000) (hc:-1000000000000<=c/\c<=1000000000000) (ha:-1000000000000<=a/\a<=1000000000000) :
 ∃ h',rangeR P41 G41 A41r noneO 0 27 [] 3 (v27 mm a b c on) [.int .i64 k] (h27 a b c on mm rd cp (.int .i64 name) s) = some (.normal,h')/\SameBlks h' (h27 a b c on mm rd cp (.int .i64 name) (gvst rd a c s k)):=by
 obtain ⟨s1,s2,s3⟩:=s
 have h1:=hrd k hk
 have hmx:maxB (rd k) c = rd k ∨ maxB (rd k) c = c:=by unfold maxB; cases decide (rd k<c) <;> simp
 unfold gvst
 rw [(show rangeR P41 G41 A41r noneO 0 27 [] 3 (v27 mm a b c on) [.int .i64 k] (h27 a b c on mm rd cp (.int .i64 name) (s1,s2,s3)) =
(
 bif decide (0<=Int.ofNat k)&&decide (Int.ofNat k<Int.ofNat mm) then
 bif decide (s1<0) then
 some ((.normal,[.mk 0 4 1 (fun x=>[.int .i64 a,.int .i64 b,.int .i64 c,.int .u32 on]) true false,.mk 0 1 1 (fun x=>[.view 1 mm (fun j=>[.int .i64 (rd j)]) cp]) false false,.mk 0 4 1 (fun x=>[.int .i64 0,.int .i64 0,.int .i64 0,.int .i64 0]) true false,.mk 0 4 1 (fun e=>[.int .i64 (bif e==(0:Nat) then name
 else
 bif e==(0:Nat) then name
 else
 bif e==(0:Nat) then name
 else name),.int .i64 (bif e==(0:Nat) then Int.ofNat k
 else
 bif e==(0:Nat) then Int.ofNat k
 else
 bif e==(0:Nat) then Int.ofNat k
 else s1),.int .i64 (bif e==(0:Nat) then
 bif decide (rd k<c) then c
 else rd k
 else
 bif e==(0:Nat) then
 bif decide (rd k<c) then c
 else rd k
 else
 bif e==(0:Nat) then s2
 else s2),.int .i64 (bif e==(0:Nat) then IntKind.i64.wrap ((bif decide (rd k<c) then c
 else rd k)+a)
 else
 bif e==(0:Nat) then s3
 else
 bif e==(0:Nat) then s3
 else s3)]) true false]))
 else
 bif decide ((bif decide (rd k<c) then c
 else rd k)<s2) then
 some ((.normal,[.mk 0 4 1 (fun x=>[.int .i64 a,.int .i64 b,.int .i64 c,.int .u32 on]) true false,.mk 0 1 1 (fun x=>[.view 1 mm (fun j=>[.int .i64 (rd j)]) cp]) false false,.mk 0 4 1 (fun x=>[.int .i64 0,.int .i64 0,.int .i64 0,.int .i64 0]) true false,.mk 0 4 1 (fun e=>[.int .i64 (bif e==(0:Nat) then name
 else
 bif e==(0:Nat) then name
 else
 bif e==(0:Nat) then name
 else name),.int .i64 (bif e==(0:Nat) then Int.ofNat k
 else
 bif e==(0:Nat) then Int.ofNat k
 else
 bif e==(0:Nat) then Int.ofNat k
 else s1),.int .i64 (bif e==(0:Nat) then
 bif decide (rd k<c) then c
 else rd k
 else
 bif e==(0:Nat) then
 bif decide (rd k<c) then c
 else rd k
 else
 bif e==(0:Nat) then s2
 else s2),.int .i64 (bif e==(0:Nat) then IntKind.i64.wrap ((bif decide (rd k<c) then c
 else rd k)+a)
 else
 bif e==(0:Nat) then s3
 else
 bif e==(0:Nat) then s3
 else s3)]) true false]))
 else
 some ((.normal,[.mk 0 4 1 (fun x=>[.int .i64 a,.int .i64 b,.int .i64 c,.int .u32 on]) true false,.mk 0 1 1 (fun x=>[.view 1 mm (fun j=>[.int .i64 (rd j)]) cp]) false false,.mk 0 4 1 (fun x=>[.int .i64 0,.int .i64 0,.int .i64 0,.int .i64 0]) true false,.mk 0 4 1 (fun x=>[.int .i64 name,.int .i64 s1,.int .i64 s2,.int .i64 s3]) true false]))
 else
 none) from by kernel_rfl)]
 rw [show (decide ((0:Int)<=Int.ofNat k)&&decide (Int.ofNat k<Int.ofNat mm)) = true by first | assumption | omega | (simp (disch:=omega) only [wr64,wr8,wr16,wr32,ofNatE,toNatE,toNatE1,Bool.and_eq_true,Bool.or_eq_true,Bool.not_eq_true',decide_eq_true_eq,decide_eq_false_iff_not,nble,nblt,nbeq,Nat.zero_add,Nat.add_zero,Int.zero_add,Int.add_zero,List.length_cons,List.length_nil,true_and,and_true,Nat.reduceAdd,and_self]; done) | (simp (disch:=omega) only [wr64,wr8,wr16,wr32,ofNatE,toNatE,toNatE1,Bool.and_eq_true,Bool.or_eq_true,Bool.not_eq_true',decide_eq_true_eq,decide_eq_false_iff_not,nble,nblt,nbeq,Nat.zero_add,Nat.add_zero,Int.zero_add,Int.add_zero,List.length_cons,List.length_nil,true_and,and_true,Nat.reduceAdd,and_self]; omega),cond_true]
 change ∃ h',(bif decide (s1<0) then _ else bif decide (maxB (rd k) c<s2) then _ else _) = _/\_
 have ew:IntKind.i64.wrap (maxB (rd k) c+a) = maxB (rd k) c+a:=wr64 (by omega) (by omega)
 have yes:SameBlks [⟨0,4,1,fun _=>jcells a b c on,true,false⟩,box1 (iv mm rd cp),⟨0,4,1,fun _=>[.int .i64 0,.int .i64 0,.int .i64 0,.int .i64 0],true,false⟩,⟨0,4,1,fun e=>[.int .i64 (bif e==0 then name else (bif e==0 then name else (bif e==0 then name else name))),.int .i64 (bif e==0 then (k:Int) else (bif e==0 then (k:Int) else (bif e==0 then (k:Int) else s1))),.int .i64 (bif e==0 then maxB (rd k) c else (bif e==0 then maxB (rd k) c else (bif e==0 then s2 else s2))),.int .i64 (bif e==0 then IntKind.i64.wrap (maxB (rd k) c+a) else (bif e==0 then s3 else (bif e==0 then s3 else s3)))],true,false⟩] (h27 a b c on mm rd cp (.int .i64 name) ((k:Int),maxB (rd k) c,maxB (rd k) c+a)):=by
  rw [ew]
  refine .cons ⟨rfl,rfl,rfl,id,fun _ _=>rfl⟩ (.cons ⟨rfl,rfl,rfl,id,fun _ _=>rfl⟩ (.cons ⟨rfl,rfl,rfl,id,fun _ _=>rfl⟩ (.cons ⟨rfl,rfl,rfl,id,fun j hj=>?_⟩ .nil)))
  have hj':j<1:=hj
  obtain rfl:j = 0:=by omega
  rfl
 by_cases q:s1<0
 ·rw [dT q,cond_true,if_pos (.inl q)]
  exact ⟨_,rfl,yes⟩
 ·rw [dF q,cond_false]
  by_cases q2:maxB (rd k) c<s2
  ·rw [dT q2,cond_true,if_pos (.inr q2)]
   exact ⟨_,rfl,yes⟩
  ·rw [dF q2,cond_false,if_neg (fun h=>h.elim q q2)]
   exact ⟨_,rfl,.refl _⟩
theorem gvn_succ (rd:Nat->Int) (tm af:Int) (l:List Nat) (i:Nat) (hi:i<l.length):gvn rd tm af l (i+1) = gvst rd tm af (gvn rd tm af l i) (l.getD i 0):=by
 unfold gvn
 rw [List.take_succ,List.foldl_append,List.getD_eq_getElem?_getD,List.getElem?_eq_getElem hi]
 rfl
theorem abL_lt {on:Int} {m i:Nat} (hi:i<(abL on m).length):(abL on m).getD i 0<m:=by
 have:(abL on m).getD i 0 ∈ abL on m:=by rw [List.getD_eq_getElem?_getD,List.getElem?_eq_getElem hi]; exact List.getElem_mem _
 exact List.mem_range.1 (List.mem_filter.1 this).1
def gvR (rd:Nat->Int) (tm af on:Int) (m:Nat):Int × Int × Int:=gvn rd tm af (abL on m) (abL on m).length
theorem l27 (a b c on:Int) (mm:Nat) (rd:Nat->Int) (cp:Option Nat) (name:Int) (hm:mm<=16) (hrd:∀ j,j<mm->-1000000000000<=rd j/\rd j<=1000000000000) (hc:-1000000000000<=c/\c<=1000000000000) (ha:-1000000000000<=a/\a<=1000000000000) :
 LoopOk P41 G41 (A41r 27) 27 3 (litS (v27 mm a b c on) (h27 a b c on mm rd cp (.int .i64 name) (-1,0,0)) .normal [.ptr 0 0 0 0,.ptr 1 0 0 0,.ptr 2 0 0 0,.ptr 3 0 0 0] (h27 a b c on mm rd cp (.int .i64 name) (gvR rd a c on mm))):=by
 have:=range_lit (P:=P41) (Gl:=G41) (f:=27) (r:=3) (t:=15) (np:=1) (an:=A41r 27) hm41 (by kernel_rfl) (vs:=v27 mm a b c on) rfl (gf:=48) (caps:=[.vp [.int .i64 mm],.vp (jcells a b c on)]) rfl (seq48 mm a b c on hm) (by kernel_rfl) (fun _ _=>rfl)
  (fun i=>h27 a b c on mm rd cp (.int .i64 name) (gvn rd a c (abL on mm) i)) rfl (n:=(abL on mm).length) (Nat.le_refl _) (e1:=.normal) (h1:=h27 a b c on mm rd cp (.int .i64 name) (gvR rd a c on mm)) (vo:=[.ptr 0 0 0 0,.ptr 1 0 0 0,.ptr 2 0 0 0,.ptr 3 0 0 0]) rfl (fun i hi=>?_) (.inl ⟨rfl,rfl,rfl⟩)
 ·exact this
 ·obtain ⟨h',q1,q2⟩:=r27 a b c on mm rd cp name (gvn rd a c (abL on mm) i) ((abL on mm).getD i 0) (abL_lt hi) hrd hc ha
  refine ⟨A41r,noneO,0,[],none_ok,rfl,rfl,loops0,h',q1,fun nt=>?_⟩
  rw [← gvn_succ rd a c _ i hi] at q2
  exact .same q2
theorem giveT (a b c on:Int) (mm:Nat) (rd:Nat->Int) (cp:Option Nat) (name:Int) (hm:mm<=16) (hrd:∀ j,j<mm->-1000000000000<=rd j/\rd j<=1000000000000) (hc:-1000000000000<=c/\c<=1000000000000) (ha:-1000000000000<=a/\a<=1000000000000) :
 ToldOk P41 G41 27 [jT a b c on,.int .i64 name,iv mm rd cp] (.agg [.int .i64 name,.int .i64 (gvR rd a c on mm).1,.int .i64 (gvR rd a c on mm).2.1,.int .i64 (gvR rd a c on mm).2.2]):=by
 have hl:=l27 a b c on mm rd cp name hm hrd hc ha
 have k1:∀ z ∈ [[jT a b c on,.int .i64 mm]],ToldOk P41 G41 34 z (.fn 48 [.vp [.int .i64 mm],.vp (jcells a b c on)]):=fun z h=>by obtain rfl:=List.mem_singleton.1 h; exact ableT a b c on mm
 have m1:=List.mem_singleton.2 (rfl:[jT a b c on,.int .i64 mm] = _)
 generalize [[jT a b c on,.int .i64 mm]] = l1 at k1 m1
 generalize gvR rd a c on mm = s at *
 obtain ⟨s1,s2,s3⟩:=s
 refine stepL_told hm41 hn41 (K:=K27 (.fn 48 [.vp [.int .i64 mm],.vp (jcells a b c on)]) l1) (told_add none_ok (callS_told k1)) (A:=A41r) (m:=0) (by kernel_rfl) (loops1 hl) ?_
 refine Eq.trans (show stepL P41 G41 A41r (K27 (.fn 48 [.vp [.int .i64 mm],.vp (jcells a b c on)]) l1) 0 27 [(3,litS (v27 mm a b c on) (h27 a b c on mm rd cp (.int .i64 name) (-1,0,0)) .normal [.ptr 0 0 0 0,.ptr 1 0 0 0,.ptr 2 0 0 0,.ptr 3 0 0 0] (h27 a b c on mm rd cp (.int .i64 name) (s1,s2,s3)))] [jT a b c on,.int .i64 name,iv mm rd cp] =
(
 bif sameArgsF [.agg [.int .i64 a,.int .i64 b,.int .i64 c,.int .u32 on],.int .i64 (.ofNat mm)] l1 then
 bif weakF [.ptr 0 0 0 0,.ptr [Blk.mk 0 [T.int .i64 a,T.int .i64 b,T.int .i64 c,T.int .u32 on].length (1:Nat) (fun x=>[T.int .i64 a,T.int .i64 b,T.int .i64 c,T.int .u32 on]) true false].length (0:Nat) (0:Nat) (0:Nat),.ptr [Blk.mk 0 [T.int .i64 a,T.int .i64 b,T.int .i64 c,T.int .u32 on].length (1:Nat) (fun x=>[T.int .i64 a,T.int .i64 b,T.int .i64 c,T.int .u32 on]) true false,Blk.mk 0 [T.view 1 mm (fun j=>[T.int .i64 (rd j)]) cp].length (1:Nat) (fun x=>[T.view 1 mm (fun j=>[T.int .i64 (rd j)]) cp]) false false].length (0:Nat) (0:Nat) (0:Nat),.ptr [Blk.mk 0 [T.int .i64 a,T.int .i64 b,T.int .i64 c,T.int .u32 on].length (1:Nat) (fun x=>[T.int .i64 a,T.int .i64 b,T.int .i64 c,T.int .u32 on]) true false,Blk.mk 0 [T.view 1 mm (fun j=>[T.int .i64 (rd j)]) cp].length (1:Nat) (fun x=>[T.view 1 mm (fun j=>[T.int .i64 (rd j)]) cp]) false false,Blk.mk 0 4 1 (fun x=>[T.int .i64 (0:Int),T.int .i64 (0:Int),T.int .i64 (0:Int),T.int .i64 (0:Int)]) true false].length (0:Nat) (0:Nat) (0:Nat),.fn (48:Nat) [.vp [.int .i64 (.ofNat mm)],.vp [.int .i64 a,.int .i64 b,.int .i64 c,.int .u32 on]]] [.mk 0 [T.int .i64 a,T.int .i64 b,T.int .i64 c,T.int .u32 on].length (1:Nat) (fun x=>[.int .i64 a,.int .i64 b,.int .i64 c,.int .u32 on]) true false,.mk 0 [T.view 1 mm (fun j=>[T.int .i64 (rd j)]) cp].length (1:Nat) (fun x=>[.view 1 mm (fun j=>[.int .i64 (rd j)]) cp]) false false,.mk 0 4 1 (fun x=>[.int .i64 0,.int .i64 0,.int .i64 0,.int .i64 0]) true false,.mk 0 4 1 (fun e=>[.int .i64 (bif e==(0:Nat) then name
 else (0:Int)),.int .i64 (bif e==(0:Nat) then (-1:Int)
 else (0:Int)),.int .i64 (bif e==(0:Nat) then (0:Int)
 else (0:Int)),.int .i64 (bif e==(0:Nat) then (0:Int)
 else (0:Int))]) true false] [.ptr 0 0 0 0,.ptr 1 0 0 0,.ptr 2 0 0 0,.ptr 3 0 0 0,.fn (48:Nat) [.vp [.int .i64 (.ofNat mm)],.vp [.int .i64 a,.int .i64 b,.int .i64 c,.int .u32 on]]] [.mk 0 4 1 (fun x=>[.int .i64 a,.int .i64 b,.int .i64 c,.int .u32 on]) true false,.mk 0 1 1 (fun x=>[.view 1 mm (fun j=>[.int .i64 (rd j)]) cp]) false false,.mk 0 4 1 (fun x=>[.int .i64 0,.int .i64 0,.int .i64 0,.int .i64 0]) true false,.mk 0 4 1 (fun x=>[.int .i64 name,.int .i64 (-1:Int),.int .i64 0,.int .i64 0]) true false] then
 some (.agg [.int .i64 name,.int .i64 s1,.int .i64 s2,.int .i64 s3])
 else none else
 none) from by kernel_rfl) ?_
 refine bift (sameArgsF_iff.2 m1) ?_
 refine bift (weakF_of ⟨rfl,.cons ⟨rfl,rfl,rfl,id,fun _ _=>rfl⟩ (.cons ⟨rfl,rfl,rfl,id,fun _ _=>rfl⟩ (.cons ⟨rfl,rfl,rfl,id,fun _ _=>rfl⟩ (.cons ⟨rfl,rfl,rfl,id,fun j hj=>?_⟩ .nil)))⟩) ?_
 ·have hj':j<1:=hj
  obtain rfl:j = 0:=by omega
  rfl
 first | rfl | (simp (disch:=omega) only [wr64,wr8,wr16,wr32,ofNatE,Nat.zero_add,bleT,bltT,dT,dF,Bool.true_and,Bool.and_true,Bool.and_self,cond_true,cond_false,Nat.sub_zero,beq_self_eq_true]; done) | (simp (disch:=omega) only [wr64,wr8,wr16,wr32,ofNatE,Nat.zero_add,bleT,bltT,dT,dF,Bool.true_and,Bool.and_true,Bool.and_self,cond_true,cond_false,Nat.sub_zero,beq_self_eq_true]; rfl)
open Go.Proofs
def v25 (L:JL) (c:Option Nat) (mm:Int) (i:Int):List T:=[.int .i64 mm,jv L c,.int .i64 L.n,.int .i64 i]
def r25 (L:JL) (c:Option Nat) (mm:Nat) (i:Nat) (x:List T):List T:=[.int .i64 mm,.ptr 0 0 0 0,jv L c,.int .i64 L.n,.int .i64 i,.fn 48 [.vp [.int .i64 mm],.vp x]]
def bx (b:Bool):Blk:=⟨0,1,1,fun _=>[.bool b],true,false⟩
noncomputable def K25 (r:T) (l:List (List T)):Orc:=noneO.add 34 (callS l r)
noncomputable def K25b (l1:List (List T)):Orc:=noneO.add 19 (callS l1 (.int .i64 0))
theorem l25r (L:JL) (c:Option Nat) (mm:Nat) (i:Nat) (a b d on:Int) (hm:mm<=16) (hab:0<(abL on mm).length) :
 LoopOk P41 G41 (A41r 25) 25 9 (litS (r25 L c mm i (jcells a b d on)) [bx false] (.exit 2) [.int .i64 mm,.ptr 0 0 0 0,jv L c,.int .i64 L.n,.int .i64 i] [bx true]):=by
 have:=range_lit (P:=P41) (Gl:=G41) (f:=25) (r:=9) (t:=23) (np:=1) (an:=A41r 25) hm41 (by kernel_rfl) (vs:=r25 L c mm i (jcells a b d on)) rfl (gf:=48) (caps:=[.vp [.int .i64 mm],.vp (jcells a b d on)]) rfl (seq48 mm a b d on hm) (by kernel_rfl) (fun _ _=>rfl)
  (fun i=>[bx false]) rfl (n:=0) (Nat.zero_le _) (e1:=.exit 2) (h1:=[bx true]) (vo:=[.int .i64 mm,.ptr 0 0 0 0,jv L c,.int .i64 L.n,.int .i64 i]) rfl (fun i hi=>by omega) (.inr ⟨hab,by simp,A41r,noneO,0,[],none_ok,rfl,rfl,loops0,[⟨0,1,1,fun e=>[.bool (bif e==0 then true else false)],true,false⟩],?_,fun nt=>.same (.cons ⟨rfl,rfl,rfl,id,fun j hj=>?_⟩ .nil)⟩)
 ·exact this
 ·generalize (abL on mm).getD 0 0 = x
  refine Eq.trans (show rangeR P41 G41 A41r noneO 0 25 [] 9 (r25 L c mm i (jcells a b d on)) [.int .i64 x] [bx false] =
(
 some ((.exit 2,[.mk 0 1 1 (fun e=>[.bool (bif e==(0:Nat) then true
 else false)]) true false]))) from by kernel_rfl) ?_
  rfl
 ·have hj':j<1:=hj
  obtain rfl:j = 0:=by omega
  rfl
theorem l25j (L:JL) (c:Option Nat) (mm:Nat) (hL:L.Ok) (hm:mm<=16) (hab:∀ i,i<L.n->0<(abL (L.on i) mm).length):LoopOk P41 G41 (A41r 25) 25 5 (litS (v25 L c mm 0) [] (.exit 0) [.undef] []):=by
 have hn:=hL.n
 refine loop_steps hm41 (by kernel_rfl) (fun i=>v25 L c mm i) (fun _=>[]) (n:=L.n) (fun i hi=>?_) ?_
 ·have hl:=l25r L c mm i (L.tm i) (L.du i) (L.af i) (L.on i) hm (hab i hi)
  have k1:∀ z ∈ [[jT (L.tm i) (L.du i) (L.af i) (L.on i),.int .i64 mm]],ToldOk P41 G41 34 z (.fn 48 [.vp [.int .i64 mm],.vp (jcells (L.tm i) (L.du i) (L.af i) (L.on i))]):=fun z h=>by obtain rfl:=List.mem_singleton.1 h; exact ableT _ _ _ _ _
  have m1:=List.mem_singleton.2 (rfl:[jT (L.tm i) (L.du i) (L.af i) (L.on i),.int .i64 mm] = _)
  generalize [[jT (L.tm i) (L.du i) (L.af i) (L.on i),.int .i64 mm]] = l1 at k1 m1
  refine Step.mk (A:=A41r) (m:=0) (K:=K25 (.fn 48 [.vp [.int .i64 mm],.vp (jcells (L.tm i) (L.du i) (L.af i) (L.on i))]) l1) (l:=[(9,litS (r25 L c mm i (jcells (L.tm i) (L.du i) (L.af i) (L.on i))) [bx false] (.exit 2) [.int .i64 mm,.ptr 0 0 0 0,jv L c,.int .i64 L.n,.int .i64 i] [bx true])]) (told_add none_ok (callS_told k1)) rfl rfl (loops1 hl) 0 (Nat.le_refl _) (h1:=[bx true])
   (Eq.trans (show iterR P41 G41 A41r (K25 (.fn 48 [.vp [.int .i64 mm],.vp (jcells (L.tm i) (L.du i) (L.af i) (L.on i))]) l1) 0 25 [(9,litS (r25 L c mm i (jcells (L.tm i) (L.du i) (L.af i) (L.on i))) [bx false] (.exit 2) [.int .i64 mm,.ptr 0 0 0 0,jv L c,.int .i64 L.n,.int .i64 i] [bx true])] 5 (v25 L c mm i) [] =
(
 bif decide (Int.ofNat i<Int.ofNat L.n) then
 bif decide (0<=Int.ofNat i)&&decide (Int.ofNat i<Int.ofNat L.n) then
 bif sameArgsF [.agg [.int .i64 (L.tm i),.int .i64 (L.du i),.int .i64 (L.af i),.int .u32 (L.on i)],.int .i64 (.ofNat mm)] l1 then
 bif weakF [.int .i64 (.ofNat mm),.ptr 0 0 0 0,jv L c,.int .i64 (.ofNat L.n),.int .i64 (.ofNat i),.fn (48:Nat) [.vp [.int .i64 (.ofNat mm)],.vp [.int .i64 (L.tm i),.int .i64 (L.du i),.int .i64 (L.af i),.int .u32 (L.on i)]]] [.mk 0 1 1 (fun e=>[.bool (bif e==(0:Nat) then false
 else false)]) true false] [.int .i64 (.ofNat mm),.ptr 0 0 0 0,jv L c,.int .i64 (.ofNat L.n),.int .i64 (.ofNat i),.fn (48:Nat) [.vp [.int .i64 (.ofNat mm)],.vp [.int .i64 (L.tm i),.int .i64 (L.du i),.int .i64 (L.af i),.int .u32 (L.on i)]]] [.mk 0 1 1 (fun x=>[.bool false]) true false] then
 some ((.normal,[.int .i64 (.ofNat mm),jv L c,.int .i64 (.ofNat L.n),.int .i64 (IntKind.i64.wrap (Int.ofNat i+1))],[.mk 0 1 1 (fun x=>[.bool true]) true false]))
 else none else none else none else
 some ((.exit 0,[.undef],[]))) from by kernel_rfl) ?_) rfl .nil
  (repeat (first | (refine bift (by first | assumption | omega | (simp (disch:=omega) only [wr64,wr8,wr16,wr32,ofNatE,toNatE,toNatE1,Bool.and_eq_true,Bool.or_eq_true,Bool.not_eq_true',decide_eq_true_eq,decide_eq_false_iff_not,nble,nblt,nbeq,Nat.zero_add,Nat.add_zero,Int.zero_add,Int.add_zero,List.length_cons,List.length_nil,true_and,and_true,Nat.reduceAdd,and_self]; done) | (simp (disch:=omega) only [wr64,wr8,wr16,wr32,ofNatE,toNatE,toNatE1,Bool.and_eq_true,Bool.or_eq_true,Bool.not_eq_true',decide_eq_true_eq,decide_eq_false_iff_not,nble,nblt,nbeq,Nat.zero_add,Nat.add_zero,Int.zero_add,Int.add_zero,List.length_cons,List.length_nil,true_and,and_true,Nat.reduceAdd,and_self]; omega)) ?_) | (refine biff (by first | assumption | (simp (disch:=omega) only [wr64,wr8,wr16,wr32,ofNatE,toNatE,toNatE1,Bool.and_eq_true,Bool.or_eq_true,Bool.not_eq_true',decide_eq_true_eq,decide_eq_false_iff_not,nble,nblt,nbeq,Nat.zero_add,Nat.add_zero,Int.zero_add,Int.add_zero,List.length_cons,List.length_nil,true_and,and_true,Nat.reduceAdd,and_self]; done) | (simp (disch:=omega) only [wr64,wr8,wr16,wr32,ofNatE,toNatE,toNatE1,Bool.and_eq_true,Bool.or_eq_true,Bool.not_eq_true',decide_eq_true_eq,decide_eq_false_iff_not,nble,nblt,nbeq,Nat.zero_add,Nat.add_zero,Int.zero_add,Int.add_zero,List.length_cons,List.length_nil,true_and,and_true,Nat.reduceAdd,and_self]; omega)) ?_)))
  refine bift (sameArgsF_iff.2 m1) ?_
  refine bift (weakF_of ⟨rfl,.cons ⟨rfl,rfl,rfl,id,fun j hj=>?_⟩ .nil⟩) ?_
  ·have hj':j<1:=hj
   obtain rfl:j = 0:=by omega
   rfl
  first | rfl | (simp (disch:=omega) only [wr64,wr8,wr16,wr32,ofNatE,Nat.zero_add,bleT,bltT,dT,dF,Bool.true_and,Bool.and_true,Bool.and_self,cond_true,cond_false,Nat.sub_zero,beq_self_eq_true]; done) | (simp (disch:=omega) only [wr64,wr8,wr16,wr32,ofNatE,Nat.zero_add,bleT,bltT,dT,dF,Bool.true_and,Bool.and_true,Bool.and_self,cond_true,cond_false,Nat.sub_zero,beq_self_eq_true]; rfl)
 ·refine Last.mk0 (A:=A41r) (m:=0) none_ok rfl rfl loops0 (h1:=[]) (by simp) (Eq.trans (show iterR P41 G41 A41r noneO 0 25 [] 5 (v25 L c mm L.n) [] =
(
 bif decide (Int.ofNat L.n<Int.ofNat L.n) then
 bif decide (0<=Int.ofNat L.n)&&decide (Int.ofNat L.n<Int.ofNat L.n) then none else none else
 some ((.exit 0,[.undef],[]))) from by kernel_rfl) ?_) .nil
  (repeat (first | (refine bift (by first | assumption | omega | (simp (disch:=omega) only [wr64,wr8,wr16,wr32,ofNatE,toNatE,toNatE1,Bool.and_eq_true,Bool.or_eq_true,Bool.not_eq_true',decide_eq_true_eq,decide_eq_false_iff_not,nble,nblt,nbeq,Nat.zero_add,Nat.add_zero,Int.zero_add,Int.add_zero,List.length_cons,List.length_nil,true_and,and_true,Nat.reduceAdd,and_self]; done) | (simp (disch:=omega) only [wr64,wr8,wr16,wr32,ofNatE,toNatE,toNatE1,Bool.and_eq_true,Bool.or_eq_true,Bool.not_eq_true',decide_eq_true_eq,decide_eq_false_iff_not,nble,nblt,nbeq,Nat.zero_add,Nat.add_zero,Int.zero_add,Int.add_zero,List.length_cons,List.length_nil,true_and,and_true,Nat.reduceAdd,and_self]; omega)) ?_) | (refine biff (by first | assumption | (simp (disch:=omega) only [wr64,wr8,wr16,wr32,ofNatE,toNatE,toNatE1,Bool.and_eq_true,Bool.or_eq_true,Bool.not_eq_true',decide_eq_true_eq,decide_eq_false_iff_not,nble,nblt,nbeq,Nat.zero_add,Nat.add_zero,Int.zero_add,Int.add_zero,List.length_cons,List.length_nil,true_and,and_true,Nat.reduceAdd,and_self]; done) | (simp (disch:=omega) only [wr64,wr8,wr16,wr32,ofNatE,toNatE,toNatE1,Bool.and_eq_true,Bool.or_eq_true,Bool.not_eq_true',decide_eq_true_eq,decide_eq_false_iff_not,nble,nblt,nbeq,Nat.zero_add,Nat.add_zero,Int.zero_add,Int.add_zero,List.length_cons,List.length_nil,true_and,and_true,Nat.reduceAdd,and_self]; omega)) ?_)))
  first | rfl | (simp (disch:=omega) only [wr64,wr8,wr16,wr32,ofNatE,Nat.zero_add,bleT,bltT,dT,dF,Bool.true_and,Bool.and_true,Bool.and_self,cond_true,cond_false,Nat.sub_zero,beq_self_eq_true]; done) | (simp (disch:=omega) only [wr64,wr8,wr16,wr32,ofNatE,Nat.zero_add,bleT,bltT,dT,dF,Bool.true_and,Bool.and_true,Bool.and_self,cond_true,cond_false,Nat.sub_zero,beq_self_eq_true]; rfl)
theorem chkT (L:JL) (c:Option Nat) (mm:Nat) (hL:L.Ok) (hm:1<=mm/\mm<=16) (hab:∀ i,i<L.n->0<(abL (L.on i) mm).length):ToldOk P41 G41 25 [jv L c,.int .i64 mm] (.int .i64 0):=by
 have hn:=hL.n
 have hl:=l25j L c mm hL hm.2 hab
 have k1:∀ z ∈ [[jv L c,.int .i64 mm]],ToldOk P41 G41 19 z (.int .i64 0):=fun z h=>by obtain rfl:=List.mem_singleton.1 h; exact limT L c mm hL (by omega)
 have m1:=List.mem_singleton.2 (rfl:[jv L c,.int .i64 mm] = _)
 generalize [[jv L c,.int .i64 mm]] = l1 at k1 m1
 refine stepL_told hm41 hn41 (K:=K25b l1) (told_add none_ok (callS_told k1)) (A:=A41r) (m:=0) (by kernel_rfl) (loops1 hl) ?_
 refine Eq.trans (show stepL P41 G41 A41r (K25b l1) 0 25 [(5,litS (v25 L c mm 0) [] (.exit 0) [.undef] [])] [jv L c,.int .i64 mm] =
(
 bif sameArgsF [jv L c,.int .i64 (.ofNat mm)] l1 then
 bif weakF [.int .i64 (.ofNat mm),jv L c,.int .i64 (.ofNat L.n),.int .i64 0] [] [.int .i64 (.ofNat mm),jv L c,.int .i64 (.ofNat L.n),.int .i64 0] [] then
 some (.int .i64 0)
 else none else
 none) from by kernel_rfl) ?_
 refine bift (sameArgsF_iff.2 m1) ?_
 refine bift (weakF_of ⟨rfl,.refl _⟩) ?_
 first | rfl | (simp (disch:=omega) only [wr64,wr8,wr16,wr32,ofNatE,Nat.zero_add,bleT,bltT,dT,dF,Bool.true_and,Bool.and_true,Bool.and_self,cond_true,cond_false,Nat.sub_zero,beq_self_eq_true]; done) | (simp (disch:=omega) only [wr64,wr8,wr16,wr32,ofNatE,Nat.zero_add,bleT,bltT,dT,dF,Bool.true_and,Bool.and_true,Bool.and_self,cond_true,cond_false,Nat.sub_zero,beq_self_eq_true]; rfl)
open Go.Proofs
def plst (L:JL) (o:Nat->Nat) (mm:Nat):Nat->Nat->Int
 | 0,_=>0
 | i+1,m=>if (m:Int) = (gvR (plst L o mm i) (L.tm (o i)) (L.af (o i)) (L.on (o i)) mm).1 then (gvR (plst L o mm i) (L.tm (o i)) (L.af (o i)) (L.on (o i)) mm).2.2 else plst L o mm i m
def slt (L:JL) (o:Nat->Nat) (mm i:Nat):Int × Int × Int:=gvR (plst L o mm i) (L.tm (o i)) (L.af (o i)) (L.on (o i)) mm
def scells (L:JL) (o:Nat->Nat) (mm j:Nat):List T:=[.int .i64 (o j:Nat),.int .i64 (slt L o mm j).1,.int .i64 (slt L o mm j).2.1,.int .i64 (slt L o mm j).2.2]
def rblk (mm:Nat) (rd:Nat->Int):Blk:=⟨0,1,mm,fun j=>[.int .i64 (rd j)],true,false⟩
def sblk (v n:Nat) (x:Nat->List T):Blk:=⟨v,4,n,x,true,false⟩
def xs26 (L:JL) (o:Nat->Nat) (mm i:Nat):Nat->List T:=fun j=>bif Nat.blt j i then scells L o mm j else [.int .i64 0,.int .i64 0,.int .i64 0,.int .i64 0]
def v26 (L:JL) (c:Option Nat) (v i:Nat) (o:Nat->Nat) (mm:Nat):List T:=[jv L c,.own 1 v 0 i (some L.n),.own 0 0 0 mm (some mm),ov L.n o (some L.n),.int .i64 L.n,.int .i64 i]
noncomputable def K26 (r:T) (l:List (List T)):Orc:=noneO.add 27 (callS l r)
theorem gvn_lt (rd:Nat->Int) (tm af:Int) (l:List Nat) (mm:Nat) (hl:∀ i,i<l.length->l.getD i 0<mm):∀ i,i<=l.length->(i = 0/\gvn rd tm af l i = (-1,0,0)) ∨ (∃ g:Nat,g<mm/\(gvn rd tm af l i).1 = (g:Int))
 | 0,_=>.inl ⟨rfl,rfl⟩
 | i+1,hi=>by
  right
  rw [gvn_succ rd tm af l i (by omega)]
  rcases gvn_lt rd tm af l mm hl i (by omega) with ⟨_,q⟩ | ⟨g,hg,q⟩
  ·rw [q]
   unfold gvst
   rw [if_pos (.inl (by show (-1:Int)<0; omega))]
   exact ⟨_,hl i (by omega),rfl⟩
  ·unfold gvst
   split
   ·exact ⟨_,hl i (by omega),rfl⟩
   ·exact ⟨g,hg,q⟩
theorem gvR_lt (rd:Nat->Int) (tm af on:Int) (mm:Nat) (h:0<(abL on mm).length):∃ g:Nat,g<mm/\(gvR rd tm af on mm).1 = (g:Int):=by
 rcases gvn_lt rd tm af (abL on mm) mm (fun i hi=>abL_lt hi) (abL on mm).length (Nat.le_refl _) with ⟨q,_⟩ | q
 ·omega
 ·exact q
theorem gvn_bd (rd:Nat->Int) (tm af:Int) (l:List Nat) (mm:Nat) (B:Int) (hl:∀ i,i<l.length->l.getD i 0<mm) (hrd:∀ m,m<mm->0<=rd m/\rd m<=B) (ha:0<=af/\af<=100000) (ht:0<=tm/\tm<=100000) (hB:0<=B):∀ i,i<=l.length->0<=(gvn rd tm af l i).2.1/\0<=(gvn rd tm af l i).2.2/\(gvn rd tm af l i).2.2<=B+200000
 | 0,_=>by simp [gvn]; omega
 | i+1,hi=>by
  rw [gvn_succ rd tm af l i (by omega)]
  have ih:=gvn_bd rd tm af l mm B hl hrd ha ht hB i (by omega)
  have hr:=hrd _ (hl i (by omega))
  have hmx:maxB (rd (l.getD i 0)) af = rd (l.getD i 0) ∨ maxB (rd (l.getD i 0)) af = af:=by unfold maxB; cases decide (rd (l.getD i 0)<af) <;> simp
  unfold gvst
  split
  ·show 0<=maxB _ _/\0<=maxB _ _+tm/\maxB _ _+tm<=_
   omega
  ·exact ih
theorem plst_bd {L:JL} (hL:L.Ok) {o:Nat->Nat} {mm:Nat}:∀ i,(∀ j,j<i->o j<L.n)->∀ m,m<mm->0<=plst L o mm i m/\plst L o mm i m<=i * 200000
 | 0,_,m,_=>by simp [plst]
 | i+1,ho,m,hm=>by
  have ih:=plst_bd hL (mm:=mm) i fun j hj=>ho j (by omega)
  have hoi:=ho i (by omega)
  have h1:=hL.tm _ hoi
  have h2:=hL.af _ hoi
  have:=gvn_bd (plst L o mm i) (L.tm (o i)) (L.af (o i)) (abL (L.on (o i)) mm) mm (i * 200000) (fun i hi=>abL_lt hi) ih h2 (by omega) (by omega) _ (Nat.le_refl _)
  have hm:=ih m hm
  unfold plst
  split
  ·unfold gvR; omega
  ·omega
theorem l26 (L:JL) (c:Option Nat) (o:Nat->Nat) (mm:Nat) (hL:L.Ok) (hm:1<=mm/\mm<=16) (ho:∀ j,j<L.n->o j<L.n) (hab:∀ i,i<L.n->0<(abL (L.on i) mm).length) :
 LoopOk P41 G41 (A41 26) 26 4 (litS (v26 L c 0 0 o mm) [rblk mm (plst L o mm 0),sblk 0 L.n (xs26 L o mm 0)] (.exit 0) [.own 1 0 0 L.n (some L.n),.own 0 0 0 mm (some mm)] [rblk mm (plst L o mm L.n),sblk 0 L.n (xs26 L o mm L.n)]):=by
 have hn:=hL.n
 refine loop_steps hm41 (by kernel_rfl) (fun i=>v26 L c 0 i o mm) (fun i=>[rblk mm (plst L o mm i),sblk 0 L.n (xs26 L o mm i)]) (n:=L.n) (fun i hi=>?_) ?_
 ·have hoi:=ho i hi
  have h1:=hL.tm _ hoi
  have h2:=hL.af _ hoi
  obtain ⟨g,hg,eg⟩:=gvR_lt (plst L o mm i) (L.tm (o i)) (L.af (o i)) (L.on (o i)) mm (hab _ hoi)
  have t27:=giveT (L.tm (o i)) (L.du (o i)) (L.af (o i)) (L.on (o i)) mm (fun j=>plst L o mm i (0+j)) (some mm) (o i) hm.2 (fun j hj=>by
   have:=plst_bd hL (mm:=mm) i (fun j hj=>ho j (by omega)) j hj
   rw [Nat.zero_add]; omega) (by omega) (by omega)
  have e1:(fun j=>plst L o mm i (0+j)) = plst L o mm i:=by funext j; rw [Nat.zero_add]
  rw [show gvR (fun j=>plst L o mm i (0+j)) (L.tm (o i)) (L.af (o i)) (L.on (o i)) mm = gvR (plst L o mm i) (L.tm (o i)) (L.af (o i)) (L.on (o i)) mm by rw [e1],eg] at t27
  have k1:∀ z ∈ [[jT (L.tm (o i)) (L.du (o i)) (L.af (o i)) (L.on (o i)),.int .i64 (o i:Nat),iv mm (fun j=>plst L o mm i (0+j)) (some mm)]],ToldOk P41 G41 27 z (.agg [.int .i64 (o i:Nat),.int .i64 (g:Nat),.int .i64 (gvR (plst L o mm i) (L.tm (o i)) (L.af (o i)) (L.on (o i)) mm).2.1,.int .i64 (gvR (plst L o mm i) (L.tm (o i)) (L.af (o i)) (L.on (o i)) mm).2.2]):=fun z h=>by obtain rfl:=List.mem_singleton.1 h; exact t27
  have m1:=List.mem_singleton.2 (rfl:[jT (L.tm (o i)) (L.du (o i)) (L.af (o i)) (L.on (o i)),.int .i64 (o i:Nat),iv mm (fun j=>plst L o mm i (0+j)) (some mm)] = _)
  have hrd':∀ m,plst L o mm (i+1) m = if m = g then (gvR (plst L o mm i) (L.tm (o i)) (L.af (o i)) (L.on (o i)) mm).2.2 else plst L o mm i m:=fun m=>by
   show (if (m:Int) = (gvR (plst L o mm i) (L.tm (o i)) (L.af (o i)) (L.on (o i)) mm).1 then _ else _) = _
   rw [eg]
   by_cases q:m = g
   ·rw [if_pos q,if_pos (by rw [q])]
   ·rw [if_neg q,if_neg (by omega)]
  have hs:scells L o mm i = [.int .i64 (o i:Nat),.int .i64 (g:Nat),.int .i64 (gvR (plst L o mm i) (L.tm (o i)) (L.af (o i)) (L.on (o i)) mm).2.1,.int .i64 (gvR (plst L o mm i) (L.tm (o i)) (L.af (o i)) (L.on (o i)) mm).2.2]:=by
   unfold scells slt; rw [eg]
  generalize plst L o mm i = rd at *
  generalize plst L o mm (i+1) = rd' at *
  generalize (gvR rd (L.tm (o i)) (L.af (o i)) (L.on (o i)) mm).2.1 = f at *
  generalize (gvR rd (L.tm (o i)) (L.af (o i)) (L.on (o i)) mm).2.2 = t at *
  generalize [[jT (L.tm (o i)) (L.du (o i)) (L.af (o i)) (L.on (o i)),.int .i64 (o i:Nat),iv mm (fun j=>rd (0+j)) (some mm)]] = l1 at k1 m1
  have hx:∀ x':Nat->List T,(x' = fun j=>bif ((0:Nat)+i).ble j&&j.blt ((0:Nat)+i+(1:Nat)) then [[T.int IntKind.i64 (Int.ofNat (o i)),T.int IntKind.i64 (Int.ofNat g),T.int IntKind.i64 f,T.int IntKind.i64 t]].getD ((0:Nat)+(j - ((0:Nat)+i))) [] else xs26 L o mm i j)->∀ j,x' j = xs26 L o mm (i+1) j:=fun x' hx j=>by
   rw [hx]
   unfold xs26
   simp only
   by_cases q:j<i
   ·rw [bltT q,bltT (show j<i+1 by omega),show (Nat.ble (0+i) j) = false from bleF (show j<0+i by omega)]
    rfl
   ·by_cases q2:j = i
    ·rw [q2,bltT (show i<i+1 by omega),bltT (show i<0+i+1 by omega),show (Nat.ble (0+i) i) = true from bleT (by omega),hs,show 0+(i - (0+i)) = 0 by omega]
     rfl
    ·rw [bltF (show i<=j by omega),bltF (show i+1<=j by omega),bltF (show 0+i+1<=j by omega),Bool.and_false]
     rfl
  generalize xs26 L o mm i = x at *
  generalize xs26 L o mm (i+1) = x' at *
  refine Step.mk (A:=A41) (m:=0) (K:=K26 (.agg [.int .i64 (o i:Nat),.int .i64 (g:Nat),.int .i64 f,.int .i64 t]) l1) (l:=[]) (told_add none_ok (callS_told k1)) rfl rfl loops0 2 (by simp)
   (Eq.trans (show iterR P41 G41 A41 (K26 (.agg [.int .i64 (o i:Nat),.int .i64 (g:Nat),.int .i64 f,.int .i64 t]) l1) 0 26 [] 4 (v26 L c 0 i o mm) [rblk mm rd,sblk 0 L.n x] =
(
 bif decide (Int.ofNat i<Int.ofNat L.n) then
 bif decide (0<=Int.ofNat i)&&decide (Int.ofNat i<Int.ofNat L.n) then
 bif decide (0<=Int.ofNat (o i))&&decide (Int.ofNat (o i)<Int.ofNat L.n) then
 bif sameArgsF [.agg [.int .i64 (L.tm (o i)),.int .i64 (L.du (o i)),.int .i64 (L.af (o i)),.int .u32 (L.on (o i))],.int .i64 (.ofNat (o i)),
 bif ((0:Nat)+mm).ble mm then .view 1 mm (fun j=>[.int .i64 (rd (0+j))]) (some mm)
 else .undef] l1 then
 bif decide (0<=Int.ofNat g)&&decide (Int.ofNat g<Int.ofNat mm) then
 bif ((0:Nat)+g).blt mm&&[T.int .i64 t].length==(1:Nat)&&true&&true then
 bif ((0:Nat)+i).ble L.n then
 bif ((i+(1:Nat)) * (33:Nat)).ble 70368744177664 then
 bif (i+(1:Nat)).ble L.n then
 bif ((0:Nat)+i+(1:Nat)).ble L.n then
 some ((.normal,[jv L c,.own 1 0 0 (i+1) (some L.n),.own 0 0 0 mm (some mm),ov L.n o (some L.n),.int .i64 (.ofNat L.n),.int .i64 (IntKind.i64.wrap (Int.ofNat i+1))],[.mk 0 1 mm (fun e=>[.int .i64 (bif e==0+g then t
 else rd e)]) true false,.mk 0 4 L.n (fun j =>
 bif ((0:Nat)+i).ble j&&j.blt (0+i+1) then [[T.int .i64 (Int.ofNat (o i)),T.int .i64 (Int.ofNat g),T.int .i64 f,T.int .i64 t]].getD ((0:Nat)+(j - (0+i))) []
 else x j) true false,.mk 0 4 1 (fun j=>[[T.int .i64 (Int.ofNat (o i)),T.int .i64 (Int.ofNat g),T.int .i64 f,T.int .i64 t]].getD j []) true true]))
 else none else
 some ((.normal,[jv L c,.own [Blk.mk 0 1 mm (fun e=>[T.int .i64 (bif e==(0:Nat)+g then t
 else rd e)]) true false,Blk.mk 0 4 L.n x true false,Blk.mk 0 4 1 (fun j=>[[T.int .i64 (Int.ofNat (o i)),T.int .i64 (Int.ofNat g),T.int .i64 f,T.int .i64 t]].getD j []) true true].length (0:Nat) (0:Nat) (i+1)
 none,.own 0 0 0 mm (some mm),ov L.n o (some L.n),.int .i64 (.ofNat L.n),.int .i64 (IntKind.i64.wrap (Int.ofNat i+1))],[.mk 0 1 mm (fun e=>[.int .i64 (bif e==0+g then t
 else rd e)]) true false,.mk 0 4 L.n x true false,.mk 0 4 1 (fun j=>[[T.int .i64 (Int.ofNat (o i)),T.int .i64 (Int.ofNat g),T.int .i64 f,T.int .i64 t]].getD j []) true true,.mk 0 4 (i+1) (fun j =>
 bif j.blt i then x (0+j)
 else [[T.int .i64 (Int.ofNat (o i)),T.int .i64 (Int.ofNat g),T.int .i64 f,T.int .i64 t]].getD ((0:Nat)+(j - i)) []) true false]))
 else none else none else none else none else none else none else none else
 some ((.exit 0,[.own 1 0 0 i (some L.n),.own 0 0 0 mm (some mm)],[.mk 0 1 mm (fun j=>[.int .i64 (rd j)]) true false,.mk 0 4 L.n x true false]))) from by kernel_rfl) ?_) (h1:=[⟨0,1,mm,fun e=>[.int .i64 (bif e==0+g then t else rd e)],true,false⟩,sblk 0 L.n (fun j=>bif ((0:Nat)+i).ble j&&j.blt ((0:Nat)+i+(1:Nat)) then [[T.int IntKind.i64 (Int.ofNat (o i)),T.int IntKind.i64 (Int.ofNat g),T.int IntKind.i64 f,T.int IntKind.i64 t]].getD ((0:Nat)+(j - ((0:Nat)+i))) [] else x j),⟨0,4,1,fun j=>[[T.int IntKind.i64 (Int.ofNat (o i)),T.int IntKind.i64 (Int.ofNat g),T.int IntKind.i64 f,T.int IntKind.i64 t]].getD j [],true,true⟩]) rfl ?_
  ·rw [show (Nat.ble (0+mm) mm) = true from bleT (by omega)]
   (repeat (first | (refine bift (by first | assumption | omega | (simp (disch:=omega) only [wr64,wr8,wr16,wr32,ofNatE,toNatE,toNatE1,Bool.and_eq_true,Bool.or_eq_true,Bool.not_eq_true',decide_eq_true_eq,decide_eq_false_iff_not,nble,nblt,nbeq,Nat.zero_add,Nat.add_zero,Int.zero_add,Int.add_zero,List.length_cons,List.length_nil,true_and,and_true,Nat.reduceAdd,and_self,beq_self_eq_true]; done) | (simp (disch:=omega) only [wr64,wr8,wr16,wr32,ofNatE,toNatE,toNatE1,Bool.and_eq_true,Bool.or_eq_true,Bool.not_eq_true',decide_eq_true_eq,decide_eq_false_iff_not,nble,nblt,nbeq,Nat.zero_add,Nat.add_zero,Int.zero_add,Int.add_zero,List.length_cons,List.length_nil,true_and,and_true,Nat.reduceAdd,and_self,beq_self_eq_true]; omega)) ?_) | (refine biff (by first | assumption | (simp (disch:=omega) only [wr64,wr8,wr16,wr32,ofNatE,toNatE,toNatE1,Bool.and_eq_true,Bool.or_eq_true,Bool.not_eq_true',decide_eq_true_eq,decide_eq_false_iff_not,nble,nblt,nbeq,Nat.zero_add,Nat.add_zero,Int.zero_add,Int.add_zero,List.length_cons,List.length_nil,true_and,and_true,Nat.reduceAdd,and_self,beq_self_eq_true]; done) | (simp (disch:=omega) only [wr64,wr8,wr16,wr32,ofNatE,toNatE,toNatE1,Bool.and_eq_true,Bool.or_eq_true,Bool.not_eq_true',decide_eq_true_eq,decide_eq_false_iff_not,nble,nblt,nbeq,Nat.zero_add,Nat.add_zero,Int.zero_add,Int.add_zero,List.length_cons,List.length_nil,true_and,and_true,Nat.reduceAdd,and_self,beq_self_eq_true]; omega)) ?_)))
   refine bift (sameArgsF_iff.2 m1) ?_
   (repeat (first | (refine bift (by first | assumption | omega | (simp (disch:=omega) only [wr64,wr8,wr16,wr32,ofNatE,toNatE,toNatE1,Bool.and_eq_true,Bool.or_eq_true,Bool.not_eq_true',decide_eq_true_eq,decide_eq_false_iff_not,nble,nblt,nbeq,Nat.zero_add,Nat.add_zero,Int.zero_add,Int.add_zero,List.length_cons,List.length_nil,true_and,and_true,Nat.reduceAdd,and_self,beq_self_eq_true]; done) | (simp (disch:=omega) only [wr64,wr8,wr16,wr32,ofNatE,toNatE,toNatE1,Bool.and_eq_true,Bool.or_eq_true,Bool.not_eq_true',decide_eq_true_eq,decide_eq_false_iff_not,nble,nblt,nbeq,Nat.zero_add,Nat.add_zero,Int.zero_add,Int.add_zero,List.length_cons,List.length_nil,true_and,and_true,Nat.reduceAdd,and_self,beq_self_eq_true]; omega)) ?_) | (refine biff (by first | assumption | (simp (disch:=omega) only [wr64,wr8,wr16,wr32,ofNatE,toNatE,toNatE1,Bool.and_eq_true,Bool.or_eq_true,Bool.not_eq_true',decide_eq_true_eq,decide_eq_false_iff_not,nble,nblt,nbeq,Nat.zero_add,Nat.add_zero,Int.zero_add,Int.add_zero,List.length_cons,List.length_nil,true_and,and_true,Nat.reduceAdd,and_self,beq_self_eq_true]; done) | (simp (disch:=omega) only [wr64,wr8,wr16,wr32,ofNatE,toNatE,toNatE1,Bool.and_eq_true,Bool.or_eq_true,Bool.not_eq_true',decide_eq_true_eq,decide_eq_false_iff_not,nble,nblt,nbeq,Nat.zero_add,Nat.add_zero,Int.zero_add,Int.add_zero,List.length_cons,List.length_nil,true_and,and_true,Nat.reduceAdd,and_self,beq_self_eq_true]; omega)) ?_)))
   first | rfl | (simp (disch:=omega) only [wr64,wr8,wr16,wr32,ofNatE]; done) | (simp (disch:=omega) only [wr64,wr8,wr16,wr32,ofNatE]; rfl)
  ·refine .cons ⟨rfl,rfl,rfl,id,fun j hj=>?_⟩ (.cons ⟨rfl,rfl,rfl,id,fun j hj=>(hx _ rfl j).symm⟩ .nil)
   have:=hrd' j
   show [T.int .i64 (rd' j)] = _
   rw [this]
   by_cases q:j = g
   ·subst q
    show _ = [T.int .i64 (cond (j==0+j) _ _)]
    rw [if_pos rfl,show (j==0+j) = true by simp]; rfl
   ·show _ = [T.int .i64 (cond (j==0+g) _ _)]
    rw [if_neg q,show (j==0+g) = false by simp; omega]; rfl
 ·generalize plst L o mm L.n = rd
  generalize xs26 L o mm L.n = x
  refine Last.mk0 (A:=A41) (m:=0) none_ok rfl rfl loops0 (by simp) (Eq.trans (show iterR P41 G41 A41 noneO 0 26 [] 4 (v26 L c 0 L.n o mm) [rblk mm rd,sblk 0 L.n x] =
(
 bif decide (Int.ofNat L.n<Int.ofNat L.n) then
 bif decide (0<=Int.ofNat L.n)&&decide (Int.ofNat L.n<Int.ofNat L.n) then
 bif decide (0<=Int.ofNat (o L.n))&&decide (Int.ofNat (o L.n)<Int.ofNat L.n) then none else none else none else
 some ((.exit 0,[.own 1 0 0 L.n (some L.n),.own 0 0 0 mm (some mm)],[.mk 0 1 mm (fun j=>[.int .i64 (rd j)]) true false,.mk 0 4 L.n x true false]))) from by kernel_rfl) ?_) (.refl _)
  (repeat (first | (refine bift (by first | assumption | omega | (simp (disch:=omega) only [wr64,wr8,wr16,wr32,ofNatE,toNatE,toNatE1,Bool.and_eq_true,Bool.or_eq_true,Bool.not_eq_true',decide_eq_true_eq,decide_eq_false_iff_not,nble,nblt,nbeq,Nat.zero_add,Nat.add_zero,Int.zero_add,Int.add_zero,List.length_cons,List.length_nil,true_and,and_true,Nat.reduceAdd,and_self]; done) | (simp (disch:=omega) only [wr64,wr8,wr16,wr32,ofNatE,toNatE,toNatE1,Bool.and_eq_true,Bool.or_eq_true,Bool.not_eq_true',decide_eq_true_eq,decide_eq_false_iff_not,nble,nblt,nbeq,Nat.zero_add,Nat.add_zero,Int.zero_add,Int.add_zero,List.length_cons,List.length_nil,true_and,and_true,Nat.reduceAdd,and_self]; omega)) ?_) | (refine biff (by first | assumption | (simp (disch:=omega) only [wr64,wr8,wr16,wr32,ofNatE,toNatE,toNatE1,Bool.and_eq_true,Bool.or_eq_true,Bool.not_eq_true',decide_eq_true_eq,decide_eq_false_iff_not,nble,nblt,nbeq,Nat.zero_add,Nat.add_zero,Int.zero_add,Int.add_zero,List.length_cons,List.length_nil,true_and,and_true,Nat.reduceAdd,and_self]; done) | (simp (disch:=omega) only [wr64,wr8,wr16,wr32,ofNatE,toNatE,toNatE1,Bool.and_eq_true,Bool.or_eq_true,Bool.not_eq_true',decide_eq_true_eq,decide_eq_false_iff_not,nble,nblt,nbeq,Nat.zero_add,Nat.add_zero,Int.zero_add,Int.add_zero,List.length_cons,List.length_nil,true_and,and_true,Nat.reduceAdd,and_self]; omega)) ?_)))
  first | rfl | (simp (disch:=omega) only [wr64,wr8,wr16,wr32,ofNatE,Nat.zero_add,bleT,bltT,dT,dF,Bool.true_and,Bool.and_true,Bool.and_self,cond_true,cond_false,Nat.sub_zero,beq_self_eq_true]; done) | (simp (disch:=omega) only [wr64,wr8,wr16,wr32,ofNatE,Nat.zero_add,bleT,bltT,dT,dF,Bool.true_and,Bool.and_true,Bool.and_self,cond_true,cond_false,Nat.sub_zero,beq_self_eq_true]; rfl)
open Go.Proofs
def oN (L:JL):Nat->Nat:=fun j=>(ordL L.du L.n).getD j 0
theorem oN_lt {L:JL} {j:Nat} (hj:j<L.n):oN L j<L.n:=ord_lt hj
def svT (L:JL) (mm:Nat):T:=.view 4 L.n (scells L (oN L) mm) (some L.n)
def rvT (L:JL) (mm:Nat):T:=iv mm (plst L (oN L) mm L.n) (some mm)
noncomputable def K26b (r:T) (l:List (List T)):Orc:=noneO.add 20 (callS l r)
noncomputable def K16 (l1 l2:List (List T)) (r2:T):Orc:=(noneO.add 25 (callS l1 (.int .i64 0))).add 26 (callS l2 r2)
theorem planT (L:JL) (c:Option Nat) (mm:Nat) (hL:L.Ok) (hm:1<=mm/\mm<=16) (hab:∀ i,i<L.n->0<(abL (L.on i) mm).length):ToldOk P41 G41 26 [jv L c,.int .i64 mm] (.tup [.new (svT L mm),.new (rvT L mm)]):=by
 have hn:=hL.n
 have hl:=l26 L c (oN L) mm hL hm (fun j hj=>oN_lt hj) hab
 have hxs:∀ j,j<L.n->xs26 L (oN L) mm L.n j = scells L (oN L) mm j:=fun j hj=>by unfold xs26; rw [bltT hj]; rfl
 have hx0:xs26 L (oN L) mm 0 = fun _=>[.int .i64 0,.int .i64 0,.int .i64 0,.int .i64 0]:=by
  funext j; unfold xs26; rw [bltF (Nat.zero_le _)]; rfl
 unfold svT rvT
 generalize plst L (oN L) mm L.n = rd at *
 generalize hy:scells L (oN L) mm = y at *
 generalize xs26 L (oN L) mm L.n = x at *
 rw [hx0] at hl
 have k1:∀ z ∈ [[jv L c]],ToldOk P41 G41 20 z (.new (iv L.n (ordI L) (some L.n))):=fun z h=>by obtain rfl:=List.mem_singleton.1 h; exact byDueT L c hL
 have m1:=List.mem_singleton.2 (rfl:[jv L c] = _)
 generalize [[jv L c]] = l1 at k1 m1
 have:=(stepL_told (args:=[jv L c,.int .i64 mm]) (r:=.tup [.fresh true 4 L.n (fun j=>x (0+j)) L.n (some L.n),.fresh true 1 mm (fun j=>[.int .i64 (rd (0+j))]) mm (some mm)]) hm41 hn41 (K:=K26b (.new (iv L.n (ordI L) (some L.n))) l1) (told_add none_ok (callS_told k1)) (A:=A41) (m:=0) (by kernel_rfl) (loops1 hl) ?_).frz
 ·refine this.tupTo (.cons (.new (.view (.inl rfl) fun j hj=>?_)) (.cons (.new (.view (.inl rfl) fun j hj=>?_)) .nil))
  ·rw [Nat.zero_add,hxs j hj]; exact .refl _
  ·rw [Nat.zero_add]; exact .refl _
 ·refine Eq.trans (show stepL P41 G41 A41 (K26b (.new (iv L.n (ordI L) (some L.n))) l1) 0 26 [(4,litS (v26 L c 0 0 (oN L) mm) [rblk mm (fun _=>0),sblk 0 L.n (fun _=>[.int .i64 0,.int .i64 0,.int .i64 0,.int .i64 0])] (.exit 0) [.own 1 0 0 L.n (some L.n),.own 0 0 0 mm (some mm)] [rblk mm rd,sblk 0 L.n x])] [jv L c,.int .i64 mm] =
(
 bif decide (0<=Int.ofNat mm)&&decide (Int.ofNat mm<=Int.ofNat mm)&&decide (Int.ofNat mm * 8<=140737488355328)&&decide (Int.ofNat mm<=9223372036854775807) then
 bif decide (0<=Int.ofNat L.n)&&decide (Int.ofNat L.n * 32<=140737488355328)&&decide (Int.ofNat L.n<=9223372036854775807) then
 bif sameArgsF [jv L c] l1 then
 bif weakF [jv L c,.own [Blk.mk 0 1 mm (fun x=>[T.int .i64 (0:Int)]) true false].length (0:Nat) (0:Nat) (0:Nat) (some L.n),.own 0 0 0 mm (some mm),.view 1 L.n (fun j=>[.int .i64 (.ofNat (((List.range L.n).mergeSort fun x y=>!decide (dueLt L.du y x)).getD j (0:Nat)))]) (some L.n),.int .i64 (.ofNat L.n),.int .i64 0] [.mk 0 1 mm (fun x=>[.int .i64 0]) true false,.mk 0 4 L.n (fun x=>[.int .i64 0,.int .i64 0,.int .i64 0,.int .i64 0]) true false] [jv L c,.own 1 0 0 0 (some L.n),.own 0 0 0 mm (some mm),.view 1 L.n (fun j=>[.int .i64 (.ofNat (((List.range L.n).mergeSort fun x y=>!decide (dueLt L.du y x)).getD j (0:Nat)))]) (some L.n),.int .i64 (.ofNat L.n),.int .i64 0] [.mk 0 1 mm (fun j=>[.int .i64 0]) true false,.mk 0 4 L.n (fun x=>[.int .i64 0,.int .i64 0,.int .i64 0,.int .i64 0]) true false] then
 some (.tup [bif ((0:Nat)+L.n).ble L.n then .fresh true (4:Nat) (L.n - 0) (fun j=>x (0+j)) L.n (some L.n)
 else .undef,
 bif ((0:Nat)+mm).ble mm then .fresh true (1:Nat) (mm - 0) (fun j=>[.int .i64 (rd (0+j))]) mm (some mm)
 else .undef])
 else none else none else none else
 none) from by kernel_rfl) ?_
  (repeat (first | (refine bift (by first | assumption | omega | (simp (disch:=omega) only [wr64,wr8,wr16,wr32,ofNatE,toNatE,toNatE1,Bool.and_eq_true,Bool.or_eq_true,Bool.not_eq_true',decide_eq_true_eq,decide_eq_false_iff_not,nble,nblt,nbeq,Nat.zero_add,Nat.add_zero,Int.zero_add,Int.add_zero,List.length_cons,List.length_nil,true_and,and_true,Nat.reduceAdd,and_self]; done) | (simp (disch:=omega) only [wr64,wr8,wr16,wr32,ofNatE,toNatE,toNatE1,Bool.and_eq_true,Bool.or_eq_true,Bool.not_eq_true',decide_eq_true_eq,decide_eq_false_iff_not,nble,nblt,nbeq,Nat.zero_add,Nat.add_zero,Int.zero_add,Int.add_zero,List.length_cons,List.length_nil,true_and,and_true,Nat.reduceAdd,and_self]; omega)) ?_) | (refine biff (by first | assumption | (simp (disch:=omega) only [wr64,wr8,wr16,wr32,ofNatE,toNatE,toNatE1,Bool.and_eq_true,Bool.or_eq_true,Bool.not_eq_true',decide_eq_true_eq,decide_eq_false_iff_not,nble,nblt,nbeq,Nat.zero_add,Nat.add_zero,Int.zero_add,Int.add_zero,List.length_cons,List.length_nil,true_and,and_true,Nat.reduceAdd,and_self]; done) | (simp (disch:=omega) only [wr64,wr8,wr16,wr32,ofNatE,toNatE,toNatE1,Bool.and_eq_true,Bool.or_eq_true,Bool.not_eq_true',decide_eq_true_eq,decide_eq_false_iff_not,nble,nblt,nbeq,Nat.zero_add,Nat.add_zero,Int.zero_add,Int.add_zero,List.length_cons,List.length_nil,true_and,and_true,Nat.reduceAdd,and_self]; omega)) ?_)))
  refine bift (sameArgsF_iff.2 m1) ?_
  refine bift (weakF_of ⟨rfl,.refl _⟩) ?_
  rw [show (Nat.ble (0+L.n) L.n) = true from bleT (by omega),show (Nat.ble (0+mm) mm) = true from bleT (by omega)]
  first | rfl | (simp (disch:=omega) only [wr64,wr8,wr16,wr32,ofNatE]; done) | (simp (disch:=omega) only [wr64,wr8,wr16,wr32,ofNatE]; rfl)
theorem PlanT (L:JL) (c:Option Nat) (mm:Nat) (hL:L.Ok) (hm:1<=mm/\mm<=16) (hab:∀ i,i<L.n->0<(abL (L.on i) mm).length):ToldOk P41 G41 16 [jv L c,.int .i64 mm] (.tup [svT L mm,.int .i64 0]):=by
 have hn:=hL.n
 have k1:∀ z ∈ [[jv L c,.int .i64 mm]],ToldOk P41 G41 25 z (.int .i64 0):=fun z h=>by obtain rfl:=List.mem_singleton.1 h; exact chkT L c mm hL hm hab
 have k2:∀ z ∈ [[jv L c,.int .i64 mm]],ToldOk P41 G41 26 z (.tup [.new (svT L mm),.new (rvT L mm)]):=fun z h=>by obtain rfl:=List.mem_singleton.1 h; exact planT L c mm hL hm hab
 have m1:=List.mem_singleton.2 (rfl:[jv L c,.int .i64 mm] = _)
 generalize [[jv L c,.int .i64 mm]] = l1 at k1 k2 m1
 unfold svT rvT iv at *
 generalize plst L (oN L) mm L.n = rd at *
 generalize scells L (oN L) mm = y at *
 refine stepL_told hm41 hn41 (K:=K16 l1 l1 (.tup [.new (.view 4 L.n y (some L.n)),.new (.view 1 mm (fun j=>[.int .i64 (rd j)]) (some mm))])) (told_add (told_add none_ok (callS_told k1)) (callS_told k2)) (A:=A41) (m:=0) (by kernel_rfl) loops0 ?_
 refine Eq.trans (show stepL P41 G41 A41 (K16 l1 l1 (.tup [.new (.view 4 L.n y (some L.n)),.new (.view 1 mm (fun j=>[.int .i64 (rd j)]) (some mm))])) 0 16 [] [jv L c,.int .i64 mm] =
(
 bif sameArgsF [jv L c,.int .i64 (.ofNat mm)] l1 then
 bif sameArgsF [jv L c,.int .i64 (.ofNat mm)] l1 then
 some (.tup [.view 4 L.n y (some L.n),.int .i64 0])
 else none else
 none) from by kernel_rfl) ?_
 refine bift (sameArgsF_iff.2 m1) ?_
 refine bift (sameArgsF_iff.2 m1) ?_
 rfl
end Go.Ab

