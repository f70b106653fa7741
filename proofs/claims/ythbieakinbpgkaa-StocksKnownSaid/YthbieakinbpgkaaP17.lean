/- A part of the proof: nothing is assumed. -/
import Derived.Test.YthbieakinbpgkaaP15
import Derived.Test.YthbieakinbpgkaaP16
import Derived.Test.YthbieakinbpgkaaP5
import Derived.Test.YthbieakinbpgkaaP4
set_option linter.all false
namespace Go.Ab
open Go.Proofs
def sA (cs:List Cne) (hs:List Hld) (c d:Option Nat):List T:=[cnV cs c,hdV hs d]
def v19a (cs cs2:List Cne) (hs hs2:List Hld) (i:Nat):List T:=[.reg (sA cs hs (some cs.length) (some hs.length)),.reg (sA cs2 hs2 none none),.int .i64 i]
def w19a (cs cs2:List Cne) (hs hs2:List Hld) (x:T):List T:=[.reg (sA cs hs (some cs.length) (some hs.length)),.reg (sA cs2 hs2 none none),x]
theorem i19a (cs cs2:List Cne) (hs hs2:List Hld) (i:Nat):iterR P42 G42 A42 noneO 0 19 [] 4 (v19a cs cs2 hs hs2 i) [] =
(
 bif decide (Int.ofNat i<Int.ofNat cs.length) then
 bif decide (0<=Int.ofNat i)&&decide (Int.ofNat i<Int.ofNat cs.length) then
 bif decide (0<=Int.ofNat i)&&decide (Int.ofNat i<Int.ofNat cs2.length) then
 bif decide ((cs.getD i (Cne.mk (0:Int) (0:Int))).a = (cs2.getD i (Cne.mk (0:Int) (0:Int))).a) then
 bif decide ((cs.getD i (Cne.mk (0:Int) (0:Int))).l = (cs2.getD i (Cne.mk (0:Int) (0:Int))).l) then
 some ((.normal,[.reg (sA cs hs (some cs.length) (some hs.length)),.reg (sA cs2 hs2
 none
 none),.int .i64 (IntKind.i64.wrap (Int.ofNat i+1))],[]))
 else
 some ((.ret,[.reg (sA cs hs (some cs.length) (some hs.length)),.reg (sA cs2 hs2
 none
 none),.bool false],[]))
 else
 some ((.ret,[.reg (sA cs hs (some cs.length) (some hs.length)),.reg (sA cs2 hs2
 none
 none),.bool false],[]))
 else none else none else
 some ((.exit 0,[.reg (sA cs hs (some cs.length) (some hs.length)),.reg (sA cs2 hs2
 none
 none),.undef],[]))):=by kernel_rfl
theorem i19b (cs cs2:List Cne) (hs hs2:List Hld) (i:Nat):iterR P42 G42 A42 noneO 0 19 [] 9 (v19a cs cs2 hs hs2 i) [] =
(
 bif decide (Int.ofNat i<Int.ofNat hs.length) then
 bif decide (0<=Int.ofNat i)&&decide (Int.ofNat i<Int.ofNat hs.length) then
 bif decide (0<=Int.ofNat i)&&decide (Int.ofNat i<Int.ofNat hs2.length) then
 bif decide ((hs.getD i (Hld.mk (0:Int) (0:Int) (0:Int))).o = (hs2.getD i (Hld.mk (0:Int) (0:Int) (0:Int))).o) then
 bif decide ((hs.getD i (Hld.mk (0:Int) (0:Int) (0:Int))).a = (hs2.getD i (Hld.mk (0:Int) (0:Int) (0:Int))).a) then
 bif decide ((hs.getD i (Hld.mk (0:Int) (0:Int) (0:Int))).l = (hs2.getD i (Hld.mk (0:Int) (0:Int) (0:Int))).l) then
 some ((.normal,[.reg (sA cs hs (some cs.length) (some hs.length)),.reg (sA cs2 hs2
 none
 none),.int .i64 (IntKind.i64.wrap (Int.ofNat i+1))],[]))
 else
 some ((.ret,[.bool false],[]))
 else
 some ((.ret,[.bool false],[]))
 else
 some ((.ret,[.bool false],[]))
 else none else none else
 some ((.exit 2,[.undef],[]))):=by kernel_rfl
theorem k19 (cs cs2:List Cne) (hs hs2:List Hld) (b1 b2:Bool) (x y:List T->Heap->Ex->List T->Heap->Prop):stepL P42 G42 A42 noneO 0 19 [(4,loopF x (.ite b1 (.ret (.exit 0) (w19a cs cs2 hs hs2 .undef) []) (.ret .ret (w19a cs cs2 hs hs2 (.bool false)) []))),(9,loopF y (.ite b2 (.ret (.exit 2) [.undef] []) (.ret .ret [.bool false] [])))] [.agg (sA cs hs (some cs.length) (some hs.length)),.agg (sA cs2 hs2 none none)] =
(
 bif !decide (Int.ofNat cs.length = Int.ofNat cs2.length) then
 some (.bool false)
 else
 bif !decide (Int.ofNat hs.length = Int.ofNat hs2.length) then
 some (.bool false)
 else
 bif !decide (Int.ofNat cs.length = Int.ofNat cs.length) then
 some (.bool false)
 else
 bif !decide (Int.ofNat hs.length = Int.ofNat hs.length) then
 some (.bool false)
 else
 bif b1 then
 bif decF (x (v19a cs cs2 hs hs2 (nat_lit 0)) [] (.exit 0) [.reg (sA cs hs (some cs.length) (some hs.length)),.reg (sA cs2 hs2
 none
 none),.undef] []) then
 bif b2 then
 bif decF (y (v19a cs cs2 hs hs2 (nat_lit 0)) [] (.exit 2) [.undef] []) then
 some (.bool true)
 else none else
 bif decF (y (v19a cs cs2 hs hs2 (nat_lit 0)) [] .ret [.bool false] []) then
 some (.bool false)
 else none else none else
 bif decF (x (v19a cs cs2 hs hs2 (nat_lit 0)) [] .ret [.reg (sA cs hs (some cs.length) (some hs.length)),.reg (sA cs2 hs2
 none
 none),.bool false] []) then
 some (.bool false)
 else
 none):=by kernel_rfl
theorem k27 (x:Nat):stepC P42 G42 A42 noneO 0 27 [] =
(
 some (.agg [.fresh true (2:Nat) (3:Nat) (fun j=>[[T.int .i64 (7:Int),T.int .i64 (50:Int)],[T.int .i64 (7:Int),T.int .i64 (20:Int)],[T.int .i64 (7:Int),T.int .i64 (30:Int)]].getD j []) (3:Nat) (some 3),.nils])):=by kernel_rfl
def ceq (x y:Cne):Bool:=decide (x.a = y.a)&&decide (x.l = y.l)
def heq (x y:Hld):Bool:=decide (x.o = y.o)&&(decide (x.a = y.a)&&decide (x.l = y.l))
def csEq (cs cs2:List Cne):Bool:=allB (fun i=>ceq (cs.getD i cn0) (cs2.getD i cn0)) cs.length
def hsEq (hs hs2:List Hld):Bool:=allB (fun i=>heq (hs.getD i hd0) (hs2.getD i hd0)) hs.length
def smB (cs cs2:List Cne) (hs hs2:List Hld):Bool:=decide (cs.length = cs2.length)&&(decide (hs.length = hs2.length)&&(csEq cs cs2&&hsEq hs hs2))
theorem ceq_iff {x y:Cne}:ceq x y = true ↔ x = y:=by
 cases x; cases y
 simp [ceq]
theorem heq_iff {x y:Hld}:heq x y = true ↔ x = y:=by
 cases x; cases y
 simp [heq]
theorem eq_getD {α:Type} {l m:List α} (d:α) (hl:l.length = m.length) (h:∀ i,i<l.length->l.getD i d = m.getD i d):l = m:=by
 refine List.ext_getElem hl fun i h1 h2=>?_
 have:=h i h1
 simpa [List.getD_eq_getElem?_getD,List.getElem?_eq_getElem h1,List.getElem?_eq_getElem h2] using this
theorem smB_iff {cs cs2:List Cne} {hs hs2:List Hld}:smB cs cs2 hs hs2 = true ↔ cs = cs2/\hs = hs2:=by
 unfold smB
 simp only [Bool.and_eq_true,decide_eq_true_eq]
 constructor
 ·rintro ⟨h1,h2,h3,h4⟩
  exact ⟨eq_getD cn0 h1 fun i hi=>ceq_iff.1 ((allB_iff _ _).1 h3 i hi),eq_getD hd0 h2 fun i hi=>heq_iff.1 ((allB_iff _ _).1 h4 i hi)⟩
 ·rintro ⟨rfl,rfl⟩
  exact ⟨rfl,rfl,(allB_iff _ _).2 fun i _=>ceq_iff.2 rfl,(allB_iff _ _).2 fun i _=>heq_iff.2 rfl⟩
theorem scan19a (cs cs2:List Cne) (hs hs2:List Hld) (hn:cs.length<=900000) (hl:cs.length = cs2.length):(csEq cs cs2 = true->LoopOk P42 G42 (A42 19) 19 4 (litS (v19a cs cs2 hs hs2 0) [] (.exit 0) (w19a cs cs2 hs hs2 .undef) []))/\(csEq cs cs2 = false->LoopOk P42 G42 (A42 19) 19 4 (litS (v19a cs cs2 hs hs2 0) [] .ret (w19a cs cs2 hs hs2 (.bool false)) [])):=by
 have key:∀ i,i<cs.length->iterR P42 G42 A42 noneO 0 19 [] 4 (v19a cs cs2 hs hs2 i) [] = if ceq (cs.getD i cn0) (cs2.getD i cn0) = true then some (.normal,v19a cs cs2 hs hs2 (i+1),[]) else some (.ret,w19a cs cs2 hs hs2 (.bool false),[]):=fun i hi=>by
  rw [i19a,up1 (by omega),show (⟨0,0⟩:Cne) = cn0 from rfl]
  refine BT (BT (BT ?_))
  unfold ceq
  cases decide ((cs.getD i cn0).a = (cs2.getD i cn0).a) <;> cases decide ((cs.getD i cn0).l = (cs2.getD i cn0).l) <;> rfl
 refine loop_scan hm42 (by kernel_rfl) (fun i=>v19a cs cs2 hs hs2 i) (fun _=>[]) (fun i=>ceq (cs.getD i cn0) (cs2.getD i cn0)) (n:=cs.length) (fun i hi _ hg=>?_) (fun i hi _ hg=>?_) (fun _=>?_)
 ·exact Step.mk0 (A:=A42) (m:=0) none_ok rfl rfl loops0 (h1:=[]) ((key i hi).trans (by rw [hg]; rfl)) .nil
 ·exact Last.mk0 (A:=A42) (m:=0) none_ok rfl rfl loops0 (h1:=[]) (by simp) ((key i hi).trans (by rw [hg]; rfl)) .nil
 ·refine Last.mk0 (A:=A42) (m:=0) none_ok rfl rfl loops0 (h1:=[]) (by simp) ?_ .nil
  rw [i19a]
  exact BF rfl
theorem scan19b (cs cs2:List Cne) (hs hs2:List Hld) (hn:hs.length<=900000) (hl:hs.length = hs2.length):(hsEq hs hs2 = true->LoopOk P42 G42 (A42 19) 19 9 (litS (v19a cs cs2 hs hs2 0) [] (.exit 2) [.undef] []))/\(hsEq hs hs2 = false->LoopOk P42 G42 (A42 19) 19 9 (litS (v19a cs cs2 hs hs2 0) [] .ret [.bool false] [])):=by
 have key:∀ i,i<hs.length->iterR P42 G42 A42 noneO 0 19 [] 9 (v19a cs cs2 hs hs2 i) [] = if heq (hs.getD i hd0) (hs2.getD i hd0) = true then some (.normal,v19a cs cs2 hs hs2 (i+1),[]) else some (.ret,[.bool false],[]):=fun i hi=>by
  rw [i19b,up1 (by omega),show (⟨0,0,0⟩:Hld) = hd0 from rfl]
  refine BT (BT (BT ?_))
  unfold heq
  cases decide ((hs.getD i hd0).o = (hs2.getD i hd0).o) <;> cases decide ((hs.getD i hd0).a = (hs2.getD i hd0).a) <;> cases decide ((hs.getD i hd0).l = (hs2.getD i hd0).l) <;> rfl
 refine loop_scan hm42 (by kernel_rfl) (fun i=>v19a cs cs2 hs hs2 i) (fun _=>[]) (fun i=>heq (hs.getD i hd0) (hs2.getD i hd0)) (n:=hs.length) (fun i hi _ hg=>?_) (fun i hi _ hg=>?_) (fun _=>?_)
 ·exact Step.mk0 (A:=A42) (m:=0) none_ok rfl rfl loops0 (h1:=[]) ((key i hi).trans (by rw [hg]; rfl)) .nil
 ·exact Last.mk0 (A:=A42) (m:=0) none_ok rfl rfl loops0 (h1:=[]) (by simp) ((key i hi).trans (by rw [hg]; rfl)) .nil
 ·refine Last.mk0 (A:=A42) (m:=0) none_ok rfl rfl loops0 (h1:=[]) (by simp) ?_ .nil
  rw [i19b]
  exact BF rfl
theorem sameT (cs cs2:List Cne) (hs hs2:List Hld) (n1:cs.length<=900000) (n2:hs.length<=900000):ToldOk P42 G42 19 [stV cs hs,.agg (sA cs2 hs2 none none)] (.bool (smB cs cs2 hs hs2)):=by
 obtain ⟨x,hx⟩:=is_loop P42 G42 (A42 19) 19 4
 obtain ⟨y,hy⟩:=is_loop P42 G42 (A42 19) 19 9
 refine stepL_told hm42 hn42 none_ok (A:=A42) (m:=0) (K:=noneO) (by kernel_rfl) (loopsC (loopF_ok hx _) (loops1 (loopF_ok hy _))) ((k19 cs cs2 hs hs2 (csEq cs cs2) (hsEq hs hs2) x y).trans ?_)
 unfold smB
 by_cases l1:cs.length = cs2.length
 ·have s1:=scan19a cs cs2 hs hs2 n1 l1
  refine biff (by simp [l1]) ?_
  rw [decide_eq_true l1,Bool.true_and]
  by_cases l2:hs.length = hs2.length
  ·have s2:=scan19b cs cs2 hs hs2 n2 l2
   refine biff (by simp [l2]) (biff (by simp) (biff (by simp) ?_))
   rw [decide_eq_true l2,Bool.true_and]
   cases b1:csEq cs cs2
   ·exact biff (by simp) (bift (decF_iff.2 (loopF_y hx (s1.2 b1))) rfl)
   ·refine bift rfl (bift (decF_iff.2 (loopF_y hx (s1.1 b1))) ?_)
    cases b2:hsEq hs hs2
    ·exact biff (by simp) (bift (decF_iff.2 (loopF_y hy (s2.2 b2))) rfl)
    ·exact bift rfl (bift (decF_iff.2 (loopF_y hy (s2.1 b2))) rfl)
  ·rw [decide_eq_false l2,Bool.false_and]
   exact bift (by simp; omega) rfl
 ·rw [decide_eq_false l1,Bool.false_and]
  exact bift (by simp; omega) rfl
def cs27:List Cne:=[⟨7,50⟩,⟨7,20⟩,⟨7,30⟩]
theorem exT:ToldOk P42 G42 27 [] (stN cs27 []):=by
 have t:=stepC_told hm42 hn42 none_ok (k27 0)
 exact t.frz.aggTo (.cons (.new (simB_sim 2 _ _ (by kernel_rfl))) (.cons (.niln _ _ _ (.inr rfl)) .nil))
open Go.Proofs
def ha27:List Hld:=[⟨1,7,60⟩]
def hb27:List Hld:=[⟨1,7,15⟩]
def cb27:List Cne:=[⟨7,50⟩,⟨7,5⟩]
theorem val27:Valid cs27 []:=⟨by decide,by decide,fun c hc=>by simp [cs27] at hc; rcases hc with rfl | rfl | rfl <;> rfl,fun c hc=>(by cases hc),List.Pairwise.nil,fun x=>by
 simp only [frF,cnN,hdN,cs27]
 split <;> omega⟩
theorem val27a:Valid cs27 ha27:=⟨by decide,by decide,fun c hc=>by simp [cs27] at hc; rcases hc with rfl | rfl | rfl <;> rfl,fun c hc=>by simp [ha27] at hc; subst hc; rfl,by simp [ascP,ha27],fun x=>by
 simp only [frF,cnN,hdN,cs27,ha27]
 split <;> omega⟩
theorem val27b:Valid cb27 hb27:=⟨by decide,by decide,fun c hc=>by simp [cb27] at hc; rcases hc with rfl | rfl <;> rfl,fun c hc=>by simp [hb27] at hc; subst hc; rfl,by simp [ascP,hb27],fun x=>by
 simp only [frF,cnN,hdN,cb27,hb27]
 split <;> omega⟩
theorem val27c:Valid cb27 []:=⟨by decide,by decide,fun c hc=>by simp [cb27] at hc; rcases hc with rfl | rfl <;> rfl,fun c hc=>(by cases hc),List.Pairwise.nil,fun x=>by
 simp only [frF,cnN,hdN,cb27]
 split <;> omega⟩
theorem mg27:mgL [] ha27 = ha27:=mgL_eq (fun c hc=>(by cases hc)) (fun c hc=>by simp [ha27] at hc; subst hc; exact ⟨by decide,by decide⟩) (by decide) (by decide) (by simp [ascP,ha27]) (fun c hc=>by simp [ha27] at hc; subst hc; decide) fun o a=>by simp [kS]
theorem m1:ToldOk P42 G42 8 [.agg [cnV cs27 none,hdV [] none],hdV ha27 none] (.tup [stN cs27 ha27,.int .i64 0]):=by
 have t:=reserveT cs27 [] ha27 (by decide) (by decide) (by decide)
 have hl:∀ c,c ∈ ha27->hvB c = true:=fun c hc=>by simp [ha27] at hc; subst hc; rfl
 rcases rsv_is val27 hl (by decide) with ⟨⟨x,hx⟩,_⟩ | ⟨_,e⟩
 ·exfalso
  revert hx
  simp only [frF,cnN,hdN,cs27,ha27]
  split <;> omega
 ·rw [mg27,if_neg (by rw [show bigOk ha27 = true from rfl]; simp),if_neg (by decide)] at e
  rw [e] at t
  exact t
theorem m2:ToldOk P42 G42 8 [.agg [cnV cs27 none,hdV ha27 none],hdV [⟨2,7,41⟩] none] (.tup [stN [] [],.int .i64 18]):=by
 have t:=reserveT cs27 ha27 [⟨2,7,41⟩] (by decide) (by decide) (by decide)
 have hl:∀ c,c ∈ [(⟨2,7,41⟩:Hld)]->hvB c = true:=fun c hc=>by simp at hc; subst hc; rfl
 rcases rsv_is val27a hl (by decide) with ⟨_,e⟩ | ⟨h,_⟩
 ·rw [e] at t
  exact t
 ·exact absurd (h 7) (by decide)
theorem m3:ToldOk P42 G42 15 [.agg [cnV cs27 none,hdV ha27 none],hdV [⟨2,7,41⟩] none] (.new (cnV [⟨7,1⟩] (some 1))):=by
 have hl:∀ c,c ∈ [(⟨2,7,41⟩:Hld)]->hvB c = true:=fun c hc=>by simp at hc; subst hc; rfl
 have t:=needT cs27 ha27 [⟨2,7,41⟩] (by decide) (by decide) (by decide) (lOk_iff.2 hl)
 rw [needO_is val27a hl (by decide),show needL (misF cs27 ha27 [⟨2,7,41⟩]) = [⟨7,1⟩] from by kernel_rfl] at t
 exact t
theorem fr27 {cs:List Cne} {hs:List Hld} (h:Valid cs hs) {z:Int} (e:frF cs hs 7 = z):ToldOk P42 G42 12 [.agg [cnV cs none,hdV hs none],.int .i64 7] (.int .i64 z):=by
 have t:=freeOT cs hs 7 (by have:=h.cl; omega) (by have:=h.hl; omega)
 unfold freeO at t
 rw [if_neg (by rw [ckE_iff.2 h]; simp),e] at t
 exact t
theorem m4:ToldOk P42 G42 17 [.agg [cnV cb27 none,hdV hb27 none],.int .i64 1] (.tup [stV cb27 [],.int .i64 0]):=by
 have t:=releaseT cb27 hb27 1 (by decide) (by decide)
 unfold relO at t
 rw [if_neg (by rw [ckE_iff.2 val27b]; simp),show fltTo 1 hb27 hb27.length = [] from rfl,if_neg (by decide)] at t
 exact t
theorem m5:ToldOk P42 G42 11 [.agg [cnV cs27 none,hdV ha27 none],.int .i64 1,.int .i64 7,.int .i64 45] (.tup [stV cb27 hb27,.int .i64 1,.int .i64 0]):=by
 obtain ⟨cs2,hs2,kn,e,h,t⟩:=useT cs27 ha27 1 7 45 (by decide) (by decide)
 have h0:=ckE_iff.2 val27a
 rcases h with ⟨q,_⟩ | ⟨_,q,_⟩ | ⟨_,_,i,hA,h⟩
 ·exact absurd h0 q
 ·cases q
 ·have hA0:At ha27 ⟨1,7,45⟩ 0:=by
   refine ⟨by decide,fun k hk=>absurd hk (Nat.not_lt_zero _),fun k _ hk=>?_⟩
   have hk:k<1:=hk
   obtain rfl:k = 0:=by omega
   decide
  obtain rfl:=hA.unique hA0
  rcases h with ⟨q,_⟩ | ⟨_,_,⟨q,_⟩ | ⟨_,hC,h2,h3⟩⟩
  ·exact absurd ⟨by decide,by decide⟩ q
  ·exact absurd q (by decide)
  ·have hc:=cutN_of hC 4 (by decide)
   have hc2:cutN 7 4 cs27 45 (-1) = (cb27,1):=by kernel_rfl
   rw [hc2] at hc
   obtain ⟨rfl,rfl⟩:=Prod.mk.inj hc
   rw [h2,h3] at t
   exact t
theorem m6:ToldOk P42 G42 11 [.agg [cnV cb27 none,hdV hb27 none],.int .i64 1,.int .i64 7,.int .i64 16] (.tup [stV [] [],.int .i64 0,.int .i64 18]):=by
 obtain ⟨cs2,hs2,kn,e,h,t⟩:=useT cb27 hb27 1 7 16 (by decide) (by decide)
 have h0:=ckE_iff.2 val27b
 rcases h with ⟨q,_⟩ | ⟨_,q,_⟩ | ⟨_,_,i,hA,h⟩
 ·exact absurd h0 q
 ·cases q
 ·have hA0:At hb27 ⟨1,7,16⟩ 0:=by
   refine ⟨by decide,fun k hk=>absurd hk (Nat.not_lt_zero _),fun k _ hk=>?_⟩
   have hk:k<1:=hk
   obtain rfl:k = 0:=by omega
   decide
  obtain rfl:=hA.unique hA0
  rcases h with ⟨q,_⟩ | ⟨_,_,⟨_,rfl,rfl,rfl,rfl⟩ | ⟨q,_⟩⟩
  ·exact absurd ⟨by decide,by decide⟩ q
  ·exact t
  ·exact absurd q (by decide)
open Go.Proofs
def mm42:Memo:=[(27,[],stN cs27 []),(8,[.agg [cnV cs27 none,hdV [] none],hdV ha27 none],.tup [stN cs27 ha27,.int .i64 0]),(8,[.agg [cnV cs27 none,hdV ha27 none],hdV [⟨2,7,41⟩] none],.tup [stN [] [],.int .i64 18]),
 (15,[.agg [cnV cs27 none,hdV ha27 none],hdV [⟨2,7,41⟩] none],.new (cnV [⟨7,1⟩] (some 1))),(11,[.agg [cnV cs27 none,hdV ha27 none],.int .i64 1,.int .i64 7,.int .i64 45],.tup [stV cb27 hb27,.int .i64 1,.int .i64 0]),
 (11,[.agg [cnV cb27 none,hdV hb27 none],.int .i64 1,.int .i64 7,.int .i64 16],.tup [stV [] [],.int .i64 0,.int .i64 18]),(17,[.agg [cnV cb27 none,hdV hb27 none],.int .i64 1],.tup [stV cb27 [],.int .i64 0]),
 (12,[.agg [cnV cs27 none,hdV [] none],.int .i64 7],.int .i64 100),(12,[.agg [cnV cs27 none,hdV ha27 none],.int .i64 7],.int .i64 40),(12,[.agg [cnV cb27 none,hdV [] none],.int .i64 7],.int .i64 55),
 (19,[stV cb27 hb27,.agg (sA cb27 hb27 none none)],.bool true)]
theorem m7:ToldOk P42 G42 19 [stV cb27 hb27,.agg (sA cb27 hb27 none none)] (.bool true):=by
 have t:=sameT cb27 cb27 hb27 hb27 (by decide) (by decide)
 rwa [smB_iff.2 ⟨rfl,rfl⟩] at t
theorem mm42_ok:MemoOk P42 G42 mm42:=⟨exT,m1,m2,m3,m5,m6,m4,fr27 val27 (by decide),fr27 val27a (by decide),fr27 val27c (by decide),m7,trivial⟩
theorem livesT:ToldOk P42 G42 9 [] (.bool true):=stepV_told hm42 hn42 (memoO_ok mm42_ok none_ok) (K:=memoO 3 mm42 noneO) (A:=A42) (m:=0) (by kernel_rfl)
open Go.Proofs
section
variable {Hp:Type}
end
end Go.Ab

