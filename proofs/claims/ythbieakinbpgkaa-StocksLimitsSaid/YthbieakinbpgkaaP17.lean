/- A part of the proof: nothing is assumed. -/
import Derived.Test.YthbieakinbpgkaaP15
import Derived.Test.YthbieakinbpgkaaP16
import Derived.Test.YthbieakinbpgkaaP5
import Derived.Test.YthbieakinbpgkaaP4
set_option linter.all false
namespace Go.Ab
open Go.Proofs
def sA (cs:List Cne) (hs:List Hld) (c d:Option Nat):List T:=[cnV cs c,hdV hs d]
def v19a (cs cs2:List Cne) (hs hs2:List Hld) (i:Nat):List T:=[.reg (sA cs hs (some cs.length) (some hs.length)),.reg (sA cs2 hs2 none none),.int .i64 i]
def w19a (cs cs2:List Cne) (hs hs2:List Hld) (x:T):List T:=[.reg (sA cs hs (some cs.length) (some hs.length)),.reg (sA cs2 hs2 none none),x]
theorem i19a (cs cs2:List Cne) (hs hs2:List Hld) (i:Nat):iterR P42 G42 A42 noneO 0 19 [] 4 (v19a cs cs2 hs hs2 i) [] =
(
 bif decide (Int.ofNat i<Int.ofNat cs.length) then
 bif decide (0<=Int.ofNat i)&&decide (Int.ofNat i<Int.ofNat cs.length) then
 bif decide (0<=Int.ofNat i)&&decide (Int.ofNat i<Int.ofNat cs2.length) then
 bif decide ((cs.getD i (Cne.mk (0:Int) (0:Int))).a = (cs2.getD i (Cne.mk (0:Int) (0:Int))).a) then
 bif decide ((cs.getD i (Cne.mk (0:Int) (0:Int))).l = (cs2.getD i (Cne.mk (0:Int) (0:Int))).l) then
 some ((.normal,[.reg (sA cs hs (some cs.length) (some hs.length)),.reg (sA cs2 hs2
 none
 none),.int .i64 (IntKind.i64.wrap (Int.ofNat i+1))],[]))
 else
 some ((.ret,[.reg (sA cs hs (some cs.length) (some hs.length)),.reg (sA cs2 hs2
 none
 none),.bool false],[]))
 else
 some ((.ret,[.reg (sA cs hs (some cs.length) (some hs.length)),.reg (sA cs2 hs2
 none
 none),.bool false],[]))
 else none else none else
 some ((.exit 0,[.reg (sA cs hs (some cs.length) (some hs.length)),.reg (sA cs2 hs2
 none
 none),.undef],[]))):=by kernel_rfl
theorem i19b (cs cs2:List Cne) (hs hs2:List Hld) (i:Nat):iterR P42 G42 A42 noneO 0 19 [] 9 (v19a cs cs2 hs hs2 i) [] =
(
 bif decide (Int.ofNat i<Int.ofNat hs.length) then
 bif decide (0<=Int.ofNat i)&&decide (Int.ofNat i<Int.ofNat hs.length) then
 bif decide (0<=Int.ofNat i)&&decide (Int.ofNat i<Int.ofNat hs2.length) then
 bif decide ((hs.getD i (Hld.mk (0:Int) (0:Int) (0:Int))).o = (hs2.getD i (Hld.mk (0:Int) (0:Int) (0:Int))).o) then
 bif decide ((hs.getD i (Hld.mk (0:Int) (0:Int) (0:Int))).a = (hs2.getD i (Hld.mk (0:Int) (0:Int) (0:Int))).a) then
 bif decide ((hs.getD i (Hld.mk (0:Int) (0:Int) (0:Int))).l = (hs2.getD i (Hld.mk (0:Int) (0:Int) (0:Int))).l) then
 some ((.normal,[.reg (sA cs hs (some cs.length) (some hs.length)),.reg (sA cs2 hs2
 none
 none),.int .i64 (IntKind.i64.wrap (Int.ofNat i+1))],[]))
 else
 some ((.ret,[.bool false],[]))
 else
 some ((.ret,[.bool false],[]))
 else
 some ((.ret,[.bool false],[]))
 else none else none else
 some ((.exit 2,[.undef],[]))):=by kernel_rfl
theorem k19 (cs cs2:List Cne) (hs hs2:List Hld) (b1 b2:Bool) (x y:List T->Heap->Ex->List T->Heap->Prop):stepL P42 G42 A42 noneO 0 19 [(4,loopF x (.ite b1 (.ret (.exit 0) (w19a cs cs2 hs hs2 .undef) []) (.ret .ret (w19a cs cs2 hs hs2 (.bool false)) []))),(9,loopF y (.ite b2 (.ret (.exit 2) [.undef] []) (.ret .ret [.bool false] [])))] [.agg (sA cs hs (some cs.length) (some hs.length)),.agg (sA cs2 hs2 none none)] =
(
 bif !decide (Int.ofNat cs.length = Int.ofNat cs2.length) then
 some (.bool false)
 else
 bif !decide (Int.ofNat hs.length = Int.ofNat hs2.length) then
 some (.bool false)
 else
 bif !decide (Int.ofNat cs.length = Int.ofNat cs.length) then
 some (.bool false)
 else
 bif !decide (Int.ofNat hs.length = Int.ofNat hs.length) then
 some (.bool false)
 else
 bif b1 then
 bif decF (x (v19a cs cs2 hs hs2 (nat_lit 0)) [] (.exit 0) [.reg (sA cs hs (some cs.length) (some hs.length)),.reg (sA cs2 hs2
 none
 none),.undef] []) then
 bif b2 then
 bif decF (y (v19a cs cs2 hs hs2 (nat_lit 0)) [] (.exit 2) [.undef] []) then
 some (.bool true)
 else none else
 bif decF (y (v19a cs cs2 hs hs2 (nat_lit 0)) [] .ret [.bool false] []) then
 some (.bool false)
 else none else none else
 bif decF (x (v19a cs cs2 hs hs2 (nat_lit 0)) [] .ret [.reg (sA cs hs (some cs.length) (some hs.length)),.reg (sA cs2 hs2
 none
 none),.bool false] []) then
 some (.bool false)
 else
 none):=by kernel_rfl
theorem k27 (x:Nat):stepC P42 G42 A42 noneO 0 27 [] =
(
 some (.agg [.fresh true (2:Nat) (3:Nat) (fun j=>[[T.int .i64 (7:Int),T.int .i64 (50:Int)],[T.int .i64 (7:Int),T.int .i64 (20:Int)],[T.int .i64 (7:Int),T.int .i64 (30:Int)]].getD j []) (3:Nat) (some 3),.nils])):=by kernel_rfl
def ceq (x y:Cne):Bool:=decide (x.a = y.a)&&decide (x.l = y.l)
def heq (x y:Hld):Bool:=decide (x.o = y.o)&&(decide (x.a = y.a)&&decide (x.l = y.l))
def csEq (cs cs2:List Cne):Bool:=allB (fun i=>ceq (cs.getD i cn0) (cs2.getD i cn0)) cs.length
def hsEq (hs hs2:List Hld):Bool:=allB (fun i=>heq (hs.getD i hd0) (hs2.getD i hd0)) hs.length
def smB (cs cs2:List Cne) (hs hs2:List Hld):Bool:=decide (cs.length = cs2.length)&&(decide (hs.length = hs2.length)&&(csEq cs cs2&&hsEq hs hs2))
theorem ceq_iff {x y:Cne}:ceq x y = true ↔ x = y:=by
 cases x; cases y
 simp [ceq]
theorem heq_iff {x y:Hld}:heq x y = true ↔ x = y:=by
 cases x; cases y
 simp [heq]
theorem eq_getD {α:Type} {l m:List α} (d:α) (hl:l.length = m.length) (h:∀ i,i<l.length->l.getD i d = m.getD i d):l = m:=by
 refine List.ext_getElem hl fun i h1 h2=>?_
 have:=h i h1
 simpa [List.getD_eq_getElem?_getD,List.getElem?_eq_getElem h1,List.getElem?_eq_getElem h2] using this
theorem smB_iff {cs cs2:List Cne} {hs hs2:List Hld}:smB cs cs2 hs hs2 = true ↔ cs = cs2/\hs = hs2:=by
 unfold smB
 simp only [Bool.and_eq_true,decide_eq_true_eq]
 constructor
 ·rintro ⟨h1,h2,h3,h4⟩
  exact ⟨eq_getD cn0 h1 fun i hi=>ceq_iff.1 ((allB_iff _ _).1 h3 i hi),eq_getD hd0 h2 fun i hi=>heq_iff.1 ((allB_iff _ _).1 h4 i hi)⟩
 ·rintro ⟨rfl,rfl⟩
  exact ⟨rfl,rfl,(allB_iff _ _).2 fun i _=>ceq_iff.2 rfl,(allB_iff _ _).2 fun i _=>heq_iff.2 rfl⟩
theorem scan19a (cs cs2:List Cne) (hs hs2:List Hld) (hn:cs.length<=900000) (hl:cs.length = cs2.length):(csEq cs cs2 = true->LoopOk P42 G42 (A42 19) 19 4 (litS (v19a cs cs2 hs hs2 0) [] (.exit 0) (w19a cs cs2 hs hs2 .undef) []))/\(csEq cs cs2 = false->LoopOk P42 G42 (A42 19) 19 4 (litS (v19a cs cs2 hs hs2 0) [] .ret (w19a cs cs2 hs hs2 (.bool false)) [])):=by
 have key:∀ i,i<cs.length->iterR P42 G42 A42 noneO 0 19 [] 4 (v19a cs cs2 hs hs2 i) [] = if ceq (cs.getD i cn0) (cs2.getD i cn0) = true then some (.normal,v19a cs cs2 hs hs2 (i+1),[]) else some (.ret,w19a cs cs2 hs hs2 (.bool false),[]):=fun i hi=>by
  rw [i19a,up1 (by omega),show (⟨0,0⟩:Cne) = cn0 from rfl]
  refine BT (BT (BT ?_))
  unfold ceq
  cases decide ((cs.getD i cn0).a = (cs2.getD i cn0).a) <;> cases decide ((cs.getD i cn0).l = (cs2.getD i cn0).l) <;> rfl
 refine loop_scan hm42 (by kernel_rfl) (fun i=>v19a cs cs2 hs hs2 i) (fun _=>[]) (fun i=>ceq (cs.getD i cn0) (cs2.getD i cn0)) (n:=cs.length) (fun i hi _ hg=>?_) (fun i hi _ hg=>?_) (fun _=>?_)
 ·exact Step.mk0 (A:=A42) (m:=0) none_ok rfl rfl loops0 (h1:=[]) ((key i hi).trans (by rw [hg]; rfl)) .nil
 ·exact Last.mk0 (A:=A42) (m:=0) none_ok rfl rfl loops0 (h1:=[]) (by simp) ((key i hi).trans (by rw [hg]; rfl)) .nil
 ·refine Last.mk0 (A:=A42) (m:=0) none_ok rfl rfl loops0 (h1:=[]) (by simp) ?_ .nil
  rw [i19a]
  exact BF rfl
theorem scan19b (cs cs2:List Cne) (hs hs2:List Hld) (hn:hs.length<=900000) (hl:hs.length = hs2.length):(hsEq hs hs2 = true->LoopOk P42 G42 (A42 19) 19 9 (litS (v19a cs cs2 hs hs2 0) [] (.exit 2) [.undef] []))/\(hsEq hs hs2 = false->LoopOk P42 G42 (A42 19) 19 9 (litS (v19a cs cs2 hs hs2 0) [] .ret [.bool false] [])):=by
 have key:∀ i,i<hs.length->iterR P42 G42 A42 noneO 0 19 [] 9 (v19a cs cs2 hs hs2 i) [] = if heq (hs.getD i hd0) (hs2.getD i hd0) = true then some (.normal,v19a cs cs2 hs hs2 (i+1),[]) else some (.ret,[.bool false],[]):=fun i hi=>by
  rw [i19b,up1 (by omega),show (⟨0,0,0⟩:Hld) = hd0 from rfl]
  refine BT (BT (BT ?_))
  unfold heq
  cases decide ((hs.getD i hd0).o = (hs2.getD i hd0).o) <;> cases decide ((hs.getD i hd0).a = (hs2.getD i hd0).a) <;> cases decide ((hs.getD i hd0).l = (hs2.getD i hd0).l) <;> rfl
 refine loop_scan hm42 (by kernel_rfl) (fun i=>v19a cs cs2 hs hs2 i) (fun _=>[]) (fun i=>heq (hs.getD i hd0) (hs2.getD i hd0)) (n:=hs.length) (fun i hi _ hg=>?_) (fun i hi _ hg=>?_) (fun _=>?_)
 ·exact Step.mk0 (A:=A42) (m:=0) none_ok rfl rfl loops0 (h1:=[]) ((key i hi).trans (by rw [hg]; rfl)) .nil
 ·exact Last.mk0 (A:=A42) (m:=0) none_ok rfl rfl loops0 (h1:=[]) (by simp) ((key i hi).trans (by rw [hg]; rfl)) .nil
 ·refine Last.mk0 (A:=A42) (m:=0) none_ok rfl rfl loops0 (h1:=[]) (by simp) ?_ .nil
  rw [i19b]
  exact BF rfl
theorem sameT (cs cs2:List Cne) (hs hs2:List Hld) (n1:cs.length<=900000) (n2:hs.length<=900000):ToldOk P42 G42 19 [stV cs hs,.agg (sA cs2 hs2 none none)] (.bool (smB cs cs2 hs hs2)):=by
 obtain ⟨x,hx⟩:=is_loop P42 G42 (A42 19) 19 4
 obtain ⟨y,hy⟩:=is_loop P42 G42 (A42 19) 19 9
 refine stepL_told hm42 hn42 none_ok (A:=A42) (m:=0) (K:=noneO) (by kernel_rfl) (loopsC (loopF_ok hx _) (loops1 (loopF_ok hy _))) ((k19 cs cs2 hs hs2 (csEq cs cs2) (hsEq hs hs2) x y).trans ?_)
 unfold smB
 by_cases l1:cs.length = cs2.length
 ·have s1:=scan19a cs cs2 hs hs2 n1 l1
  refine biff (by simp [l1]) ?_
  rw [decide_eq_true l1,Bool.true_and]
  by_cases l2:hs.length = hs2.length
  ·have s2:=scan19b cs cs2 hs hs2 n2 l2
   refine biff (by simp [l2]) (biff (by simp) (biff (by simp) ?_))
   rw [decide_eq_true l2,Bool.true_and]
   cases b1:csEq cs cs2
   ·exact biff (by simp) (bift (decF_iff.2 (loopF_y hx (s1.2 b1))) rfl)
   ·refine bift rfl (bift (decF_iff.2 (loopF_y hx (s1.1 b1))) ?_)
    cases b2:hsEq hs hs2
    ·exact biff (by simp) (bift (decF_iff.2 (loopF_y hy (s2.2 b2))) rfl)
    ·exact bift rfl (bift (decF_iff.2 (loopF_y hy (s2.1 b2))) rfl)
  ·rw [decide_eq_false l2,Bool.false_and]
   exact bift (by simp; omega) rfl
 ·rw [decide_eq_false l1,Bool.false_and]
  exact bift (by simp; omega) rfl
def cs27:List Cne:=[⟨7,50⟩,⟨7,20⟩,⟨7,30⟩]
theorem exT:ToldOk P42 G42 27 [] (stN cs27 []):=by
 have t:=stepC_told hm42 hn42 none_ok (k27 0)
 exact t.frz.aggTo (.cons (.new (simB_sim 2 _ _ (by kernel_rfl))) (.cons (.niln _ _ _ (.inr rfl)) .nil))
open Go.Proofs
def ha27:List Hld:=[⟨1,7,60⟩]
def hb27:List Hld:=[⟨1,7,15⟩]
def cb27:List Cne:=[⟨7,50⟩,⟨7,5⟩]
theorem val27:Valid cs27 []:=⟨by decide,by decide,fun c hc=>by simp [cs27] at hc; rcases hc with rfl | rfl | rfl <;> rfl,fun c hc=>(by cases hc),List.Pairwise.nil,fun x=>by
 simp only [frF,cnN,hdN,cs27]
 split <;> omega⟩
theorem val27a:Valid cs27 ha27:=⟨by decide,by decide,fun c hc=>by simp [cs27] at hc; rcases hc with rfl | rfl | rfl <;> rfl,fun c hc=>by simp [ha27] at hc; subst hc; rfl,by simp [ascP,ha27],fun x=>by
 simp only [frF,cnN,hdN,cs27,ha27]
 split <;> omega⟩
theorem val27b:Valid cb27 hb27:=⟨by decide,by decide,fun c hc=>by simp [cb27] at hc; rcases hc with rfl | rfl <;> rfl,fun c hc=>by simp [hb27] at hc; subst hc; rfl,by simp [ascP,hb27],fun x=>by
 simp only [frF,cnN,hdN,cb27,hb27]
 split <;> omega⟩
theorem val27c:Valid cb27 []:=⟨by decide,by decide,fun c hc=>by simp [cb27] at hc; rcases hc with rfl | rfl <;> rfl,fun c hc=>(by cases hc),List.Pairwise.nil,fun x=>by
 simp only [frF,cnN,hdN,cb27]
 split <;> omega⟩
theorem mg27:mgL [] ha27 = ha27:=mgL_eq (fun c hc=>(by cases hc)) (fun c hc=>by simp [ha27] at hc; subst hc; exact ⟨by decide,by decide⟩) (by decide) (by decide) (by simp [ascP,ha27]) (fun c hc=>by simp [ha27] at hc; subst hc; decide) fun o a=>by simp [kS]
theorem m1:ToldOk P42 G42 8 [.agg [cnV cs27 none,hdV [] none],hdV ha27 none] (.tup [stN cs27 ha27,.int .i64 0]):=by
 have t:=reserveT cs27 [] ha27 (by decide) (by decide) (by decide)
 have hl:∀ c,c ∈ ha27->hvB c = true:=fun c hc=>by simp [ha27] at hc; subst hc; rfl
 rcases rsv_is val27 hl (by decide) with ⟨⟨x,hx⟩,_⟩ | ⟨_,e⟩
 ·exfalso
  revert hx
  simp only [frF,cnN,hdN,cs27,ha27]
  split <;> omega
 ·rw [mg27,if_neg (by rw [show bigOk ha27 = true from rfl]; simp),if_neg (by decide)] at e
  rw [e] at t
  exact t
theorem m2:ToldOk P42 G42 8 [.agg [cnV cs27 none,hdV ha27 none],hdV [⟨2,7,41⟩] none] (.tup [stN [] [],.int .i64 18]):=by
 have t:=reserveT cs27 ha27 [⟨2,7,41⟩] (by decide) (by decide) (by decide)
 have hl:∀ c,c ∈ [(⟨2,7,41⟩:Hld)]->hvB c = true:=fun c hc=>by simp at hc; subst hc; rfl
 rcases rsv_is val27a hl (by decide) with ⟨_,e⟩ | ⟨h,_⟩
 ·rw [e] at t
  exact t
 ·exact absurd (h 7) (by decide)
theorem m3:ToldOk P42 G42 15 [.agg [cnV cs27 none,hdV ha27 none],hdV [⟨2,7,41⟩] none] (.new (cnV [⟨7,1⟩] (some 1))):=by
 have hl:∀ c,c ∈ [(⟨2,7,41⟩:Hld)]->hvB c = true:=fun c hc=>by simp at hc; subst hc; rfl
 have t:=needT cs27 ha27 [⟨2,7,41⟩] (by decide) (by decide) (by decide) (lOk_iff.2 hl)
 rw [needO_is val27a hl (by decide),show needL (misF cs27 ha27 [⟨2,7,41⟩]) = [⟨7,1⟩] from by kernel_rfl] at t
 exact t
theorem fr27 {cs:List Cne} {hs:List Hld} (h:Valid cs hs) {z:Int} (e:frF cs hs 7 = z):ToldOk P42 G42 12 [.agg [cnV cs none,hdV hs none],.int .i64 7] (.int .i64 z):=by
 have t:=freeOT cs hs 7 (by have:=h.cl; omega) (by have:=h.hl; omega)
 unfold freeO at t
 rw [if_neg (by rw [ckE_iff.2 h]; simp),e] at t
 exact t
theorem m4:ToldOk P42 G42 17 [.agg [cnV cb27 none,hdV hb27 none],.int .i64 1] (.tup [stV cb27 [],.int .i64 0]):=by
 have t:=releaseT cb27 hb27 1 (by decide) (by decide)
 unfold relO at t
 rw [if_neg (by rw [ckE_iff.2 val27b]; simp),show fltTo 1 hb27 hb27.length = [] from rfl,if_neg (by decide)] at t
 exact t
theorem m5:ToldOk P42 G42 11 [.agg [cnV cs27 none,hdV ha27 none],.int .i64 1,.int .i64 7,.int .i64 45] (.tup [stV cb27 hb27,.int .i64 1,.int .i64 0]):=by
 obtain ⟨cs2,hs2,kn,e,h,t⟩:=useT cs27 ha27 1 7 45 (by decide) (by decide)
 have h0:=ckE_iff.2 val27a
 rcases h with ⟨q,_⟩ | ⟨_,q,_⟩ | ⟨_,_,i,hA,h⟩
 ·exact absurd h0 q
 ·cases q
 ·have hA0:At ha27 ⟨1,7,45⟩ 0:=by
   refine ⟨by decide,fun k hk=>absurd hk (Nat.not_lt_zero _),fun k _ hk=>?_⟩
   have hk:k<1:=hk
   obtain rfl:k = 0:=by omega
   decide
  obtain rfl:=hA.unique hA0
  rcases h with ⟨q,_⟩ | ⟨_,_,⟨q,_⟩ | ⟨_,hC,h2,h3⟩⟩
  ·exact absurd ⟨by decide,by decide⟩ q
  ·exact absurd q (by decide)
  ·have hc:=cutN_of hC 4 (by decide)
   have hc2:cutN 7 4 cs27 45 (-1) = (cb27,1):=by kernel_rfl
   rw [hc2] at hc
   obtain ⟨rfl,rfl⟩:=Prod.mk.inj hc
   rw [h2,h3] at t
   exact t
theorem m6:ToldOk P42 G42 11 [.agg [cnV cb27 none,hdV hb27 none],.int .i64 1,.int .i64 7,.int .i64 16] (.tup [stV [] [],.int .i64 0,.int .i64 18]):=by
 obtain ⟨cs2,hs2,kn,e,h,t⟩:=useT cb27 hb27 1 7 16 (by decide) (by decide)
 have h0:=ckE_iff.2 val27b
 rcases h with ⟨q,_⟩ | ⟨_,q,_⟩ | ⟨_,_,i,hA,h⟩
 ·exact absurd h0 q
 ·cases q
 ·have hA0:At hb27 ⟨1,7,16⟩ 0:=by
   refine ⟨by decide,fun k hk=>absurd hk (Nat.not_lt_zero _),fun k _ hk=>?_⟩
   have hk:k<1:=hk
   obtain rfl:k = 0:=by omega
   decide
  obtain rfl:=hA.unique hA0
  rcases h with ⟨q,_⟩ | ⟨_,_,⟨_,rfl,rfl,rfl,rfl⟩ | ⟨q,_⟩⟩
  ·exact absurd ⟨by decide,by decide⟩ q
  ·exact t
  ·exact absurd q (by decide)
open Go.Proofs
def mm42:Memo:=[(27,[],stN cs27 []),(8,[.agg [cnV cs27 none,hdV [] none],hdV ha27 none],.tup [stN cs27 ha27,.int .i64 0]),(8,[.agg [cnV cs27 none,hdV ha27 none],hdV [⟨2,7,41⟩] none],.tup [stN [] [],.int .i64 18]),
 (15,[.agg [cnV cs27 none,hdV ha27 none],hdV [⟨2,7,41⟩] none],.new (cnV [⟨7,1⟩] (some 1))),(11,[.agg [cnV cs27 none,hdV ha27 none],.int .i64 1,.int .i64 7,.int .i64 45],.tup [stV cb27 hb27,.int .i64 1,.int .i64 0]),
 (11,[.agg [cnV cb27 none,hdV hb27 none],.int .i64 1,.int .i64 7,.int .i64 16],.tup [stV [] [],.int .i64 0,.int .i64 18]),(17,[.agg [cnV cb27 none,hdV hb27 none],.int .i64 1],.tup [stV cb27 [],.int .i64 0]),
 (12,[.agg [cnV cs27 none,hdV [] none],.int .i64 7],.int .i64 100),(12,[.agg [cnV cs27 none,hdV ha27 none],.int .i64 7],.int .i64 40),(12,[.agg [cnV cb27 none,hdV [] none],.int .i64 7],.int .i64 55),
 (19,[stV cb27 hb27,.agg (sA cb27 hb27 none none)],.bool true)]
theorem m7:ToldOk P42 G42 19 [stV cb27 hb27,.agg (sA cb27 hb27 none none)] (.bool true):=by
 have t:=sameT cb27 cb27 hb27 hb27 (by decide) (by decide)
 rwa [smB_iff.2 ⟨rfl,rfl⟩] at t
theorem mm42_ok:MemoOk P42 G42 mm42:=⟨exT,m1,m2,m3,m5,m6,m4,fr27 val27 (by decide),fr27 val27a (by decide),fr27 val27c (by decide),m7,trivial⟩
theorem livesT:ToldOk P42 G42 9 [] (.bool true):=stepV_told hm42 hn42 (memoO_ok mm42_ok none_ok) (K:=memoO 3 mm42 noneO) (A:=A42) (m:=0) (by kernel_rfl)
open Go.Proofs
def csL:List Cne:=[⟨1,1000000000⟩,⟨1,1000000000⟩]
def tabL:Blk:=⟨0,2,2,fun j=>[[.int .i64 1,.int .i64 1000000000],[.int .i64 1,.int .i64 1000000000]].getD j [],true,true,none⟩
def sL:T:=.reg [.own 0 0 0 2 (some 2),.nils]
def v3 (m:Int) (r:T) (i:Nat):List T:=[.int .u8 m,sL,r,.int .i64 i]
noncomputable def K3 (p8 p10:List T->T->Prop) (c1 c2:List Cne) (E1 E2:Int) (M1 M2:List Hld):Orc:=((noneO.add 9 fun a=>match a with | []=>.ret (.bool true) | _=>.none).add 8 (callF p8 fun a=>match a with | [_,.view _ n _ _]=>bif Nat.beq n 2 then some (.tup [stN c2 M2,.int .i64 E2]) else some (.tup [stN c1 M1,.int .i64 E1]) | _=>none)).add 10 (callF p10 fun _=>some (.int .i64 0))
def lF3 (i:Nat):Hld:=⟨1+(i:Int),1,2⟩
def w3 (m:Int) (k:Nat):List T:=[.int .u8 m,sL,.own 1 k 0 (k+1) none]
def hh3 (k:Nat):Heap:=[tabL,rowB k (k+1) lF3]
theorem i3a (m:Int) (i:Nat):iterR P42 G42 A42 noneO 0 3 [] 4 (v3 m .nils i) [tabL] =
(
 bif decide (Int.ofNat i<IntKind.i64.wrap (511+IntKind.i64.wrap (m.tmod 3))) then
 some ((.normal,[.int .u8 m,.reg [o33 (2:Nat) (2:Nat),.nils],.own 2 0 0 1
 none,.int .i64 (IntKind.i64.wrap (Int.ofNat i+1))],[.mk 0 2 2 (fun j=>[[T.int .i64 (1:Int),T.int .i64 (1000000000:Int)],[T.int .i64 (1:Int),T.int .i64 (1000000000:Int)]].getD j []) true true
 none,.mk 0 3 1 (fun j=>[[T.int .i64 (IntKind.i64.wrap ((1:Int)+Int.ofNat i)),T.int .i64 (1:Int),T.int .i64 (2:Int)]].getD j []) true true
 none,.mk 0 3 1 (fun j=>[[T.int .i64 (IntKind.i64.wrap ((1:Int)+Int.ofNat i)),T.int .i64 (1:Int),T.int .i64 (2:Int)]].getD (0+j) []) true false
 none]))
 else
 some ((.exit 0,[.int .u8 m,.reg [o33 (2:Nat) (2:Nat),.nils],.nils],[.mk 0 2 2 (fun j=>[[T.int .i64 (1:Int),T.int .i64 (1000000000:Int)],[T.int .i64 (1:Int),T.int .i64 (1000000000:Int)]].getD j []) true true
 none]))):=by kernel_rfl
theorem i3b (m:Int) (i k:Nat) (L:Nat->Hld):iterR P42 G42 A42 noneO 0 3 [] 4 (v3 m (.own 1 k 0 (k+1) none) i) [tabL,rowB k (k+1) L] =
(
 bif decide (Int.ofNat i<IntKind.i64.wrap (511+IntKind.i64.wrap (m.tmod 3))) then
 bif k==k&&true then
 bif ((0:Nat)+(k+(1:Nat))).ble (k+1) then
 bif ((k+(1:Nat)+(1:Nat)) * (25:Nat)).ble 70368744177664 then
 bif ((0:Nat)+(k+(1:Nat))+(1:Nat)).ble (k+1) then
 some ((.normal,[.int .u8 m,.reg [o33 (2:Nat) (2:Nat),.nils],.own 1 k 0 (k+1+(1:Nat))
 none,.int .i64 (IntKind.i64.wrap (Int.ofNat i+1))],[.mk 0 2 2 (fun j=>[[T.int .i64 (1:Int),T.int .i64 (1000000000:Int)],[T.int .i64 (1:Int),T.int .i64 (1000000000:Int)]].getD j []) true true
 none,.mk k 3 (k+1) (fun j =>
 bif ((0:Nat)+(k+(1:Nat))).ble j&&j.blt ((0:Nat)+(k+1)+(1:Nat)) then [[T.int .i64 (IntKind.i64.wrap ((1:Int)+Int.ofNat i)),T.int .i64 (1:Int),T.int .i64 (2:Int)]].getD ((0:Nat)+(j - ((0:Nat)+(k+1)))) []
 else (L j).c) true false
 none,.mk 0 3 1 (fun j=>[[T.int .i64 (IntKind.i64.wrap ((1:Int)+Int.ofNat i)),T.int .i64 (1:Int),T.int .i64 (2:Int)]].getD j []) true true
 none]))
 else
 some ((.normal,[.int .u8 m,.reg [o33 (2:Nat) (2:Nat),.nils],.own 1 (k+1) (0:Nat) (k+1+(1:Nat))
 none,.int .i64 (IntKind.i64.wrap (Int.ofNat i+1))],[.mk 0 2 2 (fun j=>[[T.int .i64 (1:Int),T.int .i64 (1000000000:Int)],[T.int .i64 (1:Int),T.int .i64 (1000000000:Int)]].getD j []) true true
 none,.mk (k+1) (3:Nat) (k+1+(1:Nat)) (fun j =>
 bif j.blt (k+1) then (L ((0:Nat)+j)).c
 else [[T.int .i64 (IntKind.i64.wrap ((1:Int)+Int.ofNat i)),T.int .i64 (1:Int),T.int .i64 (2:Int)]].getD ((0:Nat)+(j - (k+1))) []) true false
 none,.mk 0 3 1 (fun j=>[[T.int .i64 (IntKind.i64.wrap ((1:Int)+Int.ofNat i)),T.int .i64 (1:Int),T.int .i64 (2:Int)]].getD j []) true true
 none]))
 else none else none else none else
 some ((.exit 0,w3 m k,[.mk 0 2 2 (fun j=>[[T.int .i64 (1:Int),T.int .i64 (1000000000:Int)],[T.int .i64 (1:Int),T.int .i64 (1000000000:Int)]].getD j []) true true
 none,rowB k (k+1) L]))):=by kernel_rfl
theorem k3a (m:Int) (c1 c2:List Cne) (E1 E2:Int) (M1 M2:List Hld) (p8 p10:List T->T->Prop):stepL P42 G42 A42 (K3 p8 p10 c1 c2 E1 E2 M1 M2) 0 3 [(4,litS (v3 m .nils 0) [tabL] (.exit 0) (w3 m 510) (hh3 510))] [.int .u8 m] =
(
 bif weakF [.int .u8 m,.reg [o33 (2:Nat) (2:Nat),.nils],.nils,.int .i64 0] [.mk 0 2 2 (fun j=>[[T.int .i64 (1:Int),T.int .i64 (1000000000:Int)],[T.int .i64 (1:Int),T.int .i64 (1000000000:Int)]].getD j []) true true
 none] [.int .u8 m,.reg [o33 (2:Nat) (2:Nat),.nils],.nils,.int .i64 0] [.mk 0 2 2 (fun j=>[[T.int .i64 (1:Int),T.int .i64 (1000000000:Int)],[T.int .i64 (1:Int),T.int .i64 (1000000000:Int)]].getD j []) true true
 none] then
 bif decF (p8 [.agg [.view 2 2 (fun j=>[[T.int .i64 (1:Int),T.int .i64 (1000000000:Int)],[T.int .i64 (1:Int),T.int .i64 (1000000000:Int)]].getD (0+j) []) (some 2),.nils],.view 3 511 (fun j=>[.int .i64 (1+Int.ofNat (0+j)),.int .i64 1,.int .i64 2])
 none] (.tup [stN c1 M1,.int .i64 E1])) then
 bif decF (p8 [.agg [.view 2 2 (fun j=>[[T.int .i64 (1:Int),T.int .i64 (1000000000:Int)],[T.int .i64 (1:Int),T.int .i64 (1000000000:Int)]].getD (0+j) []) (some 2),.nils],.view 3 2 (fun j=>[[T.int .i64 (5:Int),T.int .i64 (1:Int),T.int .i64 (999999999:Int)],[T.int .i64 (5:Int),T.int .i64 (1:Int),T.int .i64 (IntKind.i64.wrap ((1:Int)+IntKind.i64.wrap (m.tmod (3:Int))))]].getD j []) (some 2)] (.tup [stN c2 M2,.int .i64 E2])) then
 bif decide (m.tmod 3 = 2) then
 bif decide (E1 = 9) then
 bif decide (Int.ofNat M1.length = 0) then
 bif decide (E2 = 3) then
 bif decide (Int.ofNat M2.length = 0) then
 some (.bool true)
 else
 some (.bool false)
 else
 some (.bool false)
 else
 some (.bool false)
 else
 some (.bool false)
 else
 bif !decide (E1 = 0) then
 some (.bool false)
 else
 bif !decide (Int.ofNat M1.length = IntKind.i64.wrap (511+IntKind.i64.wrap (m.tmod 3))) then
 some (.bool false)
 else
 bif decF (p10 [stV c1 M1] (.int .i64 0)) then
 bif decide (m.tmod 3 = 1) then
 bif decide (E2 = 3) then
 some (.bool true)
 else
 some (.bool false)
 else
 bif decide (E2 = 0) then
 bif decide (Int.ofNat M2.length = 1) then
 bif decide (0<Int.ofNat M2.length) then
 bif decide ((M2.getD (0:Nat) (Hld.mk (0:Int) (0:Int) (0:Int))).l = 1000000000) then
 bif decF (p10 [stV c2 M2] (.int .i64 0)) then
 some (.bool true)
 else none else
 some (.bool false)
 else none else
 some (.bool false)
 else
 some (.bool false)
 else none else none else none else
 none):=by kernel_rfl
theorem k3b (m:Int) (c1 c2:List Cne) (E1 E2:Int) (M1 M2:List Hld) (p8 p10:List T->T->Prop):stepL P42 G42 A42 (K3 p8 p10 c1 c2 E1 E2 M1 M2) 0 3 [(4,litS (v3 m .nils 0) [tabL] (.exit 0) (w3 m 511) (hh3 511))] [.int .u8 m] =
(
 bif weakF [.int .u8 m,.reg [o33 (2:Nat) (2:Nat),.nils],.nils,.int .i64 0] [.mk 0 2 2 (fun j=>[[T.int .i64 (1:Int),T.int .i64 (1000000000:Int)],[T.int .i64 (1:Int),T.int .i64 (1000000000:Int)]].getD j []) true true
 none] [.int .u8 m,.reg [o33 (2:Nat) (2:Nat),.nils],.nils,.int .i64 0] [.mk 0 2 2 (fun j=>[[T.int .i64 (1:Int),T.int .i64 (1000000000:Int)],[T.int .i64 (1:Int),T.int .i64 (1000000000:Int)]].getD j []) true true
 none] then
 bif decF (p8 [.agg [.view 2 2 (fun j=>[[T.int .i64 (1:Int),T.int .i64 (1000000000:Int)],[T.int .i64 (1:Int),T.int .i64 (1000000000:Int)]].getD (0+j) []) (some 2),.nils],.view 3 512 (fun j=>[.int .i64 (1+Int.ofNat (0+j)),.int .i64 1,.int .i64 2])
 none] (.tup [stN c1 M1,.int .i64 E1])) then
 bif decF (p8 [.agg [.view 2 2 (fun j=>[[T.int .i64 (1:Int),T.int .i64 (1000000000:Int)],[T.int .i64 (1:Int),T.int .i64 (1000000000:Int)]].getD (0+j) []) (some 2),.nils],.view 3 2 (fun j=>[[T.int .i64 (5:Int),T.int .i64 (1:Int),T.int .i64 (999999999:Int)],[T.int .i64 (5:Int),T.int .i64 (1:Int),T.int .i64 (IntKind.i64.wrap ((1:Int)+IntKind.i64.wrap (m.tmod (3:Int))))]].getD j []) (some 2)] (.tup [stN c2 M2,.int .i64 E2])) then
 bif decide (m.tmod 3 = 2) then
 bif decide (E1 = 9) then
 bif decide (Int.ofNat M1.length = 0) then
 bif decide (E2 = 3) then
 bif decide (Int.ofNat M2.length = 0) then
 some (.bool true)
 else
 some (.bool false)
 else
 some (.bool false)
 else
 some (.bool false)
 else
 some (.bool false)
 else
 bif !decide (E1 = 0) then
 some (.bool false)
 else
 bif !decide (Int.ofNat M1.length = IntKind.i64.wrap (511+IntKind.i64.wrap (m.tmod 3))) then
 some (.bool false)
 else
 bif decF (p10 [stV c1 M1] (.int .i64 0)) then
 bif decide (m.tmod 3 = 1) then
 bif decide (E2 = 3) then
 some (.bool true)
 else
 some (.bool false)
 else
 bif decide (E2 = 0) then
 bif decide (Int.ofNat M2.length = 1) then
 bif decide (0<Int.ofNat M2.length) then
 bif decide ((M2.getD (0:Nat) (Hld.mk (0:Int) (0:Int) (0:Int))).l = 1000000000) then
 bif decF (p10 [stV c2 M2] (.int .i64 0)) then
 some (.bool true)
 else none else
 some (.bool false)
 else none else
 some (.bool false)
 else
 some (.bool false)
 else none else none else none else
 none):=by kernel_rfl
theorem k3c (m:Int) (c1 c2:List Cne) (E1 E2:Int) (M1 M2:List Hld) (p8 p10:List T->T->Prop):stepL P42 G42 A42 (K3 p8 p10 c1 c2 E1 E2 M1 M2) 0 3 [(4,litS (v3 m .nils 0) [tabL] (.exit 0) (w3 m 512) (hh3 512))] [.int .u8 m] =
(
 bif weakF [.int .u8 m,.reg [o33 (2:Nat) (2:Nat),.nils],.nils,.int .i64 0] [.mk 0 2 2 (fun j=>[[T.int .i64 (1:Int),T.int .i64 (1000000000:Int)],[T.int .i64 (1:Int),T.int .i64 (1000000000:Int)]].getD j []) true true
 none] [.int .u8 m,.reg [o33 (2:Nat) (2:Nat),.nils],.nils,.int .i64 0] [.mk 0 2 2 (fun j=>[[T.int .i64 (1:Int),T.int .i64 (1000000000:Int)],[T.int .i64 (1:Int),T.int .i64 (1000000000:Int)]].getD j []) true true
 none] then
 bif decF (p8 [.agg [.view 2 2 (fun j=>[[T.int .i64 (1:Int),T.int .i64 (1000000000:Int)],[T.int .i64 (1:Int),T.int .i64 (1000000000:Int)]].getD (0+j) []) (some 2),.nils],.view 3 513 (fun j=>[.int .i64 (1+Int.ofNat (0+j)),.int .i64 1,.int .i64 2])
 none] (.tup [stN c1 M1,.int .i64 E1])) then
 bif decF (p8 [.agg [.view 2 2 (fun j=>[[T.int .i64 (1:Int),T.int .i64 (1000000000:Int)],[T.int .i64 (1:Int),T.int .i64 (1000000000:Int)]].getD (0+j) []) (some 2),.nils],.view 3 2 (fun j=>[[T.int .i64 (5:Int),T.int .i64 (1:Int),T.int .i64 (999999999:Int)],[T.int .i64 (5:Int),T.int .i64 (1:Int),T.int .i64 (IntKind.i64.wrap ((1:Int)+IntKind.i64.wrap (m.tmod (3:Int))))]].getD j []) (some 2)] (.tup [stN c2 M2,.int .i64 E2])) then
 bif decide (m.tmod 3 = 2) then
 bif decide (E1 = 9) then
 bif decide (Int.ofNat M1.length = 0) then
 bif decide (E2 = 3) then
 bif decide (Int.ofNat M2.length = 0) then
 some (.bool true)
 else
 some (.bool false)
 else
 some (.bool false)
 else
 some (.bool false)
 else
 some (.bool false)
 else
 bif !decide (E1 = 0) then
 some (.bool false)
 else
 bif !decide (Int.ofNat M1.length = IntKind.i64.wrap (511+IntKind.i64.wrap (m.tmod 3))) then
 some (.bool false)
 else
 bif decF (p10 [stV c1 M1] (.int .i64 0)) then
 bif decide (m.tmod 3 = 1) then
 bif decide (E2 = 3) then
 some (.bool true)
 else
 some (.bool false)
 else
 bif decide (E2 = 0) then
 bif decide (Int.ofNat M2.length = 1) then
 bif decide (0<Int.ofNat M2.length) then
 bif decide ((M2.getD (0:Nat) (Hld.mk (0:Int) (0:Int) (0:Int))).l = 1000000000) then
 bif decF (p10 [stV c2 M2] (.int .i64 0)) then
 some (.bool true)
 else none else
 some (.bool false)
 else none else
 some (.bool false)
 else
 some (.bool false)
 else none else none else none else
 none):=by kernel_rfl
def vs3 (m:Int):Nat->List T
 | 0=>v3 m .nils 0
 | i+1=>v3 m (.own 1 i 0 (i+1) none) (i+1)
def hs3:Nat->Heap
 | 0=>[tabL]
 | i+1=>hh3 i
theorem loop3 (m:Int) (k:Nat) (hk:k<=1000) (hN:IntKind.i64.wrap ((511:Int)+IntKind.i64.wrap (m.tmod (3:Int))) = ((k+1:Nat):Int)):LoopOk P42 G42 (A42 3) 3 4 (litS (v3 m .nils 0) [tabL] (.exit 0) (w3 m k) (hh3 k)):=by
 refine loop_steps hm42 (by kernel_rfl) (vs3 m) hs3 (n:=k+1) (fun i hi=>?_) ?_
 ·have ew:IntKind.i64.wrap ((1:Int)+Int.ofNat i) = 1+(i:Int):=wr64 (by show (_:Int)<=1+(i:Int); omega) (by show 1+(i:Int)<=_; omega)
  cases i with
  | zero =>
   refine Step.mkC (A:=A42) (m:=0) none_ok rfl rfl loops0 [0,2] (v1:=v3 m (.own 2 0 0 1 none) 1) (h1:=[tabL,⟨0,3,1,fun j=>[(lF3 0).c].getD j [],true,true,none⟩,⟨0,3,1,fun j=>[(lF3 0).c].getD (0+j) [],true,false,none⟩]) ?_ (by kernel_rfl) (v2:=v3 m (.own 1 0 0 1 none) 1) (by rfl) rfl fun nt=>.same (.cons ⟨rfl,rfl,rfl,id,fun _ _=>rfl⟩ (.cons ⟨rfl,rfl,rfl,id,fun j hj=>?_⟩ .nil))
   ·show iterR P42 G42 A42 noneO 0 3 [] 4 (v3 m .nils 0) [tabL] = _
    rw [i3a,hN]
    exact bift (by simp) rfl
   ·obtain rfl:j = 0:=by have:j<1:=hj; omega
    rfl
  | succ i =>
   refine Step.mk (A:=A42) (m:=0) none_ok rfl rfl loops0 2 (by show 1<=2; decide) (h1:=[tabL,⟨i+1,3,i+1+1,fun j=>bif Nat.blt j (i+1) then (lF3 j).c else [(lF3 (i+1)).c].getD (0+(j - (i+1))) [],true,false,none⟩,⟨0,3,1,fun j=>[(lF3 (i+1)).c].getD j [],true,true,none⟩]) (vs':=v3 m (.own 1 (i+1) 0 (i+1+1) none) (i+1+1)) ?_ (by rfl) (.cons ⟨rfl,rfl,rfl,id,fun _ _=>rfl⟩ (.cons ⟨rfl,rfl,rfl,id,fun j hj=>?_⟩ .nil))
   ·show iterR P42 G42 A42 noneO 0 3 [] 4 (v3 m (.own 1 i 0 (i+1) none) (i+1)) [tabL,rowB i (i+1) lF3] = _
    rw [i3b,hN,ew,up1 (by omega)]
    simp only [Nat.zero_add]
    exact bift (by simp; omega) (BT (BT (BT (BF rfl))))
   ·have hj:j<i+1+1:=hj
    show (lF3 j).c = _
    by_cases q:j<i+1
    ·simp only [show Nat.blt j (i+1) = true from Nat.ble_eq_true_of_le q,cond_true]
    ·obtain rfl:j = i+1:=by omega
     have hf:Nat.blt (i+1) (i+1) = false:=by rw [← Bool.not_eq_true,Nat.blt_eq]; omega
     simp only [hf,cond_false,Nat.sub_self,Nat.zero_add]
     rfl
 ·refine Last.mk0 (A:=A42) (m:=0) none_ok rfl rfl loops0 (h1:=hh3 k) (by simp) ?_ (.refl _)
  show iterR P42 G42 A42 noneO 0 3 [] 4 (v3 m (.own 1 k 0 (k+1) none) (k+1)) [tabL,rowB k (k+1) lF3] = _
  rw [i3b,hN]
  exact biff (by simp) rfl
open Go.Proofs
def lL (k:Nat):List Hld:=(List.range (k+1)).map lF3
theorem lL_len (k:Nat):(lL k).length = k+1:=by simp [lL]
theorem lL_mem {k:Nat} {c:Hld} (h:c ∈ lL k):∃ i,i<k+1/\c = lF3 i:=by
 obtain ⟨i,hi,rfl⟩:=List.mem_map.1 h
 exact ⟨i,List.mem_range.1 hi,rfl⟩
theorem lL_asc (k:Nat):ascP (lL k):=by
 unfold ascP lL
 rw [List.pairwise_map]
 exact List.pairwise_lt_range.imp fun h=>by rw [cmpH_lt]; exact .inl (by simp only [lF3]; omega)
theorem hdN_two (l:List Hld) (h:∀ c,c ∈ l->c.l = 2) (x:Int):hdN l x<=2 * l.length:=by
 induction l with
 | nil=>simp [hdN]
 | cons c l ih =>
  have h1:=ih fun c hc=>h c (by simp [hc])
  have h2:=h c (by simp)
  simp only [hdN,List.length_cons]
  split <;> omega
theorem valL:Valid csL []:=⟨by decide,by decide,fun c hc=>by simp [csL] at hc; subst hc; rfl,fun c hc=>(by cases hc),List.Pairwise.nil,fun x=>by
 simp only [frF,cnN,hdN,csL]
 split <;> omega⟩
theorem lL_hv {k:Nat} (hk:k<=1000):∀ c,c ∈ lL k->hvB c = true:=fun c hc=>by
 obtain ⟨i,hi,rfl⟩:=lL_mem hc
 exact hvB_iff.2 ⟨by simp only [lF3]; omega,by simp only [lF3]; omega,by simp [lF3],by simp [lF3],by simp [lF3],by simp [lF3]⟩
theorem lL_fit {k:Nat} (hk:k<=1000) (x:Int):hdN (lL k) x<=frF csL [] x:=by
 by_cases q:x = 1
 ·subst q
  have:=hdN_two (lL k) (fun c hc=>by obtain ⟨i,_,rfl⟩:=lL_mem hc; rfl) 1
  rw [lL_len] at this
  rw [show frF csL [] 1 = 2000000000 from by decide]
  omega
 ·rw [hd_out fun c hc e=>q (by obtain ⟨i,_,rfl⟩:=lL_mem hc; exact e.symm)]
  exact valL.fr x
theorem lL_mg {k:Nat} (hk:k<=1000):mgL [] (lL k) = lL k :=
 mgL_eq (fun c hc=>(by cases hc)) (fun c hc=>by have:=hvB_iff.1 (lL_hv hk c hc); omega) (by decide) (by rw [lL_len]; omega) (lL_asc k) (fun c hc=>by have:=hvB_iff.1 (lL_hv hk c hc); omega) fun o a=>by simp [kS]
theorem lL_big {k:Nat} (hk:k<=1000):bigOk (lL k) = true:=bigOk_iff.2 fun c hc=>by have:=hvB_iff.1 (lL_hv hk c hc); omega
theorem rsvL {k:Nat} (hk:k<=1000):rsv csL [] (lL k) = if 512<k+1 then ([],[],9) else (csL,lL k,0):=by
 rcases rsv_is valL (lL_hv hk) (by rw [lL_len]; omega) with ⟨⟨x,hx⟩,_⟩ | ⟨_,e⟩
 ·exact absurd hx (by have:=lL_fit hk x; omega)
 ·rw [lL_mg hk,if_neg (by rw [lL_big hk]; simp),lL_len] at e
  exact e
def l2L (r:Int):List Hld:=[⟨5,1,999999999⟩,⟨5,1,1+r⟩]
def m2L (r:Int):List Hld:=[⟨5,1,1000000000+r⟩]
theorem l2_hv {r:Int} (h:0<=r/\r<=2):∀ c,c ∈ l2L r->hvB c = true:=fun c hc=>by
 simp only [l2L,List.mem_cons,List.not_mem_nil,or_false] at hc
 rcases hc with rfl | rfl
 ·rfl
 ·exact hvB_iff.2 ⟨by simp,by simp,by simp,by simp,by show 1<=1+r; omega,by show 1+r<=_; omega⟩
theorem l2_mg {r:Int} (h:0<=r/\r<=2):mgL [] (l2L r) = m2L r :=
 mgL_eq (fun c hc=>(by cases hc)) (fun c hc=>by have:=hvB_iff.1 (l2_hv h c hc); omega) (by decide) (by simp [l2L]) (by simp [ascP,m2L]) (fun c hc=>by simp [m2L] at hc; subst hc; show 1<=1000000000+r; omega) fun o a=>by
  simp only [kS,m2L,l2L]
  split <;> omega
theorem l2_fit {r:Int} (h:0<=r/\r<=2) (x:Int):hdN (l2L r) x<=frF csL [] x:=by
 simp only [hdN,l2L,frF,cnN,csL]
 split <;> omega
theorem rsv2 {r:Int} (h:0<=r/\r<=2):rsv csL [] (l2L r) = if r = 0 then (csL,m2L r,0) else ([],[],3):=by
 rcases rsv_is valL (l2_hv h) (by simp [l2L]) with ⟨⟨x,hx⟩,_⟩ | ⟨_,e⟩
 ·exact absurd hx (by have:=l2_fit h x; omega)
 ·rw [l2_mg h] at e
  rw [e]
  by_cases q:r = 0
  ·rw [if_pos q,if_neg (by rw [bigOk_iff.2 fun c hc=>by simp [m2L] at hc; subst hc; show 1000000000+r<=_; omega]; simp),if_neg (by simp [m2L])]
  ·rw [if_neg q,if_pos ?_]
   rw [← Bool.not_eq_true,bigOk_iff]
   intro hh
   have:1000000000+r<=1000000000:=hh ⟨5,1,1000000000+r⟩ (by simp [m2L])
   omega
theorem okL {k:Nat} (hk:k<=511):ToldOk P42 G42 10 [.agg [cnV csL none,hdV (lL k) none]] (.int .i64 0):=by
 have t:=checkT csL (lL k) (by decide) (by rw [lL_len]; omega)
 have hv:=mgL_valid valL (lL_hv (k:=k) (by omega)) (by rw [lL_len]; omega) (lL_fit (by omega)) (by rw [lL_mg (by omega)]; exact lL_big (by omega)) (by rw [lL_mg (by omega),lL_len]; omega)
 rw [lL_mg (by omega)] at hv
 rwa [ckE_iff.2 hv] at t
theorem ok2:ToldOk P42 G42 10 [.agg [cnV csL none,hdV (m2L 0) none]] (.int .i64 0):=by
 have t:=checkT csL (m2L 0) (by decide) (by decide)
 have hv:=mgL_valid valL (l2_hv (r:=0) (by decide)) (by decide) (l2_fit (by decide)) (by rw [l2_mg (by decide)]; exact bigOk_iff.2 fun c hc=>by simp [m2L] at hc; subst hc; decide) (by rw [l2_mg (by decide)]; decide)
 rw [l2_mg (by decide)] at hv
 rwa [ckE_iff.2 hv] at t
open Go.Proofs
theorem simL (k:Nat):Sim (.view 3 (k+1) (fun j=>[.int .i64 ((1:Int)+Int.ofNat (0+j)),.int .i64 1,.int .i64 2]) none) (hdV (lL k) none):=by
 unfold hdV
 rw [lL_len]
 refine Sim.view (.inl rfl) fun j hj=>?_
 have:(lL k).getD j hd0 = lF3 j:=by
  unfold lL
  rw [List.getD_eq_getElem?_getD,List.getElem?_map,List.getElem?_range hj]
  rfl
 rw [this,Nat.zero_add]
 exact .refl _
theorem sim2 (r:Int):Sim (.view 3 2 (fun j=>[[.int .i64 5,.int .i64 1,.int .i64 999999999],[.int .i64 5,.int .i64 1,.int .i64 (1+r)]].getD j []) (some 2)) (hdV (l2L r) none):=by
 refine Sim.view (.inr rfl) fun j hj=>?_
 match j,hj with
 | 0,_=>exact .refl _
 | 1,_=>exact .refl _
theorem simS:Sim (.agg [.view 2 2 (fun j=>[[.int .i64 1,.int .i64 1000000000],[.int .i64 1,.int .i64 1000000000]].getD (0+j) []) (some 2),.nils]) (.agg [cnV csL none,hdV [] none]) :=
 Sim.agg (.cons (simB_sim 2 _ _ (by kernel_rfl)) (.cons (nilsV (.inl rfl)) .nil))
theorem simV (cs:List Cne) (hs:List Hld):Sim (stV cs hs) (.agg [cnV cs none,hdV hs none]) :=
 Sim.agg (.cons (Sim.view (.inr rfl) fun _ _=>.refl _) (.cons (Sim.view (.inr rfl) fun _ _=>.refl _) .nil))
theorem one9:∀ args r,(match args with | []=>Tree.ret (.bool true) | _=>Tree.none).run some = some r->ToldOk P42 G42 9 args r:=by
 intro args r h
 cases args with
 | nil=>obtain rfl:=Option.some.inj h; exact livesT
 | cons _ _=>cases h
theorem limT (m:Int) (h0:0<=m) (h1:m<=255):ToldOk P42 G42 3 [.int .u8 m] (.bool true):=by
 obtain ⟨p8,h8⟩:=is_val P42 G42 8
 obtain ⟨p10,h10⟩:=is_val P42 G42 10
 have hr:0<=m.tmod 3/\m.tmod 3<=2:=by rw [Int.tmod_eq_emod_of_nonneg h0]; omega
 have t2:=reserveT csL [] (l2L (m.tmod 3)) (by decide) (by decide) (by simp [l2L])
 rw [rsv2 hr] at t2
 have w1:IntKind.i64.wrap (m.tmod 3) = m.tmod 3:=wr64 (by omega) (by omega)
 have w2:IntKind.i64.wrap (1+m.tmod 3) = 1+m.tmod 3:=wr64 (by omega) (by omega)
 have w3':IntKind.i64.wrap (511+m.tmod 3) = 511+m.tmod 3:=wr64 (by omega) (by omega)
 have ok:∀ c1 c2 E1 E2 M1 M2,OrcOk P42 G42 (K3 p8 p10 c1 c2 E1 E2 M1 M2):=fun c1 c2 E1 E2 M1 M2=>told_add (told_add (told_add none_ok one9) (callF_told h8)) (callF_told h10)
 have q2:∀ r,ToldOk P42 G42 8 [.agg [cnV csL none,hdV [] none],hdV (l2L (m.tmod 3)) none] r->ToldOk P42 G42 8 [.agg [.view 2 2 (fun j=>[[.int .i64 1,.int .i64 1000000000],[.int .i64 1,.int .i64 1000000000]].getD (0+j) []) (some 2),.nils],.view 3 2 (fun j=>[[.int .i64 5,.int .i64 1,.int .i64 999999999],[.int .i64 5,.int .i64 1,.int .i64 (1+m.tmod 3)]].getD j []) (some 2)] r:=fun r t=>t.sim (.cons simS (.cons (sim2 _) .nil))
 have q1:∀ k r,ToldOk P42 G42 8 [.agg [cnV csL none,hdV [] none],hdV (lL k) none] r->ToldOk P42 G42 8 [.agg [.view 2 2 (fun j=>[[.int .i64 1,.int .i64 1000000000],[.int .i64 1,.int .i64 1000000000]].getD (0+j) []) (some 2),.nils],.view 3 (k+1) (fun j=>[.int .i64 ((1:Int)+Int.ofNat (0+j)),.int .i64 1,.int .i64 2]) none] r:=fun k r t=>t.sim (.cons simS (.cons (simL k) .nil))
 have hm:m.tmod 3 = 0 ∨ m.tmod 3 = 1 ∨ m.tmod 3 = 2:=by omega
 generalize hz:m.tmod 3 = z at *
 rcases hm with rfl | rfl | rfl
 ·have t1:=reserveT csL [] (lL 510) (by decide) (by decide) (by rw [lL_len]; omega)
  rw [rsvL (by omega),if_neg (by omega)] at t1
  rw [if_pos rfl] at t2
  have tA:=q1 510 _ t1
  have tC:=(okL (k:=510) (by omega)).sim (.cons (simV _ _) .nil)
  have hlen:=lL_len 510
  clear t1
  have l1:=loop3 m 510 (by omega) (by rw [hz,w1,w3']; rfl)
  generalize lL 510 = M1 at tA tC hlen
  refine stepL_told hm42 hn42 (ok csL csL 0 0 M1 (m2L 0)) (A:=A42) (m:=0) (by kernel_rfl) (loops1 l1) ((k3a m csL csL 0 0 M1 (m2L 0) p8 p10).trans ?_)
  rw [hz,w1,w2,w3',hlen]
  refine bift (weakF_of ⟨rfl,.refl _⟩) (bift (callF_yes h8 tA) (bift (callF_yes h8 (q2 _ t2)) (biff (by decide) (biff (by decide) (biff (by decide) (bift (callF_yes h10 tC) (biff (by decide) (bift (by decide) (bift (by decide) (bift (by decide) (bift (by decide) (bift (callF_yes h10 (ok2.sim (.cons (simV _ _) .nil))) rfl))))))))))))
 ·have t1:=reserveT csL [] (lL 511) (by decide) (by decide) (by rw [lL_len]; omega)
  rw [rsvL (by omega),if_neg (by omega)] at t1
  rw [if_neg (by decide)] at t2
  have tA:=q1 511 _ t1
  have tC:=(okL (k:=511) (by omega)).sim (.cons (simV _ _) .nil)
  have hlen:=lL_len 511
  clear t1
  have l1:=loop3 m 511 (by omega) (by rw [hz,w1,w3']; rfl)
  generalize lL 511 = M1 at tA tC hlen
  refine stepL_told hm42 hn42 (ok csL [] 0 3 M1 []) (A:=A42) (m:=0) (by kernel_rfl) (loops1 l1) ((k3b m csL [] 0 3 M1 [] p8 p10).trans ?_)
  rw [hz,w1,w2,w3',hlen]
  exact bift (weakF_of ⟨rfl,.refl _⟩) (bift (callF_yes h8 tA) (bift (callF_yes h8 (q2 _ t2)) (biff (by decide) (biff (by decide) (biff (by decide) (bift (callF_yes h10 tC) (bift (by decide) (bift (by decide) rfl))))))))
 ·have t1:=reserveT csL [] (lL 512) (by decide) (by decide) (by rw [lL_len]; omega)
  rw [rsvL (by omega),if_pos (by omega)] at t1
  rw [if_neg (by decide)] at t2
  have l1:=loop3 m 512 (by omega) (by rw [hz,w1,w3']; rfl)
  refine stepL_told hm42 hn42 (ok [] [] 9 3 [] []) (A:=A42) (m:=0) (by kernel_rfl) (loops1 l1) ((k3c m [] [] 9 3 [] [] p8 p10).trans ?_)
  rw [hz,w1,w2]
  exact bift (weakF_of ⟨rfl,.refl _⟩) (bift (callF_yes h8 (q1 512 _ t1)) (bift (callF_yes h8 (q2 _ t2)) (bift (by decide) (bift (by decide) (bift (by decide) (bift (by decide) (bift (by decide) rfl)))))))
open Go.Proofs
section
variable {Hp:Type}
theorem inv5_42 {ts:List T} {d:DataW Hp} (h:CT P42 5 ts d):∃ a:Int,ts = [.int .u8 a]/\0<=a/\a<=255:=by
 obtain ⟨a,rfl,rfl,w⟩:=h.int_inv Try.underlying5
 have w:=wf_u8 w
 exact ⟨a,rfl,by omega,by omega⟩
end
end Go.Ab

