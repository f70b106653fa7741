/- A part of the proof: nothing is assumed. -/
import Derived.Test.YthbieakinbpgkaaP15
import Derived.Test.YthbieakinbpgkaaP5
import Derived.Test.YthbieakinbpgkaaP11
import Derived.Test.YthbieakinbpgkaaP18
import Derived.Test.YthbieakinbpgkaaP17
import Derived.Test.YthbieakinbpgkaaP10
set_option linter.all false
namespace Go.Ab
open Go.Proofs
open Go.Proofs
open Go.Proofs
section
variable {Hp:Type}
theorem cells50_42:P42.cellsOf 50 = 5:=by kernel_rfl
theorem agg43_42:aggTy P42 43 = false:=by kernel_rfl
structure Act where
 w:Int
 o:Int
 a:Int
 l:Int
 m:Int
def Act.c (x:Act):List T:=[.int .u8 x.w,.int .u8 x.o,.int .u8 x.a,.int .u8 x.l,.int .u8 x.m]
structure Act.Ok (x:Act):Prop where
 w:0<=x.w/\x.w<=255
 o:0<=x.o/\x.o<=255
 a:0<=x.a/\x.a<=255
 l:0<=x.l/\x.l<=255
 m:0<=x.m/\x.m<=255
def acV (n:Nat) (X:Nat->Act):T:=.view 5 n (fun j=>(X j).c) none
def cA42 (l:List T):Act:=match l with | [.int _ w,.int _ o,.int _ a,.int _ x,.int _ m]=>⟨w,o,a,x,m⟩ | _=>⟨0,0,0,0,0⟩
theorem act42 {ts:List T} {d:DataW Hp} (h:CT P42 50 ts d):(cA42 ts).Ok/\ts = (cA42 ts).c:=by
 obtain ⟨parts,ds,rfl,rfl,hs⟩:=CT.struct_inv Try.underlying50 h; clear h; rename _=>h
 change CTs P42 [5,5,5,5,5] parts ds at h
 obtain ⟨p1,_,d1,_,rfl,rfl,h1,h⟩:=h.cons
 obtain ⟨p2,_,d2,_,rfl,rfl,h2,h⟩:=h.cons
 obtain ⟨p3,_,d3,_,rfl,rfl,h3,h⟩:=h.cons
 obtain ⟨p4,_,d4,_,rfl,rfl,h4,h⟩:=h.cons
 obtain ⟨p5,_,d5,_,rfl,rfl,h5,h⟩:=h.cons
 obtain ⟨rfl,rfl⟩:=h.nil
 obtain ⟨a1,rfl,b1⟩:=inv5_42 h1
 obtain ⟨a2,rfl,b2⟩:=inv5_42 h2
 obtain ⟨a3,rfl,b3⟩:=inv5_42 h3
 obtain ⟨a4,rfl,b4⟩:=inv5_42 h4
 obtain ⟨a5,rfl,b5⟩:=inv5_42 h5
 exact ⟨⟨b1,b2,b3,b4,b5⟩,rfl⟩
theorem inv43_42 {ts:List T} {d:DataW Hp} (h:CT P42 43 ts d):∃ (n:Nat) (X:Nat->Act),(∀ j,j<n->(X j).Ok)/\Sim (topT P42 43 ts) (acV n X):=by
 rcases h.slice_inv Try.underlying43 (by rw [cells50_42]; omega) with ⟨rfl,rfl⟩ | ⟨n,c,g,elems,spare,rfl,rfl,he,hs,hn,hc,hg⟩
 ·exact ⟨0,fun _=>⟨0,0,0,0,0⟩,fun j hj=>absurd hj (Nat.not_lt_zero _),by rw [show topT P42 43 [T.nils] = T.nils by simp [topT,agg43_42]]; exact .nilv _ _ (.inl rfl)⟩
 ·have key:∀ j,j<n->(cA42 (g j)).Ok/\g j = (cA42 (g j)).c:=fun j hj=>act42 (hg j elems[j] (by simp [show j<elems.length by omega]))
  refine ⟨n,fun j=>cA42 (g j),fun j hj=>(key j hj).1,?_⟩
  rw [cells50_42,show topT P42 43 [T.view 5 n g (some c)] = T.view 5 n g (some c) by simp [topT,agg43_42]]
  refine .view (.inr rfl) fun j hj=>?_
  show Sims (g j) (cA42 (g j)).c
  rw [← (key j hj).2]
  exact .refl _
end
open Go.Proofs
def hL (o a l m:Int):List Hld:=⟨1+o.tmod 5,1+a.tmod 4,1+l⟩ :: if m.tmod 3 = 2 then [⟨1+o.tmod 5,1+(m.tdiv 3).tmod 4,1+m.tdiv 4⟩] else []
theorem k14 (w o a l m:Int):stepV P42 G42 A42 noneO 0 14 [.agg [.int .u8 w,.int .u8 o,.int .u8 a,.int .u8 l,.int .u8 m]] =
(
 bif decide (m.tmod 3 = 2) then
 some (.fresh true (3:Nat) (2:Nat) (fun j =>
 bif ((0:Nat)+j).blt 1 then [[T.int .i64 (IntKind.i64.wrap ((1:Int)+IntKind.i64.wrap (o.tmod (5:Int)))),T.int .i64 (IntKind.i64.wrap ((1:Int)+IntKind.i64.wrap (a.tmod (4:Int)))),T.int .i64 (IntKind.i64.wrap ((1:Int)+IntKind.i64.wrap l))]].getD ((0:Nat)+(0+j)) []
 else [[T.int .i64 (IntKind.i64.wrap ((1:Int)+IntKind.i64.wrap (o.tmod (5:Int)))),T.int .i64 (IntKind.i64.wrap ((1:Int)+IntKind.i64.wrap ((IntKind.u8.wrap (m.tdiv (3:Int))).tmod (4:Int)))),T.int .i64 (IntKind.i64.wrap ((1:Int)+IntKind.i64.wrap (IntKind.u8.wrap (m.tdiv (4:Int)))))]].getD ((0:Nat)+(0+j - 1)) []) (2:Nat)
 none)
 else
 some (.fresh true (3:Nat) (1:Nat) (fun j=>[[T.int .i64 (IntKind.i64.wrap ((1:Int)+IntKind.i64.wrap (o.tmod (5:Int)))),T.int .i64 (IntKind.i64.wrap ((1:Int)+IntKind.i64.wrap (a.tmod (4:Int)))),T.int .i64 (IntKind.i64.wrap ((1:Int)+IntKind.i64.wrap l))]].getD (0+j) []) (1:Nat) (some 1))):=by kernel_rfl
theorem holdsT (w o a l m:Int) (ho:0<=o/\o<=255) (ha:0<=a/\a<=255) (hl:0<=l/\l<=255) (hm:0<=m/\m<=255):ToldOk P42 G42 14 [.agg [.int .u8 w,.int .u8 o,.int .u8 a,.int .u8 l,.int .u8 m]] (.new (hdV (hL o a l m) none)):=by
 have o1:0<=o.tmod 5/\o.tmod 5<=4:=by rw [Int.tmod_eq_emod_of_nonneg ho.1]; omega
 have a1:0<=a.tmod 4/\a.tmod 4<=3:=by rw [Int.tmod_eq_emod_of_nonneg ha.1]; omega
 have m3:0<=m.tdiv 3/\m.tdiv 3<=255:=by rw [Int.tdiv_eq_ediv_of_nonneg hm.1]; omega
 have m4:0<=m.tdiv 4/\m.tdiv 4<=255:=by rw [Int.tdiv_eq_ediv_of_nonneg hm.1]; omega
 have m5:0<=(m.tdiv 3).tmod 4/\(m.tdiv 3).tmod 4<=3:=by rw [Int.tmod_eq_emod_of_nonneg m3.1]; omega
 have e1:IntKind.i64.wrap (o.tmod 5) = o.tmod 5:=wr64 (by omega) (by omega)
 have e2:IntKind.i64.wrap (a.tmod 4) = a.tmod 4:=wr64 (by omega) (by omega)
 have e3:IntKind.i64.wrap l = l:=wr64 (by omega) (by omega)
 have e4:IntKind.i64.wrap (1+o.tmod 5) = 1+o.tmod 5:=wr64 (by omega) (by omega)
 have e5:IntKind.i64.wrap (1+a.tmod 4) = 1+a.tmod 4:=wr64 (by omega) (by omega)
 have e6:IntKind.i64.wrap (1+l) = 1+l:=wr64 (by omega) (by omega)
 have e7:IntKind.u8.wrap (m.tdiv 3) = m.tdiv 3:=wr8 (by omega) (by omega)
 have e8:IntKind.u8.wrap (m.tdiv 4) = m.tdiv 4:=wr8 (by omega) (by omega)
 have e9:IntKind.i64.wrap (m.tdiv 4) = m.tdiv 4:=wr64 (by omega) (by omega)
 have e10:IntKind.i64.wrap (1+m.tdiv 4) = 1+m.tdiv 4:=wr64 (by omega) (by omega)
 have e11:IntKind.i64.wrap ((m.tdiv 3).tmod 4) = (m.tdiv 3).tmod 4:=wr64 (by omega) (by omega)
 have e12:IntKind.i64.wrap (1+(m.tdiv 3).tmod 4) = 1+(m.tdiv 3).tmod 4:=wr64 (by omega) (by omega)
 have k:=k14 w o a l m
 rw [e1,e2,e3,e4,e5,e6,e7,e8,e9,e10,e11,e12] at k
 by_cases c:m.tmod 3 = 2
 ·have t:=stepV_told hm42 hn42 none_ok (K:=noneO) (A:=A42) (m:=0) (k.trans (bift (by simpa using c) rfl))
  refine t.frz.resTo (.new ?_)
  have e:hL o a l m = [⟨1+o.tmod 5,1+a.tmod 4,1+l⟩,⟨1+o.tmod 5,1+(m.tdiv 3).tmod 4,1+m.tdiv 4⟩]:=by unfold hL; rw [if_pos c]
  rw [e]
  refine Sim.view (.inl rfl) fun j hj=>?_
  match j,hj with
  | 0,_=>exact .refl _
  | 1,_=>exact .refl _
 ·have t:=stepV_told hm42 hn42 none_ok (K:=noneO) (A:=A42) (m:=0) (k.trans (biff (by simpa using c) rfl))
  refine t.frz.resTo (.new ?_)
  have e:hL o a l m = [⟨1+o.tmod 5,1+a.tmod 4,1+l⟩]:=by unfold hL; rw [if_neg c]
  rw [e]
  refine Sim.view (.inr rfl) fun j hj=>?_
  match j,hj with
  | 0,_=>exact .refl _
open Go.Proofs
def hBk (L:List Hld):Blk:=⟨L.length,3,L.length,fun j=>(L.getD j hd0).c,true,false,none⟩
open Go.Proofs
theorem flt_is (o:Int) (hs:List Hld):∀ i,i<=hs.length->fltTo o hs i = (hs.take i).filter fun c=>decide (c.o ≠ o)
 | 0,_=>rfl
 | i+1,hi=>by
  have ih:=flt_is o hs i (by omega)
  rw [take_one (l:=hs) (i:=i) (by omega) hd0,List.filter_append,← ih]
  simp only [fltTo]
  by_cases c:(hs.getD i hd0).o = o
  ·rw [if_pos c]
   simp only [List.filter_cons,List.filter_nil,c]
   simp
  ·rw [if_neg c]
   simp only [List.filter_cons,List.filter_nil,decide_eq_true c,if_true]
theorem flt_all (o:Int) (hs:List Hld):fltTo o hs hs.length = hs.filter fun c=>decide (c.o ≠ o):=by rw [flt_is o hs _ (Nat.le_refl _),List.take_length]
theorem kS_filter (o':Int) (L:List Hld) (o a:Int):kS (L.filter fun c=>decide (c.o ≠ o')) o a = if o = o' then 0 else kS L o a:=by
 induction L with
 | nil=>simp [kS]
 | cons c l ih =>
  rw [List.filter_cons]
  by_cases q:c.o = o'
  ·rw [if_neg (by simp [q]),ih]
   by_cases r:o = o'
   ·rw [if_pos r,if_pos r]
   ·rw [if_neg r,if_neg r]
    simp only [kS]
    rw [if_neg fun h=>r (h.1.symm.trans q)]
    omega
  ·rw [if_pos (by simp [q])]
   simp only [kS]
   rw [ih]
   by_cases r:o = o'
   ·rw [if_pos r,if_pos r,if_neg fun h=>q (h.1.trans r)]; rfl
   ·rw [if_neg r,if_neg r]
theorem kS_nn (L:List Hld) (h:∀ c,c ∈ L->0<=c.l) (o a:Int):0<=kS L o a:=by
 induction L with
 | nil=>exact Int.le_refl _
 | cons x l ih =>
  have:=ih fun c hc=>h c (by simp [hc])
  have:=h x (by simp)
  simp only [kS]
  split <;> omega
theorem kS_pos (L:List Hld) (h:∀ c,c ∈ L->1<=c.l):∀ c,c ∈ L->0<kS L c.o c.a:=by
 induction L with
 | nil=>intro c hc; cases hc
 | cons x l ih =>
  intro c hc
  have hn:=kS_nn l (fun c hc=>by have:=h c (by simp [hc]); omega) c.o c.a
  have hx:=h x (by simp)
  simp only [kS]
  rcases List.mem_cons.1 hc with rfl | hc
  ·rw [if_pos ⟨rfl,rfl⟩]; omega
  ·have:=ih (fun d hd=>h d (by simp [hd])) c hc
   split <;> omega
theorem cnN_le (L:List Cne) (B:Int) (h:∀ c,c ∈ L->0<=c.l/\c.l<=B) (hB:0<=B) (x:Int):cnN L x<=B * L.length:=by
 induction L with
 | nil=>simp [cnN]
 | cons c l ih =>
  have h1:=ih fun c hc=>h c (by simp [hc])
  have h2:=h c (by simp)
  have e:B * ((c :: l).length:Int) = B * l.length+B:=by
   rw [List.length_cons]
   show B * ((l.length+1:Nat):Int) = _
   rw [Int.natCast_add,Int.mul_add]
   simp
  rw [e]
  simp only [cnN]
  split <;> omega
theorem hdN_mem (L:List Hld) (h:∀ c,c ∈ L->0<=c.l):∀ c,c ∈ L->c.l<=hdN L c.a:=by
 induction L with
 | nil=>intro c hc; cases hc
 | cons x l ih =>
  intro c hc
  have hn:0<=hdN l c.a:=by
   clear ih hc
   have hl:∀ d,d ∈ l->0<=d.l:=fun d hd=>h d (by simp [hd])
   clear h
   induction l with
   | nil=>exact Int.le_refl _
   | cons y l ih =>
    have:=ih fun d hd=>hl d (by simp [hd])
    have:=hl y (by simp)
    simp only [hdN]
    split <;> omega
  have hx:=h x (by simp)
  simp only [hdN]
  rcases List.mem_cons.1 hc with rfl | hc
  ·rw [if_pos rfl]; omega
  ·have:=ih (fun d hd=>h d (by simp [hd])) c hc
   split <;> omega
structure BInv (cs:List Cne) (hs:List Hld) (i:Nat):Prop where
 v:Valid cs hs
 cl:cs.length<=i
 cb:∀ c,c ∈ cs->c.l<=256
 hl:hs.length<=2 * i
 ho:∀ c,c ∈ hs->c.o<=5
theorem BInv.nil:BInv [] [] 0:=⟨⟨by decide,by decide,fun c hc=>(by cases hc),fun c hc=>(by cases hc),List.Pairwise.nil,fun x=>by simp [frF,cnN,hdN]⟩,Nat.le_refl _,fun c hc=>(by cases hc),Nat.le_refl _,fun c hc=>(by cases hc)⟩
theorem BInv.up {cs:List Cne} {hs:List Hld} {i:Nat} (h:BInv cs hs i):BInv cs hs (i+1):=⟨h.v,by have:=h.cl; omega,h.cb,by have:=h.hl; omega,h.ho⟩
theorem BInv.add {cs:List Cne} {hs:List Hld} {i:Nat} (h:BInv cs hs i) (hi:i<=100) {x:Cne} (hx:cvB x = true) (hl:x.l<=256):addO cs hs x = (cs ++ [x],hs,0)/\BInv (cs ++ [x]) hs (i+1):=by
 have hcl:=h.cl
 refine ⟨?_,⟨⟨by simp; omega,h.v.hl,fun c hc=>?_,h.v.hv,h.v.asc,fun y=>?_⟩,by simp; omega,fun c hc=>?_,by have:=h.hl; omega,h.ho⟩⟩
 ·unfold addO
  rw [if_neg (by rw [ckE_iff.2 h.v]; simp),if_neg (by rw [hx]; simp),if_neg (by omega)]
 ·rcases List.mem_append.1 hc with q | q
  ·exact h.v.cv c q
  ·simp at q; subst q; exact hx
 ·have:=h.v.fr y
  have h2:=cvB_iff.1 hx
  unfold frF at this ⊢
  rw [cnN_app]
  simp only [cnN]
  split <;> omega
 ·rcases List.mem_append.1 hc with q | q
  ·exact h.cb c q
  ·simp at q; subst q; exact hl
theorem BInv.rsvU {cs:List Cne} {hs l:List Hld} {i:Nat} (h:BInv cs hs i) (hl:∀ c,c ∈ l->hvB c = true/\c.o<=5) (hn:l.length<=2):(rsv cs hs l).2.2 ≠ 0 ∨ (rsv cs hs l = (cs,mgL hs l,0)/\BInv cs (mgL hs l) (i+1)):=by
 rcases rsv_is h.v (fun c hc=>(hl c hc).1) (by omega) with ⟨_,e⟩ | ⟨hx,e⟩
 ·rw [e]; exact .inl (by decide)
 ·by_cases c1:bigOk (mgL hs l) = false
  ·rw [if_pos c1] at e
   rw [e]; exact .inl (by decide)
  ·rw [if_neg c1] at e
   by_cases c2:512<(mgL hs l).length
   ·rw [if_pos c2] at e
    rw [e]; exact .inl (by decide)
   ·rw [if_neg c2] at e
    refine .inr ⟨e,?_⟩
    have hb:bigOk (mgL hs l) = true:=by simpa using c1
    have hI:=mgL_inv hs l (fun c hc=>by have:=hvB_iff.1 (h.v.hv c hc); omega) (fun c hc=>by have:=hvB_iff.1 (hl c hc).1; omega) (by have:=h.v.hl; omega) (by omega)
    refine ⟨mgL_valid h.v (fun c hc=>(hl c hc).1) (by omega) hx hb (by omega),by have:=h.cl; omega,h.cb,by have:=mgL_len hs l; have:=h.hl; omega,fun c hc=>?_⟩
    obtain ⟨d,hd,e1,_⟩:=hI.key c hc
    rcases List.mem_append.1 hd with q | q
    ·have:=h.ho d q; omega
    ·have:=(hl d q).2; omega
theorem needL_nil {f:Int->Int} (h:∀ x,0<=f x):needL f = []:=by
 unfold needL
 rw [List.map_eq_nil_iff,List.filter_eq_nil_iff]
 intro x _
 have:=h x
 simp
 omega
theorem needL_ne {f:Int->Int} {x:Int} (h0:0<=x) (h1:x<=1000) (h:f x<0):(needL f).length ≠ 0:=by
 intro q
 have:=List.length_eq_zero_iff.1 q
 unfold needL at this
 rw [List.map_eq_nil_iff,List.filter_eq_nil_iff] at this
 refine this x (List.mem_map.2 ⟨x.toNat,List.mem_range.2 (by omega),?_⟩) (by simpa using h)
 show ((x.toNat:Nat):Int) = x
 omega
theorem BInv.back {cs:List Cne} {hs W:List Hld} {i:Nat} (h:BInv cs hs i) (hi:i<=30) (hW:∀ c,c ∈ W->hvB c = true/\c.o = 9) (hn:W.length<=5) :
 ((rsv cs hs W).2.2 = 18/\(needO cs hs W).length ≠ 0) ∨ (rsv cs hs W = (cs,mgL hs W,0)/\(needO cs hs W).length = 0/\Valid cs (mgL hs W)/\(W ≠ []->relO cs (mgL hs W) 9 = (cs,hs,0))):=by
 have hv1:∀ c,c ∈ W->hvB c = true:=fun c hc=>(hW c hc).1
 have r1:∀ c,c ∈ hs->1<=c.l/\c.l<=1000000000:=fun c hc=>by have:=hvB_iff.1 (h.v.hv c hc); omega
 have r2:∀ c,c ∈ W->1<=c.l/\c.l<=1000000000:=fun c hc=>by have:=hvB_iff.1 (hv1 c hc); omega
 have nd:=needO_is h.v hv1 (by omega)
 rcases rsv_is h.v hv1 (by omega) with ⟨⟨x,hx⟩,e⟩ | ⟨hx,e⟩
 ·refine .inl ⟨by rw [e],?_⟩
  rw [nd]
  have hxb:1<=x/\x<=1000:=by
   refine Classical.byContradiction fun q=>?_
   have:=hd_out (cs:=W) (x:=x) fun c hc e=>q (by have:=hvB_iff.1 (hv1 c hc); omega)
   have:=h.v.fr x
   omega
  exact needL_ne (x:=x) (by omega) hxb.2 (by unfold misF; omega)
 ·have hI:=mgL_inv hs W r1 r2 (by have:=h.v.hl; omega) (by omega)
  have hb:bigOk (mgL hs W) = true:=bigOk_iff.2 fun c hc=>by
   have h1:=hdN_mem (mgL hs W) (fun d hd=>by have:=hI.pos d hd; omega) c hc
   rw [hI.art,hdN_app] at h1
   have h2:=hx c.a
   have h4:=cnN_le cs 256 (fun d hd=>⟨by have:=cvB_iff.1 (h.v.cv d hd); omega,h.cb d hd⟩) (by decide) c.a
   have h5:=hdN_bd hs (fun d hd=>by have:=r1 d hd; omega) c.a
   unfold frF at h2
   have:=h.cl
   omega
  have hlen:=mgL_len hs W
  have hhl:=h.hl
  rw [if_neg (by rw [hb]; simp),if_neg (by omega)] at e
  have hval:=mgL_valid h.v hv1 (by omega) hx hb (by omega)
  refine .inr ⟨e,?_,hval,fun hne=>?_⟩
  ·rw [nd,needL_nil fun x=>by have:=hx x; unfold misF; omega]; rfl
  ·have ef:fltTo 9 (mgL hs W) (mgL hs W).length = hs:=by
    rw [flt_all]
    refine asc_unique (hI.asc.sublist (List.filter_sublist ..)) h.v.asc (fun c hc=>(hI.pos c (List.mem_filter.1 hc).1).1) (fun c hc=>(r1 c hc).1) fun o a=>?_
    rw [kS_filter,hI.sum,kS_app]
    by_cases c:o = 9
    ·rw [if_pos c,kS_out fun d hd q=>by have:=h.ho d hd; omega]
    ·rw [if_neg c,kS_out (L:=W) fun d hd q=>c (q.1.symm.trans (hW d hd).2)]; omega
   unfold relO
   rw [if_neg (by rw [ckE_iff.2 hval]; simp),ef,if_neg]
   intro q
   obtain ⟨d,hd⟩:=List.exists_mem_of_ne_nil W hne
   have hk:kS (mgL hs W) d.o d.a ≠ 0:=by
    rw [hI.sum,kS_app,kS_out (L:=hs) fun c hc q=>by have:=h.ho c hc; have:=(hW d hd).2; omega]
    have:=kS_pos W (fun c hc=>(r2 c hc).1) d hd
    omega
   obtain ⟨c,hc,e1,e2⟩:=kS_has hk
   have hfl:=flt_all 9 (mgL hs W)
   rw [ef] at hfl
   have hlt:((mgL hs W).filter fun c=>decide (c.o ≠ 9)).length<(mgL hs W).length:=by
    rw [List.length_filter_lt_length_iff_exists]
    exact ⟨c,hc,by simp [e1,(hW d hd).2]⟩
   rw [← hfl] at hlt
   omega
open Go.Proofs
def rS (cs:List Cne) (hs:List Hld):T:=.reg [cnV cs (some cs.length),hdV hs (some hs.length)]
def v5k (n:Nat) (X:Nat->Act) (y:T) (s:T) (i:Nat):List T:=[acV n X,y,s,.int .i64 i]
def v15k (n:Nat) (Y:Nat->Act) (s:T) (w:T) (i:Nat):List T:=[acV n Y,s,w,.int .i64 i]
noncomputable def K6l (p13 p14 p8:List T->T->Prop) (hl:List Hld) (c1 c2:List Cne) (h1 h2:List Hld) (E1 E2:Int):Orc:=((noneO.add 13 (callF p13 fun _=>some (.tup [stV c1 h1,.int .i64 E1]))).add 14 (callF p14 fun _=>some (.new (hdV hl none)))).add 8 (callF p8 fun _=>some (.tup [stN c2 h2,.int .i64 E2]))
noncomputable def K6z:Orc:=noneO.add 9 fun a=>match a with | []=>.ret (.bool true) | _=>.none
noncomputable def K6m (p8 p15 p17 p19:List T->T->Prop) (c:List Cne) (h:List Hld) (E:Int) (nd:List Cne) (b:List Cne) (bh:List Hld) (F:Int) (sm:Bool):Orc:=(((K6z.add 8 (callF p8 fun _=>some (.tup [stN c h,.int .i64 E]))).add 15 (callF p15 fun _=>some (.new (cnV nd (some nd.length))))).add 17 (callF p17 fun _=>some (.tup [stV b bh,.int .i64 F]))).add 19 (callF p19 fun _=>some (.bool sm))
def hlX (x:Act):List Hld:=hL x.o x.a x.l x.m
def cnX (x:Act):Cne:=⟨1+x.a.tmod 4,1+x.l⟩
noncomputable def stB (X:Nat->Act):Nat->List Cne × List Hld
 | 0=>([],[])
 | i+1=>if (X i).w.tmod 2 = 0 then (if (addO (stB X i).1 (stB X i).2 (cnX (X i))).2.2 = 0 then ((addO (stB X i).1 (stB X i).2 (cnX (X i))).1,(addO (stB X i).1 (stB X i).2 (cnX (X i))).2.1) else stB X i)
  else (if (rsv (stB X i).1 (stB X i).2 (hlX (X i))).2.2 = 0 then ((rsv (stB X i).1 (stB X i).2 (hlX (X i))).1,(rsv (stB X i).1 (stB X i).2 (hlX (X i))).2.1) else stB X i)
theorem mod4 {a:Int} (h:0<=a):0<=a.tmod 4/\a.tmod 4<=3:=by rw [Int.tmod_eq_emod_of_nonneg h]; omega
theorem mod5 {a:Int} (h:0<=a):0<=a.tmod 5/\a.tmod 5<=4:=by rw [Int.tmod_eq_emod_of_nonneg h]; omega
theorem div4 {a:Int} (h:0<=a/\a<=255):0<=a.tdiv 4/\a.tdiv 4<=63:=by rw [Int.tdiv_eq_ediv_of_nonneg h.1]; omega
theorem div3 {a:Int} (h:0<=a/\a<=255):0<=a.tdiv 3/\a.tdiv 3<=85:=by rw [Int.tdiv_eq_ediv_of_nonneg h.1]; omega
theorem cnX_ok {x:Act} (h:x.Ok):cvB (cnX x) = true/\(cnX x).l<=256:=by
 have h1:=mod4 h.a.1
 have h2:=h.l
 exact ⟨cvB_iff.2 ⟨by show 1<=1+x.a.tmod 4; omega,by show 1+x.a.tmod 4<=_; omega,by show 1<=1+x.l; omega,by show 1+x.l<=_; omega⟩,by show 1+x.l<=_; omega⟩
theorem hlX_ok {x:Act} (h:x.Ok):(∀ c,c ∈ hlX x->hvB c = true/\c.o<=5)/\(hlX x).length<=2:=by
 have h1:=mod4 h.a.1
 have h2:=h.l
 have h3:=mod5 h.o.1
 have h4:=div4 h.m
 have h5:=mod4 (div3 h.m).1
 have k1:hvB ⟨1+x.o.tmod 5,1+x.a.tmod 4,1+x.l⟩ = true:=hvB_iff.2 ⟨by dsimp only; omega,by dsimp only; omega,by dsimp only; omega,by dsimp only; omega,by dsimp only; omega,by dsimp only; omega⟩
 have k2:hvB ⟨1+x.o.tmod 5,1+(x.m.tdiv 3).tmod 4,1+x.m.tdiv 4⟩ = true:=hvB_iff.2 ⟨by dsimp only; omega,by dsimp only; omega,by dsimp only; omega,by dsimp only; omega,by dsimp only; omega,by dsimp only; omega⟩
 unfold hlX hL
 refine ⟨fun c hc=>?_,by split <;> simp⟩
 rcases List.mem_cons.1 hc with rfl | hc
 ·exact ⟨k1,by dsimp only; omega⟩
 ·split at hc
  ·simp at hc
   subst hc
   exact ⟨k2,by dsimp only; omega⟩
  ·cases hc
theorem stB_inv (X:Nat->Act) (n:Nat) (hn:n<=30) (hX:∀ j,j<n->(X j).Ok):∀ i,i<=n->BInv (stB X i).1 (stB X i).2 i
 | 0,_=>.nil
 | i+1,hi=>by
  have ih:=stB_inv X n hn hX i (by omega)
  have hx:=hX i (by omega)
  unfold stB
  by_cases c:(X i).w.tmod 2 = 0
  ·rw [if_pos c]
   obtain ⟨e,h⟩:=ih.add (by omega) (cnX_ok hx).1 (cnX_ok hx).2
   rw [e,if_pos rfl]
   exact h
  ·rw [if_neg c]
   rcases ih.rsvU (hlX_ok hx).1 (hlX_ok hx).2 with e | ⟨e,h⟩
   ·rw [if_neg e]; exact ih.up
   ·rw [e,if_pos rfl]; exact h
def wtL (Y:Nat->Act) (n:Nat):List Hld:=(List.range n).map fun j=>⟨9,1+(Y j).a.tmod 4,1+(Y j).l.tdiv 4⟩
theorem wtL_len (Y:Nat->Act) (n:Nat):(wtL Y n).length = n:=by simp [wtL]
theorem wtL_succ (Y:Nat->Act) (n:Nat):wtL Y (n+1) = wtL Y n ++ [⟨9,1+(Y n).a.tmod 4,1+(Y n).l.tdiv 4⟩]:=by simp [wtL,List.range_succ]
theorem wtL_ok (Y:Nat->Act) (n:Nat) (hY:∀ j,j<n->(Y j).Ok):∀ c,c ∈ wtL Y n->hvB c = true/\c.o = 9:=fun c hc=>by
 obtain ⟨j,hj,rfl⟩:=List.mem_map.1 hc
 have h:=hY j (List.mem_range.1 hj)
 have h1:=mod4 h.a.1
 have h2:=div4 h.l
 exact ⟨hvB_iff.2 ⟨by simp,by simp,by dsimp only; omega,by dsimp only; omega,by dsimp only; omega,by dsimp only; omega⟩,rfl⟩
theorem actT {x:Act} (h:x.Ok):ToldOk P42 G42 14 [.agg x.c] (.new (hdV (hlX x) none)):=holdsT x.w x.o x.a x.l x.m h.o h.a h.l h.m
theorem simSt (cs:List Cne) (hs:List Hld):Sim (stV cs hs) (.agg [cnV cs none,hdV hs none]) :=
 Sim.agg (.cons (Sim.view (.inr rfl) fun _ _=>.refl _) (.cons (Sim.view (.inr rfl) fun _ _=>.refl _) .nil))
theorem i6l (n:Nat) (X:Nat->Act) (m:Nat) (Y:Nat->Act) (cs:List Cne) (hs:List Hld) (i:Nat) (p13 p14 p8:List T->T->Prop) (hl:List Hld) (c1 c2:List Cne) (h1 h2:List Hld) (E1 E2:Int):iterR P42 G42 A42 (K6l p13 p14 p8 hl c1 c2 h1 h2 E1 E2) 0 6 [] 5 (v5k n X (acV m Y) (rS cs hs) i) [] =
(
 bif decide (Int.ofNat i<Int.ofNat n) then
 bif decide (0<=Int.ofNat i)&&decide (Int.ofNat i<Int.ofNat n) then
 bif decide ((X i).w.tmod 2 = 0) then
 bif decide (0<=Int.ofNat i)&&decide (Int.ofNat i<Int.ofNat n) then
 bif decide (0<=Int.ofNat i)&&decide (Int.ofNat i<Int.ofNat n) then
 bif decF (p13 [stV cs hs,.agg [.int .i64 (IntKind.i64.wrap (1+IntKind.i64.wrap ((X i).a.tmod 4))),.int .i64 (IntKind.i64.wrap (1+IntKind.i64.wrap (X i).l))]] (.tup [stV c1 h1,.int .i64 E1])) then
 bif decide (E1 = 0) then
 some ((.normal,[acV n X,acV m Y,rS c1 h1,.int .i64 (IntKind.i64.wrap (Int.ofNat i+1))],[]))
 else
 some ((.normal,[acV n X,acV m Y,rS cs hs,.int .i64 (IntKind.i64.wrap (Int.ofNat i+1))],[]))
 else none else none else none else
 bif decide (0<=Int.ofNat i)&&decide (Int.ofNat i<Int.ofNat n) then
 bif decF (p14 [.agg (X i).c] (hdV hl
 none).new) then
 bif decF (p8 [stV cs hs,hdV hl
 none] (.tup [stN c2 h2,.int .i64 E2])) then
 bif decide (E2 = 0) then
 some ((.normal,[acV n X,acV m Y,rS c2 h2,.int .i64 (IntKind.i64.wrap (Int.ofNat i+1))],[]))
 else
 some ((.normal,[acV n X,acV m Y,rS cs hs,.int .i64 (IntKind.i64.wrap (Int.ofNat i+1))],[]))
 else none else none else none else none else
 some ((.exit 0,[acV m Y,rS cs hs],[]))):=by kernel_rfl
theorem i6w (n:Nat) (Y:Nat->Act) (cs:List Cne) (hs:List Hld) (L:List Hld) (i:Nat):iterR P42 G42 A42 noneO 0 6 [] 15 (v15k n Y (rS cs hs) (.own 0 L.length 0 L.length none) i) [hBk L] =
(
 bif decide (Int.ofNat i<Int.ofNat n) then
 bif decide (0<=Int.ofNat i)&&decide (Int.ofNat i<Int.ofNat n) then
 bif decide (0<=Int.ofNat i)&&decide (Int.ofNat i<Int.ofNat n) then
 bif L.length==L.length&&true then
 bif ((0:Nat)+L.length).ble L.length then
 bif ((L.length+(1:Nat)) * (25:Nat)).ble 70368744177664 then
 bif ((0:Nat)+L.length+(1:Nat)).ble L.length then
 some ((.normal,[acV n Y,rS cs hs,.own 0 L.length (0:Nat) (L.length+1)
 none,.int .i64 (IntKind.i64.wrap (Int.ofNat i+1))],[.mk L.length (3:Nat) L.length (fun j =>
 bif ((0:Nat)+L.length).ble j&&j.blt ((0:Nat)+L.length+1) then [[T.int .i64 (9:Int),T.int .i64 (IntKind.i64.wrap ((1:Int)+IntKind.i64.wrap ((Y i).a.tmod (4:Int)))),T.int .i64 (IntKind.i64.wrap ((1:Int)+IntKind.i64.wrap (IntKind.u8.wrap ((Y i).l.tdiv (4:Int)))))]].getD ((0:Nat)+(j - ((0:Nat)+L.length))) []
 else (L.getD j (Hld.mk (0:Int) (0:Int) (0:Int))).c) true false
 none,.mk 0 3 1 (fun j=>[[T.int .i64 (9:Int),T.int .i64 (IntKind.i64.wrap ((1:Int)+IntKind.i64.wrap ((Y i).a.tmod (4:Int)))),T.int .i64 (IntKind.i64.wrap ((1:Int)+IntKind.i64.wrap (IntKind.u8.wrap ((Y i).l.tdiv (4:Int)))))]].getD j []) true true
 none]))
 else
 some ((.normal,[acV n Y,rS cs hs,.own 0 (L.length+1) (0:Nat) (L.length+1)
 none,.int .i64 (IntKind.i64.wrap (Int.ofNat i+1))],[.mk (L.length+1) (3:Nat) (L.length+1) (fun j =>
 bif j.blt L.length then (L.getD ((0:Nat)+j) (Hld.mk (0:Int) (0:Int) (0:Int))).c
 else [[T.int .i64 (9:Int),T.int .i64 (IntKind.i64.wrap ((1:Int)+IntKind.i64.wrap ((Y i).a.tmod (4:Int)))),T.int .i64 (IntKind.i64.wrap ((1:Int)+IntKind.i64.wrap (IntKind.u8.wrap ((Y i).l.tdiv (4:Int)))))]].getD ((0:Nat)+(j - L.length)) []) true false
 none,.mk 0 3 1 (fun j=>[[T.int .i64 (9:Int),T.int .i64 (IntKind.i64.wrap ((1:Int)+IntKind.i64.wrap ((Y i).a.tmod (4:Int)))),T.int .i64 (IntKind.i64.wrap ((1:Int)+IntKind.i64.wrap (IntKind.u8.wrap ((Y i).l.tdiv (4:Int)))))]].getD j []) true true
 none]))
 else none else none else none else none else none else
 some ((.exit 2,[rS cs hs,.own 0 L.length (0:Nat) L.length
 none],[hBk L]))):=by kernel_rfl
theorem k6z (n:Nat) (X:Nat->Act) (m:Nat) (Y:Nat->Act):stepL P42 G42 A42 K6z 0 6 [] [acV n X,acV m Y] =
(
 bif decide (30<Int.ofNat n) then
 some (.bool true)
 else
 bif decide (5<Int.ofNat m) then
 some (.bool true)
 else
 none):=by kernel_rfl
theorem k6b (n:Nat) (X:Nat->Act) (m:Nat) (Y:Nat->Act) (cs:List Cne) (hs:List Hld) (L:List Hld) (p8 p15 p17 p19:List T->T->Prop) (c:List Cne) (h:List Hld) (E:Int) (nd:List Cne) (b:List Cne) (bh:List Hld) (F:Int) (sm:Bool):stepL P42 G42 A42 (K6m p8 p15 p17 p19 c h E nd b bh F sm) 0 6 [(5,litS (v5k n X (acV m Y) (rS [] []) 0) [] (.exit 0) [acV m Y,rS cs hs] []),(15,litS (v15k m Y (rS cs hs) (.own 0 0 0 0 none) 0) [hBk []] (.exit 2) [rS cs hs,.own 0 L.length 0 L.length none] [hBk L])] [acV n X,acV m Y] =
(
 bif decide (30<Int.ofNat n) then
 some (.bool true)
 else
 bif decide (5<Int.ofNat m) then
 some (.bool true)
 else
 bif weakF [acV n X,acV m Y,.reg [.nils,.nils],.int .i64 0] [] [acV n X,acV m Y,.reg [.view 2 0 (fun j=>[.int .i64 0,.int .i64 0]) (some 0),.view 3 0 (fun j=>[.int .i64 0,.int .i64 0,.int .i64 0]) (some 0)],.int .i64 0] [] then
 bif weakF [acV m Y,rS cs hs,.nils,.int .i64 0] [] [acV m Y,rS cs hs,.own 0 0 0 0
 none,.int .i64 0] [.mk 0 3 0 (fun j=>[.int .i64 0,.int .i64 0,.int .i64 0]) true false
 none] then
 bif decF (p8 [stV cs hs,
 bif L.length==L.length&&((0:Nat)+L.length).ble L.length then hV L.length (fun j=>L.getD (0+j) (Hld.mk (0:Int) (0:Int) (0:Int))) none else .undef] (.tup [stN c h,.int .i64 E])) then
 bif decide (E = 0) then
 bif decF (p15 [stV cs hs,
 bif L.length==L.length&&((0:Nat)+L.length).ble L.length then hV L.length (fun j=>L.getD (0+j) (Hld.mk (0:Int) (0:Int) (0:Int))) none else .undef] (cnV nd (some nd.length)).new) then
 bif decide (Int.ofNat nd.length = 0) then
 bif !decide (E = 0) then
 bif !decide (E = 18) then
 some (.bool false)
 else
 bif !decide (E = 0) then
 some (.bool true)
 else
 bif L.length==L.length&&true then
 bif decide (Int.ofNat L.length = 0) then
 some (.bool true)
 else
 bif decF (p17 [stV c h,.int .i64 9] (.tup [stV b bh,.int .i64 F])) then
 bif decide (F = 0) then
 bif decF (p19 [stV b bh,stV cs hs] (.bool sm)) then
 bif sm then
 some (.bool true)
 else
 bif decide (IntKind.i64.wrap (Int.ofNat cs.length+Int.ofNat hs.length) = (0:Int)) then
 bif decide (IntKind.i64.wrap (Int.ofNat b.length+Int.ofNat bh.length) = (0:Int)) then
 some (.bool true)
 else
 some (.bool false)
 else
 some (.bool false)
 else none else
 some (.bool false)
 else none else none else
 bif !decide (E = 0) then
 some (.bool true)
 else
 bif L.length==L.length&&true then
 bif decide (Int.ofNat L.length = 0) then
 some (.bool true)
 else
 bif decF (p17 [stV c h,.int .i64 9] (.tup [stV b bh,.int .i64 F])) then
 bif decide (F = 0) then
 bif decF (p19 [stV b bh,stV cs hs] (.bool sm)) then
 bif sm then
 some (.bool true)
 else
 bif decide (IntKind.i64.wrap (Int.ofNat cs.length+Int.ofNat hs.length) = (0:Int)) then
 bif decide (IntKind.i64.wrap (Int.ofNat b.length+Int.ofNat bh.length) = (0:Int)) then
 some (.bool true)
 else
 some (.bool false)
 else
 some (.bool false)
 else none else
 some (.bool false)
 else none else none else
 some (.bool false)
 else none else
 bif decF (p15 [stV cs hs,
 bif L.length==L.length&&((0:Nat)+L.length).ble L.length then hV L.length (fun j=>L.getD (0+j) (Hld.mk (0:Int) (0:Int) (0:Int))) none else .undef] (cnV nd (some nd.length)).new) then
 bif decide (Int.ofNat nd.length = 0) then
 some (.bool false)
 else
 bif !decide (E = 0) then
 bif !decide (E = 18) then
 some (.bool false)
 else
 bif !decide (E = 0) then
 some (.bool true)
 else
 bif L.length==L.length&&true then
 bif decide (Int.ofNat L.length = 0) then
 some (.bool true)
 else
 bif decF (p17 [stV c h,.int .i64 9] (.tup [stV b bh,.int .i64 F])) then
 bif decide (F = 0) then
 bif decF (p19 [stV b bh,stV cs hs] (.bool sm)) then
 bif sm then
 some (.bool true)
 else
 bif decide (IntKind.i64.wrap (Int.ofNat cs.length+Int.ofNat hs.length) = (0:Int)) then
 bif decide (IntKind.i64.wrap (Int.ofNat b.length+Int.ofNat bh.length) = (0:Int)) then
 some (.bool true)
 else
 some (.bool false)
 else
 some (.bool false)
 else none else
 some (.bool false)
 else none else none else
 bif !decide (E = 0) then
 some (.bool true)
 else
 bif L.length==L.length&&true then
 bif decide (Int.ofNat L.length = 0) then
 some (.bool true)
 else
 bif decF (p17 [stV c h,.int .i64 9] (.tup [stV b bh,.int .i64 F])) then
 bif decide (F = 0) then
 bif decF (p19 [stV b bh,stV cs hs] (.bool sm)) then
 bif sm then
 some (.bool true)
 else
 bif decide (IntKind.i64.wrap (Int.ofNat cs.length+Int.ofNat hs.length) = (0:Int)) then
 bif decide (IntKind.i64.wrap (Int.ofNat b.length+Int.ofNat bh.length) = (0:Int)) then
 some (.bool true)
 else
 some (.bool false)
 else
 some (.bool false)
 else none else
 some (.bool false)
 else none else none else none else none else none else
 none):=by kernel_rfl
theorem loop5k (n:Nat) (X:Nat->Act) (m:Nat) (Y:Nat->Act) (hn:n<=30) (hX:∀ j,j<n->(X j).Ok):LoopOk P42 G42 (A42 6) 6 5 (litS (v5k n X (acV m Y) (rS [] []) 0) [] (.exit 0) [acV m Y,rS (stB X n).1 (stB X n).2] []):=by
 obtain ⟨p13,h13⟩:=is_val P42 G42 13
 obtain ⟨p14,h14⟩:=is_val P42 G42 14
 obtain ⟨p8,h8⟩:=is_val P42 G42 8
 have ok:∀ hl c1 c2 h1 h2 E1 E2,OrcOk P42 G42 (K6l p13 p14 p8 hl c1 c2 h1 h2 E1 E2):=fun hl c1 c2 h1 h2 E1 E2=>told_add (told_add (told_add none_ok (callF_told h13)) (callF_told h14)) (callF_told h8)
 refine loop_steps hm42 (by kernel_rfl) (fun i=>v5k n X (acV m Y) (rS (stB X i).1 (stB X i).2) i) (fun _=>[]) (n:=n) (fun i hi=>?_) ?_
 ·have hI:=stB_inv X n hn hX i (by omega)
  have hx:=hX i hi
  have e1:=mod4 hx.a.1
  have e2:=hx.l
  have w1:IntKind.i64.wrap ((X i).a.tmod 4) = (X i).a.tmod 4:=wr64 (by omega) (by omega)
  have w2:IntKind.i64.wrap (1+(X i).a.tmod 4) = 1+(X i).a.tmod 4:=wr64 (by omega) (by omega)
  have w3:IntKind.i64.wrap (X i).l = (X i).l:=wr64 (by omega) (by omega)
  have w4:IntKind.i64.wrap (1+(X i).l) = 1+(X i).l:=wr64 (by omega) (by omega)
  have t13:=(addT (stB X i).1 (stB X i).2 (cnX (X i)) (by have:=hI.v.cl; omega) (by have:=hI.v.hl; omega)).sim (.cons (simSt _ _) (.cons (.refl _) .nil))
  have t14:=actT hx
  have t8:=(reserveT (stB X i).1 (stB X i).2 (hlX (X i)) (by have:=hI.v.cl; omega) (by have:=hI.v.hl; omega) (by have:=(hlX_ok hx).2; omega)).sim (.cons (simSt _ _) (.cons (.refl _) .nil))
  simp only [stB]
  generalize hA:addO (stB X i).1 (stB X i).2 (cnX (X i)) = A at *
  generalize hR:rsv (stB X i).1 (stB X i).2 (hlX (X i)) = R at *
  refine Step.mk0 (A:=A42) (m:=0) (ok (hlX (X i)) A.1 R.1 A.2.1 R.2.1 A.2.2 R.2.2) rfl rfl loops0 (h1:=[]) ?_ (.refl _)
  rw [i6l,w1,w2,w3,w4,up1 (by omega)]
  refine BT (BT ?_)
  by_cases c:(X i).w.tmod 2 = 0
  ·rw [if_pos c]
   refine bift (decide_eq_true c) (BT (BT (bift (callF_yes h13 t13) ?_)))
   by_cases c2:A.2.2 = 0
   ·rw [if_pos c2]
    exact bift (decide_eq_true c2) rfl
   ·rw [if_neg c2]
    exact biff (by rw [decide_eq_true_eq]; exact c2) rfl
  ·rw [if_neg c]
   refine biff (by rw [decide_eq_true_eq]; exact c) (BT (bift (callF_yes h14 t14) (bift (callF_yes h8 t8) ?_)))
   by_cases c2:R.2.2 = 0
   ·rw [if_pos c2]
    exact bift (decide_eq_true c2) rfl
   ·rw [if_neg c2]
    exact biff (by rw [decide_eq_true_eq]; exact c2) rfl
 ·refine Last.mk0 (A:=A42) (m:=0) (ok [] [] [] [] [] 0 0) rfl rfl loops0 (h1:=[]) (by simp) ?_ (.refl _)
  rw [i6l]
  exact BF rfl
theorem loop15k (m:Nat) (Y:Nat->Act) (cs:List Cne) (hs:List Hld) (hn:m<=1000) (hY:∀ j,j<m->(Y j).Ok):LoopOk P42 G42 (A42 6) 6 15 (litS (v15k m Y (rS cs hs) (.own 0 0 0 0 none) 0) [hBk []] (.exit 2) [rS cs hs,.own 0 (wtL Y m).length 0 (wtL Y m).length none] [hBk (wtL Y m)]):=by
 refine loop_steps hm42 (by kernel_rfl) (fun i=>v15k m Y (rS cs hs) (.own 0 (wtL Y i).length 0 (wtL Y i).length none) i) (fun i=>[hBk (wtL Y i)]) (n:=m) (fun i hi=>?_) ?_
 ·have hx:=hY i hi
  have e1:=mod4 hx.a.1
  have e2:=div4 hx.l
  have w1:IntKind.i64.wrap ((Y i).a.tmod 4) = (Y i).a.tmod 4:=wr64 (by omega) (by omega)
  have w2:IntKind.i64.wrap (1+(Y i).a.tmod 4) = 1+(Y i).a.tmod 4:=wr64 (by omega) (by omega)
  have w3:IntKind.u8.wrap ((Y i).l.tdiv 4) = (Y i).l.tdiv 4:=wr8 (by omega) (by omega)
  have w4:IntKind.i64.wrap ((Y i).l.tdiv 4) = (Y i).l.tdiv 4:=wr64 (by omega) (by omega)
  have w5:IntKind.i64.wrap (1+(Y i).l.tdiv 4) = 1+(Y i).l.tdiv 4:=wr64 (by omega) (by omega)
  have hl:=wtL_len Y i
  have es:=wtL_succ Y i
  have el:(wtL Y (i+1)).length = (wtL Y i).length+1:=by rw [es]; simp
  generalize wtL Y i = R at *
  generalize wtL Y (i+1) = R' at *
  rw [el]
  refine Step.mk (A:=A42) (m:=0) none_ok rfl rfl loops0 1 (Nat.le_refl 1) (h1:=[⟨R.length+1,3,R.length+1,fun j=>bif j.blt R.length then (R.getD (0+j) hd0).c else [[T.int .i64 9,.int .i64 (1+(Y i).a.tmod 4),.int .i64 (1+(Y i).l.tdiv 4)]].getD (0+(j - R.length)) [],true,false,none⟩,⟨0,3,1,fun j=>[[T.int .i64 9,.int .i64 (1+(Y i).a.tmod 4),.int .i64 (1+(Y i).l.tdiv 4)]].getD j [],true,true,none⟩]) (vs':=v15k m Y (rS cs hs) (.own 0 (R.length+1) 0 (R.length+1) none) (i+1)) ?_ (by rfl) ?_
  ·rw [i6w,w1,w2,w3,w4,w5,up1 (by omega)]
   (repeat (first | refine BS ?_ | refine BF ?_))
   rfl
  ·show SameBlks [_] [_]
   refine .cons ⟨el,rfl,el,id,fun j hj=>?_⟩ .nil
   have hj:j<R.length+1:=hj
   show (R'.getD j hd0).c = _
   rw [es]
   simp only [bltD0,Nat.zero_add]
   by_cases q:j<R.length
   ·rw [decide_eq_true q,cond_true]
    simp only [List.getD_eq_getElem?_getD,List.getElem?_append_left q]
   ·obtain rfl:j = R.length:=by omega
    rw [decide_eq_false q,cond_false,Nat.sub_self]
    simp only [List.getD_eq_getElem?_getD,List.getElem?_append_right (Nat.le_refl _),Nat.sub_self]
    rfl
 ·refine Last.mk0 (A:=A42) (m:=0) none_ok rfl rfl loops0 (h1:=[hBk (wtL Y m)]) (by simp) ?_ (.refl _)
  rw [i6w]
  exact BF rfl
open Go.Proofs
theorem one9B:∀ args r,(match args with | []=>Tree.ret (.bool true) | _=>Tree.none).run some = some r->ToldOk P42 G42 9 args r:=by
 intro args r h
 cases args with
 | nil=>obtain rfl:=Option.some.inj h; exact livesT
 | cons _ _=>cases h
theorem simHV (L:List Hld):Sim (bif L.length==L.length&&Nat.ble (0+L.length) L.length then hV L.length (fun j=>L.getD (0+j) ⟨0,0,0⟩) none else .undef) (hdV L none):=by
 rw [beq_self_eq_true,bleT (by omega)]
 refine Sim.view (.inl rfl) fun j hj=>?_
 show Sims (L.getD (0+j) hd0).c (L.getD j hd0).c
 rw [Nat.zero_add]
 exact .refl _
theorem backT (n:Nat) (X:Nat->Act) (m:Nat) (Y:Nat->Act) (hX:∀ j,j<n->(X j).Ok) (hY:∀ j,j<m->(Y j).Ok):ToldOk P42 G42 6 [acV n X,acV m Y] (.bool true):=by
 by_cases c1:30<n
 ·exact stepL_told hm42 hn42 (told_add none_ok one9B) (K:=K6z) (A:=A42) (m:=0) (by kernel_rfl) loops0 ((k6z n X m Y).trans (BT rfl))
 by_cases c2:5<m
 ·exact stepL_told hm42 hn42 (told_add none_ok one9B) (K:=K6z) (A:=A42) (m:=0) (by kernel_rfl) loops0 ((k6z n X m Y).trans (BF (BT rfl)))
 have hI:=stB_inv X n (by omega) hX n (Nat.le_refl _)
 have l5:=loop5k n X m Y (by omega) hX
 have l15:=loop15k m Y (stB X n).1 (stB X n).2 (by omega) hY
 have hW:=wtL_ok Y m hY
 have hlen:=wtL_len Y m
 generalize (stB X n).1 = cs at *
 generalize (stB X n).2 = hs at *
 generalize wtL Y m = W at *
 have hb:=hI.back (by omega) hW (by omega)
 have n1:cs.length<=100000:=by have:=hI.v.cl; omega
 have n2:hs.length<=100000:=by have:=hI.v.hl; omega
 obtain ⟨p8,h8⟩:=is_val P42 G42 8
 obtain ⟨p15,h15⟩:=is_val P42 G42 15
 obtain ⟨p17,h17⟩:=is_val P42 G42 17
 obtain ⟨p19,h19⟩:=is_val P42 G42 19
 have t8:=(reserveT cs hs W n1 n2 (by omega)).sim (.cons (simSt _ _) (.cons (simHV W) .nil))
 have t15:=(needT cs hs W n1 n2 (by omega) (lOk_iff.2 fun c hc=>(hW c hc).1)).sim (.cons (simSt _ _) (.cons (simHV W) .nil))
 have go:∀ c h E nd b bh F sm r,stepL P42 G42 A42 (K6m p8 p15 p17 p19 c h E nd b bh F sm) 0 6 [(5,litS (v5k n X (acV m Y) (rS [] []) 0) [] (.exit 0) [acV m Y,rS cs hs] []),(15,litS (v15k m Y (rS cs hs) (.own 0 0 0 0 none) 0) [hBk []] (.exit 2) [rS cs hs,.own 0 W.length 0 W.length none] [hBk W])] [acV n X,acV m Y] = some r->ToldOk P42 G42 6 [acV n X,acV m Y] r:=fun c h E nd b bh F sm r hr =>
  stepL_told hm42 hn42 (told_add (told_add (told_add (told_add (told_add none_ok one9B) (callF_told h8)) (callF_told h15)) (callF_told h17)) (callF_told h19)) (A:=A42) (m:=0) (by kernel_rfl) (loopsC l5 (loops1 l15)) hr
 have wA:weakF [acV n X,acV m Y,T.reg [T.nils,T.nils],T.int IntKind.i64 (0:Int)] [] (v5k n X (acV m Y) (rS [] []) 0) [] = true:=weakF_iff.2 fun Gl prom nt l=>.slS (.cons (.refl _) (.cons (.refl _) (.cons (.inr (.inl ⟨_,_,rfl,rfl,.cons (.inr ⟨rfl,.nilv _ _ (.inr rfl),rfl⟩) (.cons (.inr ⟨rfl,.nilv _ _ (.inr rfl),rfl⟩) .nil)⟩)) (.cons (.refl _) .nil)))) (.refl _)
 have wB:weakF [acV m Y,rS cs hs,T.nils,T.int IntKind.i64 (0:Int)] [] (v15k m Y (rS cs hs) (.own 0 0 0 0 none) 0) [hBk []] = true:=weakF_iff.2 fun Gl prom nt l=>.gh [hBk []] (fun b hb=>by simp at hb; subst hb; exact ⟨rfl,rfl⟩) (.cons (.refl _) (.cons (.refl _) (.cons (.inl (.own (b:=hBk []) (Nat.le_refl 0) rfl rfl)) (.cons (.refl _) .nil)))) (.refl _)
 rcases hb with ⟨e18,hne⟩ | ⟨e0,hz,hval,hrel⟩
 ·refine go (rsv cs hs W).1 (rsv cs hs W).2.1 18 (needO cs hs W) [] [] 0 true _ ?_
  rw [e18] at t8
  rw [k6b]
  refine BF (BF (bift wA (bift wB (bift (callF_yes h8 t8) (BF (bift (callF_yes h15 t15) (biff (by simpa using hne) (BT (BF (BT rfl))))))))))
 ·rw [e0] at t8
  by_cases c3:W = []
  ·refine go cs (mgL hs W) 0 (needO cs hs W) [] [] 0 true _ ?_
   rw [k6b]
   refine BF (BF (bift wA (bift wB (bift (callF_yes h8 t8) (bift rfl (bift (callF_yes h15 t15) (bift (by simpa using hz) (BF (BF (BS (bift (by simp [c3]) rfl)))))))))))
  ·have t17:=releaseT cs (mgL hs W) 9 n1 (by have:=hval.hl; omega)
   rw [hrel c3] at t17
   have t17:=t17.sim (.cons (simSt _ _) (.cons (.refl _) .nil))
   have t19:=sameT cs cs hs hs (by omega) (by omega)
   rw [smB_iff.2 ⟨rfl,rfl⟩] at t19
   have t19:=t19.sim (.cons (.refl _) (.cons (simSt cs hs) .nil))
   refine go cs (mgL hs W) 0 (needO cs hs W) cs hs 0 true _ ?_
   rw [k6b]
   refine BF (BF (bift wA (bift wB (bift (callF_yes h8 t8) (bift rfl (bift (callF_yes h15 t15) (bift (by simpa using hz) (BF (BF (BS (biff (by simpa using c3) (bift (callF_yes h17 t17) (bift rfl (bift (callF_yes h19 t19) rfl))))))))))))))
end Go.Ab

