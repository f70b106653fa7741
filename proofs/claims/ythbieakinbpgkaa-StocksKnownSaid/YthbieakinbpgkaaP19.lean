/- A part of the proof: nothing is assumed. -/
import Derived.Test.YthbieakinbpgkaaP15
import Derived.Test.YthbieakinbpgkaaP5
import Derived.Test.YthbieakinbpgkaaP11
import Derived.Test.YthbieakinbpgkaaP18
import Derived.Test.YthbieakinbpgkaaP17
import Derived.Test.YthbieakinbpgkaaP10
set_option linter.all false
namespace Go.Ab
open Go.Proofs
def LstIs (L:List Cne) (a:Int) (i:Nat):Option Nat->Prop
 | none=>∀ j,j<i->(L.getD j cn0).a ≠ a
 | some b=>b<i/\(L.getD b cn0).a = a/\∀ j,j<i->(L.getD j cn0).a = a->(L.getD b cn0).l<=(L.getD j cn0).l
theorem lst_spec (L:List Cne) (a:Int):∀ i,LstIs L a i (lst L a i)
 | 0=>fun j hj=>absurd hj (Nat.not_lt_zero _)
 | i+1=>by
  have ih:=lst_spec L a i
  unfold lst
  cases h1:lst L a i with
  | none =>
   rw [h1] at ih
   dsimp only
   by_cases c:(L.getD i cn0).a = a
   ·rw [if_pos c]
    refine ⟨by omega,c,fun j hj he=>?_⟩
    by_cases e:j = i
    ·subst e; omega
    ·exact absurd he (ih j (by omega))
   ·rw [if_neg c]
    intro j hj
    by_cases e:j = i
    ·subst e; exact c
    ·exact ih j (by omega)
  | some b =>
   rw [h1] at ih
   obtain ⟨q1,q2,q3⟩:=ih
   dsimp only
   by_cases c:(L.getD i cn0).a = a/\(L.getD i cn0).l<(L.getD b cn0).l
   ·rw [if_pos c]
    refine ⟨by omega,c.1,fun j hj he=>?_⟩
    by_cases e:j = i
    ·subst e; omega
    ·have:=q3 j (by omega) he; omega
   ·rw [if_neg c]
    refine ⟨by omega,q2,fun j hj he=>?_⟩
    by_cases e:j = i
    ·subst e
     exact Int.not_lt.1 fun h=>c ⟨he,h⟩
    ·exact q3 j (by omega) he
theorem cnN_erase:∀ (L:List Cne) (b:Nat),b<L.length->∀ x,cnN L x = (if (L.getD b cn0).a = x then (L.getD b cn0).l else 0)+cnN (L.eraseIdx b) x
 | [],b,h,x=>absurd h (Nat.not_lt_zero _)
 | c :: L,0,h,x=>rfl
 | c :: L,b+1,h,x=>by
  have ih:=cnN_erase L b (by simpa using h) x
  have e:(c :: L).getD (b+1) cn0 = L.getD b cn0:=rfl
  rw [e]
  simp only [List.eraseIdx_cons_succ,cnN]
  omega
theorem cnN_set:∀ (L:List Cne) (b:Nat),b<L.length->∀ (y:Cne) (x:Int),cnN (L.set b y) x = (if y.a = x then y.l else 0)+cnN (L.eraseIdx b) x
 | [],b,h,y,x=>absurd h (Nat.not_lt_zero _)
 | c :: L,0,h,y,x=>rfl
 | c :: L,b+1,h,y,x=>by
  have ih:=cnN_set L b (by simpa using h) y x
  simp only [List.set_cons_succ,List.eraseIdx_cons_succ,cnN]
  omega
theorem map_erase:∀ (L:List Cne) (b:Nat),b<L.length->(L.map (·.l)).Perm ((L.getD b cn0).l :: (L.eraseIdx b).map (·.l))
 | [],b,h=>absurd h (Nat.not_lt_zero _)
 | c :: L,0,h=>.refl _
 | c :: L,b+1,h=>by
  have ih:=map_erase L b (by simpa using h)
  exact (List.Perm.cons _ ih).trans (.swap ..)
theorem cut_sum {a:Int} {L:List Cne} {l kn:Int} {L2:List Cne} {k2:Int} (h:CutTo a L l kn L2 k2):0<=l->l<=cnN L a->∀ x,cnN L2 x = cnN L x - (if x = a then l else 0):=by
 induction h with
 | done L l kn h=>intro h0 hl x; split <;> omega
 | none L l kn h hb =>
  intro h0 hl x
  have:=lst_spec L a L.length
  rw [hb] at this
  have e:=cn_out (cs:=L) (x:=a) fun c hc=>by
   obtain ⟨j,hj,rfl⟩:=List.getElem_of_mem hc
   have:=this j hj
   simpa [List.getD_eq_getElem?_getD,List.getElem?_eq_getElem hj] using this
  omega
 | cut L l kn b L2 k2 h hb hl hr ih =>
  intro h0 hl2 x
  have hs:=lst_spec L a L.length
  rw [hb] at hs
  obtain ⟨q1,q2,_⟩:=hs
  have e1:=cnN_erase L b q1 a
  have e2:=cnN_erase L b q1 x
  rw [if_pos q2] at e1
  have ih:=ih (by omega) (by omega) x
  by_cases c:x = a
  ·subst c
   rw [if_pos rfl] at ih ⊢
   omega
  ·rw [if_neg c] at ih ⊢
   rw [if_neg fun h=>c (h.symm.trans q2)] at e2
   omega
 | part L l kn b h hb hl =>
  intro h0 hl2 x
  have hs:=lst_spec L a L.length
  rw [hb] at hs
  obtain ⟨q1,q2,_⟩:=hs
  have e1:=cnN_erase L b q1 x
  rw [cnN_set L b q1]
  rw [q2] at e1 ⊢
  dsimp only
  by_cases c:x = a
  ·subst c
   rw [if_pos rfl] at e1 ⊢
   rw [if_pos rfl]
   omega
  ·rw [if_neg fun h=>c h.symm] at e1 ⊢
   rw [if_neg c]
   omega
theorem cut_mem {a:Int} {L:List Cne} {l kn:Int} {L2:List Cne} {k2:Int} (h:CutTo a L l kn L2 k2):(∀ c,c ∈ L->1<=c.l)->L2.length<=L.length/\∀ c,c ∈ L2->∃ d,d ∈ L/\c.a = d.a/\1<=c.l/\c.l<=d.l:=by
 induction h with
 | done L l kn h=>exact fun hp=>⟨Nat.le_refl _,fun c hc=>⟨c,hc,rfl,hp c hc,Int.le_refl _⟩⟩
 | none L l kn h hb=>exact fun hp=>⟨Nat.le_refl _,fun c hc=>⟨c,hc,rfl,hp c hc,Int.le_refl _⟩⟩
 | cut L l kn b L2 k2 h hb hl hr ih =>
  intro hp
  obtain ⟨q1,q2⟩:=ih fun c hc=>hp c (List.mem_of_mem_eraseIdx hc)
  refine ⟨Nat.le_trans q1 (List.length_eraseIdx_le ..),fun c hc=>?_⟩
  obtain ⟨d,hd,r⟩:=q2 c hc
  exact ⟨d,List.mem_of_mem_eraseIdx hd,r⟩
 | part L l kn b h hb hl =>
  intro hp
  have hb:=lst_lt L a _ b hb
  refine ⟨by simp,fun c hc=>?_⟩
  rcases List.mem_or_eq_of_mem_set hc with q | q
  ·exact ⟨c,q,rfl,hp c q,Int.le_refl _⟩
  ·subst q
   exact ⟨_,mem_getD hb cn0,rfl,by dsimp only; omega,by dsimp only; omega⟩
def gE:List Int->Int->Nat
 | [],_=>0
 | x :: r,l=>if x<=l then gE r (l - x)+1 else 0
def gL:List Int->Int->Int
 | [],l=>l
 | x :: r,l=>if x<=l then gL r (l - x) else l
theorem asc_head {S:List Int} {m:Int} {r:List Int} (hS:S.Pairwise (·<=·)) (hp:S.Perm (m :: r)) (hm:∀ y,y ∈ r->m<=y):∃ S',S = m :: S'/\S'.Perm r/\S'.Pairwise (·<=·):=by
 cases S with
 | nil=>exact absurd hp.length_eq (by simp)
 | cons x S =>
  obtain ⟨q1,q2⟩:=List.pairwise_cons.1 hS
  have e:x = m:=by
   have hx:x ∈ m :: r:=hp.mem_iff.1 (by simp)
   have hy:m ∈ x :: S:=hp.mem_iff.2 (by simp)
   rcases List.mem_cons.1 hx with h | h
   ·exact h
   ·have h1:=hm x h
    rcases List.mem_cons.1 hy with h2 | h2
    ·exact h2.symm
    ·have:=q1 m h2; omega
  subst e
  exact ⟨S,rfl,hp.cons_inv,q2⟩
theorem sum_perm {S R:List Int} (h:S.Perm R):S.sum = R.sum:=by
 induction h with
 | nil=>rfl
 | cons x _ ih=>simp [ih]
 | swap x y l=>simp only [List.sum_cons]; omega
 | trans _ _ h1 h2=>rw [h1,h2]
theorem cut_greedy {a:Int} {L:List Cne} {l kn:Int} {L2:List Cne} {k2:Int} (h:CutTo a L l kn L2 k2):∀ S:List Int,S.Pairwise (·<=·)->S.Perm (L.map (·.l))->(∀ c,c ∈ L->c.a = a/\1<=c.l)->0<=l->l<=S.sum->L2.length+gE S l = L.length/\k2 = kn+gE S l+(if 0<gL S l then 1 else 0):=by
 induction h with
 | done L l kn h =>
  intro S hS hp hL h0 hl
  obtain rfl:l = 0:=by omega
  have e:gE S 0 = 0/\gL S 0 = 0:=by
   cases S with
   | nil=>exact ⟨rfl,rfl⟩
   | cons x S =>
    have hx:x ∈ L.map (·.l):=hp.mem_iff.1 (by simp)
    obtain ⟨c,hc,rfl⟩:=List.mem_map.1 hx
    have:=(hL c hc).2
    simp only [gE,gL]
    rw [if_neg (by omega),if_neg (by omega)]
    exact ⟨rfl,rfl⟩
  rw [e.1,e.2]
  exact ⟨rfl,by simp⟩
 | none L l kn h hb =>
  intro S hS hp hL h0 hl
  cases L with
  | nil =>
   have:S = []:=List.Perm.eq_nil hp
   subst this
   simp at hl
   omega
  | cons c L =>
   have:=lst_spec (c :: L) a (c :: L).length
   rw [hb] at this
   exact absurd (hL c (by simp)).1 (this 0 (by simp))
 | cut L l kn b L2 k2 h hb hl hr ih =>
  intro S hS hp hL h0 hls
  have hs:=lst_spec L a L.length
  rw [hb] at hs
  obtain ⟨q1,q2,q3⟩:=hs
  obtain ⟨S',rfl,p1,p2⟩:=asc_head hS (hp.trans (map_erase L b q1)) fun y hy=>by
   obtain ⟨c,hc,rfl⟩:=List.mem_map.1 hy
   obtain ⟨j,hj,rfl⟩:=List.getElem_of_mem (List.mem_of_mem_eraseIdx hc)
   have:=q3 j hj
   simp only [List.getD_eq_getElem?_getD,List.getElem?_eq_getElem hj,Option.getD_some] at this ⊢
   exact this (hL _ (List.getElem_mem hj)).1
  have ih:=ih S' p2 p1 (fun c hc=>hL c (List.mem_of_mem_eraseIdx hc)) (by omega) (by simp only [List.sum_cons] at hls; omega)
  have el:=List.length_eraseIdx_of_lt q1
  have e1:gE ((L.getD b cn0).l :: S') l = gE S' (l - (L.getD b cn0).l)+1:=by simp only [gE]; rw [if_pos hl]
  have e2:gL ((L.getD b cn0).l :: S') l = gL S' (l - (L.getD b cn0).l):=by simp only [gL]; rw [if_pos hl]
  rw [e1,e2]
  refine ⟨by omega,?_⟩
  rw [ih.2]
  omega
 | part L l kn b h hb hl =>
  intro S hS hp hL h0 hls
  have hs:=lst_spec L a L.length
  rw [hb] at hs
  obtain ⟨q1,q2,q3⟩:=hs
  obtain ⟨S',rfl,p1,p2⟩:=asc_head hS (hp.trans (map_erase L b q1)) fun y hy=>by
   obtain ⟨c,hc,rfl⟩:=List.mem_map.1 hy
   obtain ⟨j,hj,rfl⟩:=List.getElem_of_mem (List.mem_of_mem_eraseIdx hc)
   have:=q3 j hj
   simp only [List.getD_eq_getElem?_getD,List.getElem?_eq_getElem hj,Option.getD_some] at this ⊢
   exact this (hL _ (List.getElem_mem hj)).1
  have e1:gE ((L.getD b cn0).l :: S') l = 0:=by simp only [gE]; rw [if_neg (by omega)]
  have e2:gL ((L.getD b cn0).l :: S') l = l:=by simp only [gL]; rw [if_neg (by omega)]
  rw [e1,e2,if_pos h]
  exact ⟨by simp,by omega⟩
def posI (S:List Int) (x:Int):Nat->Nat
 | 0=>0
 | k+1=>if x<S.getD k 0 then posI S x k else k+1
theorem posI_le (S:List Int) (x:Int):∀ k,posI S x k<=k
 | 0=>Nat.le_refl _
 | k+1=>by
  unfold posI
  split
  ·have:=posI_le S x k; omega
  ·exact Nat.le_refl _
theorem posI_hi (S:List Int) (x:Int):∀ k j,posI S x k<=j->j<k->x<S.getD j 0
 | 0,j,_,h=>absurd h (Nat.not_lt_zero _)
 | k+1,j,h1,h2=>by
  unfold posI at h1
  split at h1
  ·next c =>
   by_cases e:j = k
   ·subst e; exact c
   ·exact posI_hi S x k j h1 (by omega)
  ·omega
theorem posI_lo (S:List Int) (x:Int):∀ k,posI S x k = 0 ∨ ¬ x<S.getD (posI S x k - 1) 0
 | 0=>.inl rfl
 | k+1=>by
  unfold posI
  split
  ·exact posI_lo S x k
  ·next c=>exact .inr (by simpa using c)
def insL (S:List Int) (x:Int):List Int:=S.take (posI S x S.length) ++ x :: S.drop (posI S x S.length)
theorem insL_len (S:List Int) (x:Int):(insL S x).length = S.length+1:=by
 have:=posI_le S x S.length
 simp only [insL,List.length_append,List.length_take,List.length_cons,List.length_drop]
 omega
theorem insL_perm (S:List Int) (x:Int):(insL S x).Perm (x :: S):=by
 unfold insL
 refine List.perm_middle.trans ?_
 rw [List.take_append_drop]
theorem insL_asc {S:List Int} (h:S.Pairwise (·<=·)) (x:Int):(insL S x).Pairwise (·<=·):=by
 unfold insL
 have hk:=posI_le S x S.length
 have hget:∀ i (hi:i<S.length),S.getD i 0 = S[i]:=fun i hi=>by simp [List.getD_eq_getElem?_getD,List.getElem?_eq_getElem hi]
 have hd:∀ y,y ∈ S.drop (posI S x S.length)->x<=y:=fun y hy=>by
  obtain ⟨i,hi,rfl⟩:=List.getElem_of_mem hy
  have hi:i<S.length - posI S x S.length:=by simpa using hi
  have:=posI_hi S x S.length (posI S x S.length+i) (by omega) (by omega)
  rw [hget _ (by omega)] at this
  simp only [List.getElem_drop]
  omega
 have ht:∀ y,y ∈ S.take (posI S x S.length)->y<=x:=fun y hy=>by
  obtain ⟨i,hi,rfl⟩:=List.getElem_of_mem hy
  have hi:i<posI S x S.length:=by simp at hi; omega
  rcases posI_lo S x S.length with q | q
  ·omega
  ·rw [hget _ (by omega)] at q
   simp only [List.getElem_take]
   by_cases e:i = posI S x S.length - 1
   ·subst e; omega
   ·have:=List.pairwise_iff_getElem.1 h i (posI S x S.length - 1) (by omega) (by omega) (by omega)
    omega
 refine List.pairwise_append.2 ⟨h.sublist (List.take_sublist ..),List.pairwise_cons.2 ⟨hd,h.sublist (List.drop_sublist ..)⟩,fun a ha b hb=>?_⟩
 have h1:=ht a ha
 rcases List.mem_cons.1 hb with rfl | hb
 ·exact h1
 ·have:=hd b hb; omega
theorem insL_get (S:List Int) (x:Int) (j:Nat) (hj:j<S.length+1):(insL S x).getD j 0 = if j<posI S x S.length then S.getD j 0 else if j = posI S x S.length then x else S.getD (j - 1) 0:=by
 have hk:=posI_le S x S.length
 have hl:(S.take (posI S x S.length)).length = posI S x S.length:=by simp; omega
 simp only [List.getD_eq_getElem?_getD]
 unfold insL
 by_cases c:j<posI S x S.length
 ·rw [if_pos c,List.getElem?_append_left (by omega),List.getElem?_take_of_lt c]
 ·rw [if_neg c,List.getElem?_append_right (by omega),hl]
  by_cases c2:j = posI S x S.length
  ·rw [if_pos c2,c2,Nat.sub_self]; rfl
  ·rw [if_neg c2,show j - posI S x S.length = (j - 1 - posI S x S.length)+1 by omega,List.getElem?_cons_succ,List.getElem?_drop,show posI S x S.length+(j - 1 - posI S x S.length) = j - 1 by omega]
def rL (S:List Int) (l:Int):Nat->Int
 | 0=>l
 | r+1=>rL S l r - S.getD r 0
theorem rL_cons (x:Int) (S:List Int) (l:Int):∀ r,rL (x :: S) l (r+1) = rL S (l - x) r
 | 0=>rfl
 | r+1=>by
  show rL (x :: S) l (r+1) - (x :: S).getD (r+1) 0 = _
  rw [rL_cons x S l r]
  rfl
theorem gE_spec:∀ (S:List Int) (l:Int),gE S l<=S.length/\(∀ r,r<gE S l->S.getD r 0<=rL S l r)/\(gE S l<S.length->rL S l (gE S l)<S.getD (gE S l) 0)/\gL S l = rL S l (gE S l)
 | [],l=>⟨Nat.le_refl _,fun r hr=>absurd hr (Nat.not_lt_zero _),fun h=>absurd h (Nat.lt_irrefl _),rfl⟩
 | x :: S,l=>by
  obtain ⟨q1,q2,q3,q4⟩:=gE_spec S (l - x)
  by_cases c:x<=l
  ·have e1:gE (x :: S) l = gE S (l - x)+1:=by simp only [gE]; rw [if_pos c]
   have e2:gL (x :: S) l = gL S (l - x):=by simp only [gL]; rw [if_pos c]
   rw [e1,e2,rL_cons]
   refine ⟨by simp only [List.length_cons]; omega,fun r hr=>?_,fun h=>?_,q4⟩
   ·cases r with
    | zero=>exact c
    | succ r=>rw [rL_cons]; exact q2 r (by omega)
   ·exact q3 (by simpa using h)
  ·have e1:gE (x :: S) l = 0:=by simp only [gE]; rw [if_neg c]
   have e2:gL (x :: S) l = l:=by simp only [gL]; rw [if_neg c]
   rw [e1,e2]
   exact ⟨Nat.zero_le _,fun r hr=>absurd hr (Nat.not_lt_zero _),fun _=>by show l<x; omega,rfl⟩
theorem cnN_all {L:List Cne} {a:Int} (h:∀ c,c ∈ L->c.a = a):cnN L a = (L.map (·.l)).sum:=by
 induction L with
 | nil=>rfl
 | cons c L ih =>
  simp only [cnN,List.map_cons,List.sum_cons]
  rw [if_pos (h c (by simp)),ih fun d hd=>h d (by simp [hd])]
open Go.Proofs
def cK (g:Nat->Int) (i:Nat):Cne:=⟨3,1+g i⟩
def u8V (n:Nat) (g:Nat->Int):T:=.view 1 n (fun j=>[.int .u8 (g j)]) none
def iV (k:Nat) (S:Nat->Int):T:=.view 1 k (fun j=>[.int .i64 (S j)]) none
def v6k (n:Nat) (g:Nat->Int) (m:Int) (r:T) (tot:Int) (i:Nat):List T:=[u8V n g,.int .u16 m,.reg [r,.nils],.int .i64 tot,.int .i64 i]
def s5k (n:Nat):T:=.reg [.own 0 n 0 (n+1) none,.own 1 0 0 1 (some 1)]
def v17k (n N:Nat) (g:Nat->Int) (tot many:Int) (a:T) (kn:Int) (S:T) (i:Nat):List T:=[u8V n g,s5k N,.int .i64 tot,.int .i64 many,a,.int .i64 kn,S,.int .i64 i]
def v20k (n N:Nat) (g:Nat->Int) (tot many:Int) (a:T) (kn:Int) (S:T) (i:Nat) (q:Int):List T:=[u8V n g,s5k N,.int .i64 tot,.int .i64 many,a,.int .i64 kn,S,.int .i64 i,.int .i64 q]
def h17k (N:Nat) (g:Nat->Int) (X:Blk):Heap:=[⟨N,2,N+1,fun j=>(cK g j).c,true,false,none⟩,X]
theorem i6ak (n:Nat) (g:Nat->Int) (m tot:Int) (i:Nat):iterR P42 G42 A42 noneO 0 4 [] 6 (v6k n g m .nils tot i) [] =
(
 bif decide (Int.ofNat i<Int.ofNat n) then
 bif decide (0<=Int.ofNat i)&&decide (Int.ofNat i<Int.ofNat n) then
 bif decide (0<=Int.ofNat i)&&decide (Int.ofNat i<Int.ofNat n) then
 some ((.normal,[u8V n g,.int .u16 m,.reg [.own 1 0 0 1
 none,.nils],.int .i64 (IntKind.i64.wrap (IntKind.i64.wrap (tot+1)+IntKind.i64.wrap (g i))),.int .i64 (IntKind.i64.wrap (Int.ofNat i+1))],[.mk 0 2 1 (fun j=>[[T.int .i64 (3:Int),T.int .i64 (IntKind.i64.wrap ((1:Int)+IntKind.i64.wrap (g i)))]].getD j []) true true
 none,.mk 0 2 1 (fun j=>[[T.int .i64 (3:Int),T.int .i64 (IntKind.i64.wrap ((1:Int)+IntKind.i64.wrap (g i)))]].getD (0+j) []) true false
 none]))
 else none else none else
 some ((.exit 0,[u8V n g,.int .u16 m,.reg [.nils,.nils],.int .i64 tot],[]))):=by kernel_rfl
theorem i6bk (n:Nat) (g:Nat->Int) (m tot:Int) (i k:Nat) (L:Nat->Cne):iterR P42 G42 A42 noneO 0 4 [] 6 (v6k n g m (.own 0 k 0 (k+1) none) tot i) [⟨k,2,k+1,fun j=>(L j).c,true,false,none⟩] =
(
 bif decide (Int.ofNat i<Int.ofNat n) then
 bif decide (0<=Int.ofNat i)&&decide (Int.ofNat i<Int.ofNat n) then
 bif k==k&&true then
 bif ((0:Nat)+(k+(1:Nat))).ble (k+1) then
 bif ((k+(1:Nat)+(1:Nat)) * (17:Nat)).ble 70368744177664 then
 bif ((0:Nat)+(k+(1:Nat))+(1:Nat)).ble (k+1) then
 bif decide (0<=Int.ofNat i)&&decide (Int.ofNat i<Int.ofNat n) then
 some ((.normal,[u8V n g,.int .u16 m,.reg [.own 0 k 0 (k+1+(1:Nat))
 none,.nils],.int .i64 (IntKind.i64.wrap (IntKind.i64.wrap (tot+1)+IntKind.i64.wrap (g i))),.int .i64 (IntKind.i64.wrap (Int.ofNat i+1))],[.mk k 2 (k+1) (fun j =>
 bif ((0:Nat)+(k+(1:Nat))).ble j&&j.blt ((0:Nat)+(k+1)+(1:Nat)) then [[T.int .i64 (3:Int),T.int .i64 (IntKind.i64.wrap ((1:Int)+IntKind.i64.wrap (g i)))]].getD ((0:Nat)+(j - ((0:Nat)+(k+1)))) []
 else (L j).c) true false
 none,.mk 0 2 1 (fun j=>[[T.int .i64 (3:Int),T.int .i64 (IntKind.i64.wrap ((1:Int)+IntKind.i64.wrap (g i)))]].getD j []) true true
 none]))
 else none else
 bif decide (0<=Int.ofNat i)&&decide (Int.ofNat i<Int.ofNat n) then
 some ((.normal,[u8V n g,.int .u16 m,.reg [.own 0 (k+1) (0:Nat) (k+1+(1:Nat))
 none,.nils],.int .i64 (IntKind.i64.wrap (IntKind.i64.wrap (tot+1)+IntKind.i64.wrap (g i))),.int .i64 (IntKind.i64.wrap (Int.ofNat i+1))],[.mk (k+1) (2:Nat) (k+1+(1:Nat)) (fun j =>
 bif j.blt (k+1) then (L ((0:Nat)+j)).c
 else [[T.int .i64 (3:Int),T.int .i64 (IntKind.i64.wrap ((1:Int)+IntKind.i64.wrap (g i)))]].getD ((0:Nat)+(j - (k+1))) []) true false
 none,.mk 0 2 1 (fun j=>[[T.int .i64 (3:Int),T.int .i64 (IntKind.i64.wrap ((1:Int)+IntKind.i64.wrap (g i)))]].getD j []) true true
 none]))
 else none else none else none else none else none else
 some ((.exit 0,[u8V n g,.int .u16 m,.reg [.own 0 k 0 (k+1)
 none,.nils],.int .i64 tot],[rowC k (k+1) L]))):=by kernel_rfl
theorem i20ak (n N:Nat) (g:Nat->Int) (tot many:Int) (a:T) (kn:Int) (k:Nat) (S:Nat->Int) (i q:Nat) (X:Blk):iterR P42 G42 A42 noneO 0 4 [] 20 (v20k n N g tot many a kn (iV k S) i q) (h17k N g X) =
(
 bif decide (0<Int.ofNat q) then
 bif decide (0<=IntKind.i64.wrap (Int.ofNat q - 1))&&decide (IntKind.i64.wrap (Int.ofNat q - 1)<Int.ofNat k) then
 bif N==N&&true then
 bif decide (0<=Int.ofNat i)&&decide (Int.ofNat i<Int.ofNat (N+1)) then
 bif N==N&&true then
 bif N==N&&true then
 bif ((0:Nat)+i).blt (N+1) then
 bif decide (1+g (0+i)<S (IntKind.i64.wrap (Int.ofNat q - (1:Int))).toNat) then
 some ((.normal,v20k n N g tot many a kn (iV k S) i (IntKind.i64.wrap (Int.ofNat q - 1)),h17k N g X))
 else
 some ((.exit 4,v20k n N g tot many a kn (iV k S) i (Int.ofNat q),h17k N g X))
 else none else none else none else none else none else none else
 some ((.exit 4,v20k n N g tot many a kn (iV k S) i (Int.ofNat q),h17k N g X))):=by kernel_rfl
theorem i17ak (n N:Nat) (g:Nat->Int) (tot many:Int) (a:T) (kn:Int) (k:Nat) (S:Nat->Int) (i q:Nat) (X:Blk):iterR P42 G42 A42 noneO 0 4 [(20,litS (v20k n N g tot many a kn (iV k S) i k) (h17k N g X) (.exit 4) (v20k n N g tot many a kn (iV k S) i q) (h17k N g X))] 17 (v17k n N g tot many a kn (iV k S) i) (h17k N g X) =
(
 bif N==N&&true then
 bif decide (Int.ofNat i<Int.ofNat (N+1)) then
 bif weakF (v20k n N g tot many a kn (iV k S) i (Int.ofNat k)) (h17k N g X) (v20k n N g tot many a kn (iV k S) i (Int.ofNat k)) (h17k N g X) then
 bif decide (0<=Int.ofNat q)&&decide (Int.ofNat q<=Int.ofNat k) then
 bif q.ble k then
 bif q==(0:Nat) then
 bif N==N&&true then
 bif decide (0<=Int.ofNat i)&&decide (Int.ofNat i<Int.ofNat (N+1)) then
 bif N==N&&true then
 bif N==N&&true then
 bif ((0:Nat)+i).blt (N+1) then
 bif decide (0<=Int.ofNat q)&&decide (Int.ofNat q<=Int.ofNat k)&&decide (Int.ofNat k<=Int.ofNat k) then
 bif k.ble k then
 bif k - q==(0:Nat) then
 some ((.normal,[u8V n g,s5k N,.int .i64 tot,.int .i64 many,a,.int .i64 kn,.own 3 0 0 1
 none,.int .i64 (IntKind.i64.wrap (Int.ofNat i+1))],[.mk N 2 (N+1) (fun j=>[.int .i64 3,.int .i64 (1+g j)]) true false
 none,X,.mk 0 1 0 (fun j=>[]) true true
 none,.mk 0 1 1 (fun j =>
 bif j.blt 0 then []
 else List.map plainOr ([[T.int .i64 ((1:Int)+g ((0:Nat)+i))]].getD j [])) true false
 none]))
 else
 bif (((1:Nat)+(k - q)) * (9:Nat)).ble 70368744177664 then
 bif ((1:Nat)+(k - q)).ble 1 then
 some ((.normal,[u8V n g,s5k N,.int .i64 tot,.int .i64 many,a,.int .i64 kn,.own 3 0 0 ((1:Nat)+(k - q))
 none,.int .i64 (IntKind.i64.wrap (Int.ofNat i+1))],[.mk N 2 (N+1) (fun j=>[.int .i64 3,.int .i64 (1+g j)]) true false
 none,X,.mk 0 1 0 (fun j=>[]) true true
 none,.mk 0 1 1 (fun j =>
 bif Nat.ble 1 j&&j.blt ((1:Nat)+(k - q)) then [.int .i64 (S (q+(j - 1)))]
 else
 bif j.blt 0 then []
 else List.map plainOr ([[T.int .i64 ((1:Int)+g ((0:Nat)+i))]].getD j [])) true false
 none]))
 else
 some ((.normal,[u8V n g,s5k N,.int .i64 tot,.int .i64 many,a,.int .i64 kn,.own 3 1 0 ((1:Nat)+(k - q))
 none,.int .i64 (IntKind.i64.wrap (Int.ofNat i+1))],[.mk N 2 (N+1) (fun j=>[.int .i64 3,.int .i64 (1+g j)]) true false
 none,X,.mk 0 1 0 (fun j=>[]) true true
 none,.mk 1 1 ((1:Nat)+(k - q)) (fun j =>
 bif j.blt 1 then
 bif ((0:Nat)+j).blt 0 then []
 else List.map plainOr ([[T.int .i64 ((1:Int)+g ((0:Nat)+i))]].getD (0+j) [])
 else [.int .i64 (S (q+(j - 1)))]) true false
 none]))
 else none else none else none else none else none else none else none else none else
 bif (((0:Nat)+q) * (9:Nat)).ble 70368744177664 then
 bif ((0:Nat)+q).ble 0 then
 bif ((0:Nat)+q).ble 0 then
 bif N==N&&true then
 bif decide (0<=Int.ofNat i)&&decide (Int.ofNat i<Int.ofNat (N+1)) then
 bif N==N&&true then
 bif N==N&&true then
 bif ((0:Nat)+i).blt (N+1) then
 bif ((0:Nat)+((0:Nat)+q)).ble 0 then
 bif (((0:Nat)+q+(1:Nat)) * (9:Nat)).ble 70368744177664 then
 bif decide (0<=Int.ofNat q)&&decide (Int.ofNat q<=Int.ofNat k)&&decide (Int.ofNat k<=Int.ofNat k) then
 bif k.ble k then
 bif ((0:Nat)+((0:Nat)+q+(1:Nat))).ble (0+q+1) then
 bif k - q==(0:Nat) then
 some ((.normal,[u8V n g,s5k N,.int .i64 tot,.int .i64 many,a,.int .i64 kn,.own 3 0 0 (0+q+1)
 none,.int .i64 (IntKind.i64.wrap (Int.ofNat i+1))],[.mk N 2 (N+1) (fun j=>[.int .i64 3,.int .i64 (1+g j)]) true false
 none,X,.mk 0 1 0 (fun j =>
 bif Nat.ble 0 j&&j.blt (0+q) then [.int .i64 (S (0+j))]
 else []) true true
 none,.mk 0 1 (0+q+1) (fun j =>
 bif j.blt (0+q) then
 bif Nat.ble 0 (0+j)&&((0:Nat)+j).blt (0+q) then [.int .i64 (S ((0:Nat)+(0+j)))]
 else []
 else List.map plainOr ([[T.int .i64 ((1:Int)+g ((0:Nat)+i))]].getD (j - (0+q)) [])) true false
 none]))
 else
 bif (((0:Nat)+q+(1:Nat)+(k - q)) * (9:Nat)).ble 70368744177664 then
 bif ((0:Nat)+((0:Nat)+q+(1:Nat))+(k - q)).ble (0+q+1) then
 some ((.normal,[u8V n g,s5k N,.int .i64 tot,.int .i64 many,a,.int .i64 kn,.own 3 0 0 (0+q+1+(k - q))
 none,.int .i64 (IntKind.i64.wrap (Int.ofNat i+1))],[.mk N 2 (N+1) (fun j=>[.int .i64 3,.int .i64 (1+g j)]) true false
 none,X,.mk 0 1 0 (fun j =>
 bif Nat.ble 0 j&&j.blt (0+q) then [.int .i64 (S (0+j))]
 else []) true true
 none,.mk 0 1 (0+q+1) (fun j =>
 bif ((0:Nat)+((0:Nat)+q+(1:Nat))).ble j&&j.blt ((0:Nat)+(0+q+1)+(k - q)) then [.int .i64 (S (q+(j - ((0:Nat)+(0+q+1)))))]
 else
 bif j.blt (0+q) then
 bif Nat.ble 0 (0+j)&&((0:Nat)+j).blt (0+q) then [.int .i64 (S ((0:Nat)+(0+j)))]
 else []
 else List.map plainOr ([[T.int .i64 ((1:Int)+g ((0:Nat)+i))]].getD (j - (0+q)) [])) true false
 none]))
 else
 some ((.normal,[u8V n g,s5k N,.int .i64 tot,.int .i64 many,a,.int .i64 kn,.own 3 1 0 (0+q+1+(k - q))
 none,.int .i64 (IntKind.i64.wrap (Int.ofNat i+1))],[.mk N 2 (N+1) (fun j=>[.int .i64 3,.int .i64 (1+g j)]) true false
 none,X,.mk 0 1 0 (fun j =>
 bif Nat.ble 0 j&&j.blt (0+q) then [.int .i64 (S (0+j))]
 else []) true true
 none,.mk 1 1 (0+q+1+(k - q)) (fun j =>
 bif j.blt (0+q+1) then
 bif ((0:Nat)+j).blt (0+q) then
 bif Nat.ble 0 ((0:Nat)+(0+j))&&((0:Nat)+((0:Nat)+j)).blt (0+q) then [.int .i64 (S ((0:Nat)+((0:Nat)+(0+j))))]
 else []
 else List.map plainOr ([[T.int .i64 ((1:Int)+g ((0:Nat)+i))]].getD (0+j - (0+q)) [])
 else [.int .i64 (S (q+(j - (0+q+1))))]) true false
 none]))
 else none else none else none else none else none else none else none else none else none else none else none else none else
 bif N==N&&true then
 bif decide (0<=Int.ofNat i)&&decide (Int.ofNat i<Int.ofNat (N+1)) then
 bif N==N&&true then
 bif N==N&&true then
 bif ((0:Nat)+i).blt (N+1) then
 bif ((0:Nat)+((0:Nat)+q)).ble (0+q) then
 bif (((0:Nat)+q+(1:Nat)) * (9:Nat)).ble 70368744177664 then
 bif ((0:Nat)+((0:Nat)+q)+(1:Nat)).ble (0+q) then
 bif decide (0<=Int.ofNat q)&&decide (Int.ofNat q<=Int.ofNat k)&&decide (Int.ofNat k<=Int.ofNat k) then
 bif k.ble k then
 bif ((0:Nat)+((0:Nat)+q+(1:Nat))).ble (0+q) then
 bif k - q==(0:Nat) then
 some ((.normal,[u8V n g,s5k N,.int .i64 tot,.int .i64 many,a,.int .i64 kn,.own 3 0 0 (0+q+1)
 none,.int .i64 (IntKind.i64.wrap (Int.ofNat i+1))],[.mk N 2 (N+1) (fun j=>[.int .i64 3,.int .i64 (1+g j)]) true false
 none,X,.mk 0 1 0 (fun j=>[]) true true
 none,.mk 0 1 (0+q) (fun j =>
 bif ((0:Nat)+((0:Nat)+q)).ble j&&j.blt ((0:Nat)+(0+q)+(1:Nat)) then List.map plainOr ([[T.int .i64 ((1:Int)+g ((0:Nat)+i))]].getD (j - ((0:Nat)+(0+q))) [])
 else [.int .i64 (S (0+j))]) true false
 none]))
 else
 bif (((0:Nat)+q+(1:Nat)+(k - q)) * (9:Nat)).ble 70368744177664 then
 bif ((0:Nat)+((0:Nat)+q+(1:Nat))+(k - q)).ble (0+q) then
 some ((.normal,[u8V n g,s5k N,.int .i64 tot,.int .i64 many,a,.int .i64 kn,.own 3 0 0 (0+q+1+(k - q))
 none,.int .i64 (IntKind.i64.wrap (Int.ofNat i+1))],[.mk N 2 (N+1) (fun j=>[.int .i64 3,.int .i64 (1+g j)]) true false
 none,X,.mk 0 1 0 (fun j=>[]) true true
 none,.mk 0 1 (0+q) (fun j =>
 bif ((0:Nat)+((0:Nat)+q+(1:Nat))).ble j&&j.blt ((0:Nat)+(0+q+1)+(k - q)) then [.int .i64 (S (q+(j - ((0:Nat)+(0+q+1)))))]
 else
 bif ((0:Nat)+((0:Nat)+q)).ble j&&j.blt ((0:Nat)+(0+q)+(1:Nat)) then List.map plainOr ([[T.int .i64 ((1:Int)+g ((0:Nat)+i))]].getD (j - ((0:Nat)+(0+q))) [])
 else [.int .i64 (S (0+j))]) true false
 none]))
 else
 some ((.normal,[u8V n g,s5k N,.int .i64 tot,.int .i64 many,a,.int .i64 kn,.own 3 1 0 (0+q+1+(k - q))
 none,.int .i64 (IntKind.i64.wrap (Int.ofNat i+1))],[.mk N 2 (N+1) (fun j=>[.int .i64 3,.int .i64 (1+g j)]) true false
 none,X,.mk 0 1 0 (fun j=>[]) true true
 none,.mk 1 1 (0+q+1+(k - q)) (fun j =>
 bif j.blt (0+q+1) then
 bif ((0:Nat)+((0:Nat)+q)).ble (0+j)&&((0:Nat)+j).blt ((0:Nat)+(0+q)+(1:Nat)) then List.map plainOr ([[T.int .i64 ((1:Int)+g ((0:Nat)+i))]].getD (0+j - ((0:Nat)+(0+q))) [])
 else [.int .i64 (S ((0:Nat)+(0+j)))]
 else [.int .i64 (S (q+(j - (0+q+1))))]) true false
 none]))
 else none else none else none else none else
 bif decide (0<=Int.ofNat q)&&decide (Int.ofNat q<=Int.ofNat k)&&decide (Int.ofNat k<=Int.ofNat k) then
 bif k.ble k then
 bif ((0:Nat)+((0:Nat)+q+(1:Nat))).ble (0+q+1) then
 bif k - q==(0:Nat) then
 some ((.normal,[u8V n g,s5k N,.int .i64 tot,.int .i64 many,a,.int .i64 kn,.own 3 1 0 (0+q+1)
 none,.int .i64 (IntKind.i64.wrap (Int.ofNat i+1))],[.mk N 2 (N+1) (fun j=>[.int .i64 3,.int .i64 (1+g j)]) true false
 none,X,.mk 0 1 0 (fun j=>[]) true true
 none,.mk 1 1 (0+q+1) (fun j =>
 bif j.blt (0+q) then [.int .i64 (S ((0:Nat)+(0+j)))]
 else List.map plainOr ([[T.int .i64 ((1:Int)+g ((0:Nat)+i))]].getD (j - (0+q)) [])) true false
 none]))
 else
 bif (((0:Nat)+q+(1:Nat)+(k - q)) * (9:Nat)).ble 70368744177664 then
 bif ((0:Nat)+((0:Nat)+q+(1:Nat))+(k - q)).ble (0+q+1) then
 some ((.normal,[u8V n g,s5k N,.int .i64 tot,.int .i64 many,a,.int .i64 kn,.own 3 1 0 (0+q+1+(k - q))
 none,.int .i64 (IntKind.i64.wrap (Int.ofNat i+1))],[.mk N 2 (N+1) (fun j=>[.int .i64 3,.int .i64 (1+g j)]) true false
 none,X,.mk 0 1 0 (fun j=>[]) true true
 none,.mk 1 1 (0+q+1) (fun j =>
 bif ((0:Nat)+((0:Nat)+q+(1:Nat))).ble j&&j.blt ((0:Nat)+(0+q+1)+(k - q)) then [.int .i64 (S (q+(j - ((0:Nat)+(0+q+1)))))]
 else
 bif j.blt (0+q) then [.int .i64 (S ((0:Nat)+(0+j)))]
 else List.map plainOr ([[T.int .i64 ((1:Int)+g ((0:Nat)+i))]].getD (j - (0+q)) [])) true false
 none]))
 else
 some ((.normal,[u8V n g,s5k N,.int .i64 tot,.int .i64 many,a,.int .i64 kn,.own 3 2 0 (0+q+1+(k - q))
 none,.int .i64 (IntKind.i64.wrap (Int.ofNat i+1))],[.mk N 2 (N+1) (fun j=>[.int .i64 3,.int .i64 (1+g j)]) true false
 none,X,.mk 0 1 0 (fun j=>[]) true true
 none,.mk 2 1 (0+q+1+(k - q)) (fun j =>
 bif j.blt (0+q+1) then
 bif ((0:Nat)+j).blt (0+q) then [.int .i64 (S ((0:Nat)+((0:Nat)+(0+j))))]
 else List.map plainOr ([[T.int .i64 ((1:Int)+g ((0:Nat)+i))]].getD (0+j - (0+q)) [])
 else [.int .i64 (S (q+(j - (0+q+1))))]) true false
 none]))
 else none else none else none else none else none else none else none else none else none else none else none else none else none else none else none else
 some ((.exit 2,[u8V n g,.int .i64 tot,.int .i64 many,a,.int .i64 kn,iV k S],h17k N g X))
 else
 none):=by kernel_rfl
def insF (S:Nat->Int) (q:Nat) (x:Int) (j:Nat):Int:=if j<q then S j else if j = q then x else S (j - 1)
theorem loop20k (n N:Nat) (g:Nat->Int) (tot many:Int) (a:T) (kn:Int) (S:List Int) (F:Nat->Int) (k:Nat) (i:Nat) (X:Blk) (hi:i<N+1) (hN:N<=1000) (hk:k<=1000) (hSk:S.length = k) (hF:∀ j,j<k->F j = S.getD j 0):LoopOk P42 G42 (A42 4) 4 20 (litS (v20k n N g tot many a kn (iV k F) i k) (h17k N g X) (.exit 4) (v20k n N g tot many a kn (iV k F) i (posI S (1+g i) k)) (h17k N g X)):=by
 subst hSk
 have hp:=posI_le S (1+g i) S.length
 refine loop_steps hm42 (by kernel_rfl) (fun r=>v20k n N g tot many a kn (iV S.length F) i ((S.length - r:Nat):Int)) (fun _=>h17k N g X) (n:=S.length - posI S (1+g i) S.length) (fun r hr=>?_) ?_
 ·refine Step.mk0 (A:=A42) (m:=0) none_ok rfl rfl loops0 (h1:=h17k N g X) ?_ (.refl _)
  show iterR P42 G42 A42 noneO 0 4 [] 20 (v20k n N g tot many a kn (iV S.length F) i ((S.length - r:Nat):Int)) (h17k N g X) = _
  obtain ⟨q,hq⟩:∃ q,S.length - r = q+1:=⟨S.length - r - 1,by omega⟩
  have hx:=posI_hi S (1+g i) S.length q (by omega) (by omega)
  rw [← hF q (by omega)] at hx
  rw [i20ak,hq,show S.length - (r+1) = q by omega,show IntKind.i64.wrap (Int.ofNat (q+1) - 1) = (q:Int) by rw [wr64 (by show (_:Int)<=((q+1:Nat):Int) - 1; omega) (by show ((q+1:Nat):Int) - 1<=_; omega)]; show ((q+1:Nat):Int) - 1 = q; omega]
  simp only [Nat.zero_add]
  refine BT (BT (BT (BT (BT (BT (BT (bift (by simpa using hx) rfl)))))))
 ·refine Last.mk0 (A:=A42) (m:=0) none_ok rfl rfl loops0 (h1:=h17k N g X) (by simp) ?_ (.refl _)
  show iterR P42 G42 A42 noneO 0 4 [] 20 (v20k n N g tot many a kn (iV S.length F) i ((S.length - (S.length - posI S (1+g i) S.length):Nat):Int)) (h17k N g X) = _
  rw [show S.length - (S.length - posI S (1+g i) S.length) = posI S (1+g i) S.length by omega]
  have hx:=posI_lo S (1+g i) S.length
  generalize posI S (1+g i) S.length = q at hp hx ⊢
  rw [i20ak]
  cases q with
  | zero=>exact BF rfl
  | succ q =>
   have hx:¬ 1+g i<S.getD q 0:=by simpa using hx
   rw [← hF q (by omega)] at hx
   rw [show IntKind.i64.wrap (Int.ofNat (q+1) - 1) = (q:Int) by rw [wr64 (by show (_:Int)<=((q+1:Nat):Int) - 1; omega) (by show ((q+1:Nat):Int) - 1<=_; omega)]; show ((q+1:Nat):Int) - 1 = q; omega]
   simp only [Nat.zero_add]
   exact BT (BT (BT (BT (BT (BT (BT (biff (by simpa using hx) rfl)))))))
theorem i17xk (n N:Nat) (g:Nat->Int) (tot many:Int) (a:T) (kn:Int) (k:Nat) (S:Nat->Int) (i q:Nat) (X:Blk) (hq:q<=k) (hk:k<=1000) (hi:i<N+1) (hN:N<=1000):∃ r,iterR P42 G42 A42 noneO 0 4 [(20,litS (v20k n N g tot many a kn (iV k S) i k) (h17k N g X) (.exit 4) (v20k n N g tot many a kn (iV k S) i q) (h17k N g X))] 17 (v17k n N g tot many a kn (iV k S) i) (h17k N g X) = some r ∧
 ∃ (v:Nat) (f:Nat->List T) (m:Nat) (B:Blk),r = (.normal,v17k n N g tot many a kn (.own 3 v 0 (k+1) none) (i+1),[⟨N,2,N+1,fun j=>(cK g j).c,true,false,none⟩,X,B,⟨v,1,m,f,true,false,none⟩])/\k+1<=m/\∀ j,j<k+1->f j = [.int .i64 (insF S q (1+g i) j)]:=by
 rw [i17ak,up1 (by omega)]
 (repeat (first | refine ET ?_ | refine EF ?_))
 have cell:∀ j,j<k+1->(j<q/\insF S q (1+g i) j = S j) ∨ (j = q/\insF S q (1+g i) j = 1+g i) ∨ (q<j/\insF S q (1+g i) j = S (j - 1)):=fun j hj=>by
  unfold insF
  rcases Nat.lt_trichotomy j q with c | c | c
  ·exact .inl ⟨c,if_pos c⟩
  ·exact .inr (.inl ⟨c,by rw [if_neg (by omega),if_pos c]⟩)
  ·exact .inr (.inr ⟨c,by rw [if_neg (by omega),if_neg (by omega)]⟩)
 by_cases c1:q = 0
 ·subst c1
  (repeat (first | refine ET ?_ | refine EF ?_))
  by_cases c2:k - 0 = 0
  ·(repeat (first | refine ET ?_ | refine EF ?_))
   obtain rfl:k = 0:=by omega
   refine ⟨_,rfl,_,_,_,_,rfl,Nat.le_refl _,fun j hj=>?_⟩
   obtain rfl:j = 0:=by omega
   rw [Nat.zero_add]
   rfl
  ·(repeat (first | refine ET ?_ | refine EF ?_))
   rw [show (1:Nat)+(k - 0) = k+1 by omega]
   refine ⟨_,rfl,_,_,_,_,rfl,Nat.le_refl _,fun j hj=>?_⟩
   rcases cell j hj with ⟨h1,h2⟩ | ⟨h1,h2⟩ | ⟨h1,h2⟩
   ·omega
   ·subst h1
    rw [h2]
    simp only [Nat.zero_add]
    rfl
   ·rw [h2]
    simp only [bltD0,Nat.zero_add]
    rw [decide_eq_false (by omega)]
    rfl
 ·(repeat (first | refine ET ?_ | refine EF ?_))
  by_cases c2:k - q = 0
  ·(repeat (first | refine ET ?_ | refine EF ?_))
   rw [show 0+q+1 = k+1 by omega]
   refine ⟨_,rfl,_,_,_,_,rfl,Nat.le_refl _,fun j hj=>?_⟩
   rcases cell j hj with ⟨h1,h2⟩ | ⟨h1,h2⟩ | ⟨h1,h2⟩
   ·rw [h2]
    simp only [bltD0,Nat.zero_add]
    rw [decide_eq_true (by omega)]
    rfl
   ·subst h1
    rw [h2]
    simp only [bltD0,Nat.zero_add]
    rw [decide_eq_false (by omega),Nat.sub_self]
    rfl
   ·omega
  ·(repeat (first | refine ET ?_ | refine EF ?_))
   rw [show 0+q+1+(k - q) = k+1 by omega]
   refine ⟨_,rfl,_,_,_,_,rfl,Nat.le_refl _,fun j hj=>?_⟩
   rcases cell j hj with ⟨h1,h2⟩ | ⟨h1,h2⟩ | ⟨h1,h2⟩
   ·rw [h2]
    simp only [bltD0,Nat.zero_add]
    rw [decide_eq_true (show j<q+1 by omega),decide_eq_true (show j<q by omega)]
    rfl
   ·subst h1
    rw [h2]
    simp only [bltD0,Nat.zero_add]
    rw [decide_eq_true (show j<j+1 by omega),decide_eq_false (show ¬ j<j by omega),Nat.sub_self]
    rfl
   ·rw [h2]
    simp only [bltD0,Nat.zero_add]
    rw [decide_eq_false (show ¬ j<q+1 by omega),show q+(j - (q+1)) = j - 1 by omega]
    rfl
open Go.Proofs
section
variable {Hp:Type}
structure Act where
 w:Int
 o:Int
 a:Int
 l:Int
 m:Int
def Act.c (x:Act):List T:=[.int .u8 x.w,.int .u8 x.o,.int .u8 x.a,.int .u8 x.l,.int .u8 x.m]
structure Act.Ok (x:Act):Prop where
 w:0<=x.w/\x.w<=255
 o:0<=x.o/\x.o<=255
 a:0<=x.a/\x.a<=255
 l:0<=x.l/\x.l<=255
 m:0<=x.m/\x.m<=255
def acV (n:Nat) (X:Nat->Act):T:=.view 5 n (fun j=>(X j).c) none
end
open Go.Proofs
def mC (x:T) (H:Nat->Nat->Int):List T:=x :: (List.range 30).map fun k=>T.int .i64 (H (k / 5) (k % 5))
def v16 (x:T) (H:Nat->Nat->Int) (a s:Int) (i:Nat):List T:=[.vp (mC x H),.int .i64 a,.int .i64 s,.int .i64 i]
def w16 (x:T) (H:Nat->Nat->Int) (a s:Int):List T:=[.vp (mC x H),.int .i64 a,.int .i64 s]
def hSum (H:Nat->Nat->Int) (a:Nat):Int:=H 1 a+H 2 a+H 3 a+H 4 a+H 5 a
def hL (o a l m:Int):List Hld:=⟨1+o.tmod 5,1+a.tmod 4,1+l⟩ :: if m.tmod 3 = 2 then [⟨1+o.tmod 5,1+(m.tdiv 3).tmod 4,1+m.tdiv 4⟩] else []
theorem i16 (M:List Cne) (H:Nat->Nat->Int) (a s:Int) (i:Nat):iterR P42 G42 A42 noneO 0 16 [] 3 (v16 (cnV M none) H a s i) [] =
(
 bif decide (Int.ofNat i<Int.ofNat M.length) then
 bif decide (0<=Int.ofNat i)&&decide (Int.ofNat i<Int.ofNat M.length) then
 bif decide ((M.getD i (Cne.mk (0:Int) (0:Int))).a = a) then
 bif decide (0<=Int.ofNat i)&&decide (Int.ofNat i<Int.ofNat M.length) then
 some ((.normal,[.vp (mC (cnV M
 none) H),.int .i64 a,.int .i64 (IntKind.i64.wrap (s+(M.getD i (Cne.mk (0:Int) (0:Int))).l)),.int .i64 (IntKind.i64.wrap (Int.ofNat i+1))],[]))
 else none else
 some ((.normal,[.vp (mC (cnV M
 none) H),.int .i64 a,.int .i64 s,.int .i64 (IntKind.i64.wrap (Int.ofNat i+1))],[]))
 else none else
 some ((.exit 0,[.vp (mC (cnV M
 none) H),.int .i64 a,.int .i64 s],[]))):=by kernel_rfl
theorem k14 (w o a l m:Int):stepV P42 G42 A42 noneO 0 14 [.agg [.int .u8 w,.int .u8 o,.int .u8 a,.int .u8 l,.int .u8 m]] =
(
 bif decide (m.tmod 3 = 2) then
 some (.fresh true (3:Nat) (2:Nat) (fun j =>
 bif ((0:Nat)+j).blt 1 then [[T.int .i64 (IntKind.i64.wrap ((1:Int)+IntKind.i64.wrap (o.tmod (5:Int)))),T.int .i64 (IntKind.i64.wrap ((1:Int)+IntKind.i64.wrap (a.tmod (4:Int)))),T.int .i64 (IntKind.i64.wrap ((1:Int)+IntKind.i64.wrap l))]].getD ((0:Nat)+(0+j)) []
 else [[T.int .i64 (IntKind.i64.wrap ((1:Int)+IntKind.i64.wrap (o.tmod (5:Int)))),T.int .i64 (IntKind.i64.wrap ((1:Int)+IntKind.i64.wrap ((IntKind.u8.wrap (m.tdiv (3:Int))).tmod (4:Int)))),T.int .i64 (IntKind.i64.wrap ((1:Int)+IntKind.i64.wrap (IntKind.u8.wrap (m.tdiv (4:Int)))))]].getD ((0:Nat)+(0+j - 1)) []) (2:Nat)
 none)
 else
 some (.fresh true (3:Nat) (1:Nat) (fun j=>[[T.int .i64 (IntKind.i64.wrap ((1:Int)+IntKind.i64.wrap (o.tmod (5:Int)))),T.int .i64 (IntKind.i64.wrap ((1:Int)+IntKind.i64.wrap (a.tmod (4:Int)))),T.int .i64 (IntKind.i64.wrap ((1:Int)+IntKind.i64.wrap l))]].getD (0+j) []) (1:Nat) (some 1))):=by kernel_rfl
theorem k16 (M:List Cne) (H:Nat->Nat->Int) (s:Int) (a:Nat) (ha:a = 1 ∨ a = 2 ∨ a = 3 ∨ a = 4):stepL P42 G42 A42 noneO 6 16 [(3,litS (v16 (cnV M none) H a 0 0) [] (.exit 0) (w16 (cnV M none) H a s) [])] [.vp (mC (cnV M none) H),.int .i64 a] =
 (bif weakF (v16 (cnV M none) H a 0 0) [] (v16 (cnV M none) H a 0 0) [] then
 some (T.int IntKind.i64 (IntKind.i64.wrap (IntKind.i64.wrap (IntKind.i64.wrap (IntKind.i64.wrap (IntKind.i64.wrap (s - H 1 a) - H 2 a) - H 3 a) - H 4 a) - H 5 a)))
 else none):=by
 obtain rfl | rfl | rfl | rfl:=ha
 all_goals kernel_rfl
theorem freeM (M:List Cne) (H:Nat->Nat->Int) (a:Nat) (ha:a = 1 ∨ a = 2 ∨ a = 3 ∨ a = 4) (hM:∀ c,c ∈ M->0<=c.l/\c.l<=1000000000) (hn:M.length<=1000) (hH:∀ o a,0<=H o a/\H o a<=1000000000):ToldOk P42 G42 16 [.vp (mC (cnV M none) H),.int .i64 a] (.int .i64 (cnN M a - hSum H a)):=by
 have hb:∀ i,0<=cnN (M.take i) a/\cnN (M.take i) a<=1000000000000:=fun i=>by
  have:=cnN_bd (M.take i) (fun c hc=>hM c (List.mem_of_mem_take hc)) a
  have h2:(M.take i).length<=1000:=by simp; omega
  omega
 have l1:LoopOk P42 G42 (A42 16) 16 3 (litS (v16 (cnV M none) H a 0 0) [] (.exit 0) (w16 (cnV M none) H a (cnN M a)) []):=by
  refine loop_steps hm42 (by kernel_rfl) (fun i=>v16 (cnV M none) H a (cnN (M.take i) a) i) (fun _=>[]) (n:=M.length) (fun i hi=>?_) ?_
  ·refine Step.mk0 (A:=A42) (m:=0) none_ok rfl rfl loops0 (h1:=[]) ?_ (.refl _)
   show iterR P42 G42 A42 noneO 0 16 [] 3 (v16 (cnV M none) H a (cnN (M.take i) a) i) [] = _
   have e:=take_one (l:=M) (i:=i) hi cn0
   have hb0:=hb i
   have hb1:=hb (i+1)
   rw [e,cnN_app] at hb1 ⊢
   simp only [cnN] at hb1 ⊢
   rw [i16,up1 (by omega),show M.getD i ⟨0,0⟩ = M.getD i cn0 from rfl]
   refine BT (BT ?_)
   by_cases c:(M.getD i cn0).a = a
   ·rw [if_pos c] at hb1 ⊢
    refine bift (decide_eq_true c) (BT ?_)
    rw [show IntKind.i64.wrap (cnN (M.take i) a+(M.getD i cn0).l) = cnN (M.take i) a+((M.getD i cn0).l+0) by rw [wr64 (by omega) (by omega)]; omega]
    rfl
   ·rw [if_neg c]
    refine biff (by rw [decide_eq_true_eq]; exact c) ?_
    rw [Int.add_zero,Int.add_zero]
    rfl
  ·refine Last.mk0 (A:=A42) (m:=0) none_ok rfl rfl loops0 (h1:=[]) (by simp) ?_ (.refl _)
   show iterR P42 G42 A42 noneO 0 16 [] 3 (v16 (cnV M none) H a (cnN (M.take M.length) a) M.length) [] = _
   rw [i16,List.take_length]
   exact BF rfl
 refine stepL_told hm42 hn42 none_ok (K:=noneO) (A:=A42) (m:=6) (by kernel_rfl) (loops1 l1) ((k16 M H (cnN M a) a ha).trans (bift (weakF_of ⟨rfl,.refl _⟩) ?_))
 have h0:=hb M.length
 rw [List.take_length] at h0
 have h1:=hH 1 a
 have h2:=hH 2 a
 have h3:=hH 3 a
 have h4:=hH 4 a
 have h5:=hH 5 a
 have e1:IntKind.i64.wrap (cnN M a - H 1 a) = cnN M a - H 1 a:=wr64 (by omega) (by omega)
 have e2:IntKind.i64.wrap (cnN M a - H 1 a - H 2 a) = cnN M a - H 1 a - H 2 a:=wr64 (by omega) (by omega)
 have e3:IntKind.i64.wrap (cnN M a - H 1 a - H 2 a - H 3 a) = cnN M a - H 1 a - H 2 a - H 3 a:=wr64 (by omega) (by omega)
 have e4:IntKind.i64.wrap (cnN M a - H 1 a - H 2 a - H 3 a - H 4 a) = cnN M a - H 1 a - H 2 a - H 3 a - H 4 a:=wr64 (by omega) (by omega)
 have e5:IntKind.i64.wrap (cnN M a - H 1 a - H 2 a - H 3 a - H 4 a - H 5 a) = cnN M a - hSum H a:=by rw [wr64 (by omega) (by omega)]; unfold hSum; omega
 rw [e1,e2,e3,e4,e5]
theorem holdsT (w o a l m:Int) (ho:0<=o/\o<=255) (ha:0<=a/\a<=255) (hl:0<=l/\l<=255) (hm:0<=m/\m<=255):ToldOk P42 G42 14 [.agg [.int .u8 w,.int .u8 o,.int .u8 a,.int .u8 l,.int .u8 m]] (.new (hdV (hL o a l m) none)):=by
 have o1:0<=o.tmod 5/\o.tmod 5<=4:=by rw [Int.tmod_eq_emod_of_nonneg ho.1]; omega
 have a1:0<=a.tmod 4/\a.tmod 4<=3:=by rw [Int.tmod_eq_emod_of_nonneg ha.1]; omega
 have m3:0<=m.tdiv 3/\m.tdiv 3<=255:=by rw [Int.tdiv_eq_ediv_of_nonneg hm.1]; omega
 have m4:0<=m.tdiv 4/\m.tdiv 4<=255:=by rw [Int.tdiv_eq_ediv_of_nonneg hm.1]; omega
 have m5:0<=(m.tdiv 3).tmod 4/\(m.tdiv 3).tmod 4<=3:=by rw [Int.tmod_eq_emod_of_nonneg m3.1]; omega
 have e1:IntKind.i64.wrap (o.tmod 5) = o.tmod 5:=wr64 (by omega) (by omega)
 have e2:IntKind.i64.wrap (a.tmod 4) = a.tmod 4:=wr64 (by omega) (by omega)
 have e3:IntKind.i64.wrap l = l:=wr64 (by omega) (by omega)
 have e4:IntKind.i64.wrap (1+o.tmod 5) = 1+o.tmod 5:=wr64 (by omega) (by omega)
 have e5:IntKind.i64.wrap (1+a.tmod 4) = 1+a.tmod 4:=wr64 (by omega) (by omega)
 have e6:IntKind.i64.wrap (1+l) = 1+l:=wr64 (by omega) (by omega)
 have e7:IntKind.u8.wrap (m.tdiv 3) = m.tdiv 3:=wr8 (by omega) (by omega)
 have e8:IntKind.u8.wrap (m.tdiv 4) = m.tdiv 4:=wr8 (by omega) (by omega)
 have e9:IntKind.i64.wrap (m.tdiv 4) = m.tdiv 4:=wr64 (by omega) (by omega)
 have e10:IntKind.i64.wrap (1+m.tdiv 4) = 1+m.tdiv 4:=wr64 (by omega) (by omega)
 have e11:IntKind.i64.wrap ((m.tdiv 3).tmod 4) = (m.tdiv 3).tmod 4:=wr64 (by omega) (by omega)
 have e12:IntKind.i64.wrap (1+(m.tdiv 3).tmod 4) = 1+(m.tdiv 3).tmod 4:=wr64 (by omega) (by omega)
 have k:=k14 w o a l m
 rw [e1,e2,e3,e4,e5,e6,e7,e8,e9,e10,e11,e12] at k
 by_cases c:m.tmod 3 = 2
 ·have t:=stepV_told hm42 hn42 none_ok (K:=noneO) (A:=A42) (m:=0) (k.trans (bift (by simpa using c) rfl))
  refine t.frz.resTo (.new ?_)
  have e:hL o a l m = [⟨1+o.tmod 5,1+a.tmod 4,1+l⟩,⟨1+o.tmod 5,1+(m.tdiv 3).tmod 4,1+m.tdiv 4⟩]:=by unfold hL; rw [if_pos c]
  rw [e]
  refine Sim.view (.inl rfl) fun j hj=>?_
  match j,hj with
  | 0,_=>exact .refl _
  | 1,_=>exact .refl _
 ·have t:=stepV_told hm42 hn42 none_ok (K:=noneO) (A:=A42) (m:=0) (k.trans (biff (by simpa using c) rfl))
  refine t.frz.resTo (.new ?_)
  have e:hL o a l m = [⟨1+o.tmod 5,1+a.tmod 4,1+l⟩]:=by unfold hL; rw [if_neg c]
  rw [e]
  refine Sim.view (.inr rfl) fun j hj=>?_
  match j,hj with
  | 0,_=>exact .refl _
open Go.Proofs
def rowH (H:Nat->Nat->Int) (o:Nat):Nat->List Hld
 | 0=>[]
 | k+1=>rowH H o k ++ if 0<H o (k+1) then [⟨o,(k+1:Nat),H o (k+1)⟩] else []
def hsU (H:Nat->Nat->Int):Nat->List Hld
 | 0=>[]
 | o+1=>hsU H o ++ rowH H (o+1) 4
theorem rowH_len (H:Nat->Nat->Int) (o:Nat):∀ k,(rowH H o k).length<=k
 | 0=>Nat.le_refl _
 | k+1=>by
  have:=rowH_len H o k
  simp only [rowH,List.length_append]
  split <;> simp <;> omega
theorem hsU_len (H:Nat->Nat->Int):∀ o,(hsU H o).length<=4 * o
 | 0=>Nat.le_refl _
 | o+1=>by
  have:=hsU_len H o
  have:=rowH_len H (o+1) 4
  simp only [hsU,List.length_append]
  omega
def cB (v m:Nat) (f:Nat->List T) (tb:Bool):Blk:=⟨v,2,m,f,true,tb,none⟩
def hBk (L:List Hld):Blk:=⟨L.length,3,L.length,fun j=>(L.getD j hd0).c,true,false,none⟩
def v6s (x:T) (H:Nat->Nat->Int) (c:T) (k:Nat) (o a:Int):List T:=[.vp (mC x H),.reg [.nils,.nils],.reg [c,.own 1 k 0 k none],.int .i64 o,.int .i64 a]
def w6s (x:T) (H:Nat->Nat->Int) (c:T) (k:Nat) (o:Int):List T:=[.vp (mC x H),.reg [.nils,.nils],.reg [c,.own 1 k 0 k none],.int .i64 o]
def w3s (c:T) (k:Nat):List T:=[.reg [.nils,.nils],.reg [c,.own 1 k 0 k none]]
def x3s (x:T) (H:Nat->Nat->Int) (c:T) (k:Nat):List T:=[.vp (mC x H),.reg [.nils,.nils],.reg [c,.own 1 k 0 k none]]
def y3s (c:T) (k:Nat):List T:=[.reg [c,.own 1 k 0 k none]]
theorem i6s (M:List Cne) (H:Nat->Nat->Int) (n v:Nat) (cap:Option Nat) (L:List Hld) (m:Nat) (f:Nat->List T) (tb:Bool) (o a:Nat) (ho:o = 1 ∨ o = 2 ∨ o = 3 ∨ o = 4 ∨ o = 5) (ha:a = 0 ∨ a = 1 ∨ a = 2 ∨ a = 3):iterR P42 G42 A42 noneO 0 20 [] 6 (v6s (cnV M none) H (.own 0 v 0 n cap) L.length o (a+1:Nat)) [cB v m f tb,hBk L] =
 (bif decide (0<H o (a+1)) then
 bif L.length==L.length&&true then
 bif (0+L.length).ble L.length then
 bif ((L.length+1) * 25).ble 70368744177664 then
 bif (0+L.length+1).ble L.length then
 some ((Ex.normal,[.vp (mC (cnV M none) H),.reg [.nils,.nils],.reg [.own 0 v 0 n cap,.own 1 L.length 0 (L.length+1) none],.int .i64 o,.int .i64 (a+1+1:Nat)],
  [cB v m f tb,⟨L.length,3,L.length,fun j=>bif (0+L.length).ble j&&j.blt (0+L.length+1) then [[T.int .i64 o,.int .i64 (a+1:Nat),.int .i64 (H o (a+1))]].getD (0+(j - (0+L.length))) [] else (L.getD j hd0).c,true,false,none⟩,
   ⟨0,3,1,fun j=>[[T.int .i64 o,.int .i64 (a+1:Nat),.int .i64 (H o (a+1))]].getD j [],true,true,none⟩]))
 else
 some ((Ex.normal,v6s (cnV M none) H (.own 0 v 0 n cap) (L.length+1) o (a+1+1:Nat),
  [cB v m f tb,⟨L.length+1,3,L.length+1,fun j=>bif j.blt L.length then (L.getD (0+j) hd0).c else [[T.int .i64 o,.int .i64 (a+1:Nat),.int .i64 (H o (a+1))]].getD (0+(j - L.length)) [],true,false,none⟩,
   ⟨0,3,1,fun j=>[[T.int .i64 o,.int .i64 (a+1:Nat),.int .i64 (H o (a+1))]].getD j [],true,true,none⟩]))
 else
 none
 else
 none
 else
 none
 else
 some ((Ex.normal,v6s (cnV M none) H (.own 0 v 0 n cap) L.length o (a+1+1:Nat),[cB v m f tb,hBk L]))):=by
 obtain rfl | rfl | rfl | rfl | rfl:=ho
 all_goals obtain rfl | rfl | rfl | rfl:=ha
 all_goals kernel_rfl
theorem i6t (M:List Cne) (H:Nat->Nat->Int) (n v:Nat) (cap:Option Nat) (L:List Hld) (m:Nat) (f:Nat->List T) (tb:Bool) (o:Nat) (ho:o = 1 ∨ o = 2 ∨ o = 3 ∨ o = 4 ∨ o = 5):iterR P42 G42 A42 noneO 0 20 [] 6 (v6s (cnV M none) H (.own 0 v 0 n cap) L.length o 5) [cB v m f tb,hBk L] =
 some (.exit 2,w6s (cnV M none) H (.own 0 v 0 n cap) L.length o,[cB v m f tb,hBk L]):=by
 obtain rfl | rfl | rfl | rfl | rfl:=ho
 all_goals kernel_rfl
theorem i3s (M:List Cne) (H:Nat->Nat->Int) (n v:Nat) (cap:Option Nat) (L L':List Hld) (m:Nat) (f:Nat->List T) (tb:Bool) (o:Nat) (ho:o = 1 ∨ o = 2 ∨ o = 3 ∨ o = 4 ∨ o = 5):iterR P42 G42 A42 noneO 0 20 [(6,litS (v6s (cnV M none) H (.own 0 v 0 n cap) L.length o 1) [cB v m f tb,hBk L] (.exit 2) (w6s (cnV M none) H (.own 0 v 0 n cap) L'.length o) [cB v m f tb,hBk L'])] 3 (w6s (cnV M none) H (.own 0 v 0 n cap) L.length o) [cB v m f tb,hBk L] =
 (bif weakF (v6s (cnV M none) H (.own 0 v 0 n cap) L.length o 1) [cB v m f tb,hBk L] (v6s (cnV M none) H (.own 0 v 0 n cap) L.length o 1) [cB v m f tb,hBk L] then some (.normal,w6s (cnV M none) H (.own 0 v 0 n cap) L'.length (o+1:Nat),[cB v m f tb,hBk L']) else none):=by
 obtain rfl | rfl | rfl | rfl | rfl:=ho
 all_goals kernel_rfl
theorem i3t (M:List Cne) (H:Nat->Nat->Int) (n v:Nat) (cap:Option Nat) (L:List Hld) (m:Nat) (f:Nat->List T) (tb:Bool):iterR P42 G42 A42 noneO 0 20 [] 3 (w6s (cnV M none) H (.own 0 v 0 n cap) L.length 6) [cB v m f tb,hBk L] =
 some (.exit 0,w3s (.own 0 v 0 n cap) L.length,[cB v m f tb,hBk L]):=by kernel_rfl
theorem r0s (M:List Cne) (H:Nat->Nat->Int):codeL P42 G42 A42 noneO 0 20 [] (nav [1]) [0] [.vp (mC (cnV M none) H)] [] [0,2] =
(
 some ((.normal,[.vp (mC (cnV M
 none) H),.reg [.nils,.nils]],[]))):=by kernel_rfl
theorem r1s (M:List Cne) (H:Nat->Nat->Int):codeL P42 G42 A42 noneO 0 20 [] (nav [1,2]) [0,2] [.vp (mC (cnV M none) H),.reg [.nils,.nils]] [] [0,2,3] =
(
 bif M.length==(0:Nat) then
 some ((.normal,[.vp (mC (cnV M
 none) H),.reg [.nils,.nils],.reg [.own 0 0 0 0 (some 0),.nils]],[cB (0:Nat) (0:Nat) (fun j=>[]) true]))
 else
 bif (((0:Nat)+M.length) * (17:Nat)).ble 70368744177664 then
 bif ((0:Nat)+M.length).ble 0 then
 bif ((0:Nat)+M.length).ble 0 then
 some ((.normal,[.vp (mC (cnV M
 none) H),.reg [.nils,.nils],.reg [.own 0 0 0 ((0:Nat)+M.length) (some 0),.nils]],[cB (0:Nat) (0:Nat) (fun j =>
 bif Nat.ble 0 j&&j.blt ((0:Nat)+M.length) then (M.getD j (Cne.mk (0:Int) (0:Int))).c
 else []) true]))
 else none else
 some ((.normal,[.vp (mC (cnV M
 none) H),.reg [.nils,.nils],.reg [.own 1 0 0 ((0:Nat)+M.length)
 none,.nils]],[cB (0:Nat) (0:Nat) (fun j=>[]) true,cB (0:Nat) ((0:Nat)+M.length) (fun j=>(M.getD j (Cne.mk (0:Int) (0:Int))).c) false]))
 else
 none):=by kernel_rfl
theorem r2s (M:List Cne) (H:Nat->Nat->Int) (n v:Nat) (cap:Option Nat) (m:Nat) (f:Nat->List T) (tb:Bool) (L:List Hld):codeL P42 G42 A42 noneO 0 20 [(3,litS (w6s (cnV M none) H (.own 0 v 0 n cap) 0 1) [cB v m f tb,hBk []] (.exit 0) (w3s (.own 0 v 0 n cap) L.length) [cB v m f tb,hBk L])] (nav [2,2]) [0,2,3] (x3s (cnV M none) H (.own 0 v 0 n cap) 0) [cB v m f tb,hBk []] [2] =
(
 bif weakF [.vp (mC (cnV M
 none) H),.reg [.nils,.nils],.reg [.own 0 v 0 n cap,.own 1 0 0 0
 none],.int .i64 1] [cB v m f tb,.mk 0 3 0 (fun j=>[.int .i64 0,.int .i64 0,.int .i64 0]) true false
 none] [.vp (mC (cnV M
 none) H),.reg [.nils,.nils],.reg [.own 0 v 0 n cap,.own 1 0 0 0
 none],.int .i64 1] [cB v m f tb,.mk 0 3 0 (fun j=>[.int .i64 0,.int .i64 0,.int .i64 0]) true false
 none] then
 some ((.ret,[.reg [.own 0 v 0 n cap,.own 1 L.length (0:Nat) L.length
 none]],[cB v m f tb,hBk L]))
 else
 none):=by kernel_rfl
theorem four {a:Nat} (h:a<4):a = 0 ∨ a = 1 ∨ a = 2 ∨ a = 3:=by omega
theorem loop6s (M:List Cne) (H:Nat->Nat->Int) (n v:Nat) (cap:Option Nat) (L:List Hld) (m:Nat) (f:Nat->List T) (tb:Bool) (o:Nat) (ho:o = 1 ∨ o = 2 ∨ o = 3 ∨ o = 4 ∨ o = 5) (hn:L.length<=1000):LoopOk P42 G42 (A42 20) 20 6 (litS (v6s (cnV M none) H (.own 0 v 0 n cap) L.length o 1) [cB v m f tb,hBk L] (.exit 2) (w6s (cnV M none) H (.own 0 v 0 n cap) (L ++ rowH H o 4).length o) [cB v m f tb,hBk (L ++ rowH H o 4)]):=by
 have step:∀ r,r<4->Step P42 G42 (A42 20) 20 6 2 (v6s (cnV M none) H (.own 0 v 0 n cap) (L ++ rowH H o r).length o (r+1:Nat)) [cB v m f tb,hBk (L ++ rowH H o r)] (v6s (cnV M none) H (.own 0 v 0 n cap) (L ++ rowH H o (r+1)).length o (r+1+1:Nat)) [cB v m f tb,hBk (L ++ rowH H o (r+1))]:=fun r hr=>by
  have hl:=rowH_len H o r
  have hl2:(L ++ rowH H o r).length<=1004:=by simp; omega
  have er:L ++ rowH H o (r+1) = (L ++ rowH H o r) ++ if 0<H o (r+1) then [⟨o,(r+1:Nat),H o (r+1)⟩] else []:=by simp only [rowH,List.append_assoc]
  rw [er]
  generalize L ++ rowH H o r = R at hl2 ⊢
  by_cases c:0<H o (r+1)
  ·rw [if_pos c]
   have e:(R ++ [(⟨o,(r+1:Nat),H o (r+1)⟩:Hld)]).length = R.length+1:=by simp
   rw [e]
   refine Step.mk (A:=A42) (m:=0) none_ok rfl rfl loops0 2 (by decide) ((i6s M H n v cap R m f tb o r ho (four hr)).trans ?_) (by rfl) ?_ (h1:=[cB v m f tb,⟨R.length+1,3,R.length+1,fun j=>bif j.blt R.length then (R.getD (0+j) hd0).c else [[T.int .i64 o,.int .i64 (r+1:Nat),.int .i64 (H o (r+1))]].getD (0+(j - R.length)) [],true,false,none⟩,⟨0,3,1,fun j=>[[T.int .i64 o,.int .i64 (r+1:Nat),.int .i64 (H o (r+1))]].getD j [],true,true,none⟩])
   ·refine bift (decide_eq_true c) (BT (BT (BT (BF rfl))))
   ·show SameBlks [cB v m f tb,_] [cB v m f tb,_]
    refine .cons ⟨rfl,rfl,rfl,id,fun _ _=>rfl⟩ (.cons ⟨e,rfl,e,id,fun j hj=>?_⟩ .nil)
    have hj:j<R.length+1:=hj
    show ((R ++ [(⟨o,(r+1:Nat),H o (r+1)⟩:Hld)]).getD j hd0).c = _
    simp only [bltD0,Nat.zero_add]
    by_cases q:j<R.length
    ·rw [decide_eq_true q,cond_true]
     simp only [List.getD_eq_getElem?_getD,List.getElem?_append_left q]
    ·obtain rfl:j = R.length:=by omega
     rw [decide_eq_false q,cond_false,Nat.sub_self]
     simp only [List.getD_eq_getElem?_getD,List.getElem?_append_right (Nat.le_refl _),Nat.sub_self]
     rfl
  ·rw [if_neg c,List.append_nil]
   exact Step.mk0 (A:=A42) (m:=0) none_ok rfl rfl loops0 (h1:=[cB v m f tb,hBk R]) ((i6s M H n v cap R m f tb o r ho (four hr)).trans (biff (by rw [decide_eq_true_eq]; exact c) rfl)) (.refl _)
 have e0:L ++ rowH H o 0 = L:=List.append_nil _
 have l:=loop_steps hm42 (f:=20) (r:=6) (by kernel_rfl) (an:=A42 20) (fun r=>v6s (cnV M none) H (.own 0 v 0 n cap) (L ++ rowH H o r).length o (r+1:Nat)) (fun r=>[cB v m f tb,hBk (L ++ rowH H o r)]) (n:=4) (e1:=.exit 2) (vs1:=w6s (cnV M none) H (.own 0 v 0 n cap) (L ++ rowH H o 4).length o) (h1:=[cB v m f tb,hBk (L ++ rowH H o 4)]) step
  (Last.mk0 (A:=A42) (m:=0) none_ok rfl rfl loops0 (by simp) (i6t M H n v cap (L ++ rowH H o 4) m f tb o ho) (.refl _))
 simp only [e0] at l
 exact l
theorem loop3s (M:List Cne) (H:Nat->Nat->Int) (n v:Nat) (cap:Option Nat) (m:Nat) (f:Nat->List T) (tb:Bool):LoopOk P42 G42 (A42 20) 20 3 (litS (w6s (cnV M none) H (.own 0 v 0 n cap) 0 1) [cB v m f tb,hBk []] (.exit 0) (w3s (.own 0 v 0 n cap) (hsU H 5).length) [cB v m f tb,hBk (hsU H 5)]):=by
 refine loop_steps hm42 (f:=20) (r:=3) (by kernel_rfl) (an:=A42 20) (fun r=>w6s (cnV M none) H (.own 0 v 0 n cap) (hsU H r).length (r+1:Nat)) (fun r=>[cB v m f tb,hBk (hsU H r)]) (n:=5) (fun r hr=>?_) ?_
 ·have hl:=hsU_len H r
  have l6:=loop6s M H n v cap (hsU H r) m f tb (r+1) (by omega) (by omega)
  exact Step.mk0 (A:=A42) (m:=0) none_ok rfl rfl (loops1 l6) ((i3s M H n v cap (hsU H r) (hsU H (r+1)) m f tb (r+1) (by omega)).trans (bift (weakF_of ⟨rfl,.refl _⟩) rfl)) (.refl _)
 ·exact Last.mk0 (A:=A42) (m:=0) none_ok rfl rfl loops0 (by simp) (i3t M H n v cap (hsU H 5) m f tb) (.refl _)
def hsL (H:Nat->Nat->Int):List Hld:=hsU H 5
theorem fin20 (v n m:Nat) (cap:Option Nat) (f:Nat->List T) (tb:Bool) (L:List Hld) (hn:n<=m):resK P42 G42 (A42 20).prom Try.f20 (mkSt [2] (y3s (.own 0 v 0 n cap) L.length) [cB v m f tb,hBk L]) (fun r=>some (give [cB v m f tb,hBk L] r)) = some (.agg [.fresh true 2 m (fun j=>f (0+j)) n cap,.fresh true 3 L.length (fun j=>(L.getD (0+j) hd0).c) L.length none]):=by
 have e:resK P42 G42 (A42 20).prom Try.f20 (mkSt [2] (y3s (.own 0 v 0 n cap) L.length) [cB v m f tb,hBk L]) (fun r=>some (give [cB v m f tb,hBk L] r)) = some (.agg [bif v==v&&Nat.ble (0+n) m then .fresh true 2 m (fun j=>f (0+j)) n cap else .undef,bif L.length==L.length&&Nat.ble (0+L.length) L.length then .fresh true 3 L.length (fun j=>(L.getD (0+j) hd0).c) L.length none else .undef]):=by kernel_rfl
 rw [e,beq_self_eq_true,beq_self_eq_true,bleT (by omega),bleT (by omega)]
 rfl
theorem stockT (M:List Cne) (H:Nat->Nat->Int) (hn:M.length<=1000):ToldOk P42 G42 20 [.vp (mC (cnV M none) H)] (.agg [.new (cnV M none),.new (hdV (hsL H) none)]):=by
 have p0:Pz P42 G42 A42 20 [] [1] [0] [.vp (mC (cnV M none) H)] [] .normal [0,2] [.vp (mC (cnV M none) H),.reg [.nils,.nils]] []:=Pz.run hm42 none_ok (m:=0) (by kernel_rfl) loops0 (r0s M H)
 have p2:∀ v n cap m f tb,Pz P42 G42 A42 20 [] [2,2] [0,2,3] (x3s (cnV M none) H (.own 0 v 0 n cap) 0) [cB v m f tb,hBk []] .ret [2] (y3s (.own 0 v 0 n cap) (hsL H).length) [cB v m f tb,hBk (hsL H)]:=fun v n cap m f tb =>
  Pz.run hm42 none_ok (m:=0) (by kernel_rfl) (loops1 (loop3s M H n v cap m f tb)) ((r2s M H n v cap m f tb (hsU H 5)).trans (bift (weakF_of ⟨rfl,.refl _⟩) rfl))
 have gh:∀ v n cap m f tb,Wk G42 A42 20 0 [0,2,3] [.vp (mC (cnV M none) H),.reg [.nils,.nils],.reg [.own 0 v 0 n cap,.nils]] [cB v m f tb] (x3s (cnV M none) H (.own 0 v 0 n cap) 0) [cB v m f tb,hBk []]:=fun v n cap m f tb nt =>
  .gh [hBk []] (fun b hb=>by simp at hb; subst hb; exact ⟨rfl,rfl⟩) (.cons (.refl _) (.cons (.refl _) (.cons (.reg (.cons (.refl _) (.cons (.own (b:=hBk []) (Nat.le_refl 1) rfl rfl) (.refl _)))) .nil))) (.refl _)
 rcases Nat.eq_zero_or_pos M.length with q | q
 ·have p1:Pz P42 G42 A42 20 [] [1,2] [0,2] [.vp (mC (cnV M none) H),.reg [.nils,.nils]] [] .normal [0,2,3] [.vp (mC (cnV M none) H),.reg [.nils,.nils],.reg [.own 0 0 0 0 (some 0),.nils]] [cB 0 0 (fun _=>[]) true]:=Pz.run hm42 none_ok (m:=0) (by kernel_rfl) loops0 ((r1s M H).trans (bift (by simpa using q) rfl))
  have t:=Pz.told hn42 Try.func20 (by kernel_rfl) (by kernel_rfl) rfl (Pz.seq (by kernel_rfl) p0 (Pz.seq (by kernel_rfl) (Pz.post p1 (gh 0 0 (some 0) 0 _ true)) (p2 0 0 (some 0) 0 _ true))) (fin20 0 0 0 (some 0) _ true (hsL H) (Nat.le_refl _))
  refine t.frz.aggTo (.cons (.new ?_) (.cons (.new ?_) .nil))
  ·obtain rfl:M = []:=List.length_eq_zero_iff.1 q
   exact Sim.view (.inr rfl) fun j hj=>absurd hj (Nat.not_lt_zero _)
  ·refine Sim.view (.inl rfl) fun j hj=>?_
   rw [Nat.zero_add]
   exact .refl _
 ·have p1:Pz P42 G42 A42 20 [] [1,2] [0,2] [.vp (mC (cnV M none) H),.reg [.nils,.nils]] [] .normal [0,2,3] [.vp (mC (cnV M none) H),.reg [.nils,.nils],.reg [.own 1 0 0 M.length none,.nils]] [cB 0 0 (fun _=>[]) true,cB 0 M.length (fun j=>(M.getD j cn0).c) false]:=Pz.run hm42 none_ok (m:=0) (by kernel_rfl) loops0 ((r1s M H).trans (by
   rw [Nat.zero_add]
   (repeat (first | refine BS ?_ | refine BF ?_))
   rfl))
  have cn:Wk G42 A42 20 0 [0,2,3] [.vp (mC (cnV M none) H),.reg [.nils,.nils],.reg [.own 1 0 0 M.length none,.nils]] [cB 0 0 (fun _=>[]) true,cB 0 M.length (fun j=>(M.getD j cn0).c) false] [.vp (mC (cnV M none) H),.reg [.nils,.nils],.reg [.own 0 0 0 M.length none,.nils]] [cB 0 M.length (fun j=>(M.getD j cn0).c) false]:=fun nt=>.canon [1] rfl
  have t:=Pz.told hn42 Try.func20 (by kernel_rfl) (by kernel_rfl) rfl (Pz.seq (by kernel_rfl) p0 (Pz.seq (by kernel_rfl) (Pz.post (Pz.post p1 cn) (gh 0 M.length none M.length _ false)) (p2 0 M.length none M.length _ false))) (fin20 0 M.length M.length none _ false (hsL H) (Nat.le_refl _))
  refine t.frz.aggTo (.cons (.new ?_) (.cons (.new ?_) .nil))
  ·refine Sim.view (.inl rfl) fun j hj=>?_
   rw [Nat.zero_add]
   exact .refl _
  ·refine Sim.view (.inl rfl) fun j hj=>?_
   rw [Nat.zero_add]
   exact .refl _
open Go.Proofs
theorem flt_is (o:Int) (hs:List Hld):∀ i,i<=hs.length->fltTo o hs i = (hs.take i).filter fun c=>decide (c.o ≠ o)
 | 0,_=>rfl
 | i+1,hi=>by
  have ih:=flt_is o hs i (by omega)
  rw [take_one (l:=hs) (i:=i) (by omega) hd0,List.filter_append,← ih]
  simp only [fltTo]
  by_cases c:(hs.getD i hd0).o = o
  ·rw [if_pos c]
   simp only [List.filter_cons,List.filter_nil,c]
   simp
  ·rw [if_neg c]
   simp only [List.filter_cons,List.filter_nil,decide_eq_true c,if_true]
theorem flt_all (o:Int) (hs:List Hld):fltTo o hs hs.length = hs.filter fun c=>decide (c.o ≠ o):=by rw [flt_is o hs _ (Nat.le_refl _),List.take_length]
theorem kS_filter (o':Int) (L:List Hld) (o a:Int):kS (L.filter fun c=>decide (c.o ≠ o')) o a = if o = o' then 0 else kS L o a:=by
 induction L with
 | nil=>simp [kS]
 | cons c l ih =>
  rw [List.filter_cons]
  by_cases q:c.o = o'
  ·rw [if_neg (by simp [q]),ih]
   by_cases r:o = o'
   ·rw [if_pos r,if_pos r]
   ·rw [if_neg r,if_neg r]
    simp only [kS]
    rw [if_neg fun h=>r (h.1.symm.trans q)]
    omega
  ·rw [if_pos (by simp [q])]
   simp only [kS]
   rw [ih]
   by_cases r:o = o'
   ·rw [if_pos r,if_pos r,if_neg fun h=>q (h.1.trans r)]; rfl
   ·rw [if_neg r,if_neg r]
theorem kS_nn (L:List Hld) (h:∀ c,c ∈ L->0<=c.l) (o a:Int):0<=kS L o a:=by
 induction L with
 | nil=>exact Int.le_refl _
 | cons x l ih =>
  have:=ih fun c hc=>h c (by simp [hc])
  have:=h x (by simp)
  simp only [kS]
  split <;> omega
theorem kS_pos (L:List Hld) (h:∀ c,c ∈ L->1<=c.l):∀ c,c ∈ L->0<kS L c.o c.a:=by
 induction L with
 | nil=>intro c hc; cases hc
 | cons x l ih =>
  intro c hc
  have hn:=kS_nn l (fun c hc=>by have:=h c (by simp [hc]); omega) c.o c.a
  have hx:=h x (by simp)
  simp only [kS]
  rcases List.mem_cons.1 hc with rfl | hc
  ·rw [if_pos ⟨rfl,rfl⟩]; omega
  ·have:=ih (fun d hd=>h d (by simp [hd])) c hc
   split <;> omega
theorem cnN_le (L:List Cne) (B:Int) (h:∀ c,c ∈ L->0<=c.l/\c.l<=B) (hB:0<=B) (x:Int):cnN L x<=B * L.length:=by
 induction L with
 | nil=>simp [cnN]
 | cons c l ih =>
  have h1:=ih fun c hc=>h c (by simp [hc])
  have h2:=h c (by simp)
  have e:B * ((c :: l).length:Int) = B * l.length+B:=by
   rw [List.length_cons]
   show B * ((l.length+1:Nat):Int) = _
   rw [Int.natCast_add,Int.mul_add]
   simp
  rw [e]
  simp only [cnN]
  split <;> omega
theorem hdN_mem (L:List Hld) (h:∀ c,c ∈ L->0<=c.l):∀ c,c ∈ L->c.l<=hdN L c.a:=by
 induction L with
 | nil=>intro c hc; cases hc
 | cons x l ih =>
  intro c hc
  have hn:0<=hdN l c.a:=by
   clear ih hc
   have hl:∀ d,d ∈ l->0<=d.l:=fun d hd=>h d (by simp [hd])
   clear h
   induction l with
   | nil=>exact Int.le_refl _
   | cons y l ih =>
    have:=ih fun d hd=>hl d (by simp [hd])
    have:=hl y (by simp)
    simp only [hdN]
    split <;> omega
  have hx:=h x (by simp)
  simp only [hdN]
  rcases List.mem_cons.1 hc with rfl | hc
  ·rw [if_pos rfl]; omega
  ·have:=ih (fun d hd=>h d (by simp [hd])) c hc
   split <;> omega
structure BInv (cs:List Cne) (hs:List Hld) (i:Nat):Prop where
 v:Valid cs hs
 cl:cs.length<=i
 cb:∀ c,c ∈ cs->c.l<=256
 hl:hs.length<=2 * i
 ho:∀ c,c ∈ hs->c.o<=5
theorem BInv.nil:BInv [] [] 0:=⟨⟨by decide,by decide,fun c hc=>(by cases hc),fun c hc=>(by cases hc),List.Pairwise.nil,fun x=>by simp [frF,cnN,hdN]⟩,Nat.le_refl _,fun c hc=>(by cases hc),Nat.le_refl _,fun c hc=>(by cases hc)⟩
theorem BInv.up {cs:List Cne} {hs:List Hld} {i:Nat} (h:BInv cs hs i):BInv cs hs (i+1):=⟨h.v,by have:=h.cl; omega,h.cb,by have:=h.hl; omega,h.ho⟩
theorem BInv.add {cs:List Cne} {hs:List Hld} {i:Nat} (h:BInv cs hs i) (hi:i<=100) {x:Cne} (hx:cvB x = true) (hl:x.l<=256):addO cs hs x = (cs ++ [x],hs,0)/\BInv (cs ++ [x]) hs (i+1):=by
 have hcl:=h.cl
 refine ⟨?_,⟨⟨by simp; omega,h.v.hl,fun c hc=>?_,h.v.hv,h.v.asc,fun y=>?_⟩,by simp; omega,fun c hc=>?_,by have:=h.hl; omega,h.ho⟩⟩
 ·unfold addO
  rw [if_neg (by rw [ckE_iff.2 h.v]; simp),if_neg (by rw [hx]; simp),if_neg (by omega)]
 ·rcases List.mem_append.1 hc with q | q
  ·exact h.v.cv c q
  ·simp at q; subst q; exact hx
 ·have:=h.v.fr y
  have h2:=cvB_iff.1 hx
  unfold frF at this ⊢
  rw [cnN_app]
  simp only [cnN]
  split <;> omega
 ·rcases List.mem_append.1 hc with q | q
  ·exact h.cb c q
  ·simp at q; subst q; exact hl
theorem BInv.rsvU {cs:List Cne} {hs l:List Hld} {i:Nat} (h:BInv cs hs i) (hl:∀ c,c ∈ l->hvB c = true/\c.o<=5) (hn:l.length<=2):(rsv cs hs l).2.2 ≠ 0 ∨ (rsv cs hs l = (cs,mgL hs l,0)/\BInv cs (mgL hs l) (i+1)):=by
 rcases rsv_is h.v (fun c hc=>(hl c hc).1) (by omega) with ⟨_,e⟩ | ⟨hx,e⟩
 ·rw [e]; exact .inl (by decide)
 ·by_cases c1:bigOk (mgL hs l) = false
  ·rw [if_pos c1] at e
   rw [e]; exact .inl (by decide)
  ·rw [if_neg c1] at e
   by_cases c2:512<(mgL hs l).length
   ·rw [if_pos c2] at e
    rw [e]; exact .inl (by decide)
   ·rw [if_neg c2] at e
    refine .inr ⟨e,?_⟩
    have hb:bigOk (mgL hs l) = true:=by simpa using c1
    have hI:=mgL_inv hs l (fun c hc=>by have:=hvB_iff.1 (h.v.hv c hc); omega) (fun c hc=>by have:=hvB_iff.1 (hl c hc).1; omega) (by have:=h.v.hl; omega) (by omega)
    refine ⟨mgL_valid h.v (fun c hc=>(hl c hc).1) (by omega) hx hb (by omega),by have:=h.cl; omega,h.cb,by have:=mgL_len hs l; have:=h.hl; omega,fun c hc=>?_⟩
    obtain ⟨d,hd,e1,_⟩:=hI.key c hc
    rcases List.mem_append.1 hd with q | q
    ·have:=h.ho d q; omega
    ·have:=(hl d q).2; omega
theorem needL_nil {f:Int->Int} (h:∀ x,0<=f x):needL f = []:=by
 unfold needL
 rw [List.map_eq_nil_iff,List.filter_eq_nil_iff]
 intro x _
 have:=h x
 simp
 omega
theorem needL_ne {f:Int->Int} {x:Int} (h0:0<=x) (h1:x<=1000) (h:f x<0):(needL f).length ≠ 0:=by
 intro q
 have:=List.length_eq_zero_iff.1 q
 unfold needL at this
 rw [List.map_eq_nil_iff,List.filter_eq_nil_iff] at this
 refine this x (List.mem_map.2 ⟨x.toNat,List.mem_range.2 (by omega),?_⟩) (by simpa using h)
 show ((x.toNat:Nat):Int) = x
 omega
theorem BInv.back {cs:List Cne} {hs W:List Hld} {i:Nat} (h:BInv cs hs i) (hi:i<=30) (hW:∀ c,c ∈ W->hvB c = true/\c.o = 9) (hn:W.length<=5) :
 ((rsv cs hs W).2.2 = 18/\(needO cs hs W).length ≠ 0) ∨ (rsv cs hs W = (cs,mgL hs W,0)/\(needO cs hs W).length = 0/\Valid cs (mgL hs W)/\(W ≠ []->relO cs (mgL hs W) 9 = (cs,hs,0))):=by
 have hv1:∀ c,c ∈ W->hvB c = true:=fun c hc=>(hW c hc).1
 have r1:∀ c,c ∈ hs->1<=c.l/\c.l<=1000000000:=fun c hc=>by have:=hvB_iff.1 (h.v.hv c hc); omega
 have r2:∀ c,c ∈ W->1<=c.l/\c.l<=1000000000:=fun c hc=>by have:=hvB_iff.1 (hv1 c hc); omega
 have nd:=needO_is h.v hv1 (by omega)
 rcases rsv_is h.v hv1 (by omega) with ⟨⟨x,hx⟩,e⟩ | ⟨hx,e⟩
 ·refine .inl ⟨by rw [e],?_⟩
  rw [nd]
  have hxb:1<=x/\x<=1000:=by
   refine Classical.byContradiction fun q=>?_
   have:=hd_out (cs:=W) (x:=x) fun c hc e=>q (by have:=hvB_iff.1 (hv1 c hc); omega)
   have:=h.v.fr x
   omega
  exact needL_ne (x:=x) (by omega) hxb.2 (by unfold misF; omega)
 ·have hI:=mgL_inv hs W r1 r2 (by have:=h.v.hl; omega) (by omega)
  have hb:bigOk (mgL hs W) = true:=bigOk_iff.2 fun c hc=>by
   have h1:=hdN_mem (mgL hs W) (fun d hd=>by have:=hI.pos d hd; omega) c hc
   rw [hI.art,hdN_app] at h1
   have h2:=hx c.a
   have h4:=cnN_le cs 256 (fun d hd=>⟨by have:=cvB_iff.1 (h.v.cv d hd); omega,h.cb d hd⟩) (by decide) c.a
   have h5:=hdN_bd hs (fun d hd=>by have:=r1 d hd; omega) c.a
   unfold frF at h2
   have:=h.cl
   omega
  have hlen:=mgL_len hs W
  have hhl:=h.hl
  rw [if_neg (by rw [hb]; simp),if_neg (by omega)] at e
  have hval:=mgL_valid h.v hv1 (by omega) hx hb (by omega)
  refine .inr ⟨e,?_,hval,fun hne=>?_⟩
  ·rw [nd,needL_nil fun x=>by have:=hx x; unfold misF; omega]; rfl
  ·have ef:fltTo 9 (mgL hs W) (mgL hs W).length = hs:=by
    rw [flt_all]
    refine asc_unique (hI.asc.sublist (List.filter_sublist ..)) h.v.asc (fun c hc=>(hI.pos c (List.mem_filter.1 hc).1).1) (fun c hc=>(r1 c hc).1) fun o a=>?_
    rw [kS_filter,hI.sum,kS_app]
    by_cases c:o = 9
    ·rw [if_pos c,kS_out fun d hd q=>by have:=h.ho d hd; omega]
    ·rw [if_neg c,kS_out (L:=W) fun d hd q=>c (q.1.symm.trans (hW d hd).2)]; omega
   unfold relO
   rw [if_neg (by rw [ckE_iff.2 hval]; simp),ef,if_neg]
   intro q
   obtain ⟨d,hd⟩:=List.exists_mem_of_ne_nil W hne
   have hk:kS (mgL hs W) d.o d.a ≠ 0:=by
    rw [hI.sum,kS_app,kS_out (L:=hs) fun c hc q=>by have:=h.ho c hc; have:=(hW d hd).2; omega]
    have:=kS_pos W (fun c hc=>(r2 c hc).1) d hd
    omega
   obtain ⟨c,hc,e1,e2⟩:=kS_has hk
   have hfl:=flt_all 9 (mgL hs W)
   rw [ef] at hfl
   have hlt:((mgL hs W).filter fun c=>decide (c.o ≠ 9)).length<(mgL hs W).length:=by
    rw [List.length_filter_lt_length_iff_exists]
    exact ⟨c,hc,by simp [e1,(hW d hd).2]⟩
   rw [← hfl] at hlt
   omega
open Go.Proofs
def rS (cs:List Cne) (hs:List Hld):T:=.reg [cnV cs (some cs.length),hdV hs (some hs.length)]
def v5k (n:Nat) (X:Nat->Act) (y:T) (s:T) (i:Nat):List T:=[acV n X,y,s,.int .i64 i]
def v15k (n:Nat) (Y:Nat->Act) (s:T) (w:T) (i:Nat):List T:=[acV n Y,s,w,.int .i64 i]
noncomputable def K6l (p13 p14 p8:List T->T->Prop) (hl:List Hld) (c1 c2:List Cne) (h1 h2:List Hld) (E1 E2:Int):Orc:=((noneO.add 13 (callF p13 fun _=>some (.tup [stV c1 h1,.int .i64 E1]))).add 14 (callF p14 fun _=>some (.new (hdV hl none)))).add 8 (callF p8 fun _=>some (.tup [stN c2 h2,.int .i64 E2]))
noncomputable def K6z:Orc:=noneO.add 9 fun a=>match a with | []=>.ret (.bool true) | _=>.none
noncomputable def K6m (p8 p15 p17 p19:List T->T->Prop) (c:List Cne) (h:List Hld) (E:Int) (nd:List Cne) (b:List Cne) (bh:List Hld) (F:Int) (sm:Bool):Orc:=(((K6z.add 8 (callF p8 fun _=>some (.tup [stN c h,.int .i64 E]))).add 15 (callF p15 fun _=>some (.new (cnV nd (some nd.length))))).add 17 (callF p17 fun _=>some (.tup [stV b bh,.int .i64 F]))).add 19 (callF p19 fun _=>some (.bool sm))
def hlX (x:Act):List Hld:=hL x.o x.a x.l x.m
def cnX (x:Act):Cne:=⟨1+x.a.tmod 4,1+x.l⟩
noncomputable def stB (X:Nat->Act):Nat->List Cne × List Hld
 | 0=>([],[])
 | i+1=>if (X i).w.tmod 2 = 0 then (if (addO (stB X i).1 (stB X i).2 (cnX (X i))).2.2 = 0 then ((addO (stB X i).1 (stB X i).2 (cnX (X i))).1,(addO (stB X i).1 (stB X i).2 (cnX (X i))).2.1) else stB X i)
  else (if (rsv (stB X i).1 (stB X i).2 (hlX (X i))).2.2 = 0 then ((rsv (stB X i).1 (stB X i).2 (hlX (X i))).1,(rsv (stB X i).1 (stB X i).2 (hlX (X i))).2.1) else stB X i)
theorem mod4 {a:Int} (h:0<=a):0<=a.tmod 4/\a.tmod 4<=3:=by rw [Int.tmod_eq_emod_of_nonneg h]; omega
theorem mod5 {a:Int} (h:0<=a):0<=a.tmod 5/\a.tmod 5<=4:=by rw [Int.tmod_eq_emod_of_nonneg h]; omega
theorem div4 {a:Int} (h:0<=a/\a<=255):0<=a.tdiv 4/\a.tdiv 4<=63:=by rw [Int.tdiv_eq_ediv_of_nonneg h.1]; omega
theorem div3 {a:Int} (h:0<=a/\a<=255):0<=a.tdiv 3/\a.tdiv 3<=85:=by rw [Int.tdiv_eq_ediv_of_nonneg h.1]; omega
theorem cnX_ok {x:Act} (h:x.Ok):cvB (cnX x) = true/\(cnX x).l<=256:=by
 have h1:=mod4 h.a.1
 have h2:=h.l
 exact ⟨cvB_iff.2 ⟨by show 1<=1+x.a.tmod 4; omega,by show 1+x.a.tmod 4<=_; omega,by show 1<=1+x.l; omega,by show 1+x.l<=_; omega⟩,by show 1+x.l<=_; omega⟩
theorem hlX_ok {x:Act} (h:x.Ok):(∀ c,c ∈ hlX x->hvB c = true/\c.o<=5)/\(hlX x).length<=2:=by
 have h1:=mod4 h.a.1
 have h2:=h.l
 have h3:=mod5 h.o.1
 have h4:=div4 h.m
 have h5:=mod4 (div3 h.m).1
 have k1:hvB ⟨1+x.o.tmod 5,1+x.a.tmod 4,1+x.l⟩ = true:=hvB_iff.2 ⟨by dsimp only; omega,by dsimp only; omega,by dsimp only; omega,by dsimp only; omega,by dsimp only; omega,by dsimp only; omega⟩
 have k2:hvB ⟨1+x.o.tmod 5,1+(x.m.tdiv 3).tmod 4,1+x.m.tdiv 4⟩ = true:=hvB_iff.2 ⟨by dsimp only; omega,by dsimp only; omega,by dsimp only; omega,by dsimp only; omega,by dsimp only; omega,by dsimp only; omega⟩
 unfold hlX hL
 refine ⟨fun c hc=>?_,by split <;> simp⟩
 rcases List.mem_cons.1 hc with rfl | hc
 ·exact ⟨k1,by dsimp only; omega⟩
 ·split at hc
  ·simp at hc
   subst hc
   exact ⟨k2,by dsimp only; omega⟩
  ·cases hc
theorem stB_inv (X:Nat->Act) (n:Nat) (hn:n<=30) (hX:∀ j,j<n->(X j).Ok):∀ i,i<=n->BInv (stB X i).1 (stB X i).2 i
 | 0,_=>.nil
 | i+1,hi=>by
  have ih:=stB_inv X n hn hX i (by omega)
  have hx:=hX i (by omega)
  unfold stB
  by_cases c:(X i).w.tmod 2 = 0
  ·rw [if_pos c]
   obtain ⟨e,h⟩:=ih.add (by omega) (cnX_ok hx).1 (cnX_ok hx).2
   rw [e,if_pos rfl]
   exact h
  ·rw [if_neg c]
   rcases ih.rsvU (hlX_ok hx).1 (hlX_ok hx).2 with e | ⟨e,h⟩
   ·rw [if_neg e]; exact ih.up
   ·rw [e,if_pos rfl]; exact h
def wtL (Y:Nat->Act) (n:Nat):List Hld:=(List.range n).map fun j=>⟨9,1+(Y j).a.tmod 4,1+(Y j).l.tdiv 4⟩
theorem wtL_len (Y:Nat->Act) (n:Nat):(wtL Y n).length = n:=by simp [wtL]
theorem wtL_succ (Y:Nat->Act) (n:Nat):wtL Y (n+1) = wtL Y n ++ [⟨9,1+(Y n).a.tmod 4,1+(Y n).l.tdiv 4⟩]:=by simp [wtL,List.range_succ]
theorem wtL_ok (Y:Nat->Act) (n:Nat) (hY:∀ j,j<n->(Y j).Ok):∀ c,c ∈ wtL Y n->hvB c = true/\c.o = 9:=fun c hc=>by
 obtain ⟨j,hj,rfl⟩:=List.mem_map.1 hc
 have h:=hY j (List.mem_range.1 hj)
 have h1:=mod4 h.a.1
 have h2:=div4 h.l
 exact ⟨hvB_iff.2 ⟨by simp,by simp,by dsimp only; omega,by dsimp only; omega,by dsimp only; omega,by dsimp only; omega⟩,rfl⟩
theorem actT {x:Act} (h:x.Ok):ToldOk P42 G42 14 [.agg x.c] (.new (hdV (hlX x) none)):=holdsT x.w x.o x.a x.l x.m h.o h.a h.l h.m
theorem simSt (cs:List Cne) (hs:List Hld):Sim (stV cs hs) (.agg [cnV cs none,hdV hs none]) :=
 Sim.agg (.cons (Sim.view (.inr rfl) fun _ _=>.refl _) (.cons (Sim.view (.inr rfl) fun _ _=>.refl _) .nil))
theorem i6l (n:Nat) (X:Nat->Act) (m:Nat) (Y:Nat->Act) (cs:List Cne) (hs:List Hld) (i:Nat) (p13 p14 p8:List T->T->Prop) (hl:List Hld) (c1 c2:List Cne) (h1 h2:List Hld) (E1 E2:Int):iterR P42 G42 A42 (K6l p13 p14 p8 hl c1 c2 h1 h2 E1 E2) 0 6 [] 5 (v5k n X (acV m Y) (rS cs hs) i) [] =
(
 bif decide (Int.ofNat i<Int.ofNat n) then
 bif decide (0<=Int.ofNat i)&&decide (Int.ofNat i<Int.ofNat n) then
 bif decide ((X i).w.tmod 2 = 0) then
 bif decide (0<=Int.ofNat i)&&decide (Int.ofNat i<Int.ofNat n) then
 bif decide (0<=Int.ofNat i)&&decide (Int.ofNat i<Int.ofNat n) then
 bif decF (p13 [stV cs hs,.agg [.int .i64 (IntKind.i64.wrap (1+IntKind.i64.wrap ((X i).a.tmod 4))),.int .i64 (IntKind.i64.wrap (1+IntKind.i64.wrap (X i).l))]] (.tup [stV c1 h1,.int .i64 E1])) then
 bif decide (E1 = 0) then
 some ((.normal,[acV n X,acV m Y,rS c1 h1,.int .i64 (IntKind.i64.wrap (Int.ofNat i+1))],[]))
 else
 some ((.normal,[acV n X,acV m Y,rS cs hs,.int .i64 (IntKind.i64.wrap (Int.ofNat i+1))],[]))
 else none else none else none else
 bif decide (0<=Int.ofNat i)&&decide (Int.ofNat i<Int.ofNat n) then
 bif decF (p14 [.agg (X i).c] (hdV hl
 none).new) then
 bif decF (p8 [stV cs hs,hdV hl
 none] (.tup [stN c2 h2,.int .i64 E2])) then
 bif decide (E2 = 0) then
 some ((.normal,[acV n X,acV m Y,rS c2 h2,.int .i64 (IntKind.i64.wrap (Int.ofNat i+1))],[]))
 else
 some ((.normal,[acV n X,acV m Y,rS cs hs,.int .i64 (IntKind.i64.wrap (Int.ofNat i+1))],[]))
 else none else none else none else none else
 some ((.exit 0,[acV m Y,rS cs hs],[]))):=by kernel_rfl
theorem i6w (n:Nat) (Y:Nat->Act) (cs:List Cne) (hs:List Hld) (L:List Hld) (i:Nat):iterR P42 G42 A42 noneO 0 6 [] 15 (v15k n Y (rS cs hs) (.own 0 L.length 0 L.length none) i) [hBk L] =
(
 bif decide (Int.ofNat i<Int.ofNat n) then
 bif decide (0<=Int.ofNat i)&&decide (Int.ofNat i<Int.ofNat n) then
 bif decide (0<=Int.ofNat i)&&decide (Int.ofNat i<Int.ofNat n) then
 bif L.length==L.length&&true then
 bif ((0:Nat)+L.length).ble L.length then
 bif ((L.length+(1:Nat)) * (25:Nat)).ble 70368744177664 then
 bif ((0:Nat)+L.length+(1:Nat)).ble L.length then
 some ((.normal,[acV n Y,rS cs hs,.own 0 L.length (0:Nat) (L.length+1)
 none,.int .i64 (IntKind.i64.wrap (Int.ofNat i+1))],[.mk L.length (3:Nat) L.length (fun j =>
 bif ((0:Nat)+L.length).ble j&&j.blt ((0:Nat)+L.length+1) then [[T.int .i64 (9:Int),T.int .i64 (IntKind.i64.wrap ((1:Int)+IntKind.i64.wrap ((Y i).a.tmod (4:Int)))),T.int .i64 (IntKind.i64.wrap ((1:Int)+IntKind.i64.wrap (IntKind.u8.wrap ((Y i).l.tdiv (4:Int)))))]].getD ((0:Nat)+(j - ((0:Nat)+L.length))) []
 else (L.getD j (Hld.mk (0:Int) (0:Int) (0:Int))).c) true false
 none,.mk 0 3 1 (fun j=>[[T.int .i64 (9:Int),T.int .i64 (IntKind.i64.wrap ((1:Int)+IntKind.i64.wrap ((Y i).a.tmod (4:Int)))),T.int .i64 (IntKind.i64.wrap ((1:Int)+IntKind.i64.wrap (IntKind.u8.wrap ((Y i).l.tdiv (4:Int)))))]].getD j []) true true
 none]))
 else
 some ((.normal,[acV n Y,rS cs hs,.own 0 (L.length+1) (0:Nat) (L.length+1)
 none,.int .i64 (IntKind.i64.wrap (Int.ofNat i+1))],[.mk (L.length+1) (3:Nat) (L.length+1) (fun j =>
 bif j.blt L.length then (L.getD ((0:Nat)+j) (Hld.mk (0:Int) (0:Int) (0:Int))).c
 else [[T.int .i64 (9:Int),T.int .i64 (IntKind.i64.wrap ((1:Int)+IntKind.i64.wrap ((Y i).a.tmod (4:Int)))),T.int .i64 (IntKind.i64.wrap ((1:Int)+IntKind.i64.wrap (IntKind.u8.wrap ((Y i).l.tdiv (4:Int)))))]].getD ((0:Nat)+(j - L.length)) []) true false
 none,.mk 0 3 1 (fun j=>[[T.int .i64 (9:Int),T.int .i64 (IntKind.i64.wrap ((1:Int)+IntKind.i64.wrap ((Y i).a.tmod (4:Int)))),T.int .i64 (IntKind.i64.wrap ((1:Int)+IntKind.i64.wrap (IntKind.u8.wrap ((Y i).l.tdiv (4:Int)))))]].getD j []) true true
 none]))
 else none else none else none else none else none else
 some ((.exit 2,[rS cs hs,.own 0 L.length (0:Nat) L.length
 none],[hBk L]))):=by kernel_rfl
theorem k6z (n:Nat) (X:Nat->Act) (m:Nat) (Y:Nat->Act):stepL P42 G42 A42 K6z 0 6 [] [acV n X,acV m Y] =
(
 bif decide (30<Int.ofNat n) then
 some (.bool true)
 else
 bif decide (5<Int.ofNat m) then
 some (.bool true)
 else
 none):=by kernel_rfl
theorem k6b (n:Nat) (X:Nat->Act) (m:Nat) (Y:Nat->Act) (cs:List Cne) (hs:List Hld) (L:List Hld) (p8 p15 p17 p19:List T->T->Prop) (c:List Cne) (h:List Hld) (E:Int) (nd:List Cne) (b:List Cne) (bh:List Hld) (F:Int) (sm:Bool):stepL P42 G42 A42 (K6m p8 p15 p17 p19 c h E nd b bh F sm) 0 6 [(5,litS (v5k n X (acV m Y) (rS [] []) 0) [] (.exit 0) [acV m Y,rS cs hs] []),(15,litS (v15k m Y (rS cs hs) (.own 0 0 0 0 none) 0) [hBk []] (.exit 2) [rS cs hs,.own 0 L.length 0 L.length none] [hBk L])] [acV n X,acV m Y] =
(
 bif decide (30<Int.ofNat n) then
 some (.bool true)
 else
 bif decide (5<Int.ofNat m) then
 some (.bool true)
 else
 bif weakF [acV n X,acV m Y,.reg [.nils,.nils],.int .i64 0] [] [acV n X,acV m Y,.reg [.view 2 0 (fun j=>[.int .i64 0,.int .i64 0]) (some 0),.view 3 0 (fun j=>[.int .i64 0,.int .i64 0,.int .i64 0]) (some 0)],.int .i64 0] [] then
 bif weakF [acV m Y,rS cs hs,.nils,.int .i64 0] [] [acV m Y,rS cs hs,.own 0 0 0 0
 none,.int .i64 0] [.mk 0 3 0 (fun j=>[.int .i64 0,.int .i64 0,.int .i64 0]) true false
 none] then
 bif decF (p8 [stV cs hs,
 bif L.length==L.length&&((0:Nat)+L.length).ble L.length then hV L.length (fun j=>L.getD (0+j) (Hld.mk (0:Int) (0:Int) (0:Int))) none else .undef] (.tup [stN c h,.int .i64 E])) then
 bif decide (E = 0) then
 bif decF (p15 [stV cs hs,
 bif L.length==L.length&&((0:Nat)+L.length).ble L.length then hV L.length (fun j=>L.getD (0+j) (Hld.mk (0:Int) (0:Int) (0:Int))) none else .undef] (cnV nd (some nd.length)).new) then
 bif decide (Int.ofNat nd.length = 0) then
 bif !decide (E = 0) then
 bif !decide (E = 18) then
 some (.bool false)
 else
 bif !decide (E = 0) then
 some (.bool true)
 else
 bif L.length==L.length&&true then
 bif decide (Int.ofNat L.length = 0) then
 some (.bool true)
 else
 bif decF (p17 [stV c h,.int .i64 9] (.tup [stV b bh,.int .i64 F])) then
 bif decide (F = 0) then
 bif decF (p19 [stV b bh,stV cs hs] (.bool sm)) then
 bif sm then
 some (.bool true)
 else
 bif decide (IntKind.i64.wrap (Int.ofNat cs.length+Int.ofNat hs.length) = (0:Int)) then
 bif decide (IntKind.i64.wrap (Int.ofNat b.length+Int.ofNat bh.length) = (0:Int)) then
 some (.bool true)
 else
 some (.bool false)
 else
 some (.bool false)
 else none else
 some (.bool false)
 else none else none else
 bif !decide (E = 0) then
 some (.bool true)
 else
 bif L.length==L.length&&true then
 bif decide (Int.ofNat L.length = 0) then
 some (.bool true)
 else
 bif decF (p17 [stV c h,.int .i64 9] (.tup [stV b bh,.int .i64 F])) then
 bif decide (F = 0) then
 bif decF (p19 [stV b bh,stV cs hs] (.bool sm)) then
 bif sm then
 some (.bool true)
 else
 bif decide (IntKind.i64.wrap (Int.ofNat cs.length+Int.ofNat hs.length) = (0:Int)) then
 bif decide (IntKind.i64.wrap (Int.ofNat b.length+Int.ofNat bh.length) = (0:Int)) then
 some (.bool true)
 else
 some (.bool false)
 else
 some (.bool false)
 else none else
 some (.bool false)
 else none else none else
 some (.bool false)
 else none else
 bif decF (p15 [stV cs hs,
 bif L.length==L.length&&((0:Nat)+L.length).ble L.length then hV L.length (fun j=>L.getD (0+j) (Hld.mk (0:Int) (0:Int) (0:Int))) none else .undef] (cnV nd (some nd.length)).new) then
 bif decide (Int.ofNat nd.length = 0) then
 some (.bool false)
 else
 bif !decide (E = 0) then
 bif !decide (E = 18) then
 some (.bool false)
 else
 bif !decide (E = 0) then
 some (.bool true)
 else
 bif L.length==L.length&&true then
 bif decide (Int.ofNat L.length = 0) then
 some (.bool true)
 else
 bif decF (p17 [stV c h,.int .i64 9] (.tup [stV b bh,.int .i64 F])) then
 bif decide (F = 0) then
 bif decF (p19 [stV b bh,stV cs hs] (.bool sm)) then
 bif sm then
 some (.bool true)
 else
 bif decide (IntKind.i64.wrap (Int.ofNat cs.length+Int.ofNat hs.length) = (0:Int)) then
 bif decide (IntKind.i64.wrap (Int.ofNat b.length+Int.ofNat bh.length) = (0:Int)) then
 some (.bool true)
 else
 some (.bool false)
 else
 some (.bool false)
 else none else
 some (.bool false)
 else none else none else
 bif !decide (E = 0) then
 some (.bool true)
 else
 bif L.length==L.length&&true then
 bif decide (Int.ofNat L.length = 0) then
 some (.bool true)
 else
 bif decF (p17 [stV c h,.int .i64 9] (.tup [stV b bh,.int .i64 F])) then
 bif decide (F = 0) then
 bif decF (p19 [stV b bh,stV cs hs] (.bool sm)) then
 bif sm then
 some (.bool true)
 else
 bif decide (IntKind.i64.wrap (Int.ofNat cs.length+Int.ofNat hs.length) = (0:Int)) then
 bif decide (IntKind.i64.wrap (Int.ofNat b.length+Int.ofNat bh.length) = (0:Int)) then
 some (.bool true)
 else
 some (.bool false)
 else
 some (.bool false)
 else none else
 some (.bool false)
 else none else none else none else none else none else
 none):=by kernel_rfl
theorem loop5k (n:Nat) (X:Nat->Act) (m:Nat) (Y:Nat->Act) (hn:n<=30) (hX:∀ j,j<n->(X j).Ok):LoopOk P42 G42 (A42 6) 6 5 (litS (v5k n X (acV m Y) (rS [] []) 0) [] (.exit 0) [acV m Y,rS (stB X n).1 (stB X n).2] []):=by
 obtain ⟨p13,h13⟩:=is_val P42 G42 13
 obtain ⟨p14,h14⟩:=is_val P42 G42 14
 obtain ⟨p8,h8⟩:=is_val P42 G42 8
 have ok:∀ hl c1 c2 h1 h2 E1 E2,OrcOk P42 G42 (K6l p13 p14 p8 hl c1 c2 h1 h2 E1 E2):=fun hl c1 c2 h1 h2 E1 E2=>told_add (told_add (told_add none_ok (callF_told h13)) (callF_told h14)) (callF_told h8)
 refine loop_steps hm42 (by kernel_rfl) (fun i=>v5k n X (acV m Y) (rS (stB X i).1 (stB X i).2) i) (fun _=>[]) (n:=n) (fun i hi=>?_) ?_
 ·have hI:=stB_inv X n hn hX i (by omega)
  have hx:=hX i hi
  have e1:=mod4 hx.a.1
  have e2:=hx.l
  have w1:IntKind.i64.wrap ((X i).a.tmod 4) = (X i).a.tmod 4:=wr64 (by omega) (by omega)
  have w2:IntKind.i64.wrap (1+(X i).a.tmod 4) = 1+(X i).a.tmod 4:=wr64 (by omega) (by omega)
  have w3:IntKind.i64.wrap (X i).l = (X i).l:=wr64 (by omega) (by omega)
  have w4:IntKind.i64.wrap (1+(X i).l) = 1+(X i).l:=wr64 (by omega) (by omega)
  have t13:=(addT (stB X i).1 (stB X i).2 (cnX (X i)) (by have:=hI.v.cl; omega) (by have:=hI.v.hl; omega)).sim (.cons (simSt _ _) (.cons (.refl _) .nil))
  have t14:=actT hx
  have t8:=(reserveT (stB X i).1 (stB X i).2 (hlX (X i)) (by have:=hI.v.cl; omega) (by have:=hI.v.hl; omega) (by have:=(hlX_ok hx).2; omega)).sim (.cons (simSt _ _) (.cons (.refl _) .nil))
  simp only [stB]
  generalize hA:addO (stB X i).1 (stB X i).2 (cnX (X i)) = A at *
  generalize hR:rsv (stB X i).1 (stB X i).2 (hlX (X i)) = R at *
  refine Step.mk0 (A:=A42) (m:=0) (ok (hlX (X i)) A.1 R.1 A.2.1 R.2.1 A.2.2 R.2.2) rfl rfl loops0 (h1:=[]) ?_ (.refl _)
  rw [i6l,w1,w2,w3,w4,up1 (by omega)]
  refine BT (BT ?_)
  by_cases c:(X i).w.tmod 2 = 0
  ·rw [if_pos c]
   refine bift (decide_eq_true c) (BT (BT (bift (callF_yes h13 t13) ?_)))
   by_cases c2:A.2.2 = 0
   ·rw [if_pos c2]
    exact bift (decide_eq_true c2) rfl
   ·rw [if_neg c2]
    exact biff (by rw [decide_eq_true_eq]; exact c2) rfl
  ·rw [if_neg c]
   refine biff (by rw [decide_eq_true_eq]; exact c) (BT (bift (callF_yes h14 t14) (bift (callF_yes h8 t8) ?_)))
   by_cases c2:R.2.2 = 0
   ·rw [if_pos c2]
    exact bift (decide_eq_true c2) rfl
   ·rw [if_neg c2]
    exact biff (by rw [decide_eq_true_eq]; exact c2) rfl
 ·refine Last.mk0 (A:=A42) (m:=0) (ok [] [] [] [] [] 0 0) rfl rfl loops0 (h1:=[]) (by simp) ?_ (.refl _)
  rw [i6l]
  exact BF rfl
theorem loop15k (m:Nat) (Y:Nat->Act) (cs:List Cne) (hs:List Hld) (hn:m<=1000) (hY:∀ j,j<m->(Y j).Ok):LoopOk P42 G42 (A42 6) 6 15 (litS (v15k m Y (rS cs hs) (.own 0 0 0 0 none) 0) [hBk []] (.exit 2) [rS cs hs,.own 0 (wtL Y m).length 0 (wtL Y m).length none] [hBk (wtL Y m)]):=by
 refine loop_steps hm42 (by kernel_rfl) (fun i=>v15k m Y (rS cs hs) (.own 0 (wtL Y i).length 0 (wtL Y i).length none) i) (fun i=>[hBk (wtL Y i)]) (n:=m) (fun i hi=>?_) ?_
 ·have hx:=hY i hi
  have e1:=mod4 hx.a.1
  have e2:=div4 hx.l
  have w1:IntKind.i64.wrap ((Y i).a.tmod 4) = (Y i).a.tmod 4:=wr64 (by omega) (by omega)
  have w2:IntKind.i64.wrap (1+(Y i).a.tmod 4) = 1+(Y i).a.tmod 4:=wr64 (by omega) (by omega)
  have w3:IntKind.u8.wrap ((Y i).l.tdiv 4) = (Y i).l.tdiv 4:=wr8 (by omega) (by omega)
  have w4:IntKind.i64.wrap ((Y i).l.tdiv 4) = (Y i).l.tdiv 4:=wr64 (by omega) (by omega)
  have w5:IntKind.i64.wrap (1+(Y i).l.tdiv 4) = 1+(Y i).l.tdiv 4:=wr64 (by omega) (by omega)
  have hl:=wtL_len Y i
  have es:=wtL_succ Y i
  have el:(wtL Y (i+1)).length = (wtL Y i).length+1:=by rw [es]; simp
  generalize wtL Y i = R at *
  generalize wtL Y (i+1) = R' at *
  rw [el]
  refine Step.mk (A:=A42) (m:=0) none_ok rfl rfl loops0 1 (Nat.le_refl 1) (h1:=[⟨R.length+1,3,R.length+1,fun j=>bif j.blt R.length then (R.getD (0+j) hd0).c else [[T.int .i64 9,.int .i64 (1+(Y i).a.tmod 4),.int .i64 (1+(Y i).l.tdiv 4)]].getD (0+(j - R.length)) [],true,false,none⟩,⟨0,3,1,fun j=>[[T.int .i64 9,.int .i64 (1+(Y i).a.tmod 4),.int .i64 (1+(Y i).l.tdiv 4)]].getD j [],true,true,none⟩]) (vs':=v15k m Y (rS cs hs) (.own 0 (R.length+1) 0 (R.length+1) none) (i+1)) ?_ (by rfl) ?_
  ·rw [i6w,w1,w2,w3,w4,w5,up1 (by omega)]
   (repeat (first | refine BS ?_ | refine BF ?_))
   rfl
  ·show SameBlks [_] [_]
   refine .cons ⟨el,rfl,el,id,fun j hj=>?_⟩ .nil
   have hj:j<R.length+1:=hj
   show (R'.getD j hd0).c = _
   rw [es]
   simp only [bltD0,Nat.zero_add]
   by_cases q:j<R.length
   ·rw [decide_eq_true q,cond_true]
    simp only [List.getD_eq_getElem?_getD,List.getElem?_append_left q]
   ·obtain rfl:j = R.length:=by omega
    rw [decide_eq_false q,cond_false,Nat.sub_self]
    simp only [List.getD_eq_getElem?_getD,List.getElem?_append_right (Nat.le_refl _),Nat.sub_self]
    rfl
 ·refine Last.mk0 (A:=A42) (m:=0) none_ok rfl rfl loops0 (h1:=[hBk (wtL Y m)]) (by simp) ?_ (.refl _)
  rw [i6w]
  exact BF rfl
open Go.Proofs
theorem one9B:∀ args r,(match args with | []=>Tree.ret (.bool true) | _=>Tree.none).run some = some r->ToldOk P42 G42 9 args r:=by
 intro args r h
 cases args with
 | nil=>obtain rfl:=Option.some.inj h; exact livesT
 | cons _ _=>cases h
theorem simHV (L:List Hld):Sim (bif L.length==L.length&&Nat.ble (0+L.length) L.length then hV L.length (fun j=>L.getD (0+j) ⟨0,0,0⟩) none else .undef) (hdV L none):=by
 rw [beq_self_eq_true,bleT (by omega)]
 refine Sim.view (.inl rfl) fun j hj=>?_
 show Sims (L.getD (0+j) hd0).c (L.getD j hd0).c
 rw [Nat.zero_add]
 exact .refl _
theorem backT (n:Nat) (X:Nat->Act) (m:Nat) (Y:Nat->Act) (hX:∀ j,j<n->(X j).Ok) (hY:∀ j,j<m->(Y j).Ok):ToldOk P42 G42 6 [acV n X,acV m Y] (.bool true):=by
 by_cases c1:30<n
 ·exact stepL_told hm42 hn42 (told_add none_ok one9B) (K:=K6z) (A:=A42) (m:=0) (by kernel_rfl) loops0 ((k6z n X m Y).trans (BT rfl))
 by_cases c2:5<m
 ·exact stepL_told hm42 hn42 (told_add none_ok one9B) (K:=K6z) (A:=A42) (m:=0) (by kernel_rfl) loops0 ((k6z n X m Y).trans (BF (BT rfl)))
 have hI:=stB_inv X n (by omega) hX n (Nat.le_refl _)
 have l5:=loop5k n X m Y (by omega) hX
 have l15:=loop15k m Y (stB X n).1 (stB X n).2 (by omega) hY
 have hW:=wtL_ok Y m hY
 have hlen:=wtL_len Y m
 generalize (stB X n).1 = cs at *
 generalize (stB X n).2 = hs at *
 generalize wtL Y m = W at *
 have hb:=hI.back (by omega) hW (by omega)
 have n1:cs.length<=100000:=by have:=hI.v.cl; omega
 have n2:hs.length<=100000:=by have:=hI.v.hl; omega
 obtain ⟨p8,h8⟩:=is_val P42 G42 8
 obtain ⟨p15,h15⟩:=is_val P42 G42 15
 obtain ⟨p17,h17⟩:=is_val P42 G42 17
 obtain ⟨p19,h19⟩:=is_val P42 G42 19
 have t8:=(reserveT cs hs W n1 n2 (by omega)).sim (.cons (simSt _ _) (.cons (simHV W) .nil))
 have t15:=(needT cs hs W n1 n2 (by omega) (lOk_iff.2 fun c hc=>(hW c hc).1)).sim (.cons (simSt _ _) (.cons (simHV W) .nil))
 have go:∀ c h E nd b bh F sm r,stepL P42 G42 A42 (K6m p8 p15 p17 p19 c h E nd b bh F sm) 0 6 [(5,litS (v5k n X (acV m Y) (rS [] []) 0) [] (.exit 0) [acV m Y,rS cs hs] []),(15,litS (v15k m Y (rS cs hs) (.own 0 0 0 0 none) 0) [hBk []] (.exit 2) [rS cs hs,.own 0 W.length 0 W.length none] [hBk W])] [acV n X,acV m Y] = some r->ToldOk P42 G42 6 [acV n X,acV m Y] r:=fun c h E nd b bh F sm r hr =>
  stepL_told hm42 hn42 (told_add (told_add (told_add (told_add (told_add none_ok one9B) (callF_told h8)) (callF_told h15)) (callF_told h17)) (callF_told h19)) (A:=A42) (m:=0) (by kernel_rfl) (loopsC l5 (loops1 l15)) hr
 have wA:weakF [acV n X,acV m Y,T.reg [T.nils,T.nils],T.int IntKind.i64 (0:Int)] [] (v5k n X (acV m Y) (rS [] []) 0) [] = true:=weakF_iff.2 fun Gl prom nt l=>.slS (.cons (.refl _) (.cons (.refl _) (.cons (.inr (.inl ⟨_,_,rfl,rfl,.cons (.inr ⟨rfl,.nilv _ _ (.inr rfl),rfl⟩) (.cons (.inr ⟨rfl,.nilv _ _ (.inr rfl),rfl⟩) .nil)⟩)) (.cons (.refl _) .nil)))) (.refl _)
 have wB:weakF [acV m Y,rS cs hs,T.nils,T.int IntKind.i64 (0:Int)] [] (v15k m Y (rS cs hs) (.own 0 0 0 0 none) 0) [hBk []] = true:=weakF_iff.2 fun Gl prom nt l=>.gh [hBk []] (fun b hb=>by simp at hb; subst hb; exact ⟨rfl,rfl⟩) (.cons (.refl _) (.cons (.refl _) (.cons (.inl (.own (b:=hBk []) (Nat.le_refl 0) rfl rfl)) (.cons (.refl _) .nil)))) (.refl _)
 rcases hb with ⟨e18,hne⟩ | ⟨e0,hz,hval,hrel⟩
 ·refine go (rsv cs hs W).1 (rsv cs hs W).2.1 18 (needO cs hs W) [] [] 0 true _ ?_
  rw [e18] at t8
  rw [k6b]
  refine BF (BF (bift wA (bift wB (bift (callF_yes h8 t8) (BF (bift (callF_yes h15 t15) (biff (by simpa using hne) (BT (BF (BT rfl))))))))))
 ·rw [e0] at t8
  by_cases c3:W = []
  ·refine go cs (mgL hs W) 0 (needO cs hs W) [] [] 0 true _ ?_
   rw [k6b]
   refine BF (BF (bift wA (bift wB (bift (callF_yes h8 t8) (bift rfl (bift (callF_yes h15 t15) (bift (by simpa using hz) (BF (BF (BS (bift (by simp [c3]) rfl)))))))))))
  ·have t17:=releaseT cs (mgL hs W) 9 n1 (by have:=hval.hl; omega)
   rw [hrel c3] at t17
   have t17:=t17.sim (.cons (simSt _ _) (.cons (.refl _) .nil))
   have t19:=sameT cs cs hs hs (by omega) (by omega)
   rw [smB_iff.2 ⟨rfl,rfl⟩] at t19
   have t19:=t19.sim (.cons (.refl _) (.cons (simSt cs hs) .nil))
   refine go cs (mgL hs W) 0 (needO cs hs W) cs hs 0 true _ ?_
   rw [k6b]
   refine BF (BF (bift wA (bift wB (bift (callF_yes h8 t8) (bift rfl (bift (callF_yes h15 t15) (bift (by simpa using hz) (BF (BF (BS (biff (by simpa using c3) (bift (callF_yes h17 t17) (bift rfl (bift (callF_yes h19 t19) rfl))))))))))))))
open Go.Proofs
def mB (x:T) (H:Nat->Nat->Int):Blk:=⟨0,31,1,fun _=>mC x H,false,false,none⟩
def cBl (v:Nat) (L:List Cne):Blk:=⟨v,2,L.length,fun j=>(L.getD j cn0).c,true,false,none⟩
def hA (v:Nat) (c:Option Nat) (L:List Cne) (H:Nat->Nat->Int):Heap:=[mB (.own 1 v 0 L.length c) H,cBl v L]
def hB (v:Nat) (c:Option Nat) (L:List Cne) (H:Nat->Nat->Int) (u:Nat) (M:List Cne):Heap:=[mB (.own 2 v 0 L.length c) H,cBl u M,cBl v L]
def v2t (a l kn:Int):List T:=[.ptr 0 0 0 0,.int .i64 a,.int .i64 l,.int .i64 kn]
def v5t (a l kn b:Int) (i:Nat):List T:=[.ptr 0 0 0 0,.int .i64 a,.int .i64 l,.int .i64 kn,.int .i64 b,.int .i64 i]
def w5t (a l kn b:Int):List T:=[.ptr 0 0 0 0,.int .i64 a,.int .i64 l,.int .i64 kn,.int .i64 b]
def x5t (a l kn b x:Int):List T:=[.ptr 0 0 0 0,.int .i64 a,.int .i64 l,.int .i64 kn,.int .i64 b,.int .i64 x]
def BLt:List Nat:=[0,2,0,0,1,2,2]
def mWl (e:Nat) (x y:T) (H:Nat->Nat->Int):List T:=(bif e==0 then y else x) :: (List.range 30).map fun k=>T.int .i64 (bif e==0 then H (k / 5) (k % 5) else H (k / 5) (k % 5))
theorem i5mA (v:Nat) (L:List Cne) (H:Nat->Nat->Int) (a l kn:Int) (i:Nat):iterR P42 G42 A42 noneO 0 18 [] 5 (v5t a l kn (-1) i) (hA v none L H) =
(
 bif v==v&&true then
 bif decide (Int.ofNat i<Int.ofNat L.length) then
 bif v==v&&true then
 bif decide (0<=Int.ofNat i)&&decide (Int.ofNat i<Int.ofNat L.length) then
 bif v==v&&true then
 bif v==v&&true then
 bif ((0:Nat)+i).blt L.length then
 bif decide ((L.getD ((0:Nat)+i) (Cne.mk (0:Int) (0:Int))).a = a) then
 some ((.normal,x5t a l kn (Int.ofNat i) (IntKind.i64.wrap (Int.ofNat i+1)),hA v
 none L H))
 else
 some ((.normal,x5t a l kn (-1:Int) (IntKind.i64.wrap (Int.ofNat i+1)),hA v
 none L H))
 else none else none else none else none else none else
 some ((.exit 2,w5t a l kn (-1:Int),hA v
 none L H))
 else
 none):=by kernel_rfl
theorem i5bA (v:Nat) (L:List Cne) (H:Nat->Nat->Int) (a l kn:Int) (b i:Nat):iterR P42 G42 A42 noneO 0 18 [] 5 (v5t a l kn b i) (hA v none L H) =
(
 bif v==v&&true then
 bif decide (Int.ofNat i<Int.ofNat L.length) then
 bif v==v&&true then
 bif decide (0<=Int.ofNat i)&&decide (Int.ofNat i<Int.ofNat L.length) then
 bif v==v&&true then
 bif v==v&&true then
 bif ((0:Nat)+i).blt L.length then
 bif decide ((L.getD ((0:Nat)+i) (Cne.mk (0:Int) (0:Int))).a = a) then
 bif v==v&&true then
 bif decide (0<=Int.ofNat i)&&decide (Int.ofNat i<Int.ofNat L.length) then
 bif v==v&&true then
 bif v==v&&true then
 bif ((0:Nat)+i).blt L.length then
 bif v==v&&true then
 bif decide (0<=Int.ofNat b)&&decide (Int.ofNat b<Int.ofNat L.length) then
 bif v==v&&true then
 bif v==v&&true then
 bif ((0:Nat)+b).blt L.length then
 bif decide ((L.getD ((0:Nat)+i) (Cne.mk (0:Int) (0:Int))).l<(L.getD ((0:Nat)+b) (Cne.mk (0:Int) (0:Int))).l) then
 some ((.normal,x5t a l kn (Int.ofNat i) (IntKind.i64.wrap (Int.ofNat i+1)),hA v
 none L H))
 else
 some ((.normal,x5t a l kn (Int.ofNat b) (IntKind.i64.wrap (Int.ofNat i+1)),hA v
 none L H))
 else none else none else none else none else none else none else none else none else none else none else
 some ((.normal,x5t a l kn (Int.ofNat b) (IntKind.i64.wrap (Int.ofNat i+1)),hA v
 none L H))
 else none else none else none else none else none else
 some ((.exit 2,w5t a l kn (Int.ofNat b),hA v
 none L H))
 else
 none):=by kernel_rfl
theorem t9A (v:Nat) (L:List Cne) (H:Nat->Nat->Int) (a l kn:Int) (b:Nat):codeL P42 G42 A42 noneO 0 18 [] (nav ([1,2,2] ++ BLt)) [0,1,2,7,8] (w5t a l kn b) (hA v none L H) [0,1,2,7,8,10] =
(
 bif v==v&&true then
 bif decide (0<=Int.ofNat b)&&decide (Int.ofNat b<Int.ofNat L.length) then
 bif v==v&&true then
 bif v==v&&true then
 bif ((0:Nat)+b).blt L.length then
 some ((.normal,x5t a l kn (Int.ofNat b) (bif decide ((L.getD ((0:Nat)+b) (Cne.mk (0:Int) (0:Int))).l<l) then (L.getD ((0:Nat)+b) (Cne.mk (0:Int) (0:Int))).l
 else l),hA v
 none L H))
 else none else none else none else none else
 none):=by kernel_rfl
theorem t12A (v:Nat) (L:List Cne) (H:Nat->Nat->Int) (a l kn x:Int) (b:Nat):codeL P42 G42 A42 noneO 0 18 [] (nav ([1,2,2,2,2,2] ++ BLt)) [0,1,2,7,8,10] (x5t a l kn b x) (hA v none L H) [0,1,2,7,8] =
(
 bif v==v&&true then
 bif decide (0<=Int.ofNat b)&&decide (Int.ofNat b<Int.ofNat L.length) then
 bif v==v&&true then
 bif v==v&&true then
 bif ((0:Nat)+b).blt L.length then
 bif v==v&&true then
 bif decide (0<=Int.ofNat b)&&decide (Int.ofNat b<Int.ofNat L.length) then
 bif v==v&&true then
 bif v==v&&true then
 bif ((0:Nat)+b).blt L.length&&true&&true&&true then
 some ((.normal,w5t a l kn (Int.ofNat b),[.mk 0 31 1 (fun x=>mC (.own 1 v 0 L.length
 none) H) false false
 none,cB v L.length (fun e=>[.int .i64 (bif e==0+b then (L.getD ((0:Nat)+b) (Cne.mk (0:Int) (0:Int))).a
 else (L.getD e (Cne.mk (0:Int) (0:Int))).a),.int .i64 (bif e==0+b then IntKind.i64.wrap ((L.getD ((0:Nat)+b) (Cne.mk (0:Int) (0:Int))).l - x)
 else (L.getD e (Cne.mk (0:Int) (0:Int))).l)]) false]))
 else none else none else none else none else none else none else none else none else none else
 none):=by kernel_rfl
theorem t13A (v:Nat) (L:List Cne) (H:Nat->Nat->Int) (a l kn:Int) (b:Nat):codeL P42 G42 A42 noneO 0 18 [] (nav ([2,2,2,2,2,2] ++ BLt)) [0,1,2,7,8] (w5t a l kn b) (hA v none L H) [0,1,2,7] =
(
 bif v==v&&true then
 bif decide (0<=Int.ofNat b)&&decide (Int.ofNat b<Int.ofNat L.length) then
 bif v==v&&true then
 bif v==v&&true then
 bif ((0:Nat)+b).blt L.length then
 bif decide ((L.getD ((0:Nat)+b) (Cne.mk (0:Int) (0:Int))).l = 0) then
 bif v==v&&true then
 bif decide (0<=Int.ofNat b)&&decide (Int.ofNat b<=Int.ofNat L.length) then
 bif v==v&&true then
 bif ((0:Nat)+b).ble L.length then
 bif b==(0:Nat) then
 bif v==v&&true then
 bif decide (0<=IntKind.i64.wrap (Int.ofNat b+1))&&decide (IntKind.i64.wrap (Int.ofNat b+1)<=Int.ofNat L.length)&&decide (Int.ofNat L.length<=Int.ofNat L.length) then
 bif v==v&&true then
 bif ((0:Nat)+(IntKind.i64.wrap (Int.ofNat b+(1:Int))).toNat+(L.length - (IntKind.i64.wrap (Int.ofNat b+(1:Int))).toNat)).ble L.length then
 bif L.length - (IntKind.i64.wrap (Int.ofNat b+(1:Int))).toNat==(0:Nat) then
 some ((.normal,v2t a l kn,[.mk 0 31 1 (fun e=>mWl e (.own 1 v 0 L.length
 none) (.own 2 0 0 0 (some 0)) H) false false
 none,cBl v L,cB (0:Nat) (0:Nat) (fun j=>[]) true]))
 else
 bif (((0:Nat)+(L.length - (IntKind.i64.wrap (Int.ofNat b+(1:Int))).toNat)) * (17:Nat)).ble 70368744177664 then
 bif ((0:Nat)+(L.length - (IntKind.i64.wrap (Int.ofNat b+(1:Int))).toNat)).ble 0 then
 bif ((0:Nat)+(L.length - (IntKind.i64.wrap (Int.ofNat b+(1:Int))).toNat)).ble 0 then
 some ((.normal,v2t a l kn,[.mk 0 31 1 (fun e=>mWl e (.own 1 v 0 L.length
 none) (.own 2 0 0 ((0:Nat)+(L.length - (IntKind.i64.wrap (Int.ofNat b+(1:Int))).toNat)) (some 0)) H) false false
 none,cBl v L,cB (0:Nat) (0:Nat) (fun j =>
 bif Nat.ble 0 j&&j.blt ((0:Nat)+(L.length - (IntKind.i64.wrap (Int.ofNat b+(1:Int))).toNat)) then (L.getD ((0:Nat)+(IntKind.i64.wrap (Int.ofNat b+(1:Int))).toNat+j) (Cne.mk (0:Int) (0:Int))).c
 else []) true]))
 else none else
 some ((.normal,v2t a l kn,[.mk 0 31 1 (fun e=>mWl e (.own 1 v 0 L.length
 none) (.own 3 0 0 ((0:Nat)+(L.length - (IntKind.i64.wrap (Int.ofNat b+(1:Int))).toNat))
 none) H) false false
 none,cBl v L,cB (0:Nat) (0:Nat) (fun j=>[]) true,rowC (0:Nat) ((0:Nat)+(L.length - (IntKind.i64.wrap (Int.ofNat b+(1:Int))).toNat)) fun j=>L.getD ((0:Nat)+(IntKind.i64.wrap (Int.ofNat b+(1:Int))).toNat+j) (Cne.mk (0:Int) (0:Int))]))
 else none else none else none else none else none else
 bif (((0:Nat)+b) * (17:Nat)).ble 70368744177664 then
 bif ((0:Nat)+b).ble 0 then
 bif ((0:Nat)+b).ble 0 then
 bif v==v&&true then
 bif decide (0<=IntKind.i64.wrap (Int.ofNat b+1))&&decide (IntKind.i64.wrap (Int.ofNat b+1)<=Int.ofNat L.length)&&decide (Int.ofNat L.length<=Int.ofNat L.length) then
 bif v==v&&true then
 bif ((0:Nat)+(IntKind.i64.wrap (Int.ofNat b+(1:Int))).toNat+(L.length - (IntKind.i64.wrap (Int.ofNat b+(1:Int))).toNat)).ble L.length then
 bif ((0:Nat)+((0:Nat)+b)).ble 0 then
 bif L.length - (IntKind.i64.wrap (Int.ofNat b+(1:Int))).toNat==(0:Nat) then
 some ((.normal,v2t a l kn,[.mk 0 31 1 (fun e=>mWl e (.own 1 v 0 L.length
 none) (.own 2 0 0 (0+b) (some 0)) H) false false
 none,cBl v L,cB (0:Nat) (0:Nat) (fun j =>
 bif Nat.ble 0 j&&j.blt (0+b) then (L.getD ((0:Nat)+j) (Cne.mk (0:Int) (0:Int))).c
 else []) true]))
 else
 bif (((0:Nat)+b+(L.length - (IntKind.i64.wrap (Int.ofNat b+(1:Int))).toNat)) * (17:Nat)).ble 70368744177664 then
 bif ((0:Nat)+b+(L.length - (IntKind.i64.wrap (Int.ofNat b+(1:Int))).toNat)).ble 0 then
 bif ((0:Nat)+((0:Nat)+b)+(L.length - (IntKind.i64.wrap (Int.ofNat b+(1:Int))).toNat)).ble 0 then
 some ((.normal,v2t a l kn,[.mk 0 31 1 (fun e=>mWl e (.own 1 v 0 L.length
 none) (.own 2 0 0 (0+b+(L.length - (IntKind.i64.wrap (Int.ofNat b+(1:Int))).toNat)) (some 0)) H) false false
 none,cBl v L,cB (0:Nat) (0:Nat) (fun j =>
 bif ((0:Nat)+((0:Nat)+b)).ble j&&j.blt ((0:Nat)+(0+b)+(L.length - (IntKind.i64.wrap (Int.ofNat b+(1:Int))).toNat)) then (L.getD ((0:Nat)+(IntKind.i64.wrap (Int.ofNat b+(1:Int))).toNat+(j - ((0:Nat)+((0:Nat)+b)))) (Cne.mk (0:Int) (0:Int))).c
 else
 bif Nat.ble 0 j&&j.blt (0+b) then (L.getD ((0:Nat)+j) (Cne.mk (0:Int) (0:Int))).c
 else []) true]))
 else none else
 some ((.normal,v2t a l kn,[.mk 0 31 1 (fun e=>mWl e (.own 1 v 0 L.length
 none) (.own 3 0 0 (0+b+(L.length - (IntKind.i64.wrap (Int.ofNat b+(1:Int))).toNat))
 none) H) false false
 none,cBl v L,cB (0:Nat) (0:Nat) (fun j =>
 bif Nat.ble 0 j&&j.blt (0+b) then (L.getD ((0:Nat)+j) (Cne.mk (0:Int) (0:Int))).c
 else []) true,cB (0:Nat) (0+b+(L.length - (IntKind.i64.wrap (Int.ofNat b+(1:Int))).toNat)) (fun j =>
 bif j.blt (0+b) then
 bif Nat.ble 0 (0+j)&&((0:Nat)+j).blt (0+b) then (L.getD ((0:Nat)+((0:Nat)+j)) (Cne.mk (0:Int) (0:Int))).c
 else []
 else (L.getD ((0:Nat)+(IntKind.i64.wrap (Int.ofNat b+(1:Int))).toNat+(j - ((0:Nat)+b))) (Cne.mk (0:Int) (0:Int))).c) false]))
 else none else none else none else none else none else none else none else
 bif v==v&&true then
 bif decide (0<=IntKind.i64.wrap (Int.ofNat b+1))&&decide (IntKind.i64.wrap (Int.ofNat b+1)<=Int.ofNat L.length)&&decide (Int.ofNat L.length<=Int.ofNat L.length) then
 bif v==v&&true then
 bif ((0:Nat)+(IntKind.i64.wrap (Int.ofNat b+(1:Int))).toNat+(L.length - (IntKind.i64.wrap (Int.ofNat b+(1:Int))).toNat)).ble L.length then
 bif ((0:Nat)+((0:Nat)+b)).ble (0+b) then
 bif L.length - (IntKind.i64.wrap (Int.ofNat b+(1:Int))).toNat==(0:Nat) then
 some ((.normal,v2t a l kn,[.mk 0 31 1 (fun e=>mWl e (.own 1 v 0 L.length
 none) (.own 3 0 0 (0+b)
 none) H) false false
 none,cBl v L,cB (0:Nat) (0:Nat) (fun j=>[]) true,rowC (0:Nat) (0+b) fun j=>L.getD (0+j) (Cne.mk (0:Int) (0:Int))]))
 else
 bif (((0:Nat)+b+(L.length - (IntKind.i64.wrap (Int.ofNat b+(1:Int))).toNat)) * (17:Nat)).ble 70368744177664 then
 bif ((0:Nat)+((0:Nat)+b)+(L.length - (IntKind.i64.wrap (Int.ofNat b+(1:Int))).toNat)).ble (0+b) then
 some ((.normal,v2t a l kn,[.mk 0 31 1 (fun e=>mWl e (.own 1 v 0 L.length
 none) (.own 3 0 0 (0+b+(L.length - (IntKind.i64.wrap (Int.ofNat b+(1:Int))).toNat))
 none) H) false false
 none,cBl v L,cB (0:Nat) (0:Nat) (fun j=>[]) true,cB (0:Nat) (0+b) (fun j =>
 bif ((0:Nat)+((0:Nat)+b)).ble j&&j.blt ((0:Nat)+(0+b)+(L.length - (IntKind.i64.wrap (Int.ofNat b+(1:Int))).toNat)) then (L.getD ((0:Nat)+(IntKind.i64.wrap (Int.ofNat b+(1:Int))).toNat+(j - ((0:Nat)+((0:Nat)+b)))) (Cne.mk (0:Int) (0:Int))).c
 else (L.getD ((0:Nat)+j) (Cne.mk (0:Int) (0:Int))).c) false]))
 else
 some ((.normal,v2t a l kn,[.mk 0 31 1 (fun e=>mWl e (.own 1 v 0 L.length
 none) (.own 3 1 0 (0+b+(L.length - (IntKind.i64.wrap (Int.ofNat b+(1:Int))).toNat))
 none) H) false false
 none,cBl v L,cB (0:Nat) (0:Nat) (fun j=>[]) true,cB (1:Nat) (0+b+(L.length - (IntKind.i64.wrap (Int.ofNat b+(1:Int))).toNat)) (fun j =>
 bif j.blt (0+b) then (L.getD ((0:Nat)+((0:Nat)+j)) (Cne.mk (0:Int) (0:Int))).c
 else (L.getD ((0:Nat)+(IntKind.i64.wrap (Int.ofNat b+(1:Int))).toNat+(j - ((0:Nat)+b))) (Cne.mk (0:Int) (0:Int))).c) false]))
 else none else none else none else none else none else none else none else none else none else none else none else
 some ((.normal,v2t a l kn,hA v
 none L H))
 else none else none else none else none else
 none):=by kernel_rfl
theorem i5mB (v u:Nat) (L M:List Cne) (H:Nat->Nat->Int) (a l kn:Int) (i:Nat):iterR P42 G42 A42 noneO 0 18 [] 5 (v5t a l kn (-1) i) (hB v none L H u M) =
(
 bif v==v&&true then
 bif decide (Int.ofNat i<Int.ofNat L.length) then
 bif v==v&&true then
 bif decide (0<=Int.ofNat i)&&decide (Int.ofNat i<Int.ofNat L.length) then
 bif v==v&&true then
 bif v==v&&true then
 bif ((0:Nat)+i).blt L.length then
 bif decide ((L.getD ((0:Nat)+i) (Cne.mk (0:Int) (0:Int))).a = a) then
 some ((.normal,x5t a l kn (Int.ofNat i) (IntKind.i64.wrap (Int.ofNat i+1)),hB v
 none L H u M))
 else
 some ((.normal,x5t a l kn (-1:Int) (IntKind.i64.wrap (Int.ofNat i+1)),hB v
 none L H u M))
 else none else none else none else none else none else
 some ((.exit 2,w5t a l kn (-1:Int),hB v
 none L H u M))
 else
 none):=by kernel_rfl
theorem i5bB (v u:Nat) (L M:List Cne) (H:Nat->Nat->Int) (a l kn:Int) (b i:Nat):iterR P42 G42 A42 noneO 0 18 [] 5 (v5t a l kn b i) (hB v none L H u M) =
(
 bif v==v&&true then
 bif decide (Int.ofNat i<Int.ofNat L.length) then
 bif v==v&&true then
 bif decide (0<=Int.ofNat i)&&decide (Int.ofNat i<Int.ofNat L.length) then
 bif v==v&&true then
 bif v==v&&true then
 bif ((0:Nat)+i).blt L.length then
 bif decide ((L.getD ((0:Nat)+i) (Cne.mk (0:Int) (0:Int))).a = a) then
 bif v==v&&true then
 bif decide (0<=Int.ofNat i)&&decide (Int.ofNat i<Int.ofNat L.length) then
 bif v==v&&true then
 bif v==v&&true then
 bif ((0:Nat)+i).blt L.length then
 bif v==v&&true then
 bif decide (0<=Int.ofNat b)&&decide (Int.ofNat b<Int.ofNat L.length) then
 bif v==v&&true then
 bif v==v&&true then
 bif ((0:Nat)+b).blt L.length then
 bif decide ((L.getD ((0:Nat)+i) (Cne.mk (0:Int) (0:Int))).l<(L.getD ((0:Nat)+b) (Cne.mk (0:Int) (0:Int))).l) then
 some ((.normal,x5t a l kn (Int.ofNat i) (IntKind.i64.wrap (Int.ofNat i+1)),hB v
 none L H u M))
 else
 some ((.normal,x5t a l kn (Int.ofNat b) (IntKind.i64.wrap (Int.ofNat i+1)),hB v
 none L H u M))
 else none else none else none else none else none else none else none else none else none else none else
 some ((.normal,x5t a l kn (Int.ofNat b) (IntKind.i64.wrap (Int.ofNat i+1)),hB v
 none L H u M))
 else none else none else none else none else none else
 some ((.exit 2,w5t a l kn (Int.ofNat b),hB v
 none L H u M))
 else
 none):=by kernel_rfl
theorem t9B (v u:Nat) (L M:List Cne) (H:Nat->Nat->Int) (a l kn:Int) (b:Nat):codeL P42 G42 A42 noneO 0 18 [] (nav ([1,2,2] ++ BLt)) [0,1,2,7,8] (w5t a l kn b) (hB v none L H u M) [0,1,2,7,8,10] =
(
 bif v==v&&true then
 bif decide (0<=Int.ofNat b)&&decide (Int.ofNat b<Int.ofNat L.length) then
 bif v==v&&true then
 bif v==v&&true then
 bif ((0:Nat)+b).blt L.length then
 some ((.normal,x5t a l kn (Int.ofNat b) (bif decide ((L.getD ((0:Nat)+b) (Cne.mk (0:Int) (0:Int))).l<l) then (L.getD ((0:Nat)+b) (Cne.mk (0:Int) (0:Int))).l
 else l),hB v
 none L H u M))
 else none else none else none else none else
 none):=by kernel_rfl
theorem t12B (v u:Nat) (L M:List Cne) (H:Nat->Nat->Int) (a l kn x:Int) (b:Nat):codeL P42 G42 A42 noneO 0 18 [] (nav ([1,2,2,2,2,2] ++ BLt)) [0,1,2,7,8,10] (x5t a l kn b x) (hB v none L H u M) [0,1,2,7,8] =
(
 bif v==v&&true then
 bif decide (0<=Int.ofNat b)&&decide (Int.ofNat b<Int.ofNat L.length) then
 bif v==v&&true then
 bif v==v&&true then
 bif ((0:Nat)+b).blt L.length then
 bif v==v&&true then
 bif decide (0<=Int.ofNat b)&&decide (Int.ofNat b<Int.ofNat L.length) then
 bif v==v&&true then
 bif v==v&&true then
 bif ((0:Nat)+b).blt L.length&&true&&true&&true then
 some ((.normal,w5t a l kn (Int.ofNat b),[.mk 0 31 1 (fun x=>mC (.own 2 v 0 L.length
 none) H) false false
 none,cBl u M,cB v L.length (fun e=>[.int .i64 (bif e==0+b then (L.getD ((0:Nat)+b) (Cne.mk (0:Int) (0:Int))).a
 else (L.getD e (Cne.mk (0:Int) (0:Int))).a),.int .i64 (bif e==0+b then IntKind.i64.wrap ((L.getD ((0:Nat)+b) (Cne.mk (0:Int) (0:Int))).l - x)
 else (L.getD e (Cne.mk (0:Int) (0:Int))).l)]) false]))
 else none else none else none else none else none else none else none else none else none else
 none):=by kernel_rfl
theorem t13B (v u:Nat) (L M:List Cne) (H:Nat->Nat->Int) (a l kn:Int) (b:Nat):codeL P42 G42 A42 noneO 0 18 [] (nav ([2,2,2,2,2,2] ++ BLt)) [0,1,2,7,8] (w5t a l kn b) (hB v none L H u M) [0,1,2,7] =
(
 bif v==v&&true then
 bif decide (0<=Int.ofNat b)&&decide (Int.ofNat b<Int.ofNat L.length) then
 bif v==v&&true then
 bif v==v&&true then
 bif ((0:Nat)+b).blt L.length then
 bif decide ((L.getD ((0:Nat)+b) (Cne.mk (0:Int) (0:Int))).l = 0) then
 bif v==v&&true then
 bif decide (0<=Int.ofNat b)&&decide (Int.ofNat b<=Int.ofNat L.length) then
 bif v==v&&true then
 bif ((0:Nat)+b).ble L.length then
 bif b==(0:Nat) then
 bif v==v&&true then
 bif decide (0<=IntKind.i64.wrap (Int.ofNat b+1))&&decide (IntKind.i64.wrap (Int.ofNat b+1)<=Int.ofNat L.length)&&decide (Int.ofNat L.length<=Int.ofNat L.length) then
 bif v==v&&true then
 bif ((0:Nat)+(IntKind.i64.wrap (Int.ofNat b+(1:Int))).toNat+(L.length - (IntKind.i64.wrap (Int.ofNat b+(1:Int))).toNat)).ble L.length then
 bif L.length - (IntKind.i64.wrap (Int.ofNat b+(1:Int))).toNat==(0:Nat) then
 some ((.normal,v2t a l kn,[.mk 0 31 1 (fun e=>mWl e (.own 2 v 0 L.length
 none) (.own 3 0 0 0 (some 0)) H) false false
 none,cBl u M,cBl v L,cB (0:Nat) (0:Nat) (fun j=>[]) true]))
 else
 bif (((0:Nat)+(L.length - (IntKind.i64.wrap (Int.ofNat b+(1:Int))).toNat)) * (17:Nat)).ble 70368744177664 then
 bif ((0:Nat)+(L.length - (IntKind.i64.wrap (Int.ofNat b+(1:Int))).toNat)).ble 0 then
 bif ((0:Nat)+(L.length - (IntKind.i64.wrap (Int.ofNat b+(1:Int))).toNat)).ble 0 then
 some ((.normal,v2t a l kn,[.mk 0 31 1 (fun e=>mWl e (.own 2 v 0 L.length
 none) (.own 3 0 0 ((0:Nat)+(L.length - (IntKind.i64.wrap (Int.ofNat b+(1:Int))).toNat)) (some 0)) H) false false
 none,cBl u M,cBl v L,cB (0:Nat) (0:Nat) (fun j =>
 bif Nat.ble 0 j&&j.blt ((0:Nat)+(L.length - (IntKind.i64.wrap (Int.ofNat b+(1:Int))).toNat)) then (L.getD ((0:Nat)+(IntKind.i64.wrap (Int.ofNat b+(1:Int))).toNat+j) (Cne.mk (0:Int) (0:Int))).c
 else []) true]))
 else none else
 some ((.normal,v2t a l kn,[.mk 0 31 1 (fun e=>mWl e (.own 2 v 0 L.length
 none) (.own 4 0 0 ((0:Nat)+(L.length - (IntKind.i64.wrap (Int.ofNat b+(1:Int))).toNat))
 none) H) false false
 none,cBl u M,cBl v L,cB (0:Nat) (0:Nat) (fun j=>[]) true,rowC (0:Nat) ((0:Nat)+(L.length - (IntKind.i64.wrap (Int.ofNat b+(1:Int))).toNat)) fun j=>L.getD ((0:Nat)+(IntKind.i64.wrap (Int.ofNat b+(1:Int))).toNat+j) (Cne.mk (0:Int) (0:Int))]))
 else none else none else none else none else none else
 bif (((0:Nat)+b) * (17:Nat)).ble 70368744177664 then
 bif ((0:Nat)+b).ble 0 then
 bif ((0:Nat)+b).ble 0 then
 bif v==v&&true then
 bif decide (0<=IntKind.i64.wrap (Int.ofNat b+1))&&decide (IntKind.i64.wrap (Int.ofNat b+1)<=Int.ofNat L.length)&&decide (Int.ofNat L.length<=Int.ofNat L.length) then
 bif v==v&&true then
 bif ((0:Nat)+(IntKind.i64.wrap (Int.ofNat b+(1:Int))).toNat+(L.length - (IntKind.i64.wrap (Int.ofNat b+(1:Int))).toNat)).ble L.length then
 bif ((0:Nat)+((0:Nat)+b)).ble 0 then
 bif L.length - (IntKind.i64.wrap (Int.ofNat b+(1:Int))).toNat==(0:Nat) then
 some ((.normal,v2t a l kn,[.mk 0 31 1 (fun e=>mWl e (.own 2 v 0 L.length
 none) (.own 3 0 0 (0+b) (some 0)) H) false false
 none,cBl u M,cBl v L,cB (0:Nat) (0:Nat) (fun j =>
 bif Nat.ble 0 j&&j.blt (0+b) then (L.getD ((0:Nat)+j) (Cne.mk (0:Int) (0:Int))).c
 else []) true]))
 else
 bif (((0:Nat)+b+(L.length - (IntKind.i64.wrap (Int.ofNat b+(1:Int))).toNat)) * (17:Nat)).ble 70368744177664 then
 bif ((0:Nat)+b+(L.length - (IntKind.i64.wrap (Int.ofNat b+(1:Int))).toNat)).ble 0 then
 bif ((0:Nat)+((0:Nat)+b)+(L.length - (IntKind.i64.wrap (Int.ofNat b+(1:Int))).toNat)).ble 0 then
 some ((.normal,v2t a l kn,[.mk 0 31 1 (fun e=>mWl e (.own 2 v 0 L.length
 none) (.own 3 0 0 (0+b+(L.length - (IntKind.i64.wrap (Int.ofNat b+(1:Int))).toNat)) (some 0)) H) false false
 none,cBl u M,cBl v L,cB (0:Nat) (0:Nat) (fun j =>
 bif ((0:Nat)+((0:Nat)+b)).ble j&&j.blt ((0:Nat)+(0+b)+(L.length - (IntKind.i64.wrap (Int.ofNat b+(1:Int))).toNat)) then (L.getD ((0:Nat)+(IntKind.i64.wrap (Int.ofNat b+(1:Int))).toNat+(j - ((0:Nat)+((0:Nat)+b)))) (Cne.mk (0:Int) (0:Int))).c
 else
 bif Nat.ble 0 j&&j.blt (0+b) then (L.getD ((0:Nat)+j) (Cne.mk (0:Int) (0:Int))).c
 else []) true]))
 else none else
 some ((.normal,v2t a l kn,[.mk 0 31 1 (fun e=>mWl e (.own 2 v 0 L.length
 none) (.own 4 0 0 (0+b+(L.length - (IntKind.i64.wrap (Int.ofNat b+(1:Int))).toNat))
 none) H) false false
 none,cBl u M,cBl v L,cB (0:Nat) (0:Nat) (fun j =>
 bif Nat.ble 0 j&&j.blt (0+b) then (L.getD ((0:Nat)+j) (Cne.mk (0:Int) (0:Int))).c
 else []) true,cB (0:Nat) (0+b+(L.length - (IntKind.i64.wrap (Int.ofNat b+(1:Int))).toNat)) (fun j =>
 bif j.blt (0+b) then
 bif Nat.ble 0 (0+j)&&((0:Nat)+j).blt (0+b) then (L.getD ((0:Nat)+((0:Nat)+j)) (Cne.mk (0:Int) (0:Int))).c
 else []
 else (L.getD ((0:Nat)+(IntKind.i64.wrap (Int.ofNat b+(1:Int))).toNat+(j - ((0:Nat)+b))) (Cne.mk (0:Int) (0:Int))).c) false]))
 else none else none else none else none else none else none else none else
 bif v==v&&true then
 bif decide (0<=IntKind.i64.wrap (Int.ofNat b+1))&&decide (IntKind.i64.wrap (Int.ofNat b+1)<=Int.ofNat L.length)&&decide (Int.ofNat L.length<=Int.ofNat L.length) then
 bif v==v&&true then
 bif ((0:Nat)+(IntKind.i64.wrap (Int.ofNat b+(1:Int))).toNat+(L.length - (IntKind.i64.wrap (Int.ofNat b+(1:Int))).toNat)).ble L.length then
 bif ((0:Nat)+((0:Nat)+b)).ble (0+b) then
 bif L.length - (IntKind.i64.wrap (Int.ofNat b+(1:Int))).toNat==(0:Nat) then
 some ((.normal,v2t a l kn,[.mk 0 31 1 (fun e=>mWl e (.own 2 v 0 L.length
 none) (.own 4 0 0 (0+b)
 none) H) false false
 none,cBl u M,cBl v L,cB (0:Nat) (0:Nat) (fun j=>[]) true,rowC (0:Nat) (0+b) fun j=>L.getD (0+j) (Cne.mk (0:Int) (0:Int))]))
 else
 bif (((0:Nat)+b+(L.length - (IntKind.i64.wrap (Int.ofNat b+(1:Int))).toNat)) * (17:Nat)).ble 70368744177664 then
 bif ((0:Nat)+((0:Nat)+b)+(L.length - (IntKind.i64.wrap (Int.ofNat b+(1:Int))).toNat)).ble (0+b) then
 some ((.normal,v2t a l kn,[.mk 0 31 1 (fun e=>mWl e (.own 2 v 0 L.length
 none) (.own 4 0 0 (0+b+(L.length - (IntKind.i64.wrap (Int.ofNat b+(1:Int))).toNat))
 none) H) false false
 none,cBl u M,cBl v L,cB (0:Nat) (0:Nat) (fun j=>[]) true,cB (0:Nat) (0+b) (fun j =>
 bif ((0:Nat)+((0:Nat)+b)).ble j&&j.blt ((0:Nat)+(0+b)+(L.length - (IntKind.i64.wrap (Int.ofNat b+(1:Int))).toNat)) then (L.getD ((0:Nat)+(IntKind.i64.wrap (Int.ofNat b+(1:Int))).toNat+(j - ((0:Nat)+((0:Nat)+b)))) (Cne.mk (0:Int) (0:Int))).c
 else (L.getD ((0:Nat)+j) (Cne.mk (0:Int) (0:Int))).c) false]))
 else
 some ((.normal,v2t a l kn,[.mk 0 31 1 (fun e=>mWl e (.own 2 v 0 L.length
 none) (.own 4 1 0 (0+b+(L.length - (IntKind.i64.wrap (Int.ofNat b+(1:Int))).toNat))
 none) H) false false
 none,cBl u M,cBl v L,cB (0:Nat) (0:Nat) (fun j=>[]) true,cB (1:Nat) (0+b+(L.length - (IntKind.i64.wrap (Int.ofNat b+(1:Int))).toNat)) (fun j =>
 bif j.blt (0+b) then (L.getD ((0:Nat)+((0:Nat)+j)) (Cne.mk (0:Int) (0:Int))).c
 else (L.getD ((0:Nat)+(IntKind.i64.wrap (Int.ofNat b+(1:Int))).toNat+(j - ((0:Nat)+b))) (Cne.mk (0:Int) (0:Int))).c) false]))
 else none else none else none else none else none else none else none else none else none else none else none else
 some ((.normal,v2t a l kn,hB v
 none L H u M))
 else none else none else none else none else
 none):=by kernel_rfl
theorem t3 (a l kn:Int) (h:Heap):codeL P42 G42 A42 noneO 0 18 [] (nav ([1] ++ BLt)) [0,1,2,7] (v2t a l kn) h [0,1,2,7,8] =
(
 some ((.normal,w5t a l kn (-1:Int),h))):=by kernel_rfl
theorem t4 (a l kn:Int) (h:Heap):codeL P42 G42 A42 noneO 0 18 [] (nav ([1,1,2] ++ BLt)) [0,1,2,7,8] (w5t a l kn (-1)) h [0,1,2,7,8,9] =
(
 some ((.normal,x5t a l kn (-1:Int) (0:Int),h))):=by kernel_rfl
theorem t10 (a l kn x:Int) (b:Nat) (h:Heap):codeL P42 G42 A42 noneO 0 18 [] (nav ([1,2,2,2] ++ BLt)) [0,1,2,7,8,10] (x5t a l kn b x) h [0,1,2,7,8,10] =
(
 some ((.normal,x5t a (IntKind.i64.wrap (l - x)) kn (Int.ofNat b) x,h))):=by kernel_rfl
theorem t11 (a l kn x:Int) (b:Nat) (h:Heap):codeL P42 G42 A42 noneO 0 18 [] (nav ([1,2,2,2,2] ++ BLt)) [0,1,2,7,8,10] (x5t a l kn b x) h [0,1,2,7,8,10] =
(
 some ((.normal,x5t a l (IntKind.i64.wrap (kn+1)) (Int.ofNat b) x,h))):=by kernel_rfl
theorem t2 (a l kn:Int) (h:Heap):codeL P42 G42 A42 noneO 0 18 [] (nav [1,0,0,1,2,2]) [0,1,2,7] (v2t a l kn) h [0,1,2,7] =
(
 bif decide (0<l) then
 some ((.normal,v2t a l kn,h))
 else
 some ((.exit 0,v2t a l kn,h))):=by kernel_rfl
theorem t0 (a l:Int) (h:Heap):codeL P42 G42 A42 noneO 0 18 [] (nav [1]) [0,1,2] [.ptr 0 0 0 0,.int .i64 a,.int .i64 l] h [0,1,2] =
(
 some ((.normal,[.ptr 0 0 0 0,.int .i64 a,.int .i64 l],h))):=by kernel_rfl
theorem t1 (a l:Int) (h:Heap):codeL P42 G42 A42 noneO 0 18 [] (nav [1,2]) [0,1,2] [.ptr 0 0 0 0,.int .i64 a,.int .i64 l] h [0,1,2,7] =
(
 some ((.normal,v2t a l (-1:Int),h))):=by kernel_rfl
theorem t15 (kn:Int) (h:Heap):codeL P42 G42 A42 noneO 0 18 [] (nav [2,2,2]) [7] [.int .i64 kn] h [6] =
(
 some ((.ret,[.int .i64 kn],h))):=by kernel_rfl
open Go.Proofs
abbrev P18 (h0:Heap):=Pz P42 G42 A42 18 h0
theorem wkA1 (x:T) (c:Option Nat) (w m:Nat) (f:Nat->List T) (L L':List Cne) (v:Nat) (H:Nat->Nat->Int) (a l kn:Int) (tb:Bool) (hl:L'.length = m) (hf:∀ j,j<m->f j = (L'.getD j cn0).c):Wk G42 A42 18 2 [0,1,2,7] (v2t a l kn) [⟨0,31,1,fun e=>mWl e x (.own 2 w 0 m c) H,false,false,none⟩,cBl v L,cB w m f tb] (v2t a l kn) (hB w c L' H v L):=fun nt=>by
 subst hl
 refine .same (.cons ⟨rfl,rfl,rfl,id,fun j hj=>?_⟩ (.cons ⟨rfl,rfl,rfl,id,fun _ _=>rfl⟩ (.cons ⟨rfl,rfl,rfl,id,fun j hj=>(hf j hj).symm⟩ .nil)))
 obtain rfl:=one_of hj
 rfl
theorem wkA2 (x:T) (c:Option Nat) (w m:Nat) (f:Nat->List T) (L L':List Cne) (v:Nat) (H:Nat->Nat->Int) (a l kn:Int) (tb:Bool) (E:Blk) (hl:L'.length = m) (hf:∀ j,j<m->f j = (L'.getD j cn0).c):Wk G42 A42 18 2 [0,1,2,7] (v2t a l kn) [⟨0,31,1,fun e=>mWl e x (.own 3 w 0 m c) H,false,false,none⟩,cBl v L,E,cB w m f tb] (v2t a l kn) (hB w c L' H v L):=fun nt=>by
 subst hl
 refine .trans (.canon [0,1,3] rfl) ?_
 refine .same (.cons ⟨rfl,rfl,rfl,(fun h=>by cases h),fun j hj=>?_⟩ (.cons ⟨rfl,rfl,rfl,id,fun _ _=>rfl⟩ (.cons ⟨rfl,rfl,rfl,id,fun j hj=>(hf j hj).symm⟩ .nil)))
 obtain rfl:=one_of hj
 rfl
theorem wkB1 (x:T) (c:Option Nat) (w m:Nat) (f:Nat->List T) (L L' M:List Cne) (u v:Nat) (H:Nat->Nat->Int) (a l kn:Int) (tb:Bool) (hl:L'.length = m) (hf:∀ j,j<m->f j = (L'.getD j cn0).c):Wk G42 A42 18 2 [0,1,2,7] (v2t a l kn) [⟨0,31,1,fun e=>mWl e x (.own 3 w 0 m c) H,false,false,none⟩,cBl u M,cBl v L,cB w m f tb] (v2t a l kn) (hB w c L' H u M):=fun nt=>by
 subst hl
 refine .trans (.canon [0,1,3] rfl) ?_
 refine .same (.cons ⟨rfl,rfl,rfl,(fun h=>by cases h),fun j hj=>?_⟩ (.cons ⟨rfl,rfl,rfl,id,fun _ _=>rfl⟩ (.cons ⟨rfl,rfl,rfl,id,fun j hj=>(hf j hj).symm⟩ .nil)))
 obtain rfl:=one_of hj
 rfl
theorem wkB2 (x:T) (c:Option Nat) (w m:Nat) (f:Nat->List T) (L L' M:List Cne) (u v:Nat) (H:Nat->Nat->Int) (a l kn:Int) (tb:Bool) (E:Blk) (hl:L'.length = m) (hf:∀ j,j<m->f j = (L'.getD j cn0).c):Wk G42 A42 18 2 [0,1,2,7] (v2t a l kn) [⟨0,31,1,fun e=>mWl e x (.own 4 w 0 m c) H,false,false,none⟩,cBl u M,cBl v L,E,cB w m f tb] (v2t a l kn) (hB w c L' H u M):=fun nt=>by
 subst hl
 refine .trans (.canon [0,1,4] rfl) ?_
 refine .same (.cons ⟨rfl,rfl,rfl,(fun h=>by cases h),fun j hj=>?_⟩ (.cons ⟨rfl,rfl,rfl,id,fun _ _=>rfl⟩ (.cons ⟨rfl,rfl,rfl,id,fun j hj=>(hf j hj).symm⟩ .nil)))
 obtain rfl:=one_of hj
 rfl
theorem erase_get (L:List Cne) (b j:Nat):(L.eraseIdx b).getD j cn0 = if j<b then L.getD j cn0 else L.getD (j+1) cn0:=by
 simp only [List.getD_eq_getElem?_getD,List.getElem?_eraseIdx]
 split <;> rfl
theorem t13AX (v:Nat) (L:List Cne) (H:Nat->Nat->Int) (a l kn:Int) (b:Nat) (hb:b<L.length) (hn:L.length<=1000) (hz:(L.getD b cn0).l = 0) :
 ∃ r,codeL P42 G42 A42 noneO 0 18 [] (nav ([2,2,2,2,2,2] ++ BLt)) [0,1,2,7,8] (w5t a l kn b) (hA v none L H) [0,1,2,7] = some r/\∃ vs' h',r = (.normal,vs',h')/\∃ w c,(c = none ∨ L.eraseIdx b = [])/\Wk G42 A42 18 2 [0,1,2,7] vs' h' (v2t a l kn) (hB w c (L.eraseIdx b) H v L):=by
 have el:(L.eraseIdx b).length = L.length - 1:=List.length_eraseIdx_of_lt hb
 have hz':(L.getD b ⟨0,0⟩).l = 0:=hz
 have cell:=erase_get L b
 have gd:∀ i,L.getD i ⟨0,0⟩ = L.getD i cn0:=fun _=>rfl
 rw [t13A,up1 (by omega),show (Int.ofNat (b+1)).toNat = b+1 from rfl]
 simp only [Nat.zero_add]
 (repeat (first | refine ET ?_ | refine EF ?_))
 by_cases c1:b = 0
 ·(repeat (first | refine ET ?_ | refine EF ?_))
  by_cases c2:L.length - (b+1) = 0
  ·(repeat (first | refine ET ?_ | refine EF ?_))
   exact ⟨_,rfl,_,_,rfl,0,some 0,.inr (List.length_eq_zero_iff.1 (by omega)),wkA1 _ _ _ _ _ _ _ _ _ _ _ _ _ (by omega) fun j hj=>absurd hj (Nat.not_lt_zero _)⟩
  ·(repeat (first | refine ET ?_ | refine EF ?_))
   refine ⟨_,rfl,_,_,rfl,0,none,.inl rfl,wkA2 _ _ _ _ _ _ _ _ _ _ _ _ _ _ (by omega) fun j hj=>?_⟩
   rw [cell,if_neg (by omega)]
   show (L.getD (b+1+j) cn0).c = _
   rw [show b+1+j = j+1 by omega]
 ·(repeat (first | refine ET ?_ | refine EF ?_))
  by_cases c2:L.length - (b+1) = 0
  ·(repeat (first | refine ET ?_ | refine EF ?_))
   refine ⟨_,rfl,_,_,rfl,0,none,.inl rfl,wkA2 _ _ _ _ _ _ _ _ _ _ _ _ _ _ (by omega) fun j hj=>?_⟩
   rw [cell,if_pos (by omega)]
   rfl
  ·(repeat (first | refine ET ?_ | refine EF ?_))
   refine ⟨_,rfl,_,_,rfl,1,none,.inl rfl,wkA2 _ _ _ _ _ _ _ _ _ _ _ _ _ _ (by omega) fun j hj=>?_⟩
   rw [cell,bltD0,gd,gd]
   by_cases c3:j<b
   ·rw [if_pos c3,decide_eq_true c3]; rfl
   ·rw [if_neg c3,decide_eq_false c3,show b+1+(j - b) = j+1 by omega]; rfl
theorem t13BX (v u:Nat) (L M:List Cne) (H:Nat->Nat->Int) (a l kn:Int) (b:Nat) (hb:b<L.length) (hn:L.length<=1000) (hz:(L.getD b cn0).l = 0) :
 ∃ r,codeL P42 G42 A42 noneO 0 18 [] (nav ([2,2,2,2,2,2] ++ BLt)) [0,1,2,7,8] (w5t a l kn b) (hB v none L H u M) [0,1,2,7] = some r/\∃ vs' h',r = (.normal,vs',h')/\∃ w c,(c = none ∨ L.eraseIdx b = [])/\Wk G42 A42 18 2 [0,1,2,7] vs' h' (v2t a l kn) (hB w c (L.eraseIdx b) H u M):=by
 have el:(L.eraseIdx b).length = L.length - 1:=List.length_eraseIdx_of_lt hb
 have hz':(L.getD b ⟨0,0⟩).l = 0:=hz
 have cell:=erase_get L b
 have gd:∀ i,L.getD i ⟨0,0⟩ = L.getD i cn0:=fun _=>rfl
 rw [t13B,up1 (by omega),show (Int.ofNat (b+1)).toNat = b+1 from rfl]
 simp only [Nat.zero_add]
 (repeat (first | refine ET ?_ | refine EF ?_))
 by_cases c1:b = 0
 ·(repeat (first | refine ET ?_ | refine EF ?_))
  by_cases c2:L.length - (b+1) = 0
  ·(repeat (first | refine ET ?_ | refine EF ?_))
   exact ⟨_,rfl,_,_,rfl,0,some 0,.inr (List.length_eq_zero_iff.1 (by omega)),wkB1 _ _ _ _ _ _ _ _ _ _ _ _ _ _ _ (by omega) fun j hj=>absurd hj (Nat.not_lt_zero _)⟩
  ·(repeat (first | refine ET ?_ | refine EF ?_))
   refine ⟨_,rfl,_,_,rfl,0,none,.inl rfl,wkB2 _ _ _ _ _ _ _ _ _ _ _ _ _ _ _ _ (by omega) fun j hj=>?_⟩
   rw [cell,if_neg (by omega)]
   show (L.getD (b+1+j) cn0).c = _
   rw [show b+1+j = j+1 by omega]
 ·(repeat (first | refine ET ?_ | refine EF ?_))
  by_cases c2:L.length - (b+1) = 0
  ·(repeat (first | refine ET ?_ | refine EF ?_))
   refine ⟨_,rfl,_,_,rfl,0,none,.inl rfl,wkB2 _ _ _ _ _ _ _ _ _ _ _ _ _ _ _ _ (by omega) fun j hj=>?_⟩
   rw [cell,if_pos (by omega)]
   rfl
  ·(repeat (first | refine ET ?_ | refine EF ?_))
   refine ⟨_,rfl,_,_,rfl,1,none,.inl rfl,wkB2 _ _ _ _ _ _ _ _ _ _ _ _ _ _ _ _ (by omega) fun j hj=>?_⟩
   rw [cell,bltD0,gd,gd]
   by_cases c3:j<b
   ·rw [if_pos c3,decide_eq_true c3]; rfl
   ·rw [if_neg c3,decide_eq_false c3,show b+1+(j - b) = j+1 by omega]; rfl
open Go.Proofs
def StM (L:List Cne) (H:Nat->Nat->Int) (X:Heap):Prop:=(∃ v c,(c = none ∨ L = [])/\X = hA v c L H) ∨ ∃ v c u M,(c = none ∨ L = [])/\X = hB v c L H u M
theorem setC_get (L:List Cne) (b j:Nat) (y:Cne) (hb:b<L.length):(L.set b y).getD j cn0 = if j = b then y else L.getD j cn0:=by
 simp only [List.getD_eq_getElem?_getD,List.getElem?_set]
 by_cases c:j = b
 ·subst c; simp [hb]
 ·rw [if_neg c,if_neg fun h=>c h.symm]
section
variable {h0:Heap} (L:List Cne) (H:Nat->Nat->Int) (a l kn:Int)
theorem p18 (e0:h0.length = 2) {p l1 v1 h1 l2 v2 h2} (k:codeL P42 G42 A42 noneO 0 18 [] (nav p) l1 v1 h1 l2 = some (.normal,v2,h2)):P18 h0 p l1 v1 h1 .normal l2 v2 h2:=Pz.run hm42 none_ok (m:=0) (by kernel_rfl) loops0 k
theorem loop5A (v:Nat) (hn:L.length<=1000):LoopOk P42 G42 (A42 18) 18 5 (litS (v5t a l kn (-1) 0) (hA v none L H) (.exit 2) (w5t a l kn (bT (lst L a L.length))) (hA v none L H)):=by
 refine loop_steps hm42 (by kernel_rfl) (fun i=>v5t a l kn (bT (lst L a i)) i) (fun _=>hA v none L H) (n:=L.length) (fun i hi=>?_) ?_
 ·refine Step.mk0 (A:=A42) (m:=0) none_ok rfl rfl loops0 (h1:=hA v none L H) ?_ (.refl _)
  simp only [lst]
  cases h1:lst L a i with
  | none =>
   show iterR P42 G42 A42 noneO 0 18 [] 5 (v5t a l kn (-1) i) (hA v none L H) = _
   rw [i5mA,up1 (by omega)]
   simp only [Nat.zero_add]
   (repeat (first | refine BS ?_ | refine BF ?_))
   by_cases c:(L.getD i cn0).a = a
   ·rw [if_pos c]
    exact bift (decide_eq_true c) rfl
   ·rw [if_neg c]
    exact biff (by rw [decide_eq_true_eq]; exact c) rfl
  | some b =>
   have hb:=lst_lt L a i b h1
   show iterR P42 G42 A42 noneO 0 18 [] 5 (v5t a l kn (b:Int) i) (hA v none L H) = _
   rw [i5bA,up1 (by omega)]
   simp only [Nat.zero_add]
   refine BS (BS (BS (BS (BS (BS (BS ?_))))))
   by_cases c:(L.getD i cn0).a = a
   ·refine bift (decide_eq_true c) ?_
    (repeat (first | refine BS ?_ | refine BF ?_))
    by_cases c2:(L.getD i cn0).l<(L.getD b cn0).l
    ·rw [if_pos ⟨c,c2⟩]
     exact bift (decide_eq_true c2) rfl
    ·rw [if_neg fun q=>c2 q.2]
     exact biff (by rw [decide_eq_true_eq]; exact c2) rfl
   ·rw [if_neg fun q=>c q.1]
    exact biff (by rw [decide_eq_true_eq]; exact c) rfl
 ·refine Last.mk0 (A:=A42) (m:=0) none_ok rfl rfl loops0 (h1:=hA v none L H) (by simp) ?_ (.refl _)
  cases h1:lst L a L.length with
  | none =>
   show iterR P42 G42 A42 noneO 0 18 [] 5 (v5t a l kn (-1) L.length) (hA v none L H) = _
   rw [i5mA]
   (repeat (first | refine BS ?_ | refine BF ?_))
   rfl
  | some b =>
   show iterR P42 G42 A42 noneO 0 18 [] 5 (v5t a l kn (b:Int) L.length) (hA v none L H) = _
   rw [i5bA]
   (repeat (first | refine BS ?_ | refine BF ?_))
   rfl
theorem loop5B (v u:Nat) (M:List Cne) (hn:L.length<=1000):LoopOk P42 G42 (A42 18) 18 5 (litS (v5t a l kn (-1) 0) (hB v none L H u M) (.exit 2) (w5t a l kn (bT (lst L a L.length))) (hB v none L H u M)):=by
 refine loop_steps hm42 (by kernel_rfl) (fun i=>v5t a l kn (bT (lst L a i)) i) (fun _=>hB v none L H u M) (n:=L.length) (fun i hi=>?_) ?_
 ·refine Step.mk0 (A:=A42) (m:=0) none_ok rfl rfl loops0 (h1:=hB v none L H u M) ?_ (.refl _)
  simp only [lst]
  cases h1:lst L a i with
  | none =>
   show iterR P42 G42 A42 noneO 0 18 [] 5 (v5t a l kn (-1) i) (hB v none L H u M) = _
   rw [i5mB,up1 (by omega)]
   simp only [Nat.zero_add]
   (repeat (first | refine BS ?_ | refine BF ?_))
   by_cases c:(L.getD i cn0).a = a
   ·rw [if_pos c]
    exact bift (decide_eq_true c) rfl
   ·rw [if_neg c]
    exact biff (by rw [decide_eq_true_eq]; exact c) rfl
  | some b =>
   have hb:=lst_lt L a i b h1
   show iterR P42 G42 A42 noneO 0 18 [] 5 (v5t a l kn (b:Int) i) (hB v none L H u M) = _
   rw [i5bB,up1 (by omega)]
   simp only [Nat.zero_add]
   refine BS (BS (BS (BS (BS (BS (BS ?_))))))
   by_cases c:(L.getD i cn0).a = a
   ·refine bift (decide_eq_true c) ?_
    (repeat (first | refine BS ?_ | refine BF ?_))
    by_cases c2:(L.getD i cn0).l<(L.getD b cn0).l
    ·rw [if_pos ⟨c,c2⟩]
     exact bift (decide_eq_true c2) rfl
    ·rw [if_neg fun q=>c2 q.2]
     exact biff (by rw [decide_eq_true_eq]; exact c2) rfl
   ·rw [if_neg fun q=>c q.1]
    exact biff (by rw [decide_eq_true_eq]; exact c) rfl
 ·refine Last.mk0 (A:=A42) (m:=0) none_ok rfl rfl loops0 (h1:=hB v none L H u M) (by simp) ?_ (.refl _)
  cases h1:lst L a L.length with
  | none =>
   show iterR P42 G42 A42 noneO 0 18 [] 5 (v5t a l kn (-1) L.length) (hB v none L H u M) = _
   rw [i5mB]
   (repeat (first | refine BS ?_ | refine BF ?_))
   rfl
  | some b =>
   show iterR P42 G42 A42 noneO 0 18 [] 5 (v5t a l kn (b:Int) L.length) (hB v none L H u M) = _
   rw [i5bB]
   (repeat (first | refine BS ?_ | refine BF ?_))
   rfl
end
theorem t6 (a l kn:Int) (b:Int) (h:Heap):codeL P42 G42 A42 noneO 0 18 [(5,litS (v5t a l kn (-1) 0) h (.exit 2) (w5t a l kn b) h)] (nav ([2,1,2] ++ BLt)) [0,1,2,7,8,9] (v5t a l kn (-1) 0) h [0,1,2,7,8] =
(
 bif weakF (x5t a l kn (-1:Int) (0:Int)) h (x5t a l kn (-1:Int) (0:Int)) h then
 some ((.normal,w5t a l kn b,h))
 else
 none):=by kernel_rfl
section
variable {h0:Heap} {L:List Cne} {H:Nat->Nat->Int} {a l kn:Int}
theorem same12 (x:T) (v b:Nat) (z:Int) (hb:b<L.length) (R:Heap):SameBlks (⟨0,31,1,fun _=>mC x H,false,false,none⟩ :: (cB v L.length (fun e=>[.int .i64 (bif e==b then (L.getD b cn0).a else (L.getD e cn0).a),.int .i64 (bif e==b then z else (L.getD e cn0).l)]) false) :: R) (mB x H :: cBl v (L.set b ⟨(L.getD b cn0).a,z⟩) :: R):=by
 refine .cons ⟨rfl,rfl,rfl,id,fun _ _=>rfl⟩ (.cons ⟨rfl,rfl,List.length_set ..,id,fun j hj=>?_⟩ (.refl _))
 show ((L.set b ⟨(L.getD b cn0).a,z⟩).getD j cn0).c = [T.int .i64 (bif j==b then (L.getD b cn0).a else (L.getD j cn0).a),T.int .i64 (bif j==b then z else (L.getD j cn0).l)]
 rw [setC_get _ _ _ _ hb]
 by_cases c:j = b
 ·rw [if_pos c,show (j==b) = true by simp [c]]; rfl
 ·rw [if_neg c,show (j==b) = false by simp [c]]; rfl
theorem roundT (e0:h0.length = 2) (hn:L.length<=1000) {b:Nat} (hb:lst L a L.length = some b) (hl:0<l/\l<=1000000000) (hk:-1<=kn/\kn<=100000) (hL:∀ c,c ∈ L->1<=c.l/\c.l<=1000000000) {X:Heap} (hX:StM L H X) :
 ∃ X',(if (L.getD b cn0).l<=l then StM (L.eraseIdx b) H X'/\P18 h0 BLt [0,1,2,7] (v2t a l kn) X .normal [0,1,2,7] (v2t a (l - (L.getD b cn0).l) (kn+1)) X' else
  StM (L.set b ⟨(L.getD b cn0).a,(L.getD b cn0).l - l⟩) H X'/\P18 h0 BLt [0,1,2,7] (v2t a l kn) X .normal [0,1,2,7] (v2t a 0 (kn+1)) X'):=by
 have hbl:=lst_lt L a _ b hb
 have hbm:=hL _ (mem_getD hbl cn0)
 have hLne:L ≠ []:=fun h=>by subst h; exact absurd hbl (Nat.not_lt_zero _)
 have ek:IntKind.i64.wrap (kn+1) = kn+1:=wr64 (by omega) (by omega)
 generalize hy:L.getD b cn0 = y at *
 have gy:L.getD b ⟨0,0⟩ = y:=hy
 obtain ⟨x,hx⟩:∃ x,x = (bif decide (y.l<l) then y.l else l):=⟨_,rfl⟩
 have hx1:(y.l<=l->x = y.l)/\(¬ y.l<=l->x = l):=by
  rw [hx]
  by_cases c:y.l<l
  ·rw [decide_eq_true c]; exact ⟨fun _=>rfl,fun h=>absurd (Int.le_of_lt c) h⟩
  ·rw [decide_eq_false c]; exact ⟨fun h=>by show l = y.l; omega,fun _=>rfl⟩
 have hx2:x<=l/\x<=y.l/\1<=x:=by
  by_cases c:y.l<=l
  ·have:=hx1.1 c; omega
  ·have:=hx1.2 c; omega
 have e1:IntKind.i64.wrap (l - x) = l - x:=wr64 (by omega) (by omega)
 have e2:IntKind.i64.wrap (y.l - x) = y.l - x:=wr64 (by omega) (by omega)
 have hset:(L.set b ⟨y.a,y.l - x⟩).length = L.length:=List.length_set ..
 have hsetb:(L.set b ⟨y.a,y.l - x⟩).getD b cn0 = ⟨y.a,y.l - x⟩:=by rw [setC_get _ _ _ _ hbl,if_pos rfl]
 have hers:(L.set b ⟨y.a,y.l - x⟩).eraseIdx b = L.eraseIdx b:=List.eraseIdx_set_eq
 have key:∃ X2 X',StM (L.set b ⟨y.a,y.l - x⟩) H X2/\P18 h0 ([1,2] ++ BLt) [0,1,2,7,8] (w5t a l kn (-1)) X .normal [0,1,2,7,8] (w5t a l kn b) X/\P18 h0 ([1,2,2] ++ BLt) [0,1,2,7,8] (w5t a l kn b) X .normal [0,1,2,7,8,10] (x5t a l kn b x) X ∧
  P18 h0 ([1,2,2,2,2,2] ++ BLt) [0,1,2,7,8,10] (x5t a (l - x) (kn+1) b x) X .normal [0,1,2,7,8] (w5t a (l - x) (kn+1) b) X2 ∧
  (if y.l<=l then StM (L.eraseIdx b) H X' else X' = X2)/\P18 h0 ([2,2,2,2,2,2] ++ BLt) [0,1,2,7,8] (w5t a (l - x) (kn+1) b) X2 .normal [0,1,2,7] (v2t a (l - x) (kn+1)) X':=by
  rcases hX with ⟨v,c,hc,rfl⟩ | ⟨v,c,u,M,hc,rfl⟩
  ·obtain rfl:c = none:=hc.resolve_right hLne
   have l5:=loop5A L H a l kn v hn
   rw [hb] at l5
   have p1:P18 h0 ([1,2] ++ BLt) [0,1,2,7,8] (w5t a l kn (-1)) (hA v none L H) .normal [0,1,2,7,8] (w5t a l kn b) (hA v none L H) :=
    Pz.seq (by kernel_rfl) (p18 e0 (t4 a l kn _)) (Pz.run hm42 none_ok (m:=0) (by kernel_rfl) (loops1 l5) ((t6 a l kn b (hA v none L H)).trans (bift (weakF_of ⟨rfl,.refl _⟩) rfl)))
   have p2:P18 h0 ([1,2,2] ++ BLt) [0,1,2,7,8] (w5t a l kn b) (hA v none L H) .normal [0,1,2,7,8,10] (x5t a l kn b x) (hA v none L H):=p18 e0 (by
    rw [t9A]
    simp only [Nat.zero_add]
    rw [gy,hx]
    (repeat (first | refine BS ?_ | refine BF ?_))
    rfl)
   have p3:P18 h0 ([1,2,2,2,2,2] ++ BLt) [0,1,2,7,8,10] (x5t a (l - x) (kn+1) b x) (hA v none L H) .normal [0,1,2,7,8] (w5t a (l - x) (kn+1) b) (hA v none (L.set b ⟨y.a,y.l - x⟩) H):=by
    refine Pz.post (p18 e0 (v2:=w5t a (l - x) (kn+1) b) (h2:=[⟨0,31,1,fun _=>mC (.own 1 v 0 L.length none) H,false,false,none⟩,cB v L.length (fun e=>[.int .i64 (bif e==b then y.a else (L.getD e cn0).a),.int .i64 (bif e==b then y.l - x else (L.getD e cn0).l)]) false]) ?_) fun nt=>.same ?_
    ·rw [t12A]
     simp only [Nat.zero_add]
     rw [gy,e2]
     (repeat (first | refine BS ?_ | refine BF ?_))
     rfl
    ·have:=same12 (L:=L) (H:=H) (.own 1 v 0 L.length none) v b (y.l - x) hbl []
     rw [hy] at this
     unfold hA
     rw [hset]
     exact this
   by_cases c:y.l<=l
   ·have hz:(L.set b ⟨y.a,y.l - x⟩).getD b cn0 = ⟨y.a,0⟩:=by rw [hsetb,hx1.1 c,Int.sub_self]
    obtain ⟨r,k,vs',h',rfl,w,c',hc',hw⟩:=t13AX v (L.set b ⟨y.a,y.l - x⟩) H a (l - x) (kn+1) b (by rw [hset]; exact hbl) (by rw [hset]; exact hn) (by rw [hz])
    rw [hers] at hc' hw
    refine ⟨_,hB w c' (L.eraseIdx b) H v (L.set b ⟨y.a,y.l - x⟩),.inl ⟨v,none,.inl rfl,rfl⟩,p1,p2,p3,by rw [if_pos c]; exact .inr ⟨w,c',v,_,hc',rfl⟩,Pz.post (p18 e0 k) (by rw [e0]; exact hw)⟩
   ·refine ⟨_,hA v none (L.set b ⟨y.a,y.l - x⟩) H,.inl ⟨v,none,.inl rfl,rfl⟩,p1,p2,p3,by rw [if_neg c],p18 e0 ?_⟩
    rw [t13A]
    simp only [Nat.zero_add]
    rw [show (L.set b ⟨y.a,y.l - x⟩).getD b ⟨0,0⟩ = ⟨y.a,y.l - x⟩ from hsetb,hset]
    have:=hx1.2 c
    refine BS (BS (BS (BS (BS (BF rfl)))))
  ·obtain rfl:c = none:=hc.resolve_right hLne
   have l5:=loop5B L H a l kn v u M hn
   rw [hb] at l5
   have p1:P18 h0 ([1,2] ++ BLt) [0,1,2,7,8] (w5t a l kn (-1)) (hB v none L H u M) .normal [0,1,2,7,8] (w5t a l kn b) (hB v none L H u M) :=
    Pz.seq (by kernel_rfl) (p18 e0 (t4 a l kn _)) (Pz.run hm42 none_ok (m:=0) (by kernel_rfl) (loops1 l5) ((t6 a l kn b (hB v none L H u M)).trans (bift (weakF_of ⟨rfl,.refl _⟩) rfl)))
   have p2:P18 h0 ([1,2,2] ++ BLt) [0,1,2,7,8] (w5t a l kn b) (hB v none L H u M) .normal [0,1,2,7,8,10] (x5t a l kn b x) (hB v none L H u M):=p18 e0 (by
    rw [t9B]
    simp only [Nat.zero_add]
    rw [gy,hx]
    (repeat (first | refine BS ?_ | refine BF ?_))
    rfl)
   have p3:P18 h0 ([1,2,2,2,2,2] ++ BLt) [0,1,2,7,8,10] (x5t a (l - x) (kn+1) b x) (hB v none L H u M) .normal [0,1,2,7,8] (w5t a (l - x) (kn+1) b) (hB v none (L.set b ⟨y.a,y.l - x⟩) H u M):=by
    refine Pz.post (p18 e0 (v2:=w5t a (l - x) (kn+1) b) (h2:=[⟨0,31,1,fun _=>mC (.own 2 v 0 L.length none) H,false,false,none⟩,cBl u M,cB v L.length (fun e=>[.int .i64 (bif e==b then y.a else (L.getD e cn0).a),.int .i64 (bif e==b then y.l - x else (L.getD e cn0).l)]) false]) ?_) fun nt=>.same ?_
    ·rw [t12B]
     simp only [Nat.zero_add]
     rw [gy,e2]
     (repeat (first | refine BS ?_ | refine BF ?_))
     rfl
    ·have:=same12 (L:=L) (H:=H) (.own 2 v 0 L.length none) v b (y.l - x) hbl []
     rw [hy] at this
     unfold hB
     rw [hset]
     refine .cons ⟨rfl,rfl,rfl,id,fun _ _=>rfl⟩ (.cons ⟨rfl,rfl,rfl,id,fun _ _=>rfl⟩ ?_)
     exact ⟨rfl,fun i b1 b2 q1 q2=>this.2 (i+1) b1 b2 q1 q2⟩
   by_cases c:y.l<=l
   ·have hz:(L.set b ⟨y.a,y.l - x⟩).getD b cn0 = ⟨y.a,0⟩:=by rw [hsetb,hx1.1 c,Int.sub_self]
    obtain ⟨r,k,vs',h',rfl,w,c',hc',hw⟩:=t13BX v u (L.set b ⟨y.a,y.l - x⟩) M H a (l - x) (kn+1) b (by rw [hset]; exact hbl) (by rw [hset]; exact hn) (by rw [hz])
    rw [hers] at hc' hw
    refine ⟨_,hB w c' (L.eraseIdx b) H u M,.inr ⟨v,none,u,M,.inl rfl,rfl⟩,p1,p2,p3,by rw [if_pos c]; exact .inr ⟨w,c',u,M,hc',rfl⟩,Pz.post (p18 e0 k) (by rw [e0]; exact hw)⟩
   ·refine ⟨_,hB v none (L.set b ⟨y.a,y.l - x⟩) H u M,.inr ⟨v,none,u,M,.inl rfl,rfl⟩,p1,p2,p3,by rw [if_neg c],p18 e0 ?_⟩
    rw [t13B]
    simp only [Nat.zero_add]
    rw [show (L.set b ⟨y.a,y.l - x⟩).getD b ⟨0,0⟩ = ⟨y.a,y.l - x⟩ from hsetb,hset]
    have:=hx1.2 c
    refine BS (BS (BS (BS (BS (BF rfl)))))
 obtain ⟨X2,X',s2,p1,p2,p3,s3,p4⟩:=key
 have go:P18 h0 BLt [0,1,2,7] (v2t a l kn) X .normal [0,1,2,7] (v2t a (l - x) (kn+1)) X' :=
  Pz.seq (by kernel_rfl) (p18 e0 (t3 a l kn X)) (Pz.seq (by kernel_rfl) p1 (Pz.seq (by kernel_rfl) p2 (Pz.seq (by kernel_rfl) (p18 e0 ((t10 a l kn x b X).trans (by rw [e1]; rfl))) (Pz.seq (by kernel_rfl) (p18 e0 ((t11 a (l - x) kn x b X).trans (by rw [ek]; rfl))) (Pz.seq (by kernel_rfl) p3 p4)))))
 refine ⟨X',?_⟩
 by_cases c:y.l<=l
 ·rw [if_pos c] at s3 ⊢
  rw [hx1.1 c] at go
  exact ⟨s3,go⟩
 ·rw [if_neg c] at s3 ⊢
  subst s3
  rw [hx1.2 c] at go s2
  rw [Int.sub_self] at go
  exact ⟨s2,go⟩
end
open Go.Proofs
theorem CutTo.unique {a:Int} {L:List Cne} {l kn:Int} {L1 L2:List Cne} {k1 k2:Int} (h1:CutTo a L l kn L1 k1) (h2:CutTo a L l kn L2 k2):L1 = L2/\k1 = k2:=by
 have e1:=cutN_of h1 (L.length+1) (Nat.lt_succ_self _)
 have e2:=cutN_of h2 (L.length+1) (Nat.lt_succ_self _)
 rw [e1] at e2
 exact Prod.mk.inj e2
theorem t2x (a l kn:Int) (h:Heap):codeL P42 G42 A42 noneO 0 18 [] (nav [1,0,0,1,2,2]) [0,1,2,7] (v2t a l kn) h [7] =
(
 bif decide (0<l) then
 some ((.normal,[.int .i64 kn],h))
 else
 some ((.exit 0,[.int .i64 kn],h))):=by kernel_rfl
theorem takeT (L0:List Cne) (H:Nat->Nat->Int) (v0:Nat) (c0:Option Nat) (hc0:c0 = none ∨ L0 = []) (a l0:Int) (hn:L0.length<=1000) (hl0:0<l0/\l0<=1000000000) (hL:∀ c,c ∈ L0->1<=c.l/\c.l<=1000000000) (hs:l0<=cnN L0 a) :
 ∃ L2 kn X,CutTo a L0 l0 (-1) L2 kn/\StM L2 H X/\ToldRef P42 G42 18 [.ptr 0 0 0 0,.int .i64 a,.int .i64 l0] (hA v0 c0 L0 H) (.int .i64 kn) X:=by
 obtain ⟨e,vs1,h1,⟨L2,kn,hC,hX,rfl,rfl⟩,hP⟩:=Pz.loop (P:=P42) (G:=G42) (A:=A42) (f:=18) (h0:=hA v0 c0 L0 H) (p:=[0,1,2,2]) (l:=[0,1,2,7]) (l1:=[7]) (by kernel_rfl)
  (fun m vs h=>∃ L l kn,vs = v2t a l kn/\StM L H h/\m = l.toNat/\L.length<=L0.length/\0<=l/\l<=1000000000/\l<=cnN L a/\-1<=kn/\(0<l->kn+L.length<=10000)/\kn<=20000/\(∀ c,c ∈ L->1<=c.l/\c.l<=1000000000)/\∀ L2 k2,CutTo a L l kn L2 k2->CutTo a L0 l0 (-1) L2 k2)
  (fun e vs h=>∃ L2 kn,CutTo a L0 l0 (-1) L2 kn/\StM L2 H h/\e = .exit 0/\vs = [.int .i64 kn])
  (fun m vs h hI=>by
   obtain ⟨L,l,kn,rfl,hX,rfl,hLl,hl,hl9,hcn,hk0,hk1,hk2,hLv,hto⟩:=hI
   by_cases c:0<l
   ·have hk1:=hk1 c
    cases hb:lst L a L.length with
    | none =>
     have sp:=lst_spec L a L.length
     rw [hb] at sp
     have:=cn_out (cs:=L) (x:=a) fun d hd=>by
      obtain ⟨j,hj,rfl⟩:=List.getElem_of_mem hd
      have:=sp j hj
      simpa [List.getD_eq_getElem?_getD,List.getElem?_eq_getElem hj] using this
     omega
    | some b =>
     have hbl:=lst_lt L a _ b hb
     have hbm:=hLv _ (mem_getD hbl cn0)
     obtain ⟨X',hX'⟩:=roundT (h0:=hA v0 c0 L0 H) (kn:=kn) rfl (by omega) hb ⟨c,hl9⟩ ⟨hk0,by omega⟩ hLv hX
     have go:∀ vs' h',P18 (hA v0 c0 L0 H) BLt [0,1,2,7] (v2t a l kn) h .normal [0,1,2,7] vs' h'->P18 (hA v0 c0 L0 H) (0 :: [0,1,2,2]) [0,1,2,7] (v2t a l kn) h .normal [0,1,2,7] vs' h':=fun vs' h' p =>
      Pz.seq (by kernel_rfl) (p18 rfl ((t2 a l kn h).trans (bift (decide_eq_true c) rfl))) (Pz.blk (id:=1) (by kernel_rfl) rfl p)
     have hers:=List.length_eraseIdx_of_lt hbl
     by_cases c2:(L.getD b cn0).l<=l
     ·rw [if_pos c2] at hX'
      have e1:=cnN_erase L b hbl a
      have sp:=lst_spec L a L.length
      rw [hb] at sp
      rw [if_pos sp.2.1] at e1
      refine .inl ⟨(l - (L.getD b cn0).l).toNat,_,X',by omega,go _ _ hX'.2,L.eraseIdx b,_,_,rfl,hX'.1,rfl,by omega,by omega,by omega,by omega,by omega,fun _=>by omega,by omega,fun d hd=>hLv d (List.mem_of_mem_eraseIdx hd),fun L2 k2 h=>hto _ _ (.cut L l kn b L2 k2 c hb c2 h)⟩
     ·rw [if_neg c2] at hX'
      refine .inl ⟨(0:Int).toNat,_,X',by omega,go _ _ hX'.2,L.set b ⟨(L.getD b cn0).a,(L.getD b cn0).l - l⟩,0,_,rfl,hX'.1,rfl,by rw [List.length_set]; omega,Int.le_refl _,by omega,?_,by omega,fun h=>absurd h (by omega),by omega,fun d hd=>?_,fun L2 k2 h=>?_⟩
      ·have:=cnN_bd (L.set b ⟨(L.getD b cn0).a,(L.getD b cn0).l - l⟩) (fun d hd=>by
        rcases List.mem_or_eq_of_mem_set hd with q | q
        ·have:=hLv d q; omega
        ·subst q; exact ⟨by show 0<=(L.getD b cn0).l - l; omega,by show (L.getD b cn0).l - l<=_; omega⟩) a
       omega
      ·rcases List.mem_or_eq_of_mem_set hd with q | q
       ·exact hLv d q
       ·subst q; exact ⟨by show 1<=(L.getD b cn0).l - l; omega,by show (L.getD b cn0).l - l<=_; omega⟩
      ·obtain ⟨rfl,rfl⟩:=h.zero (by omega)
       exact hto _ _ (.part L l kn b c hb (by omega))
   ·refine .inr ⟨.exit 0,[.int .i64 kn],h,(by simp),Pz.seqX (by kernel_rfl) (by simp) (Pz.run hm42 none_ok (m:=0) (by kernel_rfl) loops0 ?_),L,kn,hto _ _ (.done L l kn c),hX,rfl,rfl⟩
    exact (t2x a l kn h).trans (biff (by rw [decide_eq_true_eq]; exact c) rfl))
  (n:=l0.toNat) (vs:=v2t a l0 (-1)) (h:=hA v0 c0 L0 H) ⟨L0,l0,-1,rfl,.inl ⟨v0,c0,hc0,rfl⟩,rfl,Nat.le_refl _,by omega,hl0.2,hs,Int.le_refl _,fun _=>by omega,by omega,hL,fun _ _ h=>h⟩
 refine ⟨L2,kn,h1,hC,hX,?_⟩
 exact Pz.toldRef hn42 Try.func18 (by kernel_rfl) (by kernel_rfl) rfl (Pz.seq (by kernel_rfl) (p18 rfl (t0 a l0 _)) (Pz.seq (by kernel_rfl) (p18 rfl (t1 a l0 _)) (Pz.seq (by kernel_rfl) (Pz.blk (id:=0) (by kernel_rfl) rfl hP) (Pz.run hm42 none_ok (m:=0) (by kernel_rfl) loops0 (t15 kn h1))))) (by kernel_rfl)
open Go.Proofs
structure GoodH (H:Nat->Nat->Int):Prop where
 nn:∀ o a,0<=H o a
 out:∀ o a,¬ (1<=o/\o<=5/\1<=a/\a<=4)->H o a = 0
theorem rowH_kS (H:Nat->Nat->Int) (hg:GoodH H) (o:Nat) (x y:Int):∀ k,kS (rowH H o k) x y = if x = o/\1<=y/\y<=k then H o y.toNat else 0
 | 0=>by
  rw [if_neg (by omega)]
  rfl
 | k+1=>by
  have ih:=rowH_kS H hg o x y k
  simp only [rowH,kS_app,ih]
  by_cases c:x = o/\y = (k+1:Nat)
  ·obtain ⟨rfl,rfl⟩:=c
   have e2:(if ((o:Nat):Int) = o/\1<=((k+1:Nat):Int)/\((k+1:Nat):Int)<=((k+1:Nat):Int) then H o ((k+1:Nat):Int).toNat else 0) = H o (k+1):=if_pos ⟨rfl,by omega,Int.le_refl _⟩
   rw [e2,if_neg (by omega)]
   by_cases c2:0<H o (k+1)
   ·rw [if_pos c2]
    simp [kS]
   ·rw [if_neg c2]
    have:=hg.nn o (k+1)
    simp only [kS]
    omega
  ·have e:kS (if 0<H o (k+1) then [(⟨o,(k+1:Nat),H o (k+1)⟩:Hld)] else []) x y = 0:=by
    split
    ·simp only [kS]
     rw [if_neg fun h=>c ⟨h.1.symm,h.2.symm⟩]
     rfl
    ·rfl
   rw [e]
   by_cases c2:x = o/\1<=y/\y<=(k:Int)
   ·rw [if_pos c2,if_pos (by omega)]; omega
   ·rw [if_neg c2,if_neg (by omega)]; rfl
theorem hsU_kS (H:Nat->Nat->Int) (hg:GoodH H) (x y:Int):∀ o,kS (hsU H o) x y = if 1<=x/\x<=o/\1<=y/\y<=4 then H x.toNat y.toNat else 0
 | 0=>by
  rw [if_neg (by omega)]
  rfl
 | o+1=>by
  have ih:=hsU_kS H hg x y o
  simp only [hsU,kS_app,ih,rowH_kS H hg]
  by_cases c:x = (o+1:Nat)
  ·subst c
   rw [if_neg (by omega)]
   by_cases c2:1<=y/\y<=4
   ·rw [if_pos ⟨rfl,c2.1,by omega⟩,if_pos (by omega)]
    show 0+H (o+1) y.toNat = H (o+1) y.toNat
    omega
   ·rw [if_neg (by omega),if_neg (by omega)]; rfl
  ·rw [if_neg (c:=x = ((o+1:Nat):Int)/\1<=y/\y<=((4:Nat):Int)) (by omega)]
   by_cases c2:1<=x/\x<=(o:Int)/\1<=y/\y<=4
   ·rw [if_pos c2,if_pos (by omega)]; omega
   ·rw [if_neg c2,if_neg (by omega)]; rfl
def hF (H:Nat->Nat->Int) (x y:Int):Int:=if 1<=x/\x<=5/\1<=y/\y<=4 then H x.toNat y.toNat else 0
theorem hsL_kS {H:Nat->Nat->Int} (hg:GoodH H) (x y:Int):kS (hsL H) x y = hF H x y:=hsU_kS H hg x y 5
theorem rowH_hd (H:Nat->Nat->Int) (hg:GoodH H) (o:Nat) (y:Int):∀ k,hdN (rowH H o k) y = if 1<=y/\y<=k then H o y.toNat else 0
 | 0=>by
  rw [if_neg (by omega)]
  rfl
 | k+1=>by
  have ih:=rowH_hd H hg o y k
  simp only [rowH,hdN_app,ih]
  by_cases c:y = (k+1:Nat)
  ·subst c
   have e2:(if 1<=((k+1:Nat):Int)/\((k+1:Nat):Int)<=((k+1:Nat):Int) then H o ((k+1:Nat):Int).toNat else 0) = H o (k+1):=if_pos ⟨by omega,Int.le_refl _⟩
   rw [e2,if_neg (by omega)]
   by_cases c2:0<H o (k+1)
   ·rw [if_pos c2]
    simp [hdN]
   ·rw [if_neg c2]
    have:=hg.nn o (k+1)
    simp only [hdN]
    omega
  ·have e:hdN (if 0<H o (k+1) then [(⟨o,(k+1:Nat),H o (k+1)⟩:Hld)] else []) y = 0:=by
    split
    ·simp only [hdN]
     rw [if_neg fun h=>c h.symm]
     rfl
    ·rfl
   rw [e]
   by_cases c2:1<=y/\y<=(k:Int)
   ·rw [if_pos c2,if_pos (by omega)]; omega
   ·rw [if_neg c2,if_neg (by omega)]; rfl
theorem hsL_hd {H:Nat->Nat->Int} (hg:GoodH H) (y:Int):hdN (hsL H) y = if 1<=y/\y<=4 then hSum H y.toNat else 0:=by
 unfold hsL
 simp only [hsU,hdN_app,rowH_hd H hg]
 by_cases c:1<=y/\y<=4
 ·rw [if_pos c,if_pos ⟨c.1,c.2⟩,if_pos ⟨c.1,c.2⟩,if_pos ⟨c.1,c.2⟩,if_pos ⟨c.1,c.2⟩,if_pos ⟨c.1,c.2⟩]
  unfold hSum
  simp [hdN]
 ·rw [if_neg c,if_neg fun h=>c ⟨h.1,h.2⟩,if_neg fun h=>c ⟨h.1,h.2⟩,if_neg fun h=>c ⟨h.1,h.2⟩,if_neg fun h=>c ⟨h.1,h.2⟩,if_neg fun h=>c ⟨h.1,h.2⟩]
  rfl
theorem rowH_mem {H:Nat->Nat->Int} {o:Nat} {c:Hld}:∀ {k},c ∈ rowH H o k->c.o = o/\∃ a:Nat,1<=a/\a<=k/\c.a = a/\0<H o a/\c.l = H o a
 | 0,h=>by cases h
 | k+1,h=>by
  simp only [rowH] at h
  rcases List.mem_append.1 h with q | q
  ·obtain ⟨h1,a,h2,h3,h4⟩:=rowH_mem q
   exact ⟨h1,a,h2,by omega,h4⟩
  ·split at q
   ·next c2 =>
    simp at q
    subst q
    exact ⟨rfl,k+1,by omega,Nat.le_refl _,rfl,c2,rfl⟩
   ·cases q
theorem hsU_mem {H:Nat->Nat->Int} {c:Hld}:∀ {n},c ∈ hsU H n->∃ o a:Nat,1<=o/\o<=n/\1<=a/\a<=4/\c.o = o/\c.a = a/\0<H o a/\c.l = H o a
 | 0,h=>by cases h
 | n+1,h=>by
  simp only [hsU] at h
  rcases List.mem_append.1 h with q | q
  ·obtain ⟨o,a,h1,h2,h3⟩:=hsU_mem q
   exact ⟨o,a,h1,by omega,h3⟩
  ·obtain ⟨h1,a,h2,h3,h4,h5⟩:=rowH_mem q
   exact ⟨n+1,a,by omega,Nat.le_refl _,h2,h3,h1,h4,h5⟩
theorem rowH_asc (H:Nat->Nat->Int) (o:Nat):∀ k,ascP (rowH H o k)
 | 0=>.nil
 | k+1=>by
  simp only [rowH]
  refine List.pairwise_append.2 ⟨rowH_asc H o k,by split <;> simp,fun x hx y hy=>?_⟩
  obtain ⟨h1,a,h2,h3,h4,_⟩:=rowH_mem hx
  split at hy
  ·simp at hy
   subst hy
   rw [cmpH_lt]
   exact .inr ⟨h1,by rw [h4]; show (a:Int)<((k+1:Nat):Int); omega⟩
  ·cases hy
theorem hsU_asc (H:Nat->Nat->Int):∀ n,ascP (hsU H n)
 | 0=>.nil
 | n+1=>by
  refine List.pairwise_append.2 ⟨hsU_asc H n,rowH_asc H (n+1) 4,fun x hx y hy=>?_⟩
  obtain ⟨o,a,h1,h2,h3,h4,h5,_⟩:=hsU_mem hx
  obtain ⟨h6,_⟩:=rowH_mem hy
  rw [cmpH_lt]
  exact .inl (by omega)
theorem hsL_asc (H:Nat->Nat->Int):ascP (hsL H):=hsU_asc H 5
theorem hsL_len (H:Nat->Nat->Int):(hsL H).length<=20:=hsU_len H 5
theorem hsL_pos {H:Nat->Nat->Int}:∀ c,c ∈ hsL H->1<=c.l:=fun c hc=>by
 obtain ⟨o,a,_,_,_,_,_,_,h1,h2⟩:=hsU_mem hc
 omega
theorem hsL_of {H:Nat->Nat->Int} (hg:GoodH H) {L:List Hld} (hL:ascP L) (pL:∀ c,c ∈ L->1<=c.l) (h:∀ x y,kS L x y = hF H x y):L = hsL H :=
 asc_unique hL (hsL_asc H) pL hsL_pos fun x y=>by rw [h,hsL_kS hg]
def updH (H:Nat->Nat->Int) (o a:Nat) (v:Int):Nat->Nat->Int:=fun i j=>bif i==o&&j==a then v else H i j
def zerH (H:Nat->Nat->Int) (o:Nat):Nat->Nat->Int:=fun i j=>bif i==o then 0 else H i j
theorem updH_eq (H:Nat->Nat->Int) (o a:Nat) (v:Int) (i j:Nat):updH H o a v i j = if i = o/\j = a then v else H i j:=by
 unfold updH
 by_cases c:i = o/\j = a
 ·rw [if_pos c,c.1,c.2]; simp
 ·rw [if_neg c]
  have:(i==o&&j==a) = false:=by
   rw [← Bool.not_eq_true]
   simpa using fun h1 h2=>c ⟨h1,h2⟩
  rw [this]; rfl
theorem zerH_eq (H:Nat->Nat->Int) (o i j:Nat):zerH H o i j = if i = o then 0 else H i j:=by
 unfold zerH
 by_cases c:i = o
 ·rw [if_pos c,c]; simp
 ·rw [if_neg c,show (i==o) = false by simp [c]]; rfl
theorem GoodH.upd {H:Nat->Nat->Int} (h:GoodH H) {o a:Nat} {v:Int} (ho:1<=o/\o<=5) (ha:1<=a/\a<=4) (hv:0<=v):GoodH (updH H o a v):=by
 refine ⟨fun i j=>?_,fun i j hij=>?_⟩
 ·rw [updH_eq]
  split
  ·exact hv
  ·exact h.nn i j
 ·rw [updH_eq,if_neg (by omega)]
  exact h.out i j hij
theorem GoodH.zer {H:Nat->Nat->Int} (h:GoodH H) (o:Nat):GoodH (zerH H o):=by
 refine ⟨fun i j=>?_,fun i j hij=>?_⟩
 ·rw [zerH_eq]
  split
  ·exact Int.le_refl _
  ·exact h.nn i j
 ·rw [zerH_eq]
  split
  ·rfl
  ·exact h.out i j hij
theorem hF_upd (H:Nat->Nat->Int) (o a:Nat) (v:Int) (ho:1<=o/\o<=5) (ha:1<=a/\a<=4) (x y:Int):hF (updH H o a v) x y = if x = o/\y = a then v else hF H x y:=by
 unfold hF
 by_cases c:1<=x/\x<=5/\1<=y/\y<=4
 ·rw [if_pos c,if_pos c,updH_eq]
  by_cases c2:x = o/\y = a
  ·rw [if_pos c2,if_pos (by omega)]
  ·rw [if_neg c2,if_neg (by omega)]
 ·rw [if_neg c,if_neg c,if_neg (by omega)]
theorem hF_zer (H:Nat->Nat->Int) (o:Nat) (x y:Int):hF (zerH H o) x y = if x = o then 0 else hF H x y:=by
 unfold hF
 by_cases c:1<=x/\x<=5/\1<=y/\y<=4
 ·rw [if_pos c,if_pos c,zerH_eq]
  by_cases c2:x = o
  ·rw [if_pos c2,if_pos (by omega)]
  ·rw [if_neg c2,if_neg (by omega)]
 ·rw [if_neg c,if_neg c]
  split <;> rfl
theorem hSum_upd (H:Nat->Nat->Int) (o a:Nat) (v:Int) (ho:1<=o/\o<=5) (y:Nat):hSum (updH H o a v) y = hSum H y+if y = a then v - H o a else 0:=by
 unfold hSum
 simp only [updH_eq]
 by_cases c:y = a
 ·subst c
  rw [if_pos rfl]
  have:o = 1 ∨ o = 2 ∨ o = 3 ∨ o = 4 ∨ o = 5:=by omega
  rcases this with rfl | rfl | rfl | rfl | rfl <;> simp <;> omega
 ·rw [if_neg c]
  simp only [c,and_false,if_false]
  omega
theorem kS_erase:∀ (L:List Hld) (b:Nat),b<L.length->∀ x y,kS L x y = (if (L.getD b hd0).o = x/\(L.getD b hd0).a = y then (L.getD b hd0).l else 0)+kS (L.eraseIdx b) x y
 | [],b,h,x,y=>absurd h (Nat.not_lt_zero _)
 | c :: L,0,h,x,y=>rfl
 | c :: L,b+1,h,x,y=>by
  have ih:=kS_erase L b (by simpa using h) x y
  have e:(c :: L).getD (b+1) hd0 = L.getD b hd0:=rfl
  rw [e]
  simp only [List.eraseIdx_cons_succ,kS]
  omega
theorem kS_set:∀ (L:List Hld) (b:Nat),b<L.length->∀ (z:Hld) (x y:Int),kS (L.set b z) x y = (if z.o = x/\z.a = y then z.l else 0)+kS (L.eraseIdx b) x y
 | [],b,h,z,x,y=>absurd h (Nat.not_lt_zero _)
 | c :: L,0,h,z,x,y=>rfl
 | c :: L,b+1,h,z,x,y=>by
  have ih:=kS_set L b (by simpa using h) z x y
  simp only [List.set_cons_succ,List.eraseIdx_cons_succ,kS]
  omega
theorem asc_set {L:List Hld} (h:ascP L) (b:Nat) (z:Int) (hb:b<L.length):ascP (L.set b ⟨(L.getD b hd0).o,(L.getD b hd0).a,z⟩):=by
 unfold ascP at h ⊢
 rw [List.pairwise_iff_getElem] at h ⊢
 intro i j hi hj hij
 rw [List.length_set] at hi hj
 have:=h i j hi hj hij
 rw [cmpH_lt] at this ⊢
 have key:∀ k (hk:k<(L.set b ⟨(L.getD b hd0).o,(L.getD b hd0).a,z⟩).length) (hk2:k<L.length),((L.set b ⟨(L.getD b hd0).o,(L.getD b hd0).a,z⟩)[k]).o = L[k].o/\((L.set b ⟨(L.getD b hd0).o,(L.getD b hd0).a,z⟩)[k]).a = L[k].a:=fun k hk hk2=>by
  rw [List.getElem_set]
  split
  ·next e =>
   subst e
   simp [List.getD_eq_getElem?_getD,List.getElem?_eq_getElem hk2]
  ·exact ⟨rfl,rfl⟩
 rw [(key i _ hi).1,(key i _ hi).2,(key j _ hj).1,(key j _ hj).2]
 exact this
open Go.Proofs
theorem hSum_nn {H:Nat->Nat->Int} (hg:GoodH H) (o a:Nat):0<=hSum H a/\H o a<=hSum H a:=by
 have h1:=hg.nn 1 a
 have h2:=hg.nn 2 a
 have h3:=hg.nn 3 a
 have h4:=hg.nn 4 a
 have h5:=hg.nn 5 a
 unfold hSum
 refine ⟨by omega,?_⟩
 by_cases c:1<=o/\o<=5
 ·have:o = 1 ∨ o = 2 ∨ o = 3 ∨ o = 4 ∨ o = 5:=by omega
  rcases this with rfl | rfl | rfl | rfl | rfl <;> omega
 ·rw [hg.out o a (by omega)]; omega
theorem mkValid {M:List Cne} {H:Nat->Nat->Int} (hM:M.length<=100) (hb:∀ c,c ∈ M->1<=c.a/\c.a<=4/\1<=c.l/\c.l<=256) (hg:GoodH H) (hs:∀ a:Nat,1<=a->a<=4->hSum H a<=cnN M a):Valid M (hsL H):=by
 have hcb:∀ x,0<=cnN M x/\cnN M x<=25600:=fun x=>by
  have h1:=cnN_le M 256 (fun c hc=>by have:=hb c hc; omega) (by decide) x
  have h2:=cnN_bd M (fun c hc=>by have:=hb c hc; omega) x
  omega
 refine ⟨by omega,by have:=hsL_len H; omega,fun c hc=>?_,fun c hc=>?_,hsL_asc H,fun x=>?_⟩
 ·have:=hb c hc
  exact cvB_iff.2 ⟨by omega,by omega,by omega,by omega⟩
 ·obtain ⟨o,a,h1,h2,h3,h4,h5,h6,h7,h8⟩:=hsU_mem hc
  have:=(hSum_nn hg o a).2
  have:=hs a h3 h4
  have:=hcb a
  exact hvB_iff.2 ⟨by omega,by omega,by omega,by omega,by omega,by omega⟩
 ·unfold frF
  rw [hsL_hd hg]
  have:=hcb x
  split
  ·next c =>
   have:=hs x.toNat (by omega) (by omega)
   rw [show ((x.toNat:Nat):Int) = x by omega] at this
   omega
  ·omega
structure AInv (M:List Cne) (H:Nat->Nat->Int) (i:Nat) (ad us:Int):Prop where
 ml:M.length<=i
 mb:∀ c,c ∈ M->1<=c.a/\c.a<=4/\1<=c.l/\c.l<=256
 hg:GoodH H
 hs:∀ a:Nat,1<=a->a<=4->hSum H a<=cnN M a
 sum:cnN M 1+cnN M 2+cnN M 3+cnN M 4+us = ad
 us0:0<=us/\ad<=256 * i
 i40:i<=40
section
variable {M:List Cne} {H:Nat->Nat->Int} {i:Nat} {ad us:Int}
theorem AInv.v (h:AInv M H i ad us):Valid M (hsL H):=mkValid (by have:=h.ml; have:=h.i40; omega) h.mb h.hg h.hs
theorem AInv.cn (h:AInv M H i ad us) (x:Int):0<=cnN M x/\cnN M x<=10240:=by
 have h1:=cnN_le M 256 (fun c hc=>by have:=h.mb c hc; omega) (by decide) x
 have h2:=cnN_bd M (fun c hc=>by have:=h.mb c hc; omega) x
 have:=h.ml
 have:=h.i40
 omega
theorem AInv.hb (h:AInv M H i ad us) (o a:Nat):0<=H o a/\H o a<=10240:=by
 refine ⟨h.hg.nn o a,?_⟩
 by_cases c:1<=o/\o<=5/\1<=a/\a<=4
 ·have h1:=h.hs a (by omega) (by omega)
  have h2:=(hSum_nn h.hg o a).2
  have:=h.cn a
  omega
 ·rw [h.hg.out o a c]; decide
theorem AInv.fr (h:AInv M H i ad us) (a:Nat) (h1:1<=a) (h4:a<=4):frF M (hsL H) a = cnN M a - hSum H a:=by
 unfold frF
 rw [hsL_hd h.hg,if_pos (by omega)]
 rfl
theorem AInv.up (h:AInv M H i ad us) (hi:i<40):AInv M H (i+1) ad us:=⟨by have:=h.ml; omega,h.mb,h.hg,h.hs,h.sum,by have:=h.us0; omega,by omega⟩
theorem AInv.nil:AInv [] (fun _ _=>0) 0 0 0:=⟨Nat.le_refl _,fun c hc=>(by cases hc),⟨fun _ _=>Int.le_refl _,fun _ _ _=>rfl⟩,fun a _ _=>Int.le_refl _,rfl,⟨Int.le_refl _,Int.le_refl _⟩,by decide⟩
theorem AInv.add (h:AInv M H i ad us) (hi:i<40) {x:Cne} (hx:1<=x.a/\x.a<=4/\1<=x.l/\x.l<=256):addO M (hsL H) x = (M ++ [x],hsL H,0)/\AInv (M ++ [x]) H (i+1) (ad+x.l) us:=by
 have hml:=h.ml
 constructor
 ·unfold addO
  rw [if_neg (by rw [ckE_iff.2 h.v]; simp),if_neg (by rw [cvB_iff.2 ⟨by omega,by omega,by omega,by omega⟩]; simp),if_neg (by omega)]
 ·refine ⟨by simp; omega,fun c hc=>?_,h.hg,fun a h1 h4=>?_,?_,by have:=h.us0; omega,by omega⟩
  ·rcases List.mem_append.1 hc with q | q
   ·exact h.mb c q
   ·simp at q; subst q; exact hx
  ·have:=h.hs a h1 h4
   rw [cnN_app]
   simp only [cnN]
   split <;> omega
  ·have:=h.sum
   simp only [cnN_app,cnN]
   have:x.a = 1 ∨ x.a = 2 ∨ x.a = 3 ∨ x.a = 4:=by omega
   rcases this with q | q | q | q <;> rw [q] <;> simp <;> omega
theorem AInv.rel (h:AInv M H i ad us) (hi:i<40) {o:Nat} (ho:1<=o/\o<=5):((∀ a,H o a = 0)->relO M (hsL H) o = ([],[],7)/\zerH H o = H)/\(¬ (∀ a,H o a = 0)->relO M (hsL H) o = (M,hsL (zerH H o),0))/\AInv M (zerH H o) (i+1) ad us:=by
 have ef:fltTo o (hsL H) (hsL H).length = hsL (zerH H o):=by
  rw [flt_all]
  refine hsL_of (h.hg.zer o) ((hsL_asc H).sublist (List.filter_sublist ..)) (fun c hc=>hsL_pos c (List.mem_filter.1 hc).1) fun x y=>?_
  rw [kS_filter,hsL_kS h.hg,hF_zer]
 refine ⟨fun q=>?_,fun q=>?_,⟨by have:=h.ml; omega,h.mb,h.hg.zer o,fun a h1 h4=>?_,h.sum,by have:=h.us0; omega,by omega⟩⟩
 ·have e:zerH H o = H:=by
   funext x y
   rw [zerH_eq]
   split
   ·next c=>subst c; exact (q y).symm
   ·rfl
  refine ⟨?_,e⟩
  unfold relO
  rw [if_neg (by rw [ckE_iff.2 h.v]; simp),ef,e,if_pos rfl]
 ·unfold relO
  rw [if_neg (by rw [ckE_iff.2 h.v]; simp),ef,if_neg]
  intro e
  have hfl:=flt_all o (hsL H)
  rw [ef] at hfl
  obtain ⟨a,ha⟩:∃ a,H o a ≠ 0:=Classical.byContradiction fun hh=>q fun a=>Classical.byContradiction fun h3=>hh ⟨a,h3⟩
  have har:1<=a/\a<=4:=Classical.byContradiction fun hh=>ha (h.hg.out o a (by omega))
  have hk:kS (hsL H) o a ≠ 0:=by
   rw [hsL_kS h.hg]
   unfold hF
   rw [if_pos (by omega)]
   exact ha
  obtain ⟨c,hc,e1,e2⟩:=kS_has hk
  have hlt:((hsL H).filter fun c:Hld=>decide (c.o ≠ (o:Int))).length<(hsL H).length:=by
   rw [List.length_filter_lt_length_iff_exists]
   exact ⟨c,hc,by simp [e1]⟩
  rw [← hfl] at hlt
  omega
 ·have:=h.hs a h1 h4
  have e:hSum (zerH H o) a<=hSum H a:=by
   have n1:=h.hg.nn 1 a
   have n2:=h.hg.nn 2 a
   have n3:=h.hg.nn 3 a
   have n4:=h.hg.nn 4 a
   have n5:=h.hg.nn 5 a
   unfold hSum
   simp only [zerH_eq]
   repeat' split
   all_goals omega
  omega
def addH (H:Nat->Nat->Int):List Hld->Nat->Nat->Int
 | []=>H
 | c :: r=>addH (updH H c.o.toNat c.a.toNat (H c.o.toNat c.a.toNat+c.l)) r
theorem addH_is:∀ (l:List Hld) (H:Nat->Nat->Int),GoodH H->(∀ c,c ∈ l->1<=c.o/\c.o<=5/\1<=c.a/\c.a<=4/\1<=c.l)->GoodH (addH H l)/\(∀ x y,hF (addH H l) x y = hF H x y+kS l x y)/\∀ a:Nat,hSum (addH H l) a = hSum H a+hdN l a
 | [],H,hg,_=>⟨hg,fun x y=>by simp [addH,kS],fun a=>by simp [addH,hdN]⟩
 | c :: r,H,hg,hl=>by
  have hc:=hl c (by simp)
  have g1:=hg.upd (o:=c.o.toNat) (a:=c.a.toNat) (v:=H c.o.toNat c.a.toNat+c.l) (by omega) (by omega) (by have:=hg.nn c.o.toNat c.a.toNat; omega)
  obtain ⟨q1,q2,q3⟩:=addH_is r _ g1 fun d hd=>hl d (by simp [hd])
  refine ⟨q1,fun x y=>?_,fun a=>?_⟩
  ·show hF (addH _ r) x y = _
   rw [q2,hF_upd _ _ _ _ (by omega) (by omega)]
   simp only [kS]
   by_cases e:x = c.o/\y = c.a
   ·rw [if_pos (show x = ((c.o.toNat:Nat):Int)/\y = ((c.a.toNat:Nat):Int) by omega),if_pos ⟨e.1.symm,e.2.symm⟩]
    unfold hF
    rw [if_pos (by omega),e.1,e.2]
    omega
   ·rw [if_neg (show ¬ (x = ((c.o.toNat:Nat):Int)/\y = ((c.a.toNat:Nat):Int)) by omega),if_neg fun h=>e ⟨h.1.symm,h.2.symm⟩]
    omega
  ·show hSum (addH _ r) a = _
   rw [q3,hSum_upd _ _ _ _ (by omega)]
   simp only [hdN]
   by_cases e:(a:Int) = c.a
   ·rw [if_pos (show a = c.a.toNat by omega),if_pos e.symm]; omega
   ·rw [if_neg (show ¬ a = c.a.toNat by omega),if_neg fun h=>e h.symm]; omega
theorem AInv.res (h:AInv M H i ad us) (hi:i<40) {l:List Hld} (hl:∀ c,c ∈ l->1<=c.o/\c.o<=5/\1<=c.a/\c.a<=4/\1<=c.l/\c.l<=256) (hn:l.length<=2) :
 ((∃ a:Nat,1<=a/\a<=4/\cnN M a - hSum H a<hdN l a)/\rsv M (hsL H) l = ([],[],18)) ∨ ((∀ a:Nat,1<=a->a<=4->hdN l a<=cnN M a - hSum H a)/\rsv M (hsL H) l = (M,hsL (addH H l),0)/\AInv M (addH H l) (i+1) ad us):=by
 have hv:∀ c,c ∈ l->hvB c = true:=fun c hc=>by
  have:=hl c hc
  exact hvB_iff.2 ⟨by omega,by omega,by omega,by omega,by omega,by omega⟩
 obtain ⟨g1,g2,g3⟩:=addH_is l H h.hg fun c hc=>by have:=hl c hc; omega
 have hout:∀ x:Int,¬ (1<=x/\x<=4)->hdN l x = 0:=fun x hx=>hd_out fun c hc e=>hx (by have:=hl c hc; omega)
 rcases rsv_is h.v hv (by omega) with ⟨⟨x,hx⟩,e⟩ | ⟨hx,e⟩
 ·refine .inl ⟨?_,e⟩
  by_cases c:1<=x/\x<=4
  ·refine ⟨x.toNat,by omega,by omega,?_⟩
   have:=h.fr x.toNat (by omega) (by omega)
   rw [show ((x.toNat:Nat):Int) = x by omega] at this ⊢
   omega
  ·have:=hout x c
   have:=h.v.fr x
   omega
 ·refine .inr ⟨fun a h1 h4=>by rw [← h.fr a h1 h4]; exact hx a,?_⟩
  have hs':∀ a:Nat,1<=a->a<=4->hSum (addH H l) a<=cnN M a:=fun a h1 h4=>by
   have:=hx a
   rw [h.fr a h1 h4] at this
   rw [g3]
   omega
  have hI:AInv M (addH H l) (i+1) ad us:=⟨by have:=h.ml; omega,h.mb,g1,hs',h.sum,by have:=h.us0; omega,by omega⟩
  have em:mgL (hsL H) l = hsL (addH H l):=mgL_eq (fun c hc=>by have:=hvB_iff.1 (h.v.hv c hc); omega) (fun c hc=>by have:=hl c hc; omega) (by have:=hsL_len H; omega) (by omega) (hsL_asc _) hsL_pos fun x y=>by rw [hsL_kS g1,hsL_kS h.hg,g2]
  rw [em] at e
  rw [if_neg,if_neg (by have:=hsL_len (addH H l); omega)] at e
  ·exact ⟨e,hI⟩
  ·rw [bigOk_iff.2 fun c hc=>by have:=hvB_iff.1 (hI.v.hv c hc); omega]; simp
theorem needL4 {f:Int->Int} (h:∀ x,¬ (1<=x/\x<=4)->0<=f x):needL f = (([1,2,3,4]:List Int).filter fun x=>decide (f x<0)).map fun x=>⟨x,0 - f x⟩:=by
 unfold needL
 have e:(List.range 1001).map Int.ofNat = [0] ++ ([1,2,3,4] ++ (List.range 996).map fun k=>((5+k:Nat):Int)):=by
  rw [show (1001:Nat) = 5+996 from rfl,List.range_add,List.map_append,List.map_map]
  generalize List.range 996 = R
  rfl
 rw [e,List.filter_append,List.filter_append]
 have e1:([0]:List Int).filter (fun x=>decide (f x<0)) = []:=by
  rw [List.filter_eq_nil_iff]
  intro x hx
  simp at hx
  subst hx
  have:=h 0 (by decide)
  simp
  omega
 have e2:((List.range 996).map fun k=>((5+k:Nat):Int)).filter (fun x=>decide (f x<0)) = []:=by
  rw [List.filter_eq_nil_iff]
  intro x hx
  obtain ⟨k,_,rfl⟩:=List.mem_map.1 hx
  have:=h ((5+k:Nat):Int) (by omega)
  simp only [decide_eq_true_eq]
  omega
 rw [e1,e2,List.nil_append,List.append_nil]
theorem AInv.need (h:AInv M H i ad us) {l:List Hld} (hl:∀ c,c ∈ l->1<=c.o/\c.o<=5/\1<=c.a/\c.a<=4/\1<=c.l/\c.l<=256) (hn:l.length<=2):lOk l = true/\needO M (hsL H) l = (([1,2,3,4]:List Int).filter fun x=>decide (misF M (hsL H) l x<0)).map fun x=>⟨x,0 - misF M (hsL H) l x⟩:=by
 have hv:∀ c,c ∈ l->hvB c = true:=fun c hc=>by
  have:=hl c hc
  exact hvB_iff.2 ⟨by omega,by omega,by omega,by omega,by omega,by omega⟩
 refine ⟨lOk_iff.2 hv,?_⟩
 rw [needO_is h.v hv (by omega),needL4 fun x hx=>?_]
 unfold misF
 rw [hd_out (cs:=l) fun c hc e=>hx (by have:=hl c hc; omega)]
 have:=h.v.fr x
 omega
theorem AInv.mis (h:AInv M H i ad us) (l:List Hld) (a:Nat) (h1:1<=a) (h4:a<=4):misF M (hsL H) l a = cnN M a - hSum H a - hdN l a:=by
 unfold misF
 rw [h.fr a h1 h4]
end
open Go.Proofs
section
variable {M:List Cne} {H:Nat->Nat->Int} {i:Nat} {ad us:Int}
theorem mem_hsL {H:Nat->Nat->Int} (hg:GoodH H) {o a:Nat} (h:0<H o a):∃ j,j<(hsL H).length/\(hsL H).getD j hd0 = ⟨o,a,H o a⟩:=by
 have hr:1<=o/\o<=5/\1<=a/\a<=4:=Classical.byContradiction fun q=>by rw [hg.out o a q] at h; omega
 have hk:kS (hsL H) o a = H o a:=by
  rw [hsL_kS hg]
  unfold hF
  rw [if_pos (by omega)]
  rfl
 obtain ⟨c,hc,e1,e2⟩:=kS_has (L:=hsL H) (o:=o) (a:=a) (by omega)
 have e3:=kS_mem (hsL_asc H) c hc
 rw [e1,e2,hk] at e3
 obtain ⟨j,hj,rfl⟩:=List.getElem_of_mem hc
 refine ⟨j,hj,?_⟩
 rw [List.getD_eq_getElem?_getD,List.getElem?_eq_getElem hj]
 generalize (hsL H)[j] = c at *
 cases c
 simp only [Option.getD_some,Hld.mk.injEq] at *
 exact ⟨e1,e2,e3.symm⟩
theorem AInv.cut (h:AInv M H i ad us) (hi:i<40) {o a:Nat} {n:Int} (ho:1<=o/\o<=5) (ha:1<=a/\a<=4) (hn:1<=n) (hle:n<=H o a) {M2:List Cne} {kn:Int} (hC:CutTo a M n (-1) M2 kn):AInv M2 (updH H o a (H o a - n)) (i+1) ad (us+n):=by
 have hm:=cut_mem hC fun c hc=>(h.mb c hc).2.2.1
 have hfit:n<=cnN M a:=by
  have:=h.hs a ha.1 ha.2
  have:=(hSum_nn h.hg o a).2
  omega
 have hsum:=cut_sum hC (by omega) hfit
 refine ⟨by have:=h.ml; have:=hm.1; omega,fun c hc=>?_,h.hg.upd ho ha (by omega),fun b h1 h4=>?_,?_,by have:=h.us0; omega,by omega⟩
 ·obtain ⟨d,hd,e1,e2,e3⟩:=hm.2 c hc
  have:=h.mb d hd
  omega
 ·have h1':=h.hs b h1 h4
  have h2:=hsum b
  rw [hSum_upd _ _ _ _ ho]
  by_cases c:b = a
  ·subst c
   rw [if_pos rfl] at h2 ⊢
   omega
  ·rw [if_neg c]
   rw [if_neg (by omega)] at h2
   omega
 ·have s1:=hsum 1
  have s2:=hsum 2
  have s3:=hsum 3
  have s4:=hsum 4
  have:=h.sum
  have:a = 1 ∨ a = 2 ∨ a = 3 ∨ a = 4:=by omega
  rcases this with rfl | rfl | rfl | rfl <;> simp at s1 s2 s3 s4 <;> omega
theorem AInv.use (h:AInv M H i ad us) (hi:i<40) {o a:Nat} {n:Int} (ho:1<=o/\o<=5) (ha:1<=a/\a<=4) (hn:1<=n/\n<=256) {cs2:List Cne} {hs2:List Hld} {kn e:Int} (hU:UseTo M (hsL H) o a n cs2 hs2 kn e) :
 (H o a = 0/\cs2 = []/\hs2 = []/\e = 7) ∨ (H o a ≠ 0/\H o a<n/\cs2 = []/\hs2 = []/\e = 18) ∨ (n<=H o a/\CutTo a M n (-1) cs2 kn/\hs2 = hsL (updH H o a (H o a - n))/\e = 0):=by
 have hnn:=h.hg.nn o a
 rcases hU with ⟨q,_⟩ | ⟨_,q,_⟩ | ⟨_,_,j,hA,hU⟩
 ·exact absurd (ckE_iff.2 h.v) q
 ·rw [hvB_iff.2 ⟨by dsimp only; omega,by dsimp only; omega,by dsimp only; omega,by dsimp only; omega,by dsimp only; omega,by dsimp only; omega⟩] at q
  cases q
 ·
  have find:0<H o a->j<(hsL H).length/\(hsL H).getD j hd0 = ⟨o,a,H o a⟩:=fun hp=>by
   obtain ⟨k,hk,ek⟩:=mem_hsL h.hg hp
   have:k = j:=by
    rcases Nat.lt_trichotomy k j with q | q | q
    ·have:=hA.lo k q
     rw [ek,cmpH_lt] at this
     dsimp only at this
     omega
    ·exact q
    ·have h1:=asc_iff.1 (hsL_asc H) j k q hk
     have h2:=hA.hi j (Nat.le_refl _) (by omega)
     rw [ek,cmpH_lt] at h1
     rw [cmpH_lt] at h2
     exact absurd h1 h2
   subst this
   exact ⟨hk,ek⟩
  rcases hU with ⟨q,h1,h2,_,h4⟩ | ⟨q1,q2,hU⟩
  ·refine .inl ⟨?_,h1,h2,h4⟩
   refine Classical.byContradiction fun hh=>?_
   obtain ⟨f1,f2⟩:=find (by omega)
   exact q ⟨f1,by rw [f2,cmpH_0]; exact ⟨rfl,rfl⟩⟩
  ·rw [cmpH_0] at q2
   have hc:(hsL H).getD j hd0 ∈ hsL H:=mem_getD q1 hd0
   obtain ⟨o',a',r1,r2,r3,r4,r5,r6,r7,r8⟩:=hsU_mem hc
   dsimp only at q2
   obtain rfl:o' = o:=by omega
   obtain rfl:a' = a:=by omega
   have eg:(hsL H).getD j hd0 = ⟨o',a',H o' a'⟩:=(find r7).2
   rw [eg] at hU
   dsimp only at hU
   rcases hU with ⟨q3,h1,h2,_,h4⟩ | ⟨q3,hC,h2,h4⟩
   ·exact .inr (.inl ⟨by omega,q3,h1,h2,h4⟩)
   ·refine .inr (.inr ⟨q3,hC,?_,h4⟩)
    have hg':=h.hg.upd (o:=o') (a:=a') (v:=H o' a' - n) ho ha (by omega)
    have eH:hF H o' a' = H o' a':=by
     unfold hF
     rw [if_pos (by omega)]
     rfl
    rw [h2]
    by_cases c:H o' a' = n
    ·rw [if_pos c]
     refine hsL_of hg' ((hsL_asc H).sublist (List.eraseIdx_sublist ..)) (fun c hc=>hsL_pos c (List.mem_of_mem_eraseIdx hc)) fun x y=>?_
     have e1:=kS_erase (hsL H) j q1 x y
     rw [eg,hsL_kS h.hg] at e1
     dsimp only at e1
     rw [hF_upd _ _ _ _ ho ha]
     by_cases c2:x = o'/\y = a'
     ·rw [if_pos c2]
      rw [if_pos ⟨c2.1.symm,c2.2.symm⟩,c2.1,c2.2,eH] at e1
      rw [c2.1,c2.2]
      omega
     ·rw [if_neg c2]
      rw [if_neg fun h=>c2 ⟨h.1.symm,h.2.symm⟩] at e1
      omega
    ·rw [if_neg c]
     have asc1:=asc_set (hsL_asc H) j (H o' a' - n) q1
     rw [eg] at asc1
     refine hsL_of hg' asc1 (fun c hc=>?_) fun x y=>?_
     ·rcases List.mem_or_eq_of_mem_set hc with q | q
      ·exact hsL_pos c q
      ·subst q; show 1<=H o' a' - n; omega
     ·have e1:=kS_erase (hsL H) j q1 x y
      rw [eg,hsL_kS h.hg] at e1
      dsimp only at e1
      rw [kS_set _ _ q1,hF_upd _ _ _ _ ho ha]
      dsimp only
      by_cases c2:x = o'/\y = a'
      ·rw [if_pos c2,if_pos ⟨c2.1.symm,c2.2.symm⟩]
       rw [if_pos ⟨c2.1.symm,c2.2.symm⟩,c2.1,c2.2,eH] at e1
       rw [c2.1,c2.2]
       omega
      ·rw [if_neg c2,if_neg fun h=>c2 ⟨h.1.symm,h.2.symm⟩]
       rw [if_neg fun h=>c2 ⟨h.1.symm,h.2.symm⟩] at e1
       omega
end
end Go.Ab

