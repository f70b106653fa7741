/- A part of the proof: nothing is assumed. -/
import Derived.Test.YteoamlekamflbaaP17
import Derived.Test.YteoamlekamflbaaP18
import Derived.Test.YteoamlekamflbaaP13
import Derived.Test.YteoamlekamflbaaP11
import Derived.Test.YteoamlekamflbaaP4
set_option linter.all false
namespace Go.Ab
open Go.Proofs
theorem ren_own {σ:List Nat} {h:Heap} {i ver n:Nat} {cap:Option Nat} {b:Blk} (hp:posOf σ i = none) (hc:σ.contains i = false) (hb:h[i]? = some b) (hm:b.mp = none) (hv:b.ver = ver) (hn:n<=b.n) (hf:b.flat = false):ren σ h (.own i ver 0 n cap) = .view b.sz n (fun j=>(b.get (0+j)).map (resolve 3 σ h)) cap:=by
 show (match posOf σ i with | some j=>T.own j ver 0 n cap | none=>resolve 4 σ h (.own i ver 0 n cap)) = _
 rw [hp]
 show (bif σ.contains i then T.undef else match h[i]? with
  | some b=>bif b.mp.isNone&&(b.ver==ver&&Nat.ble (0+n) b.n) then
   .view b.sz n (bif b.flat then fun j=>b.get (0+j) else fun j=>(b.get (0+j)).map (resolve 3 σ h)) cap
   else .undef
  | none=>.undef) = _
 rw [hc,hb]
 show (bif b.mp.isNone&&(b.ver==ver&&Nat.ble (0+n) b.n) then T.view b.sz n (bif b.flat then fun j=>b.get (0+j) else fun j=>(b.get (0+j)).map (resolve 3 σ h)) cap else .undef) = _
 rw [hm,hv,bleT (by omega),hf]
 simp
theorem rowX_snoc (a:List UInt8) (c:UInt8) (j:Nat) (hj:j<a.length+1):rowX (a ++ [c]) j = if j<a.length then rowX a j else IntKind.u8.wrap (Int.ofNat c.toNat - 48):=by
 unfold rowX digU
 rw [Nat.zero_add,List.length_append,List.length_cons,List.length_nil,if_pos (by omega)]
 unfold dig
 by_cases q:j<a.length
 ·rw [if_pos q,if_pos q]
  simp [List.getD_eq_getElem?_getD,List.getElem?_append_left q]
 ·obtain rfl:j = a.length:=by omega
  rw [if_neg q]
  simp [List.getD_eq_getElem?_getD]
theorem getD_cons (a:List UInt8) (D:List (List UInt8)) (j:Nat):(a :: D).getD (j+1) [] = D.getD j []:=by simp [List.getD_eq_getElem?_getD]
def rwv (D:List (List UInt8)):T:=pgV (RL D) (lL D) D.length (fun _=>none) none
def v6s (s:List UInt8) (x:T) (e:Int) (i:Nat):List T:=[.str s,x,.int .i64 e,rwv (scan s i).1,.own 0 (scan s i).2.length 0 (scan s i).2.length none,.int .i64 (i:Nat)]
def h6s (s:List UInt8) (i:Nat):Heap:=[ub (scan s i).2.length (scan s i).2.length (rowX (scan s i).2)]
theorem newrow (l n:Nat) (g:Nat->Int) (D:List (List UInt8)) (a:List UInt8) (hl:l = a.length) (hg:∀ j,j<l->g j = rowX a j) (hn:n = D.length) (j:Nat) (hj:j<1+n) :
 Sims (bif j.blt (1:Nat) then [[rowV g l none]].getD ((0:Nat)+j) [] else pcG (RL D) (lL D) (fun _=>none) (j - (1:Nat))) [rowV (RL (a :: D) j) (lL (a :: D) j) none]:=by
 cases j with
 | zero =>
  subst hl
  show Sims [.view 1 a.length (fun j=>[.int .u8 (g j)]) none] [.view 1 a.length (fun j=>[.int .u8 (rowX a j)]) none]
  exact .cons (.view (.inl rfl) fun j hj=>.cons (by rw [hg j hj]; exact .refl _) .nil) .nil
 | succ j =>
  rw [bltF (by omega),cond_false,Nat.add_sub_cancel]
  unfold pcG RL lL rwL
  rw [getD_cons]
  exact .refl _
theorem loop6 (s:List UInt8) (x:T) (e:Int) (hs:s.length<=1000) (hx:∀ σ h,ren σ h x = x) :
 Pz P18 G18 A18 6 [] [0,2,1,2,2,2,2,2,2,2,2,2,2] [1,11,12,13,14,15] (v6s s x e 0) (h6s s 0) (.exit 4) [1,11,12,13,14,15] (v6s s x e s.length) (h6s s s.length):=by
 refine Pz.count (by kernel_rfl) (v6s s x e) (h6s s) (n:=s.length) (by simp) (fun i hi=>?_) ?_
 ·have hi:i<s.length:=hi
  have q20:=(tz20 s x e (scan s i).1.length (scan s i).2.length (scan s i).2.length i (rowX (scan s i).2) (RL (scan s i).1) (lL (scan s i).1) (fun _=>none)).trans (bift (by simp; omega) rfl)
  have b1:(decide ((0:Int)<=Int.ofNat i)&&decide (Int.ofNat i<Int.ofNat s.length)) = true:=by simp; omega
  obtain ⟨d1,d2,d3⟩:=scan_le s i (by omega)
  have q22:=tz22 s x e (scan s i).1.length (scan s i).2.length (scan s i).2.length i (rowX (scan s i).2) (RL (scan s i).1) (lL (scan s i).1) (fun _=>none)
  have st:=scan_succ hi
  have last:∀ (vs2:List T) (h2:Heap),vs2 = [.str s,x,.int .i64 e,rwv (scan s (i+1)).1,.own 0 (scan s (i+1)).2.length 0 (scan s (i+1)).2.length none,.int .i64 (i:Nat)]->h2 = h6s s (i+1) →
   Pz P18 G18 A18 6 [] [2,2,0,0,2,1,2,2,2,2,2,2,2,2,2,2] [1,11,12,13,14,15] vs2 h2 .normal [1,11,12,13,14,15] (v6s s x e (i+1)) (h6s s (i+1)):=by
   rintro _ _ rfl rfl
   have q:=tz21 s x e (scan s (i+1)).1.length (scan s (i+1)).2.length (scan s (i+1)).2.length i (rowX (scan s (i+1)).2) (RL (scan s (i+1)).1) (lL (scan s (i+1)).1) (fun _=>none)
   rw [up1 (by omega)] at q
   exact Pz.run hm18 none_ok (m:=0) (by kernel_rfl) loops0 q
  refine Pz.seq (by kernel_rfl) (Pz.run hm18 none_ok (m:=0) (by kernel_rfl) loops0 q20) (Pz.seq (by kernel_rfl) (Pz.blk (id:=5) (e:=.normal) (by kernel_rfl) rfl ?_) (last _ _ rfl rfl))
  generalize hD:(scan s i).1 = D at *
  generalize ha:(scan s i).2 = a at *
  generalize hc:s.getD i 0 = c at *
  unfold h6s
  by_cases q:c = 10
  ·have st:scan s (i+1) = (a :: D,[]):=by rw [st]; unfold stp; rw [if_pos q,← hD,← ha]
   rw [st]
   have q22:=q22.trans (bift b1 (bift (by rw [q]; rfl) rfl))
   have n1:ren [] [ub a.length a.length (rowX a)] (.own 0 a.length 0 a.length none) = .view 1 a.length (fun j=>[.int .u8 (rowX a (0+j))]) none:=by
    show (bif a.length==a.length&&Nat.ble (0+a.length) a.length then T.view 1 a.length (fun j=>[.int .u8 (rowX a (0+j))]) none else .undef) = _
    rw [bleT (by omega)]
    simp
   have q23:=tz23 s x e D.length a.length i (fun j=>rowX a (0+j)) (RL D) (lL D) (fun _=>none)
   refine Pz.seq (by kernel_rfl) (Pz.post (v2:=[.str s,x,.int .i64 e,pgV (RL D) (lL D) D.length (fun _=>none) none,.view 1 a.length (fun j=>[.int .u8 (rowX a (0+j))]) none,.int .i64 (i:Nat),.bool true]) (h2:=[]) (Pz.run hm18 none_ok (m:=0) (by kernel_rfl) loops0 q22) fun nt=>?_) ?_
   ·refine .trans (.canon [] rfl) ?_
    show WeakTo _ _ nt _ _ [_,ren [] _ x,_,_,ren [] [ub a.length a.length (rowX a)] (.own 0 a.length 0 a.length none),_,_] [] _ _
    rw [hx,n1]
    exact .refl _ _
   ·cases hDn:D.length with
    | zero =>
     have hD0:D = []:=List.length_eq_zero_iff.1 hDn
     subst hD0
     have q23:=q23.trans (bift (by simp) rfl)
     refine Pz.post (Pz.run hm18 none_ok (m:=0) (by kernel_rfl) loops0 q23) fun nt=>?_
     refine .trans (.canon [1] rfl) ?_
     show WeakTo _ _ nt _ _ [_,ren [1] _ x,_,ren [1] _ (.own 0 0 0 1 (some 1)),.own 0 0 0 0 (some 0),_] [Blk.mk 0 1 0 _ true true none] _ _
     rw [hx,ren_own (b:=Blk.mk 0 1 1 (fun j=>[[rowV (fun j=>rowX a (0+j)) a.length none]].getD j []) false true none) rfl rfl rfl rfl rfl (Nat.le_refl _) rfl]
     refine .trans (.cap (.cons (.refl _) (.cons (.refl _) (.cons (.refl _) (.cons (.refl _) (.cons (.own rfl (Nat.le_refl _)) (.cons (.refl _) .nil))))))) ?_
     refine .slS (.cons (.refl _) (.cons (.refl _) (.cons (.refl _) (.cons (.view (.inr rfl) fun j hj=>?_) (.cons (.refl _) (.cons (.refl _) .nil)))))) (.cons ⟨rfl,rfl,rfl,id,fun j hj=>by cases hj⟩ .nil)
     have hj:j<1:=hj
     obtain rfl:j = 0:=by omega
     exact newrow a.length 0 (fun j=>rowX a (0+j)) [] a rfl (fun j _=>by rw [Nat.zero_add]) rfl 0 (by omega)
    | succ m =>
     have q23:=q23.trans (biff (by rw [hDn]; simp) (bift (bleT (by omega)) (biff (by rw [bleF (by omega)]; simp) rfl)))
     refine Pz.post (Pz.run hm18 none_ok (m:=0) (by kernel_rfl) loops0 (hDn ▸ q23)) fun nt=>?_
     refine .trans (.canon [2] rfl) ?_
     show WeakTo _ _ nt _ _ [_,ren [2] _ x,_,ren [2] _ (.own 1 0 0 (1+(m+1)) none),.own 0 0 0 0 (some 0),_] [Blk.mk 0 1 0 _ true true none] _ _
     rw [hx,ren_own (b:=Blk.mk 0 1 (1+(m+1)) (fun j=>bif j.blt (1:Nat) then [[rowV (fun j=>rowX a (0+j)) a.length none]].getD ((0:Nat)+j) [] else pcG (RL D) (lL D) (fun _=>none) (j - (1:Nat))) false false none) rfl rfl rfl rfl rfl (Nat.le_refl _) rfl]
     refine .trans (.cap (.cons (.refl _) (.cons (.refl _) (.cons (.refl _) (.cons (.refl _) (.cons (.own rfl (Nat.le_refl _)) (.cons (.refl _) .nil))))))) ?_
     have e1:rwv (a :: D) = pgV (RL (a :: D)) (lL (a :: D)) (1+(m+1)) (fun _=>none) none:=by
      unfold rwv
      rw [List.length_cons,hDn,Nat.add_comm]
     rw [show (a :: D,([]:List UInt8)).1 = a :: D from rfl,e1]
     refine .slS (.cons (.refl _) (.cons (.refl _) (.cons (.refl _) (.cons (.view (.inl rfl) fun j hj=>?_) (.cons (.refl _) (.cons (.refl _) .nil)))))) (.cons ⟨rfl,rfl,rfl,id,fun j hj=>by cases hj⟩ .nil)
     have hj:j<1+(m+1):=hj
     cases j with
     | zero=>exact newrow a.length D.length (fun j=>rowX a (0+j)) D a rfl (fun j _=>by rw [Nat.zero_add]) rfl 0 (by omega)
     | succ j =>
      have q:=newrow a.length D.length (fun j=>rowX a (0+j)) D a rfl (fun j _=>by rw [Nat.zero_add]) rfl (j+1) (by omega)
      rw [Nat.zero_add]
      show Sims (List.map (resolve 3 [2] _) (bif Nat.blt (j+1) 1 then [[rowV (fun j=>rowX a (0+j)) a.length none]].getD (0+(j+1)) [] else pcG (RL D) (lL D) (fun _=>none) (j+1 - 1))) _
      rw [bltF (by omega),cond_false] at q ⊢
      exact q
  ·have st:scan s (i+1) = (D,a ++ [c]):=by rw [st]; unfold stp; rw [if_neg q,← hD,← ha]
   rw [st]
   have q22:=q22.trans (bift b1 (biff (by
    have:c.toNat ≠ 10:=fun h=>q (UInt8.toNat_inj.1 h)
    simp; omega) rfl))
   have q25:=(tz25 s x e D.length a.length a.length i (rowX a) (RL D) (lL D) (fun _=>none)).trans (bift b1 (bift (by simp) (bift (bleT (by omega)) (bift (bleT (by omega)) (biff (by rw [bleF (by omega)]; simp) rfl)))))
   refine Pz.seq (by kernel_rfl) (Pz.run hm18 none_ok (m:=0) (by kernel_rfl) loops0 q22) (Pz.post (Pz.run hm18 none_ok (m:=0) (by kernel_rfl) loops0 q25) fun nt=>?_)
   refine .trans (.canon [0] rfl) ?_
   show WeakTo _ _ nt _ _ [_,ren [0] _ x,_,_,.own 0 (a.length+1) 0 (a.length+1) none,_] [Blk.mk (a.length+1) 1 (a.length+1) _ true false none] _ _
   rw [hx,List.length_append,List.length_cons,List.length_nil]
   refine .same (.cons ⟨rfl,rfl,rfl,id,fun j hj=>?_⟩ .nil)
   have hj:j<a.length+1:=hj
   show [T.int .u8 (rowX (a ++ [c]) j)] = bif j.blt a.length then [T.int .u8 (rowX a (0+j))] else [[T.int .u8 (IntKind.u8.wrap (Int.ofNat (s.getD i 0).toNat - 48))]].getD (0+(j - a.length)) []
   rw [rowX_snoc a c j hj,hc]
   by_cases q2:j<a.length
   ·rw [if_pos q2,bltT q2,cond_true,Nat.zero_add]
   ·obtain rfl:j = a.length:=by omega
    rw [if_neg q2,bltF (by omega),cond_false,Nat.sub_self]
    rfl
 ·have q20:=(tz20 s x e (scan s s.length).1.length (scan s s.length).2.length (scan s s.length).2.length s.length (rowX (scan s s.length).2) (RL (scan s s.length).1) (lL (scan s s.length).1) (fun _=>none)).trans (biff (by simp) rfl)
  exact Pz.seqX (by kernel_rfl) (by simp) (Pz.run hm18 none_ok (m:=0) (by kernel_rfl) loops0 q20)
open Go.Proofs
def yO (C:Nat->Nat->Sti) (i j:Nat):Int:=(C i j).y
def b22 (w:Nat->T) (h i n:Nat):Blk:=⟨0,1,h,fun e=>[bif e==i then .own 1 0 0 n (some n) else w e],false,false,none⟩
def c22 (y:Nat->Int) (n:Nat):Blk:=⟨0,1,n,fun e=>[.int .u8 (y e)],true,false,none⟩
def x22 (C:Nat->Nat->Sti) (ln:Nat->Nat) (h i:Nat):List T:=[.undef,.undef,.own 0 0 0 h (some h),chV C ln h,.int .i64 h,.int .i64 i]
def z22 (C:Nat->Nat->Sti) (ln:Nat->Nat) (h i:Nat):List T:=[.nils,.int .i64 7,.own 0 0 0 h (some h),chV C ln h,.int .i64 h,.int .i64 i]
def v22i (C:Nat->Nat->Sti) (ln:Nat->Nat) (h i k:Nat):List T:=[.own 0 0 0 h (some h),.int .i64 i,chV C ln h,.int .i64 h,.int .i64 i,srV (C i) (ln i) none,.int .i64 (ln i),.int .i64 k]
theorem q22 (C:Nat->Nat->Sti) (ln:Nat->Nat) (h k:Nat) (w:Nat->T) (y:Nat->Int):∀ i,i<31->iterR P18 G18 A18 noneO 0 22 [] 10 (v22i C ln h i k) [b22 w h i (ln i),c22 y (ln i)] =
 bif decide ((k:Int)<ln i) then bif decide ((0:Int)<=k)&&decide ((k:Int)<ln i) then bif !decide ((C i k).k = 1) then some (.ret,z22 C ln h i,[b22 w h i (ln i),c22 y (ln i)]) else bif decide ((i:Int)<h) then bif Nat.blt i h then bif decide ((0:Int)<=k)&&decide ((k:Int)<ln i) then bif Nat.blt (0+k) (ln i)&&true&&true&&true then
  some (.normal,v22i C ln h i k |>.set 7 (.int .i64 (IntKind.i64.wrap ((k:Int)+1))),[b22 w h i (ln i),c22 (up24 k (yO C i k) y) (ln i)])
  else none else none else none else none else none else some (.exit 2,x22 C ln h i,[b22 w h i (ln i),c22 y (ln i)]):=by
 intro i hi
 obtain rfl | rfl | rfl | rfl | rfl | rfl | rfl | rfl | rfl | rfl | rfl | rfl | rfl | rfl | rfl | rfl | rfl | rfl | rfl | rfl | rfl | rfl | rfl | rfl | rfl | rfl | rfl | rfl | rfl | rfl | rfl:i = 0 ∨ i = 1 ∨ i = 2 ∨ i = 3 ∨ i = 4 ∨ i = 5 ∨ i = 6 ∨ i = 7 ∨ i = 8 ∨ i = 9 ∨ i = 10 ∨ i = 11 ∨ i = 12 ∨ i = 13 ∨ i = 14 ∨ i = 15 ∨ i = 16 ∨ i = 17 ∨ i = 18 ∨ i = 19 ∨ i = 20 ∨ i = 21 ∨ i = 22 ∨ i = 23 ∨ i = 24 ∨ i = 25 ∨ i = 26 ∨ i = 27 ∨ i = 28 ∨ i = 29 ∨ i = 30:=by omega
 all_goals kernel_rfl
section
variable {R:Nat->Nat->Int} {n h:Nat}
end
open Go.Proofs
theorem pcE_ok {R:Nat->Nat->Int} {n h:Nat} (ok:PicOk R n h):pcE R (fun _=>n) h = 0:=by
 have hn:=ok.nm
 unfold nmax at hn
 have hn1:=ok.n1
 have hh:=ok.h1
 have hodd:=ok.odd
 unfold pcE
 have a1:allB (pA fun _=>n) h = true:=(allB_iff _ _).2 fun i hi=>dT hn
 have a2:allB (pB R fun _=>n) h = true:=(allB_iff _ _).2 fun i hi=>by
  have g1:=mnF_ge (R i) 1 (n - 1) fun j hj=>(ok.col i hi j (by omega)).1
  have g2:=mxF_le (R i) 6 (n - 1) fun j hj=>(ok.col i hi j (by omega)).2
  simp only [pB,Bool.not_eq_true',Bool.or_eq_false_iff,decide_eq_false_iff_not]
  omega
 have a3:allB (pC fun _=>n) h = true:=(allB_iff _ _).2 fun i hi=>dT rfl
 have a4:allB (pD R fun _=>n) h = true:=(allB_iff _ _).2 fun i hi=>dT (ok.two i hi)
 rw [dF (by omega),cond_false,a1,cond_true,dF (by omega),cond_false,a2,cond_true,a3,cond_true,a4,cond_true]
open Go.Proofs
def A18F:FuncId->Ann:=fun f=>match f with
 | 36=>⟨[],fun r o=>match r with | 4=>bif o then [4] else [0,3,4,5] | _=>[],false⟩
 | f=>A18 f
def bb36 (s:Nat->Bool):Blk:=⟨0,1,256,fun e=>[.bool (s e)],true,false,none⟩
def v36 (r:Nat->Int) (n:Nat) (c:Option Nat) (x:Int) (i:Nat):List T:=[rowV r n c,.ptr 0 0 0 0,.int .i64 x,.int .i64 i]
def sN (r:Nat->Int):Nat->Nat->Bool
 | 0=>fun _=>false
 | i+1=>fun e=>bif e==(r i).toNat then true else sN r i e
def cN (r:Nat->Int):Nat->Nat
 | 0=>0
 | i+1=>bif sN r i (r i).toNat then cN r i else cN r i+1
def v21 (R:Nat->Nat->Int) (ln:Nat->Nat) (h:Nat) (rc:Nat->Option Nat) (c:Option Nat) (i:Nat):List T:=[pgV R ln h rc c,.int .i64 i]
def v21i (R:Nat->Nat->Int) (ln:Nat->Nat) (h:Nat) (rc:Nat->Option Nat) (c:Option Nat) (i k:Nat):List T:=[pgV R ln h rc c,.int .i64 i,.int .i64 k]
def pK (R:Nat->Nat->Int) (i k:Nat):Bool:=!(decide (R i k = 0) || decide (6<R i k))
def pB2 (R:Nat->Nat->Int) (ln:Nat->Nat) (i:Nat):Bool:=!decide (ln i = 0)&&allB (pK R i) (ln i)
def pD2 (R:Nat->Nat->Int) (ln:Nat->Nat) (i:Nat):Bool:=decide (cN (R i) (ln i)<=2)
noncomputable def K21 (p:List T->T->Prop) (x:Nat):Orc:=noneO.add 36 (callF p fun _=>some (.int .i64 x))
noncomputable def l21b (x:List T->Heap->Ex->List T->Heap->Prop) (R:Nat->Nat->Int) (ln:Nat->Nat) (h:Nat) (rc:Nat->Option Nat) (c:Option Nat) (i:Nat):List (Nat × (List T->Heap->LT)) :=
 [(16,loopF x (.ite (allB (pK R i) (ln i)) (.ret (.exit 4) [pgV R ln h rc c,.undef,.int .i64 i] []) (.ret .ret [pgV R ln h rc c,.int .i64 1,.int .i64 i] [])))]
noncomputable def l21 (x y z t:List T->Heap->Ex->List T->Heap->Prop) (R:Nat->Nat->Int) (ln:Nat->Nat) (h:Nat) (rc:Nat->Option Nat) (c:Option Nat):List (Nat × (List T->Heap->LT)) :=
 [(4,loopF x (.ite (allB (pA ln) h) (.ret (.exit 0) [pgV R ln h rc c,.undef] []) (.ret .ret [pgV R ln h rc c,.int .i64 3] []))),
  (11,loopF y (.ite (allB (pB2 R ln) h) (.ret (.exit 2) [pgV R ln h rc c,.undef] []) (.ret .ret [pgV R ln h rc c,.int .i64 1] []))),
  (21,loopF z (.ite (allB (pC ln) h) (.ret (.exit 6) [pgV R ln h rc c,.undef] []) (.ret .ret [pgV R ln h rc c,.int .i64 5] []))),
  (26,loopF t (.ite (allB (pD2 R ln) h) (.ret (.exit 8) [.undef] []) (.ret .ret [.int .i64 14] [])))]
theorem i36 (r:Nat->Int) (n:Nat) (c:Option Nat) (x i:Nat) (s:Nat->Bool):iterR P18 G18 A18F noneO 0 36 [] 4 (v36 r n c x i) [bb36 s] =
(
 bif decide (Int.ofNat i<Int.ofNat n) then
 bif decide (0<=Int.ofNat i)&&decide (Int.ofNat i<Int.ofNat n) then
 bif decide (0<=r i)&&decide (r i<256) then
 bif ((0:Nat)+(r i).toNat).blt 256 then
 bif s ((0:Nat)+(r i).toNat) then
 some ((.normal,[rowV r n c,.ptr 0 0 0 0,.int .i64 (.ofNat x),.int .i64 (IntKind.i64.wrap (Int.ofNat i+1))],[bb36 s]))
 else
 bif decide (0<=Int.ofNat i)&&decide (Int.ofNat i<Int.ofNat n) then
 bif decide (0<=r i)&&decide (r i<256) then
 bif ((0:Nat)+(r i).toNat).blt 256&&true&&true&&true then
 some ((.normal,[rowV r n c,.ptr 0 0 0 0,.int .i64 (IntKind.i64.wrap (Int.ofNat x+1)),.int .i64 (IntKind.i64.wrap (Int.ofNat i+1))],[bb36 fun e =>
 bif e==(0:Nat)+(r i).toNat then true
 else s e]))
 else none else none else none else none else none else none else
 some ((.exit 0,[.int .i64 (.ofNat x)],[bb36 s]))):=by kernel_rfl
theorem coloursT (r:Nat->Int) (n:Nat) (c:Option Nat) (hn:n<=1000) (hr:∀ j,j<n->0<=r j/\r j<256):ToldOk P18 G18 36 [rowV r n c] (.int .i64 (cN r n)):=by
 have hl:LoopOk P18 G18 (A18F 36) 36 4 (litS (v36 r n c 0 0) [bb36 fun _=>false] (.exit 0) [.int .i64 (cN r n)] [bb36 (sN r n)]):=by
  refine loop_steps hm18 (by kernel_rfl) (fun i=>v36 r n c (cN r i) i) (fun i=>[bb36 (sN r i)]) (n:=n) (fun i hi=>?_) ?_
  ·have e1:cN r (i+1) = bif sN r i (r i).toNat then cN r i else cN r i+1:=rfl
   have e2:sN r (i+1) = fun e=>bif e==(r i).toNat then true else sN r i e:=rfl
   have hb:cN r i<=i:=by
    clear e1 e2
    induction i with
    | zero=>exact Nat.le_refl _
    | succ i ih =>
     have:=ih (by omega)
     show (bif sN r i (r i).toNat then cN r i else cN r i+1)<=i+1
     cases sN r i (r i).toNat
     ·show cN r i+1<=i+1; omega
     ·show cN r i<=i+1; omega
   rw [e1,e2]
   have h1:=hr i hi
   clear e1 e2 hr
   generalize cN r i = x at *
   generalize sN r i = s at *
   cases hs:s (r i).toNat
   ·refine Step.mk0 (A:=A18F) (m:=0) none_ok rfl rfl loops0 (h1:=[bb36 fun e=>bif e==(r i).toNat then true else s e]) ?_ (.refl _)
    rw [i36,up1 (by omega),up1 (by omega),Nat.zero_add,hs]
    (repeat (first | refine BS ?_ | refine BF ?_))
    rfl
   ·refine Step.mk0 (A:=A18F) (m:=0) none_ok rfl rfl loops0 (h1:=[bb36 s]) ?_ (.cons ⟨rfl,rfl,rfl,id,fun j hj=>?_⟩ .nil)
    ·rw [i36,up1 (by omega),up1 (by omega),Nat.zero_add,hs]
     (repeat (first | refine BS ?_ | refine BF ?_))
     rfl
    ·show [T.bool (bif j==(r i).toNat then true else s j)] = [T.bool (s j)]
     by_cases q:j = (r i).toNat
     ·rw [q,hs]; simp
     ·rw [show (j==(r i).toNat) = false by simpa using q]; rfl
  ·refine Last.mk0 (A:=A18F) (m:=0) none_ok rfl rfl loops0 (h1:=[bb36 (sN r n)]) (by simp) ?_ (.refl _)
   rw [i36]
   (repeat (first | refine BS ?_ | refine BF ?_))
   rfl
 generalize cN r n = x at *
 generalize sN r n = s at *
 refine stepL_told hm18 hn18 none_ok (A:=A18F) (m:=0) (by kernel_rfl) (loops1 hl) ?_
 rw [(show stepL P18 G18 A18F noneO 0 36 [(4,litS (v36 r n c 0 0) [bb36 fun _=>false] (.exit 0) [.int .i64 x] [bb36 s])] [rowV r n c] =
(
 bif weakF (v36 r n c (0:Int) (nat_lit 0)) [bb36 fun e=>false] (v36 r n c (0:Int) (nat_lit 0)) [bb36 fun e=>false] then
 some (.int .i64 (.ofNat x))
 else
 none) from by kernel_rfl)]
 (repeat (first | refine BS ?_ | refine BF ?_))
 rfl
theorem sN_iff (r:Nat->Int):∀ n e,sN r n e = true ↔ ∃ j,j<n/\(r j).toNat = e
 | 0,e=>⟨fun h=>(by cases h),fun ⟨j,h,_⟩=>by omega⟩
 | n+1,e=>by
  have ih:=sN_iff r n e
  show (bif e==(r n).toNat then true else sN r n e) = true ↔ _
  by_cases q:e = (r n).toNat
  ·rw [show (e==(r n).toNat) = true by simpa using q]
   exact ⟨fun _=>⟨n,by omega,q.symm⟩,fun _=>rfl⟩
  ·rw [show (e==(r n).toNat) = false by simpa using q,cond_false,ih]
   constructor
   ·rintro ⟨j,h1,h2⟩; exact ⟨j,by omega,h2⟩
   ·rintro ⟨j,h1,h2⟩
    refine ⟨j,?_,h2⟩
    by_cases e:j = n
    ·subst e; exact absurd h2.symm q
    ·omega
theorem filter_or (p:Int->Bool) (a:Int):∀ l:List Int,l.Pairwise (·<·)->(l.filter fun v=>p v || decide (a = v)).length = (l.filter p).length+(if a ∈ l/\p a = false then 1 else 0)
 | [],_=>rfl
 | v :: l,h=>by
  rw [List.pairwise_cons] at h
  have ih:=filter_or p a l h.2
  rw [List.filter_cons,List.filter_cons]
  by_cases q:a = v
  ·subst q
   have hn:¬ a ∈ l:=fun hm=>by have:=h.1 a hm; omega
   rw [if_neg (by simp [hn])] at ih
   cases hp:p a
   ·simp [ih]
   ·simp [hp,ih]
  ·have e1:decide (a = v) = false:=by simpa using q
   have e2:(a ∈ v :: l) = (a ∈ l):=by simp [q]
   simp only [e1,Bool.or_false,e2]
   cases p v
   ·simpa using ih
   ·rw [if_pos rfl,if_pos rfl,List.length_cons,List.length_cons,ih]; omega
theorem cN_kK (r:Nat->Int):∀ n,(∀ j,j<n->0<=r j/\r j<256)->cN r n = kK r n
 | 0,_=>by
  show 0 = kK r 0
  unfold kK kindL
  rw [List.length_eq_zero_iff.2 (List.filter_eq_nil_iff.2 fun a _=>by simp)]
 | n+1,h=>by
  have ih:=cN_kK r n fun j hj=>h j (by omega)
  have hn:=h n (by omega)
  show (bif sN r n (r n).toNat then cN r n else cN r n+1) = kK r (n+1)
  unfold kK kindL at *
  rw [ih]
  have e:(fun v=>(List.range (n+1)).any fun j=>decide (r j = v)) = fun v=>((List.range n).any fun j=>decide (r j = v)) || decide (r n = v):=by
   funext v
   rw [List.range_succ,List.any_append]
   simp
  rw [e,filter_or _ _ _ (by rw [List.pairwise_map]; exact List.pairwise_lt_range.imp (fun {a b} h=>by show (a:Int)<(b:Int); omega))]
  have hm:r n ∈ (List.range 256).map Int.ofNat:=by
   rw [List.mem_map]
   exact ⟨(r n).toNat,List.mem_range.2 (by omega),by show (((r n).toNat:Nat):Int) = r n; omega⟩
  have hs:sN r n (r n).toNat = (List.range n).any fun j=>decide (r j = r n):=by
   rw [Bool.eq_iff_iff,sN_iff,List.any_eq_true]
   constructor
   ·rintro ⟨j,h1,h2⟩
    have:=h j (by omega)
    exact ⟨j,List.mem_range.2 h1,by rw [decide_eq_true_eq]; omega⟩
   ·rintro ⟨j,h1,h2⟩
    rw [decide_eq_true_eq] at h2
    exact ⟨j,List.mem_range.1 h1,by rw [h2]⟩
  rw [hs]
  cases (List.range n).any fun j=>decide (r j = r n)
  ·rw [if_pos ⟨hm,rfl⟩]; rfl
  ·rw [if_neg (by simp)]; rfl
open Go.Proofs
section
variable (R:Nat->Nat->Int) (ln:Nat->Nat) (h:Nat) (rc:Nat->Option Nat) (c:Option Nat)
theorem i21a (i:Nat):iterR P18 G18 A18 noneO 0 21 [] 4 (v21 R ln h rc c i) [] =
(
 bif decide (Int.ofNat i<Int.ofNat h) then
 bif decide (0<=Int.ofNat i)&&decide (Int.ofNat i<Int.ofNat h) then
 bif decide (16<Int.ofNat (ln i)) then
 some ((.ret,v21 R ln h rc c (nat_lit 3),[]))
 else
 some ((.normal,[pgV R ln h rc c,.int .i64 (IntKind.i64.wrap (Int.ofNat i+1))],[]))
 else none else
 some ((.exit 0,[pgV R ln h rc c,.undef],[]))):=by kernel_rfl
theorem i21i (i k:Nat):iterR P18 G18 A18 noneO 0 21 [] 16 (v21i R ln h rc c i k) [] =
(
 bif decide (0<=Int.ofNat i)&&decide (Int.ofNat i<Int.ofNat h) then
 bif decide (Int.ofNat k<Int.ofNat (ln i)) then
 bif decide (0<=Int.ofNat i)&&decide (Int.ofNat i<Int.ofNat h) then
 bif decide (0<=Int.ofNat k)&&decide (Int.ofNat k<Int.ofNat (ln i)) then
 bif decide (R i k = 0) then
 some ((.ret,v21i R ln h rc c (nat_lit 1) i,[]))
 else
 bif decide (0<=Int.ofNat i)&&decide (Int.ofNat i<Int.ofNat h) then
 bif decide (0<=Int.ofNat k)&&decide (Int.ofNat k<Int.ofNat (ln i)) then
 bif decide ((6:Int)<R i k) then
 some ((.ret,v21i R ln h rc c (nat_lit 1) i,[]))
 else
 some ((.normal,[pgV R ln h rc c,.int .i64 (.ofNat i),.int .i64 (IntKind.i64.wrap (Int.ofNat k+1))],[]))
 else none else none else none else none else
 some ((.exit 4,[pgV R ln h rc c,.undef,.int .i64 (.ofNat i)],[]))
 else
 none):=by kernel_rfl
theorem i21b (i:Nat) (x:List T->Heap->Ex->List T->Heap->Prop):iterR P18 G18 A18 noneO 0 21 (l21b x R ln h rc c i) 11 (v21 R ln h rc c i) [] =
(
 bif decide (Int.ofNat i<Int.ofNat h) then
 bif decide (0<=Int.ofNat i)&&decide (Int.ofNat i<Int.ofNat h) then
 bif decide (Int.ofNat (ln i) = 0) then
 some ((.ret,v21 R ln h rc c (nat_lit 1),[]))
 else
 bif allB (pK R i) (ln i) then
 bif decF (x [.view 1 h (fun i=>[.view 1 (ln i) (fun j=>[.int .u8 (R i j)]) (rc i)]) c,.int .i64 (.ofNat i),.int .i64 0] [] (.exit 4) [.view 1 h (fun i=>[.view 1 (ln i) (fun j=>[.int .u8 (R i j)]) (rc i)]) c,.undef,.int .i64 (.ofNat i)] []) then
 some ((.normal,[pgV R ln h rc c,.int .i64 (IntKind.i64.wrap (Int.ofNat i+1))],[]))
 else none else
 bif decF (x [.view 1 h (fun i=>[.view 1 (ln i) (fun j=>[.int .u8 (R i j)]) (rc i)]) c,.int .i64 (.ofNat i),.int .i64 0] [] .ret [.view 1 h (fun i=>[.view 1 (ln i) (fun j=>[.int .u8 (R i j)]) (rc i)]) c,.int .i64 1,.int .i64 (.ofNat i)] []) then
 some ((.ret,v21 R ln h rc c (nat_lit 1),[]))
 else none else none else
 some ((.exit 2,[pgV R ln h rc c,.undef],[]))):=by kernel_rfl
theorem i21c (i:Nat):iterR P18 G18 A18 noneO 0 21 [] 21 (v21 R ln h rc c i) [] =
(
 bif decide (Int.ofNat i<Int.ofNat h) then
 bif decide (0<=Int.ofNat i)&&decide (Int.ofNat i<Int.ofNat h) then
 bif decide (0<Int.ofNat h) then
 bif !decide (Int.ofNat (ln i) = Int.ofNat (ln (0:Nat))) then
 some ((.ret,v21 R ln h rc c (nat_lit 5),[]))
 else
 some ((.normal,[pgV R ln h rc c,.int .i64 (IntKind.i64.wrap (Int.ofNat i+1))],[]))
 else none else none else
 some ((.exit 6,[pgV R ln h rc c,.undef],[]))):=by kernel_rfl
theorem i21d (i x:Nat) (p:List T->T->Prop):iterR P18 G18 A18 (K21 p x) 0 21 [] 26 (v21 R ln h rc c i) [] =
(
 bif decide (Int.ofNat i<Int.ofNat h) then
 bif decide (0<=Int.ofNat i)&&decide (Int.ofNat i<Int.ofNat h) then
 bif decF (p [.view 1 (ln i) (fun j=>[.int .u8 (R i j)]) (rc i)] (.int .i64 (.ofNat x))) then
 bif decide (2<Int.ofNat x) then
 some ((.ret,[.int .i64 14],[]))
 else
 some ((.normal,[pgV R ln h rc c,.int .i64 (IntKind.i64.wrap (Int.ofNat i+1))],[]))
 else none else none else
 some ((.exit 8,[.undef],[]))):=by kernel_rfl
theorem k21 (x y z t:List T->Heap->Ex->List T->Heap->Prop):stepL P18 G18 A18 noneO 0 21 (l21 x y z t R ln h rc c) [pgV R ln h rc c] =
(
 bif decide (31<Int.ofNat h) then
 some (.int .i64 3)
 else
 bif allB (pA ln) h then
 bif decF (x [.view 1 h (fun i=>[.view 1 (ln i) (fun j=>[.int .u8 (R i j)]) (rc i)]) c,.int .i64 0] [] (.exit 0) [.view 1 h (fun i=>[.view 1 (ln i) (fun j=>[.int .u8 (R i j)]) (rc i)]) c,.undef] []) then
 bif decide ((Int.ofNat h).tmod 2 = 0) then
 some (.int .i64 1)
 else
 bif allB (pB2 R ln) h then
 bif decF (y [.view 1 h (fun i=>[.view 1 (ln i) (fun j=>[.int .u8 (R i j)]) (rc i)]) c,.int .i64 0] [] (.exit 2) [.view 1 h (fun i=>[.view 1 (ln i) (fun j=>[.int .u8 (R i j)]) (rc i)]) c,.undef] []) then
 bif allB (pC ln) h then
 bif decF (z [.view 1 h (fun i=>[.view 1 (ln i) (fun j=>[.int .u8 (R i j)]) (rc i)]) c,.int .i64 0] [] (.exit 6) [.view 1 h (fun i=>[.view 1 (ln i) (fun j=>[.int .u8 (R i j)]) (rc i)]) c,.undef] []) then
 bif allB (pD2 R ln) h then
 bif decF (t [.view 1 h (fun i=>[.view 1 (ln i) (fun j=>[.int .u8 (R i j)]) (rc i)]) c,.int .i64 0] [] (.exit 8) [.undef] []) then
 some (.int .i64 0)
 else none else
 bif decF (t [.view 1 h (fun i=>[.view 1 (ln i) (fun j=>[.int .u8 (R i j)]) (rc i)]) c,.int .i64 0] [] .ret [.int .i64 14] []) then
 some (.int .i64 14)
 else none else none else
 bif decF (z [.view 1 h (fun i=>[.view 1 (ln i) (fun j=>[.int .u8 (R i j)]) (rc i)]) c,.int .i64 0] [] .ret [.view 1 h (fun i=>[.view 1 (ln i) (fun j=>[.int .u8 (R i j)]) (rc i)]) c,.int .i64 5] []) then
 some (.int .i64 5)
 else none else none else
 bif decF (y [.view 1 h (fun i=>[.view 1 (ln i) (fun j=>[.int .u8 (R i j)]) (rc i)]) c,.int .i64 0] [] .ret [.view 1 h (fun i=>[.view 1 (ln i) (fun j=>[.int .u8 (R i j)]) (rc i)]) c,.int .i64 1] []) then
 some (.int .i64 1)
 else none else none else
 bif decF (x [.view 1 h (fun i=>[.view 1 (ln i) (fun j=>[.int .u8 (R i j)]) (rc i)]) c,.int .i64 0] [] .ret [.view 1 h (fun i=>[.view 1 (ln i) (fun j=>[.int .u8 (R i j)]) (rc i)]) c,.int .i64 3] []) then
 some (.int .i64 3)
 else
 none):=by kernel_rfl
end
section
variable {R:Nat->Nat->Int} {ln:Nat->Nat} {h:Nat} {rc:Nat->Option Nat} {c:Option Nat}
theorem ref21a (hh:h<=1000):(allB (pA ln) h = true->LoopOk P18 G18 (A18 21) 21 4 (litS (v21 R ln h rc c 0) [] (.exit 0) [pgV R ln h rc c,.undef] []))/\(allB (pA ln) h = false->LoopOk P18 G18 (A18 21) 21 4 (litS (v21 R ln h rc c 0) [] .ret [pgV R ln h rc c,.int .i64 3] [])):=by
 refine loop_scan hm18 (by kernel_rfl) (fun i=>v21 R ln h rc c i) (fun _=>[]) (pA ln) (n:=h) (fun i hi _ hg=>?_) (fun i hi _ hg=>?_) (fun _=>?_)
 ·have hg:ln i<=16:=of_decide_eq_true hg
  refine Step.mk0 (A:=A18) (m:=0) none_ok rfl rfl loops0 (h1:=[]) ?_ .nil
  rw [i21a,up1 (by omega)]
  (repeat (first | refine BS ?_ | refine BF ?_))
  rfl
 ·have hg:¬ ln i<=16:=of_decide_eq_false hg
  refine Last.mk0 (A:=A18) (m:=0) none_ok rfl rfl loops0 (h1:=[]) (by simp) ?_ .nil
  rw [i21a]
  (repeat (first | refine BS ?_ | refine BF ?_))
  rfl
 ·refine Last.mk0 (A:=A18) (m:=0) none_ok rfl rfl loops0 (h1:=[]) (by simp) ?_ .nil
  rw [i21a]
  (repeat (first | refine BS ?_ | refine BF ?_))
  rfl
theorem ref21i {i:Nat} (hi:i<h) (hh:h<=1000) (hln:ln i<=1000):(allB (pK R i) (ln i) = true->LoopOk P18 G18 (A18 21) 21 16 (litS (v21i R ln h rc c i 0) [] (.exit 4) [pgV R ln h rc c,.undef,.int .i64 i] []))/\(allB (pK R i) (ln i) = false->LoopOk P18 G18 (A18 21) 21 16 (litS (v21i R ln h rc c i 0) [] .ret [pgV R ln h rc c,.int .i64 1,.int .i64 i] [])):=by
 refine loop_scan hm18 (by kernel_rfl) (fun k=>v21i R ln h rc c i k) (fun _=>[]) (pK R i) (n:=ln i) (fun k hk _ hg=>?_) (fun k hk _ hg=>?_) (fun _=>?_)
 ·simp only [pK,Bool.not_eq_true',Bool.or_eq_false_iff,decide_eq_false_iff_not] at hg
  refine Step.mk0 (A:=A18) (m:=0) none_ok rfl rfl loops0 (h1:=[]) ?_ .nil
  rw [i21i,up1 (by omega)]
  (repeat (first | refine BS ?_ | refine BF ?_))
  rfl
 ·refine Last.mk0 (A:=A18) (m:=0) none_ok rfl rfl loops0 (h1:=[]) (by simp) ?_ .nil
  rw [i21i]
  by_cases q:R i k = 0
  ·(repeat (first | refine BS ?_ | refine BF ?_))
   rfl
  ·have q2:6<R i k:=by
    simp only [pK,Bool.not_eq_false',Bool.or_eq_true,decide_eq_true_eq] at hg
    omega
   (repeat (first | refine BS ?_ | refine BF ?_))
   rfl
 ·refine Last.mk0 (A:=A18) (m:=0) none_ok rfl rfl loops0 (h1:=[]) (by simp) ?_ .nil
  rw [i21i]
  (repeat (first | refine BS ?_ | refine BF ?_))
  rfl
theorem ref21b (hh:h<=1000) (hln:∀ i,i<h->ln i<=1000):(allB (pB2 R ln) h = true->LoopOk P18 G18 (A18 21) 21 11 (litS (v21 R ln h rc c 0) [] (.exit 2) [pgV R ln h rc c,.undef] []))/\(allB (pB2 R ln) h = false->LoopOk P18 G18 (A18 21) 21 11 (litS (v21 R ln h rc c 0) [] .ret [pgV R ln h rc c,.int .i64 1] [])):=by
 obtain ⟨x,hx⟩:=is_loop P18 G18 (A18 21) 21 16
 refine loop_scan hm18 (by kernel_rfl) (fun i=>v21 R ln h rc c i) (fun _=>[]) (pB2 R ln) (n:=h) (fun i hi _ hg=>?_) (fun i hi _ hg=>?_) (fun _=>?_)
 ·simp only [pB2,Bool.and_eq_true,Bool.not_eq_true',decide_eq_false_iff_not] at hg
  obtain ⟨g1,g2⟩:=hg
  have hl:=(ref21i (R:=R) (rc:=rc) (c:=c) hi hh (hln i hi)).1 g2
  clear hln
  refine Step.mk0 (A:=A18) (m:=0) none_ok rfl rfl (l:=l21b x R ln h rc c i) (loops1 (loopF_ok hx _)) (h1:=[]) ?_ .nil
  rw [i21b,up1 (by omega)]
  (repeat (first | refine BS ?_ | refine BF ?_))
  rfl
 ·have hl:=(ref21i (R:=R) (rc:=rc) (c:=c) hi hh (hln i hi)).2
  clear hln
  refine Last.mk0 (A:=A18) (m:=0) none_ok rfl rfl (l:=l21b x R ln h rc c i) (loops1 (loopF_ok hx _)) (h1:=[]) (by simp) ?_ .nil
  rw [i21b]
  by_cases q:ln i = 0
  ·(repeat (first | refine BS ?_ | refine BF ?_))
   rfl
  ·have g2:allB (pK R i) (ln i) = false:=by
    unfold pB2 at hg
    rw [dF q] at hg
    exact hg
   have hl:=hl g2
   refine BS ?_
   refine BS ?_
   refine BF ?_
   rw [g2]
   (repeat (first | refine BS ?_ | refine BF ?_))
   rfl
 ·refine Last.mk0 (A:=A18) (m:=0) none_ok rfl rfl (l:=l21b x R ln h rc c h) (loops1 (loopF_ok hx _)) (h1:=[]) (by simp) ?_ .nil
  rw [i21b]
  clear hln
  (repeat (first | refine BS ?_ | refine BF ?_))
  rfl
theorem ref21c (hh:h<=1000):(allB (pC ln) h = true->LoopOk P18 G18 (A18 21) 21 21 (litS (v21 R ln h rc c 0) [] (.exit 6) [pgV R ln h rc c,.undef] []))/\(allB (pC ln) h = false->LoopOk P18 G18 (A18 21) 21 21 (litS (v21 R ln h rc c 0) [] .ret [pgV R ln h rc c,.int .i64 5] [])):=by
 refine loop_scan hm18 (by kernel_rfl) (fun i=>v21 R ln h rc c i) (fun _=>[]) (pC ln) (n:=h) (fun i hi _ hg=>?_) (fun i hi _ hg=>?_) (fun _=>?_)
 ·have hg:ln i = ln 0:=of_decide_eq_true hg
  refine Step.mk0 (A:=A18) (m:=0) none_ok rfl rfl loops0 (h1:=[]) ?_ .nil
  rw [i21c,up1 (by omega),hg]
  (repeat (first | refine BS ?_ | refine BF ?_))
  rfl
 ·have hg:¬ ln i = ln 0:=of_decide_eq_false hg
  refine Last.mk0 (A:=A18) (m:=0) none_ok rfl rfl loops0 (h1:=[]) (by simp) ?_ .nil
  rw [i21c]
  (repeat (first | refine BS ?_ | refine BF ?_))
  rfl
 ·refine Last.mk0 (A:=A18) (m:=0) none_ok rfl rfl loops0 (h1:=[]) (by simp) ?_ .nil
  rw [i21c]
  (repeat (first | refine BS ?_ | refine BF ?_))
  rfl
theorem ref21d (hh:h<=1000) (hln:∀ i,i<h->ln i<=1000) (hR:∀ i,i<h->∀ j,j<ln i->0<=R i j/\R i j<256):(allB (pD2 R ln) h = true->LoopOk P18 G18 (A18 21) 21 26 (litS (v21 R ln h rc c 0) [] (.exit 8) [.undef] []))/\(allB (pD2 R ln) h = false->LoopOk P18 G18 (A18 21) 21 26 (litS (v21 R ln h rc c 0) [] .ret [.int .i64 14] [])):=by
 obtain ⟨p,hp⟩:=is_val P18 G18 36
 have hK:∀ x,OrcOk P18 G18 (K21 p x):=fun x=>told_add none_ok (callF_told hp)
 refine loop_scan hm18 (by kernel_rfl) (fun i=>v21 R ln h rc c i) (fun _=>[]) (pD2 R ln) (n:=h) (fun i hi _ hg=>?_) (fun i hi _ hg=>?_) (fun _=>?_)
 ·have hg:cN (R i) (ln i)<=2:=of_decide_eq_true hg
  have t:=coloursT (R i) (ln i) (rc i) (hln i hi) (hR i hi)
  clear hln hR
  generalize cN (R i) (ln i) = k at *
  refine Step.mk0 (A:=A18) (m:=0) (hK k) rfl rfl loops0 (h1:=[]) ?_ .nil
  rw [i21d,up1 (by omega)]
  (repeat (first | refine BS ?_ | refine BF ?_))
  rfl
 ·have hg:¬ cN (R i) (ln i)<=2:=of_decide_eq_false hg
  have t:=coloursT (R i) (ln i) (rc i) (hln i hi) (hR i hi)
  clear hln hR
  generalize cN (R i) (ln i) = k at *
  refine Last.mk0 (A:=A18) (m:=0) (hK k) rfl rfl loops0 (h1:=[]) (by simp) ?_ .nil
  rw [i21d]
  (repeat (first | refine BS ?_ | refine BF ?_))
  rfl
 ·clear hln hR
  refine Last.mk0 (A:=A18) (m:=0) (hK 0) rfl rfl loops0 (h1:=[]) (by simp) ?_ .nil
  rw [i21d]
  (repeat (first | refine BS ?_ | refine BF ?_))
  rfl
theorem mnF_at (r:Nat->Int):∀ i j,j<=i->mnF r i<=r j
 | 0,j,hj=>by obtain rfl:j = 0:=by omega
              exact Int.le_refl _
 | i+1,j,hj=>by
  unfold mnF
  by_cases q:r (i+1)<mnF r i
  ·rw [dT q,cond_true]
   by_cases e:j = i+1
   ·rw [e]; omega
   ·have:=mnF_at r i j (by omega); omega
  ·rw [dF q,cond_false]
   by_cases e:j = i+1
   ·rw [e]; omega
   ·exact mnF_at r i j (by omega)
theorem mxF_at (r:Nat->Int):∀ i j,j<=i->r j<=mxF r i
 | 0,j,hj=>by obtain rfl:j = 0:=by omega
              exact Int.le_refl _
 | i+1,j,hj=>by
  unfold mxF
  by_cases q:mxF r i<r (i+1)
  ·rw [dT q,cond_true]
   by_cases e:j = i+1
   ·rw [e]; omega
   ·have:=mxF_at r i j (by omega); omega
  ·rw [dF q,cond_false]
   by_cases e:j = i+1
   ·rw [e]; omega
   ·exact mxF_at r i j (by omega)
theorem pB2_eq {i:Nat} (hR:∀ j,j<ln i->0<=R i j/\R i j<256):pB2 R ln i = pB R ln i:=by
 unfold pB pB2
 by_cases q:ln i = 0
 ·rw [dT q]; rfl
 rw [dF q,Bool.not_false,Bool.true_and,Bool.false_or,Bool.eq_iff_iff,allB_iff]
 simp only [pK,Bool.not_eq_true',Bool.or_eq_false_iff,decide_eq_false_iff_not]
 constructor
 ·intro hk
  have g1:=mnF_ge (R i) 1 (ln i - 1) fun j hj=>by have:=hk j (by omega); have:=hR j (by omega); omega
  have g2:=mxF_le (R i) 6 (ln i - 1) fun j hj=>by have:=hk j (by omega); omega
  omega
 ·rintro ⟨g1,g2⟩ j hj
  have h1:=mnF_at (R i) (ln i - 1) j (by omega)
  have h2:=mxF_at (R i) (ln i - 1) j (by omega)
  omega
theorem refCheckT (hh:h<=1000) (hln:∀ i,i<h->ln i<=1000) (hR:∀ i,i<h->∀ j,j<ln i->0<=R i j/\R i j<256):ToldOk P18 G18 21 [pgV R ln h rc c] (.int .i64 (pcE R ln h)):=by
 obtain ⟨x,hx⟩:=is_loop P18 G18 (A18 21) 21 4
 obtain ⟨y,hy⟩:=is_loop P18 G18 (A18 21) 21 11
 obtain ⟨z,hz⟩:=is_loop P18 G18 (A18 21) 21 21
 obtain ⟨t,ht⟩:=is_loop P18 G18 (A18 21) 21 26
 refine stepL_told hm18 hn18 none_ok (A:=A18) (m:=0) (l:=l21 x y z t R ln h rc c) (by kernel_rfl) (loopsC (loopF_ok hx _) (loopsC (loopF_ok hy _) (loopsC (loopF_ok hz _) (loops1 (loopF_ok ht _))))) ?_
 have eb:allB (pB2 R ln) h = allB (pB R ln) h:=allB_congr fun i hi=>pB2_eq (hR i hi)
 have ed:allB (pD2 R ln) h = allB (pD R ln) h:=allB_congr fun i hi=>by unfold pD pD2; rw [cN_kK _ _ (hR i hi)]
 have ha:=ref21a (R:=R) (ln:=ln) (rc:=rc) (c:=c) hh
 have hb:=ref21b (R:=R) (ln:=ln) (rc:=rc) (c:=c) hh hln
 have hc:=ref21c (R:=R) (ln:=ln) (rc:=rc) (c:=c) hh
 have hd:=ref21d (R:=R) (ln:=ln) (rc:=rc) (c:=c) hh hln hR
 rw [k21,tmod_two]
 rw [eb] at *
 rw [ed] at *
 clear hln hR eb ed
 unfold pcE
 have key:decide ((31:Int)<Int.ofNat h) = decide (31<h):=by
  by_cases q:31<h
  ·rw [dT q,dT (by rw [ofNatE]; omega)]
  ·rw [dF q,dF (by rw [ofNatE]; omega)]
 rw [key]
 cases decide (31<h)
 ·rw [cond_false,cond_false]
  cases qa:allB (pA ln) h
  ·rw [cond_false,cond_false]
   exact bift (loopF_yes hx (ha.2 qa)) rfl
  ·rw [cond_true,cond_true]
   refine bift (loopF_yes hx (ha.1 qa)) ?_
   cases decide (h % 2 = 0)
   ·rw [cond_false,cond_false]
    cases qb:allB (pB R ln) h
    ·rw [cond_false,cond_false]; exact bift (loopF_yes hy (hb.2 qb)) rfl
    ·rw [cond_true,cond_true]
     refine bift (loopF_yes hy (hb.1 qb)) ?_
     cases qc:allB (pC ln) h
     ·rw [cond_false,cond_false]; exact bift (loopF_yes hz (hc.2 qc)) rfl
     ·rw [cond_true,cond_true]
      refine bift (loopF_yes hz (hc.1 qc)) ?_
      cases qd:allB (pD R ln) h
      ·rw [cond_false,cond_false]; exact bift (loopF_yes ht (hd.2 qd)) rfl
      ·rw [cond_true,cond_true]; exact bift (loopF_yes ht (hd.1 qd)) rfl
   ·rfl
 ·rfl
end
open Go.Proofs
def v16g (R S:Nat->Nat->Int) (ln lm:Nat->Nat) (h h2:Nat) (rc rd:Nat->Option Nat) (c d:Option Nat) (i:Nat):List T:=[pgV R ln h rc c,pgV S lm h2 rd d,.int .i64 i]
def eqR (R S:Nat->Nat->Int) (ln lm:Nat->Nat) (i:Nat):Bool:=decide (ln i = lm i)&&allB (fun j=>decide (R i j = S i j)) (ln i)
def eqP (R S:Nat->Nat->Int) (ln lm:Nat->Nat) (h h2:Nat):Bool:=decide (h = h2)&&allB (eqR R S ln lm) h
noncomputable def l16g (x:List T->Heap->Ex->List T->Heap->Prop) (b:Bool):List (Nat × (List T->Heap->LT)):=[(4,loopF x (.ite b (.ret (.exit 0) [.undef] []) (.ret .ret [.int .i64 1] [])))]
theorem i16g (R S:Nat->Nat->Int) (ln lm:Nat->Nat) (h:Nat) (rc rd:Nat->Option Nat) (c d:Option Nat) (i:Nat):iterR P18 G18 A18 noneO 0 16 [] 4 (v16g R S ln lm h h rc rd c d i) [] =
(
 bif decide (Int.ofNat i<Int.ofNat h) then
 bif decide (0<=Int.ofNat i)&&decide (Int.ofNat i<Int.ofNat h) then
 bif bytesF (fun j=>[.int .u8 (R i j)]) (ln i) then
 bif decide (0<=Int.ofNat i)&&decide (Int.ofNat i<Int.ofNat h) then
 bif bytesF (fun j=>[.int .u8 (S i j)]) (lm i) then
 bif !decide (strF (fun j=>[.int .u8 (R i j)]) (ln i) = strF (fun j=>[.int .u8 (S i j)]) (lm i)) then
 some ((.ret,[.int .i64 1],[]))
 else
 some ((.normal,[pgV R ln h rc c,pgV S lm h rd d,.int .i64 (IntKind.i64.wrap (Int.ofNat i+1))],[]))
 else none else none else none else none else
 some ((.exit 0,[.undef],[]))):=by kernel_rfl
theorem eqR_iff (R S:Nat->Nat->Int) (ln lm:Nat->Nat) (i:Nat):eqR R S ln lm i = true ↔ ln i = lm i/\∀ j,j<ln i->R i j = S i j:=by
 unfold eqR
 rw [Bool.and_eq_true,allB_iff]
 simp only [decide_eq_true_eq]
theorem eqP_iff (R S:Nat->Nat->Int) (ln lm:Nat->Nat) (h h2:Nat):eqP R S ln lm h h2 = true ↔ h = h2/\∀ i,i<h->ln i = lm i/\∀ j,j<ln i->R i j = S i j:=by
 unfold eqP
 rw [Bool.and_eq_true,allB_iff]
 simp only [decide_eq_true_eq,eqR_iff]
theorem strF_len {f:Nat->Int} {n:Nat}:(strF (fun j=>[T.int .u8 (f j)]) n).length = n:=by rw [strF_eq]; simp
theorem eqR_str {R S:Nat->Nat->Int} {ln lm:Nat->Nat} {i:Nat} (hR:∀ j,j<ln i->0<=R i j/\R i j<256) (hS:∀ j,j<lm i->0<=S i j/\S i j<256):decide (strF (fun j=>[T.int .u8 (R i j)]) (ln i) = strF (fun j=>[T.int .u8 (S i j)]) (lm i)) = eqR R S ln lm i:=by
 rw [Bool.eq_iff_iff,eqR_iff,decide_eq_true_eq]
 constructor
 ·intro q
  have e:ln i = lm i:=by have:=congrArg List.length q; rwa [strF_len,strF_len] at this
  rw [← e] at q
  exact ⟨e,strF_inj hR (fun j hj=>hS j (by omega)) q⟩
 ·rintro ⟨e,q⟩
  rw [← e,strF_eq,strF_eq]
  refine List.map_inj_left.2 fun j hj=>?_
  rw [q j (List.mem_range.1 hj)]
theorem differGT (R S:Nat->Nat->Int) (ln lm:Nat->Nat) (h h2:Nat) (rc rd:Nat->Option Nat) (c d:Option Nat) (hh:h<=1000) (hR:∀ i,i<h->∀ j,j<ln i->0<=R i j/\R i j<256) (hS:∀ i,i<h2->∀ j,j<lm i->0<=S i j/\S i j<256):ToldOk P18 G18 16 [pgV R ln h rc c,pgV S lm h2 rd d] (.int .i64 (bif eqP R S ln lm h h2 then 0 else 1)):=by
 obtain ⟨x,hx⟩:=is_loop P18 G18 (A18 16) 16 4
 by_cases q:h = h2
 ·subst q
  have hl:(allB (eqR R S ln lm) h = true->LoopOk P18 G18 (A18 16) 16 4 (litS (v16g R S ln lm h h rc rd c d 0) [] (.exit 0) [.undef] []))/\(allB (eqR R S ln lm) h = false->LoopOk P18 G18 (A18 16) 16 4 (litS (v16g R S ln lm h h rc rd c d 0) [] .ret [.int .i64 1] [])):=by
   refine loop_scan hm18 (by kernel_rfl) (fun i=>v16g R S ln lm h h rc rd c d i) (fun _=>[]) (eqR R S ln lm) (n:=h) (fun i hi _ hg=>?_) (fun i hi _ hg=>?_) (fun _=>?_)
   ·refine Step.mk0 (A:=A18) (m:=0) none_ok rfl rfl loops0 (h1:=[]) ?_ .nil
    rw [i16g,up1 (by omega),bytes_row,bytes_row,eqR_str (hR i hi) (hS i hi),hg]
    clear hR hS
    (repeat (first | refine BS ?_ | refine BF ?_))
    rfl
   ·refine Last.mk0 (A:=A18) (m:=0) none_ok rfl rfl loops0 (h1:=[]) (by simp) ?_ .nil
    rw [i16g,up1 (by omega),bytes_row,bytes_row,eqR_str (hR i hi) (hS i hi),hg]
    clear hR hS
    (repeat (first | refine BS ?_ | refine BF ?_))
    rfl
   ·refine Last.mk0 (A:=A18) (m:=0) none_ok rfl rfl loops0 (h1:=[]) (by simp) ?_ .nil
    rw [i16g]
    clear hR hS
    (repeat (first | refine BS ?_ | refine BF ?_))
    rfl
  clear hR hS
  unfold eqP
  rw [dT rfl,Bool.true_and]
  generalize allB (eqR R S ln lm) h = b at *
  refine stepL_told hm18 hn18 none_ok (A:=A18) (m:=0) (l:=l16g x b) (by kernel_rfl) (loops1 (loopF_ok hx _)) ?_
  rw [(show stepL P18 G18 A18 noneO 0 16 (l16g x b) [pgV R ln h rc c,pgV S lm h rd d] =
(
 bif !decide (Int.ofNat h = Int.ofNat h) then
 some (.int .i64 1)
 else
 bif b then
 bif decF (x [.view 1 h (fun i=>[.view 1 (ln i) (fun j=>[.int .u8 (R i j)]) (rc i)]) c,.view 1 h (fun i=>[.view 1 (lm i) (fun j=>[.int .u8 (S i j)]) (rd i)]) d,.int .i64 0] [] (.exit 0) [.undef] []) then
 some (.int .i64 0)
 else none else
 bif decF (x [.view 1 h (fun i=>[.view 1 (ln i) (fun j=>[.int .u8 (R i j)]) (rc i)]) c,.view 1 h (fun i=>[.view 1 (lm i) (fun j=>[.int .u8 (S i j)]) (rd i)]) d,.int .i64 0] [] .ret [.int .i64 1] []) then
 some (.int .i64 1)
 else
 none) from by kernel_rfl)]
  refine BF ?_
  cases b
  ·have:=hl.2 rfl
   (repeat (first | refine BS ?_ | refine BF ?_))
   rfl
  ·have:=hl.1 rfl
   (repeat (first | refine BS ?_ | refine BF ?_))
   rfl
 ·clear hR hS
  unfold eqP
  rw [dF q,Bool.false_and]
  refine stepL_told hm18 hn18 none_ok (A:=A18) (m:=0) (l:=l16g x true) (by kernel_rfl) (loops1 (loopF_ok hx _)) ?_
  rw [(show stepL P18 G18 A18 noneO 0 16 (l16g x true) [pgV R ln h rc c,pgV S lm h2 rd d] =
(
 bif !decide (Int.ofNat h = Int.ofNat h2) then
 some (.int .i64 1)
 else
 bif decF (x [.view 1 h (fun i=>[.view 1 (ln i) (fun j=>[.int .u8 (R i j)]) (rc i)]) c,.view 1 h2 (fun i=>[.view 1 (lm i) (fun j=>[.int .u8 (S i j)]) (rd i)]) d,.int .i64 0] [] (.exit 0) [.undef] []) then
 some (.int .i64 0)
 else
 none) from by kernel_rfl)]
  refine BS ?_
  rfl
open Go.Proofs
def kPic (h:Nat) (R:Nat->Nat->Int) (ln:Nat->Nat) (rc:Nat->Option Nat) (c:Option Nat) (_:List T):Option T:=some (pgV R ln h rc c)
def kNil (_:List T):Option T:=some (.tup [.nils,.int .i64 4])
def kTru (_:List T):Option T:=some (.bool true)
theorem ty0 (s:List UInt8) (D:IR):codeL P18 G18 A18 noneO 0 6 [] (nav [1]) [0,1] [.agg [.int .u8 D.wd,D.rows none],.str s] [] [1,2] =
(
 some ((.normal,[.str s,.reg [.int .u8 D.wd,D.rows
 none]],[]))):=by kernel_rfl
theorem ty1 (s:List UInt8) (D:IR):codeL P18 G18 A18 noneO 0 6 [] (nav [1,2]) [1,2] [.str s,.reg [.int .u8 D.wd,D.rows none]] [] [1,2] =
(
 bif decide (600<Int.ofNat s.length) then
 some ((.ret,[.str s,.reg [.int .u8 D.wd,D.rows
 none]],[]))
 else
 some ((.normal,[.str s,.reg [.int .u8 D.wd,D.rows
 none]],[]))):=by kernel_rfl
theorem ty1b (s:List UInt8) (D:IR):codeL P18 G18 A18 noneO 0 6 [] (nav [1,2]) [1,2] [.str s,.reg [.int .u8 D.wd,D.rows none]] [] [4] =
(
 bif decide (600<Int.ofNat s.length) then
 some ((.ret,[.bool true],[]))
 else
 some ((.normal,[.undef],[]))):=by kernel_rfl
theorem ty3 (p:List T->T->Prop) (s:List UInt8) (D:IR) (h:Nat) (R:Nat->Nat->Int) (ln:Nat->Nat) (rc:Nat->Option Nat) (c:Option Nat):codeL P18 G18 A18 (noneO.add 13 (callF p (kPic h R ln rc c))) 0 6 [] (nav [1,2,2]) [1,2] [.str s,.reg [.int .u8 D.wd,D.rows none]] [] [1,5] =
(
 bif decF (p [.agg [.int .u8 D.wd,D.rows
 none]] (pgV R ln h rc c)) then
 some ((.normal,[.str s,pgV R ln h rc c],[]))
 else
 none):=by kernel_rfl
theorem ty4 (s:List UInt8) (h:Nat) (R:Nat->Nat->Int) (ln:Nat->Nat) (rc:Nat->Option Nat) (c:Option Nat):codeL P18 G18 A18 noneO 0 6 [] (nav [1,2,2,2]) [1,5] [.str s,pgV R ln h rc c] [] [1,5,6] =
(
 some ((.normal,[.str s,pgV R ln h rc c,.str []],[]))):=by kernel_rfl
theorem ty5 (s:List UInt8) (h:Nat) (R:Nat->Nat->Int) (ln:Nat->Nat) (rc:Nat->Option Nat) (c:Option Nat):codeL P18 G18 A18 noneO 0 6 [] (nav [1,1,2,2,2,2]) [1,5,6] [.str s,pgV R ln h rc c,.str []] [] [1,5,6,7] =
(
 some ((.normal,[.str s,pgV R ln h rc c,.str [],.int .i64 (IntKind.i64.wrap (Int.ofNat h - 1))],[]))):=by kernel_rfl
theorem ty16a (p:List T->T->Prop) (s:List UInt8):codeL P18 G18 A18 (noneO.add 19 (callF p kNil)) 0 6 [] (nav [1,2,2,2,2,2,2,2]) [1] [.str s] [] [1,11,12] =
(
 bif decF (p [.str s] (.tup [.nils,.int .i64 4])) then
 some ((.normal,[.str s,.nils,.int .i64 4],[]))
 else
 none):=by kernel_rfl
theorem ty16b (p:List T->T->Prop) (s:List UInt8) (h:Nat) (R:Nat->Nat->Int) (ln:Nat->Nat) (rc:Nat->Option Nat):codeL P18 G18 A18 (noneO.add 19 (callF p (kPar h R ln rc))) 0 6 [] (nav [1,2,2,2,2,2,2,2]) [1] [.str s] [] [1,11,12] =
(
 bif decF (p [.str s] (.tup (v21 R ln h rc (some h) (nat_lit 0)))) then
 some ((.normal,.str s :: v21 R ln h rc (some h) (nat_lit 0),[]))
 else
 none):=by kernel_rfl
theorem ty17 (x:T) (s:List UInt8) (e:Int):codeL P18 G18 A18 noneO 0 6 [] (nav [1,2,2,2,2,2,2,2,2]) [1,11,12] [.str s,x,.int .i64 e] [] [1,11,12,13] =
(
 some ((.normal,[.str s,x,.int .i64 e,.nils],[]))):=by kernel_rfl
theorem ty18 (x:T) (s:List UInt8) (e:Int) (n:Nat) (R:Nat->Nat->Int) (ln:Nat->Nat) (rc:Nat->Option Nat):codeL P18 G18 A18 noneO 0 6 [] (nav [1,2,2,2,2,2,2,2,2,2]) [1,11,12,13] [.str s,x,.int .i64 e,pgV R ln n rc none] [] [1,11,12,13,14] =
(
 some ((.normal,[.str s,x,.int .i64 e,pgV R ln n rc
 none,.own 0 0 0 0 (some 0)],[.mk 0 1 0 (fun j=>[]) true true
 none]))):=by kernel_rfl
theorem ty19 (x:T) (s:List UInt8) (e:Int) (n v:Nat) (g:Nat->Int) (R:Nat->Nat->Int) (ln:Nat->Nat) (rc:Nat->Option Nat):codeL P18 G18 A18 noneO 0 6 [] (nav [1,1,2,2,2,2,2,2,2,2,2,2]) [1,11,12,13,14] [.str s,x,.int .i64 e,pgV R ln n rc none,.own 0 v 0 0 none] [ub v 0 g] [1,11,12,13,14,15] =
(
 some ((.normal,[.str s,x,.int .i64 e,pgV R ln n rc
 none,.own 0 v 0 0
 none,.int .i64 0],[ub v (0:Nat) g]))):=by kernel_rfl
theorem ty26 (p:List T->T->Prop) (k:Int) (x:T) (s:List UInt8) (e:Int) (n:Nat) (R:Nat->Nat->Int) (ln:Nat->Nat) (rc:Nat->Option Nat):codeL P18 G18 A18 (noneO.add 21 (callF p (kInt k))) 0 6 [] (nav [1,2,2,2,2,2,2,2,2,2,2,2]) [1,11,12,13] [.str s,x,.int .i64 e,pgV R ln n rc none] [] [1,11,12,13,16] =
(
 bif !decide (s = []) then
 bif decide (0<=IntKind.i64.wrap (Int.ofNat s.length - 1))&&decide (IntKind.i64.wrap (Int.ofNat s.length - 1)<Int.ofNat s.length) then
 bif decide (Int.ofNat (s.getD (IntKind.i64.wrap (Int.ofNat s.length - (1:Int))).toNat (0:UInt8)).toNat = 10) then
 bif decF (p [pgV R ln n rc
 none] (.int .i64 k)) then
 bif decide (k = 0) then
 some ((.normal,[.str s,x,.int .i64 e,pgV R ln n rc
 none,.bool true],[]))
 else
 some ((.normal,[.str s,x,.int .i64 e,pgV R ln n rc
 none,.bool false],[]))
 else none else
 some ((.normal,[.str s,x,.int .i64 e,pgV R ln n rc
 none,.bool false],[]))
 else none else
 some ((.normal,[.str s,x,.int .i64 e,pgV R ln n rc
 none,.bool false],[]))):=by kernel_rfl
theorem ty27f (p:List T->T->Prop) (s:List UInt8) (n:Nat) (R:Nat->Nat->Int) (ln:Nat->Nat) (rc:Nat->Option Nat):codeL P18 G18 A18 (noneO.add 12 (callF p kTru)) 0 6 [] (nav [1,2,2,2,2,2,2,2,2,2,2,2,2]) [1,11,12,13,16] [.str s,.nils,.int .i64 4,pgV R ln n rc none,.bool false] [] [4] =
(
 bif decF (p [] (.bool true)) then
 some ((.ret,[.bool true],[]))
 else
 none):=by kernel_rfl
theorem ty27t (x:T) (s:List UInt8) (e:Int) (n:Nat) (R:Nat->Nat->Int) (ln:Nat->Nat) (rc:Nat->Option Nat):codeL P18 G18 A18 noneO 0 6 [] (nav [1,2,2,2,2,2,2,2,2,2,2,2,2]) [1,11,12,13,16] [.str s,x,.int .i64 e,pgV R ln n rc none,.bool true] [] [1,11,12,13] =
(
 some ((.normal,[.str s,x,.int .i64 e,pgV R ln n rc
 none],[]))):=by kernel_rfl
theorem ty29 (p q r:List T->T->Prop) (s:List UInt8) (d:Int) (n:Nat) (R R2:Nat->Nat->Int) (ln l2:Nat->Nat) (rc r2:Nat->Option Nat) (W:List UInt8):codeL P18 G18 A18 (((noneO.add 16 (callF p (kInt d))).add 20 (callF q (kStr W))).add 12 (callF r kTru)) 0 6 [] (nav [2,2,2,2,2,2,2,2,2,2,2,2,2]) [1,11,12,13] [.str s,pgV R2 l2 n r2 (some n),.int .i64 0,pgV R ln n rc none] [] [4] =
(
 bif decF (p [pgV R2 l2 n r2 (some n),pgV R ln n rc
 none] (.int .i64 d)) then
 bif decide (d = 0) then
 bif decF (q [pgV R2 l2 n r2 (some n)] (.str W)) then
 bif decide (W = s) then
 bif decF (r [] (.bool true)) then
 some ((.ret,[.bool true],[]))
 else none else
 some ((.ret,[.bool false],[]))
 else none else
 some ((.ret,[.bool false],[]))
 else
 none):=by kernel_rfl
theorem wrap8 (x:Int):IntKind.u8.wrap x = x % 256:=by
 show (if (false&&decide (x % 2 ^ 8 ≥ 2 ^ (8 - 1))) = true then x % 2 ^ 8 - 2 ^ 8 else x % 2 ^ 8) = _
 rw [Bool.false_and,if_neg (by simp)]
 rfl
theorem rowX_bd (a:List UInt8) (j:Nat):0<=rowX a j/\rowX a j<256:=by
 unfold rowX digU
 split
 ·unfold dig
  generalize Int.ofNat (a.getD (0+j) 0).toNat - 48 = x
  rw [wrap8]
  omega
 ·omega
theorem rev_at (L:List (List UInt8)) (j:Nat):rwL L (sgR L.length (L.length / 2) (0+j)) = rwL L.reverse j:=by
 unfold rwL
 rw [Nat.zero_add,List.getD_eq_getElem?_getD,List.getD_eq_getElem?_getD]
 by_cases q:j<L.length
 ·rw [List.getElem?_reverse q]
  congr 2
  unfold sgR
  split
  ·rfl
  ·omega
 ·have e1:sgR L.length (L.length / 2) j = j:=by unfold sgR; rw [if_neg (by omega)]
  rw [e1,List.getElem?_eq_none (by omega),List.getElem?_eq_none (by rw [List.length_reverse]; omega)]
theorem rvR_eq (L:List (List UInt8)):rvR L = RL L.reverse:=by
 funext j
 unfold rvR RL
 rw [rev_at]
theorem rvL_eq (L:List (List UInt8)):rvL L = lL L.reverse:=by
 funext j
 unfold rvL lL
 rw [rev_at]
theorem pcE_inv {R:Nat->Nat->Int} {ln:Nat->Nat} {h:Nat} (e:pcE R ln h = 0):0<h/\∀ i,i<h->0<ln i/\∀ j,j<ln i->1<=R i j/\R i j<=6:=by
 unfold pcE at e
 cases q1:decide (31<h) with
 | true=>rw [q1,cond_true] at e; omega
 | false =>
  rw [q1,cond_false] at e
  cases q2:allB (pA ln) h with
  | false=>rw [q2,cond_false] at e; omega
  | true =>
   rw [q2,cond_true] at e
   cases q3:decide (h % 2 = 0) with
   | true=>rw [q3,cond_true] at e; omega
   | false =>
    rw [q3,cond_false] at e
    cases q4:allB (pB R ln) h with
    | false=>rw [q4,cond_false] at e; omega
    | true =>
     refine ⟨by have:=of_decide_eq_false q3; omega,fun i hi=>?_⟩
     have q:=(allB_iff _ _).1 q4 i hi
     simp only [pB,Bool.not_eq_true',Bool.or_eq_false_iff,decide_eq_false_iff_not] at q
     obtain ⟨⟨g1,g2⟩,g3⟩:=q
     refine ⟨by omega,fun j hj=>?_⟩
     have m1:=mnF_at (R i) (ln i - 1) j (by omega)
     have m2:=mxF_at (R i) (ln i - 1) j (by omega)
     omega
theorem pcE_ok2 {R:Nat->Nat->Int} {ln:Nat->Nat} {n h:Nat} (hl:∀ i,i<h->ln i = n) (h1:1<=n/\n<=16) (hh:h<=31) (ho:h % 2 = 1) (hc:∀ i,i<h->∀ j,j<n->1<=R i j/\R i j<=6) (h2:∀ i,i<h->kK (R i) n<=2):pcE R ln h = 0:=by
 unfold pcE
 have a1:allB (pA ln) h = true:=(allB_iff _ _).2 fun i hi=>dT (by rw [hl i hi]; exact h1.2)
 have a2:allB (pB R ln) h = true:=(allB_iff _ _).2 fun i hi=>by
  have g1:=mnF_ge (R i) 1 (n - 1) fun j hj=>(hc i hi j (by omega)).1
  have g2:=mxF_le (R i) 6 (n - 1) fun j hj=>(hc i hi j (by omega)).2
  simp only [pB,hl i hi,Bool.not_eq_true',Bool.or_eq_false_iff,decide_eq_false_iff_not]
  omega
 have a3:allB (pC ln) h = true:=(allB_iff _ _).2 fun i hi=>dT (by rw [hl i hi,hl 0 (by omega)])
 have a4:allB (pD R ln) h = true:=(allB_iff _ _).2 fun i hi=>dT (by rw [hl i hi]; exact h2 i hi)
 rw [dF (by omega),cond_false,a1,cond_true,dF (by omega),cond_false,a2,cond_true,a3,cond_true,a4,cond_true]
theorem dig_back {c:UInt8} (h:1<=IntKind.u8.wrap (Int.ofNat c.toNat - 48)/\IntKind.u8.wrap (Int.ofNat c.toNat - 48)<=6):UInt8.ofNat (48+(IntKind.u8.wrap (Int.ofNat c.toNat - 48)).toNat) = c:=by
 have hc:=c.toNat_lt
 have e:IntKind.u8.wrap (Int.ofNat c.toNat - 48) = (Int.ofNat c.toNat - 48) % 256:=wrap8 _
 rw [e] at h ⊢
 apply UInt8.toNat_inj.1
 rw [UInt8.toNat_ofNat']
 simp only [Int.ofNat_eq_natCast] at *
 omega
theorem txt_lines (L:List (List UInt8)) (h:∀ a,a ∈ L->∀ j,j<a.length->1<=rowX a j/\rowX a j<=6):txtR (RL L.reverse) (lL L.reverse) L.length = flatL L:=by
 unfold txtR
 rw [txtB_flat]
 congr 1
 refine List.ext_getElem? fun k=>?_
 unfold rowsL
 rw [List.getElem?_map]
 by_cases q:k<L.length
 ·rw [List.getElem?_range q,List.getElem?_eq_getElem q,Option.map_some]
  congr 1
  have e:rwL L.reverse (L.length - 1 - k) = L[k]:=by
   unfold rwL
   rw [List.getD_eq_getElem?_getD,List.getElem?_reverse (by omega),show L.length - 1 - (L.length - 1 - k) = k by omega,List.getElem?_eq_getElem q]
   rfl
  have ha:=h L[k] (List.getElem_mem q)
  unfold rowB lL colN RL
  rw [e]
  generalize L[k] = a at *
  refine List.ext_getElem? fun j=>?_
  rw [List.getElem?_map]
  by_cases q2:j<a.length
  ·rw [List.getElem?_range q2,List.getElem?_eq_getElem q2,Option.map_some]
   congr 1
   have hj:=ha j q2
   unfold rowX digU at hj ⊢
   rw [Nat.zero_add,if_pos q2] at hj ⊢
   unfold dig at hj ⊢
   rw [List.getD_eq_getElem?_getD,List.getElem?_eq_getElem q2,Option.getD_some] at hj ⊢
   exact dig_back hj
  ·rw [List.getElem?_eq_none (by simpa using q2),List.getElem?_eq_none (by omega)]
   rfl
 ·rw [List.getElem?_eq_none (by simpa using q),List.getElem?_eq_none (by omega)]
  rfl
theorem rows_back (R:Nat->Nat->Int) (w n:Nat) (hR:∀ i j,1<=R i j/\R i j<=6) (i:Nat) (hi:i<n):(rwL (rowsL (colN R) (fun _=>w) n n).reverse i).length = w/\∀ j,j<w->rowX (rwL (rowsL (colN R) (fun _=>w) n n).reverse i) j = R i j:=by
 have e:rwL (rowsL (colN R) (fun _=>w) n n).reverse i = rowB (colN R) (fun _=>w) i w:=by
  unfold rwL
  have hl:(rowsL (colN R) (fun _=>w) n n).length = n:=by simp [rowsL]
  rw [List.getD_eq_getElem?_getD,List.getElem?_reverse (by omega),hl]
  unfold rowsL
  rw [List.getElem?_map,List.getElem?_range (by omega),Option.map_some,Option.getD_some,show n - 1 - (n - 1 - i) = i by omega]
 rw [e]
 have hl:(rowB (colN R) (fun _=>w) i w).length = w:=by simp [rowB]
 refine ⟨hl,fun j hj=>?_⟩
 unfold rowX digU
 rw [Nat.zero_add,hl,if_pos hj]
 unfold dig rowB
 rw [List.getD_eq_getElem?_getD,List.getElem?_map,List.getElem?_range hj,Option.map_some,Option.getD_some,UInt8.toNat_ofNat']
 have:=hR i j
 unfold colN
 rw [show Int.ofNat ((48+(R i j).toNat) % 2 ^ 8) - 48 = R i j by simp only [Int.ofNat_eq_natCast]; omega]
 exact wr8 (by omega) (by omega)
open Go.Proofs
theorem ren_nils (σ:List Nat) (h:Heap):ren σ h .nils = .nils:=rfl
theorem ren_pgV (σ:List Nat) (h:Heap) (R:Nat->Nat->Int) (ln:Nat->Nat) (n:Nat) (rc:Nat->Option Nat) (c:Option Nat):ren σ h (pgV R ln n rc c) = pgV R ln n rc c:=rfl
theorem pre6 (s:List UInt8) (x:T) (e:Int) (hs:s.length<=1000) (hx:∀ σ h,ren σ h x = x)
 (rest:Pz P18 G18 A18 6 [] [2,2,2,2,2,2,2,2,2,2,2] [1,11,12,13] [.str s,x,.int .i64 e,rwv (scan s s.length).1] [] .ret [4] [.bool true] []) :
 Pz P18 G18 A18 6 [] [2,2,2,2,2,2,2,2] [1,11,12] [.str s,x,.int .i64 e] [] .ret [4] [.bool true] []:=by
 have p17:Pz P18 G18 A18 6 [] [1,2,2,2,2,2,2,2,2] [1,11,12] [.str s,x,.int .i64 e] [] .normal [1,11,12,13] [.str s,x,.int .i64 e,rwv []] [] :=
  Pz.post (Pz.run hm18 none_ok (m:=0) (by kernel_rfl) loops0 (ty17 x s e)) fun nt=>.sl (.cons (.refl _) (.cons (.refl _) (.cons (.refl _) (.cons (.nilv _ _ (.inl rfl)) .nil)))) (.refl _)
 have p18:Pz P18 G18 A18 6 [] [1,2,2,2,2,2,2,2,2,2] [1,11,12,13] [.str s,x,.int .i64 e,rwv []] [] .normal [1,11,12,13,14] [.str s,x,.int .i64 e,rwv [],.own 0 0 0 0 none] [ub 0 0 (rowX [])] :=
  Pz.post (Pz.run hm18 none_ok (m:=0) (by kernel_rfl) loops0 (ty18 x s e 0 (RL []) (lL []) (fun _=>none))) fun nt =>
   .trans (.cap (.cons (.refl _) (.cons (.refl _) (.cons (.refl _) (.cons (.refl _) (.cons (.own rfl (Nat.le_refl _)) .nil)))))) (.same (.cons ⟨rfl,rfl,rfl,id,fun j hj=>by cases hj⟩ .nil))
 have p19:Pz P18 G18 A18 6 [] [1,1,2,2,2,2,2,2,2,2,2,2] [1,11,12,13,14] [.str s,x,.int .i64 e,rwv [],.own 0 0 0 0 none] [ub 0 0 (rowX [])] .normal [1,11,12,13,14,15] (v6s s x e 0) (h6s s 0) :=
  Pz.run hm18 none_ok (m:=0) (by kernel_rfl) loops0 (ty19 x s e 0 0 (rowX []) (RL []) (lL []) (fun _=>none))
 have pl:=loop6 s x e hs hx
 refine Pz.seq (by kernel_rfl) p17 (Pz.seq (by kernel_rfl) p18 (Pz.seq (by kernel_rfl) (Pz.seq (by kernel_rfl) p19 (Pz.blk (id:=4) (e:=.exit 4) (by kernel_rfl) rfl (Pz.post (Pz.only pl (l2:=[1,11,12,13]) rfl) (v2:=[.str s,x,.int .i64 e,rwv (scan s s.length).1]) (h2:=[]) fun nt=>?_))) rest))
 refine .trans (.canon [] rfl) ?_
 show WeakTo _ _ nt _ _ [_,ren [] _ x,_,_] [] _ _
 rw [hx]
 exact .refl _ _
theorem bad6 (s:List UInt8) (D:List (List UInt8)) (hs:s.length<=1000) (hl:D.length<=1000/\∀ i,i<D.length->lL D i<=1000) (h:s = [] ∨ s.getD (s.length - 1) 0 ≠ 10 ∨ pcE (RL D) (lL D) D.length ≠ 0) :
 Pz P18 G18 A18 6 [] [2,2,2,2,2,2,2,2,2,2,2] [1,11,12,13] [.str s,.nils,.int .i64 4,rwv D] [] .ret [4] [.bool true] []:=by
 obtain ⟨p,hp⟩:=is_val P18 G18 21
 obtain ⟨q,hq⟩:=is_val P18 G18 12
 have t21:=refCheckT (R:=RL D) (ln:=lL D) (h:=D.length) (rc:=fun _=>none) (c:=none) hl.1 hl.2 (fun i _ j _=>rowX_bd _ j)
 have k26:=ty26 p (pcE (RL D) (lL D) D.length) .nils s 4 D.length (RL D) (lL D) (fun _=>none)
 have k27:=(ty27f q s D.length (RL D) (lL D) (fun _=>none)).trans (bift (callF_yes hq livesT) rfl)
 have p26:Pz P18 G18 A18 6 [] [1,2,2,2,2,2,2,2,2,2,2,2] [1,11,12,13] [.str s,.nils,.int .i64 4,rwv D] [] .normal [1,11,12,13,16] [.str s,.nils,.int .i64 4,rwv D,.bool false] []:=by
  refine Pz.run hm18 (told_add none_ok (callF_told hp)) (m:=0) (by kernel_rfl) loops0 (k26.trans ?_)
  by_cases q0:s = []
  ·exact biff (by simp [q0]) rfl
  ·have hpos:0<s.length:=List.length_pos_iff.2 q0
   have e1:IntKind.i64.wrap (Int.ofNat s.length - 1) = ((s.length - 1:Nat):Int):=by
    rw [wr64 (by simp only [Int.ofNat_eq_natCast]; omega) (by simp only [Int.ofNat_eq_natCast]; omega)]
    simp only [Int.ofNat_eq_natCast]
    omega
   rw [e1]
   refine bift (by simp [q0]) (bift (by simp; omega) ?_)
   by_cases q1:s.getD (s.length - 1) 0 = 10
   ·refine bift (by rw [show (((s.length - 1:Nat):Int)).toNat = s.length - 1 from rfl,q1]; rfl) (bift (callF_yes hp t21) (biff ?_ rfl))
    rcases h with h | h | h
    ·exact absurd h q0
    ·exact absurd q1 h
    ·simpa using h
   ·refine biff ?_ rfl
    rw [show (((s.length - 1:Nat):Int)).toNat = s.length - 1 from rfl]
    have:(s.getD (s.length - 1) 0).toNat ≠ 10:=fun h=>q1 (UInt8.toNat_inj.1 h)
    simp only [Int.ofNat_eq_natCast,decide_eq_true_eq]
    omega
 exact Pz.seq (by kernel_rfl) p26 (Pz.seqX (by kernel_rfl) (by simp) (Pz.run hm18 (told_add none_ok (callF_told hq)) (m:=0) (by kernel_rfl) loops0 k27))
theorem good6 (s:List UInt8) (D:List (List UInt8)) (rc:Nat->Option Nat) (hs:s.length<=1000) (hl:D.length<=1000/\∀ i,i<D.length->lL D i<=1000) (hlt:∀ i,lL D i<=1000) (h0:s ≠ []) (h1:s.getD (s.length - 1) 0 = 10) (h2:pcE (RL D) (lL D) D.length = 0) (h3:txtR (RL D) (lL D) D.length = s) :
 Pz P18 G18 A18 6 [] [2,2,2,2,2,2,2,2,2,2,2] [1,11,12,13] [.str s,pgV (RL D) (lL D) D.length rc (some D.length),.int .i64 0,rwv D] [] .ret [4] [.bool true] []:=by
 obtain ⟨p,hp⟩:=is_val P18 G18 21
 obtain ⟨q,hq⟩:=is_val P18 G18 12
 obtain ⟨p16,hp16⟩:=is_val P18 G18 16
 obtain ⟨p20,hp20⟩:=is_val P18 G18 20
 obtain ⟨i1,i2⟩:=pcE_inv h2
 have t21:=refCheckT (R:=RL D) (ln:=lL D) (h:=D.length) (rc:=fun _=>none) (c:=none) hl.1 hl.2 (fun i _ j _=>rowX_bd _ j)
 have t16:=differGT (RL D) (RL D) (lL D) (lL D) D.length D.length rc (fun _=>none) (some D.length) none hl.1 (fun i _ j _=>rowX_bd _ j) (fun i _ j _=>rowX_bd _ j)
 rw [show eqP (RL D) (RL D) (lL D) (lL D) D.length D.length = true from (eqP_iff _ _ _ _ _ _).2 ⟨rfl,fun i _=>⟨rfl,fun j _=>rfl⟩⟩,cond_true] at t16
 have t20:=textT (RL D) (lL D) D.length rc (some D.length) i1 hl.1 hlt (fun i hi=>(i2 i hi).1) (fun i j=>by
  by_cases c1:i<D.length/\j<lL D i
  ·have:=(i2 i c1.1).2 j c1.2
   omega
  ·have:RL D i j = 0:=by
    unfold RL rowX digU
    rw [if_neg]
    rw [Nat.zero_add]
    intro hj
    refine c1 ⟨?_,hj⟩
    rcases Nat.lt_or_ge i D.length with c2 | c2
    ·exact c2
    ·unfold rwL at hj
     rw [List.getD_eq_getElem?_getD,List.getElem?_eq_none c2] at hj
     simp at hj
   omega) h2
 rw [h3] at t20
 have hpos:0<s.length:=List.length_pos_iff.2 h0
 have e1:IntKind.i64.wrap (Int.ofNat s.length - 1) = ((s.length - 1:Nat):Int):=by
  rw [wr64 (by simp only [Int.ofNat_eq_natCast]; omega) (by simp only [Int.ofNat_eq_natCast]; omega)]
  simp only [Int.ofNat_eq_natCast]
  omega
 have k26:=ty26 p (pcE (RL D) (lL D) D.length) (pgV (RL D) (lL D) D.length rc (some D.length)) s 0 D.length (RL D) (lL D) (fun _=>none)
 rw [e1] at k26
 have k26:=k26.trans (bift (by simp [h0]) (bift (by simp; omega) (bift (by rw [show (((s.length - 1:Nat):Int)).toNat = s.length - 1 from rfl,h1]; rfl) (bift (callF_yes hp t21) (bift (by simpa using h2) rfl)))))
 have k27:=ty27t (pgV (RL D) (lL D) D.length rc (some D.length)) s 0 D.length (RL D) (lL D) (fun _=>none)
 have k29:=(ty29 p16 p20 q s 0 D.length (RL D) (RL D) (lL D) (lL D) (fun _=>none) rc s).trans (bift (callF_yes hp16 t16) (bift rfl (bift (callF_yes hp20 t20) (bift (by simp) (bift (callF_yes hq livesT) rfl)))))
 exact Pz.seq (by kernel_rfl) (Pz.run hm18 (told_add none_ok (callF_told hp)) (m:=0) (by kernel_rfl) loops0 k26) (Pz.seq (by kernel_rfl) (Pz.run hm18 none_ok (m:=0) (by kernel_rfl) loops0 k27) (Pz.run hm18 (told_add (told_add (told_add none_ok (callF_told hp16)) (callF_told hp20)) (callF_told hq)) (m:=0) (by kernel_rfl) loops0 k29))
open Go.Proofs
theorem parseV (s:List UInt8) (L:List (List UInt8)) (hL:Lines s L) (h0:0<L.length) (hs:s.length<=1000) (hl:L.length<=1000) (hll:∀ i,i<L.length->lL L.reverse i<=1000) :
 (pcE (RL L.reverse) (lL L.reverse) L.length = 0->ToldOk P18 G18 19 [.str s] (.tup [pgV (RL L.reverse) (lL L.reverse) L.length (rvC L) (some L.length),.int .i64 0]))/\(pcE (RL L.reverse) (lL L.reverse) L.length ≠ 0->ToldOk P18 G18 19 [.str s] (.tup [.nils,.int .i64 4])):=by
 have t:=parseL s L hL h0 hs hl (by rw [rvL_eq]; exact hll) (by rw [rvR_eq]; exact fun i j=>rowX_bd _ j)
 rw [rvR_eq,rvL_eq] at t
 constructor
 ·intro e
  rw [if_pos e] at t
  exact t.frz
 ·intro e
  rwa [if_neg e] at t
theorem half2 (s:List UInt8) (hs:s.length<=600):Pz P18 G18 A18 6 [] [2,2,2,2,2,2,2] [1] [.str s] [] .ret [4] [.bool true] []:=by
 obtain ⟨p,hp⟩:=is_val P18 G18 19
 obtain ⟨d1,d2,d3⟩:=scan_le s s.length (Nat.le_refl _)
 have hD:(scan s s.length).1.length<=1000/\∀ i,i<(scan s s.length).1.length->lL (scan s s.length).1 i<=1000:=⟨by omega,fun i hi=>by
  have:=d3 _ (List.getElem_mem hi)
  unfold lL rwL
  rw [List.getD_eq_getElem?_getD,List.getElem?_eq_getElem hi,Option.getD_some]
  omega⟩
 have bad:ToldOk P18 G18 19 [.str s] (.tup [.nils,.int .i64 4])->(s = [] ∨ s.getD (s.length - 1) 0 ≠ 10 ∨ pcE (RL (scan s s.length).1) (lL (scan s s.length).1) (scan s s.length).1.length ≠ 0)->Pz P18 G18 A18 6 [] [2,2,2,2,2,2,2] [1] [.str s] [] .ret [4] [.bool true] []:=fun t h =>
  Pz.seq (by kernel_rfl) (Pz.run hm18 (told_add none_ok (callF_told hp)) (m:=0) (by kernel_rfl) loops0 ((ty16a p s).trans (bift (callF_yes hp t) rfl))) (pre6 s .nils 4 (by omega) ren_nils (bad6 s _ (by omega) hD h))
 rcases lines_or s.length s (Nat.le_refl _) with ⟨L,hL,hLl⟩ | hN
 ·cases L with
  | nil =>
   cases hL
   exact bad parseZ (.inl rfl)
  | cons a L0 =>
   generalize hLL:a :: L0 = L at *
   have hne:L ≠ []:=by rw [← hLL]; simp
   have hpos:0<L.length:=List.length_pos_iff.2 hne
   have sc:=scan_lines hL
   obtain ⟨l1,l2⟩:=last_lines hL hne
   have e1:(scan s s.length).1 = L.reverse:=by rw [sc]
   rw [e1,List.length_reverse] at hD bad
   obtain ⟨v1,v2⟩:=parseV s L hL hpos (by omega) (by omega) hD.2
   by_cases e:pcE (RL L.reverse) (lL L.reverse) L.length = 0
   ·have t:=v1 e
    obtain ⟨i1,i2⟩:=pcE_inv e
    have hx:txtR (RL L.reverse) (lL L.reverse) L.length = s:=by
     rw [txt_lines L fun a ha j hj=>?_]
     ·exact (lines_eq hL).symm
     ·obtain ⟨k,hk,rfl⟩:=List.getElem_of_mem ha
      have q:=(i2 (L.length - 1 - k) (by omega)).2 j
      have er:rwL L.reverse (L.length - 1 - k) = L[k]:=by
       unfold rwL
       rw [List.getD_eq_getElem?_getD,List.getElem?_reverse (by omega),show L.length - 1 - (L.length - 1 - k) = k by omega,List.getElem?_eq_getElem hk]
       rfl
      unfold lL RL at q
      rw [er] at q
      exact q hj
    have g:=good6 s L.reverse (rvC L) (by omega) (by rw [List.length_reverse]; exact hD) (fun i=>by
     by_cases q:i<L.length
     ·exact hD.2 i q
     ·unfold lL rwL
      rw [List.getD_eq_getElem?_getD,List.getElem?_eq_none (by rw [List.length_reverse]; omega)]
      simp) l1 l2 (by rw [List.length_reverse]; exact e) (by rw [List.length_reverse]; exact hx)
    rw [List.length_reverse] at g
    refine Pz.seq (by kernel_rfl) (Pz.run hm18 (told_add none_ok (callF_told hp)) (m:=0) (by kernel_rfl) loops0 ((ty16b p s L.length (RL L.reverse) (lL L.reverse) (rvC L)).trans (bift (callF_yes hp t) rfl))) (pre6 s _ 0 (by omega) (fun σ h=>ren_pgV σ h _ _ _ _ _) ?_)
    rw [e1]
    exact g
   ·exact bad (v2 e) (.inr (.inr e))
 ·exact bad (parseN s hN (by omega)) (.inr (.inl (last_none hN).2))
theorem law6 (D:IR) (hD:D.Ok) (s:List UInt8):ToldOk P18 G18 6 [.agg [.int .u8 D.wd,D.rows none],.str s] (.bool true):=by
 obtain ⟨ok,hr⟩:=D.pic
 obtain ⟨n1,n2,n3⟩:=D.n_bd
 obtain ⟨p13,hp13⟩:=is_val P18 G18 13
 obtain ⟨p19,hp19⟩:=is_val P18 G18 19
 obtain ⟨p20,hp20⟩:=is_val P18 G18 20
 obtain ⟨p16,hp16⟩:=is_val P18 G18 16
 have hw:1<=D.w/\D.w<=10:=by unfold IR.w; omega
 have p0:Pz P18 G18 A18 6 [] [1] [0,1] [.agg [.int .u8 D.wd,D.rows none],.str s] [] .normal [1,2] [.str s,.reg [.int .u8 D.wd,D.rows none]] []:=Pz.run hm18 none_ok (m:=0) (by kernel_rfl) loops0 (ty0 s D)
 by_cases hs:s.length<=600
 ·refine Pz.told (A:=A18) (l1:=[4]) (v1:=[.bool true]) (h1:=[]) hn18 Try.func6 (by kernel_rfl) (by kernel_rfl) (l:=[0,1]) rfl (Pz.seq (by kernel_rfl) p0 (Pz.seq (by kernel_rfl) (Pz.run hm18 none_ok (m:=0) (by kernel_rfl) loops0 ((ty1 s D).trans (biff (by simp; omega) rfl))) ?_)) rfl
  have t13:ToldOk P18 G18 13 [.agg [.int .u8 D.wd,D.rows none]] (pgV D.r (fun _=>D.w) D.n (fun _=>some D.w) none):=OfT D hD
  have hcol:∀ i j,colN D.r i j<=100:=fun i j=>by have:=hr i j; unfold colN; omega
  have hc6:∀ i j,1<=D.r i j/\D.r i j<=6:=fun i j=>by have:=hr i j; omega
  have hok:=pcE_ok ok
  have t20:=textT D.r (fun _=>D.w) D.n (fun _=>some D.w) none n1 (by omega) (fun _=>by omega) (fun _ _=>hw.1) (fun i j=>by have:=hr i j; omega) hok
  have hlen:=txtB_len (colN D.r) (fun _=>D.w) D.n (fun _=>by omega) D.n
  have hL:=lines_txt (colN D.r) (fun _=>D.w) D.n hcol
  generalize hLd:rowsL (colN D.r) (fun _=>D.w) D.n D.n = L at hL
  have hLn:L.length = D.n:=by rw [← hLd]; simp [rowsL]
  have rb:=rows_back D.r D.w D.n hc6
  rw [hLd] at rb
  have hlL:∀ i,i<D.n->lL L.reverse i = D.w:=fun i hi=>(rb i hi).1
  have hRL:∀ i,i<D.n->∀ j,j<D.w->RL L.reverse i j = D.r i j:=fun i hi j hj=>(rb i hi).2 j hj
  have hsz:(txtB (colN D.r) (fun _=>D.w) D.n D.n).length<=1000:=by
   have e:=lines_eq hL
   have:∀ r,r<=D.n->(txtB (colN D.r) (fun _=>D.w) D.n r).length<=r * 11:=by
    intro r
    induction r with
    | zero=>intro _; simp [txtB]
    | succ r ih =>
     intro hr
     have:=ih (by omega)
     simp only [txtB,rowB,List.length_append,List.length_map,List.length_range,List.length_cons,List.length_nil]
     omega
   have:=this D.n (Nat.le_refl _)
   omega
  have hpc:pcE (RL L.reverse) (lL L.reverse) L.length = 0:=by
   rw [hLn]
   refine pcE_ok2 (n:=D.w) hlL (by omega) (by omega) n3 (fun i hi j hj=>by rw [hRL i hi j hj]; exact hc6 i j) fun i hi=>kK_two (a:=D.pA i) (b:=D.pB i) (fun j hj=>rowX_bd _ j) fun j hj=>?_
   rw [hRL i hi j hj]
   unfold IR.r
   split
   ·split
    ·exact .inl rfl
    ·exact .inr rfl
   ·exact .inl rfl
  have t19:=(parseV _ L hL (by omega) hsz (by omega) (fun i hi=>by rw [hlL i (by omega)]; omega)).1 hpc
  rw [hLn] at t19
  have t16:=differGT (RL L.reverse) D.r (lL L.reverse) (fun _=>D.w) D.n D.n (rvC L) (fun _=>some D.w) (some D.n) none (by omega) (fun i _ j _=>rowX_bd _ j) (fun i _ j _=>by have:=hr i j; omega)
  rw [show eqP (RL L.reverse) D.r (lL L.reverse) (fun _=>D.w) D.n D.n = true from (eqP_iff _ _ _ _ _ _).2 ⟨rfl,fun i hi=>⟨hlL i hi,fun j hj=>hRL i hi j (by rw [hlL i hi] at hj; exact hj)⟩⟩,cond_true] at t16
  have p3:=Pz.run hm18 (told_add none_ok (callF_told hp13)) (m:=0) (p:=[1,2,2]) (A:=A18) (f:=6) (h0:=[]) (by kernel_rfl) loops0 ((ty3 p13 s D D.n D.r (fun _=>D.w) (fun _=>some D.w) none).trans (bift (callF_yes hp13 t13) rfl))
  have p4:=Pz.run hm18 none_ok (m:=0) (p:=[1,2,2,2]) (A:=A18) (f:=6) (h0:=[]) (by kernel_rfl) loops0 (ty4 s D.n D.r (fun _=>D.w) (fun _=>some D.w) none)
  have k5:=ty5 s D.n D.r (fun _=>D.w) (fun _=>some D.w) none
  rw [show IntKind.i64.wrap (Int.ofNat D.n - 1) = (D.n:Int) - 1 - (0:Nat) by rw [wr64 (by simp only [Int.ofNat_eq_natCast]; omega) (by simp only [Int.ofNat_eq_natCast]; omega)]; simp] at k5
  have p5:=Pz.run hm18 none_ok (m:=0) (p:=[1,1,2,2,2,2]) (A:=A18) (f:=6) (h0:=[]) (by kernel_rfl) loops0 k5
  have pw:=want6 s D.n D.r (fun _=>D.w) (fun _=>some D.w) none (by omega) (fun _=>by omega) (fun i j=>by have:=hr i j; omega)
  have k13:=(ty13 p19 s (txtR D.r (fun _=>D.w) D.n) D.n D.n D.r (RL L.reverse) (fun _=>D.w) (lL L.reverse) (fun _=>some D.w) (rvC L) none).trans (bift (callF_yes hp19 t19) rfl)
  have k14:=(ty14 p20 p16 s (txtR D.r (fun _=>D.w) D.n) (txtR D.r (fun _=>D.w) D.n) 0 D.n D.n D.r (RL L.reverse) (fun _=>D.w) (lL L.reverse) (fun _=>some D.w) (rvC L) none).trans (bift (callF_yes hp20 t20) (biff (by simp) (bift (callF_yes hp16 t16) (biff (by simp) (biff (by simp) rfl)))))
  have p13:=Pz.run hm18 (told_add none_ok (callF_told hp19)) (m:=0) (p:=[1,2,2,2,2,2]) (A:=A18) (f:=6) (h0:=[]) (by kernel_rfl) loops0 k13
  have p14:=Pz.run hm18 (told_add (told_add none_ok (callF_told hp20)) (callF_told hp16)) (m:=0) (p:=[1,2,2,2,2,2,2]) (A:=A18) (f:=6) (h0:=[]) (by kernel_rfl) loops0 k14
  exact Pz.seq (by kernel_rfl) p3 (Pz.seq (by kernel_rfl) p4 (Pz.seq (by kernel_rfl) (Pz.seq (by kernel_rfl) p5 (Pz.blk (id:=0) (e:=.exit 0) (by kernel_rfl) rfl (Pz.only pw (l2:=[1,5,6]) rfl))) (Pz.seq (by kernel_rfl) p13 (Pz.seq (by kernel_rfl) (Pz.only p14 (l2:=[1]) rfl) (half2 s hs)))))
 ·exact Pz.told (A:=A18) (l1:=[4]) (v1:=[.bool true]) (h1:=[]) hn18 Try.func6 (by kernel_rfl) (by kernel_rfl) (l:=[0,1]) rfl (Pz.seq (by kernel_rfl) p0 (Pz.seqX (by kernel_rfl) (by simp) (Pz.run hm18 none_ok (m:=0) (by kernel_rfl) loops0 ((ty1b s D).trans (bift (by simp; omega) rfl))))) rfl
open Go.Proofs
section
variable {Hp:Type}
theorem cells5_18:P18.cellsOf 5 = 1:=by kernel_rfl
def cI (l:List T):Int:=match l with | [.int _ z]=>z | _=>0
theorem inv5_18 {ts:List T} {d:DataW Hp} (h:CT P18 5 ts d):∃ a:Int,ts = [.int .u8 a]/\0<=a/\a<256:=by
 obtain ⟨a,rfl,rfl,w⟩:=h.int_inv Try.underlying5
 have w:=wf_u8 w
 exact ⟨a,rfl,by omega,by omega⟩
theorem row18 {ts:List T} {d:DataW Hp} (h:CT P18 22 ts d):∃ (r:Nat->Int) (n:Nat),(∀ j,0<=r j/\r j<256)/\∃ x,ts = [x]/\imm0 x = true/\Sim x (rowV r n none):=by
 rcases h.slice_inv Try.underlying22 (by rw [cells5_18]; omega) with ⟨rfl,rfl⟩ | ⟨n,c,g,elems,spare,rfl,rfl,he,hs,hn,hc,hg⟩
 ·exact ⟨fun _=>0,0,fun _=>⟨Int.le_refl 0,(by decide:(0:Int)<256)⟩,_,rfl,rfl,.nilv _ _ (.inl rfl)⟩
 ·have key:∀ j,j<n->∃ a:Int,g j = [.int .u8 a]/\0<=a/\a<256:=fun j hj=>inv5_18 (hg j elems[j] (by simp [show j<elems.length by omega]))
  refine ⟨fun j=>if j<n then cI (g j) else 0,n,fun j=>?_,_,rfl,rfl,?_⟩
  ·dsimp only
   split
   ·rename_i hj
    obtain ⟨a,q,q1,q2⟩:=key j hj
    rw [q]
    exact ⟨q1,q2⟩
   ·omega
  ·rw [cells5_18]
   refine .view (.inr rfl) fun j hj=>?_
   obtain ⟨a,q,_⟩:=key j hj
   show Sims (g j) [.int .u8 (if j<n then cI (g j) else 0)]
   rw [if_pos hj,q]
   exact .refl _
end
open Go.Proofs
section
variable {Hp:Type}
theorem agg31_18:aggTy P18 31 = true:=by kernel_rfl
theorem cells22_18:P18.cellsOf 22 = 1:=by kernel_rfl
theorem rows18 {ts:List T} {d:DataW Hp} (h:CT P18 29 ts d):∃ (m:Nat) (ln:Nat->Nat) (x:Nat->Nat->Int),(∀ i k,0<=x i k/\x i k<256)/\∃ y,ts = [y]/\Sim y (.view 1 m (fun i=>[rowV (x i) (ln i) none]) none):=by
 rcases h.slice_inv Try.underlying29 (by rw [cells22_18]; omega) with ⟨rfl,rfl⟩ | ⟨n,c,g,elems,spare,rfl,rfl,he,hs,hn,hc,hg⟩
 ·exact ⟨0,fun _=>0,fun _ _=>0,fun _ _=>⟨Int.le_refl 0,(by decide:(0:Int)<256)⟩,_,rfl,.nilv _ _ (.inl rfl)⟩
 ·have key:∀ j,∃ (r:Nat->Int) (l:Nat),(∀ k,0<=r k/\r k<256)/\(j<n->∃ x,g j = [x]/\Sim x (rowV r l none)):=fun j=>by
   by_cases hj:j<n
   ·obtain ⟨r,l,h1,x,h2,_,h3⟩:=row18 (hg j elems[j] (by simp [show j<elems.length by omega]))
    exact ⟨r,l,h1,fun _=>⟨x,h2,h3⟩⟩
   ·exact ⟨fun _=>0,0,fun _=>⟨Int.le_refl 0,(by decide:(0:Int)<256)⟩,fun h=>absurd h hj⟩
  refine ⟨n,fun j=>(key j).choose_spec.choose,fun j=>(key j).choose,fun i=>(key i).choose_spec.choose_spec.1,_,rfl,?_⟩
  ·rw [cells22_18]
   refine .view (.inr rfl) fun j hj=>?_
   obtain ⟨x,h2,h3⟩:=(key j).choose_spec.choose_spec.2 hj
   rw [h2]
   exact .cons h3 .nil
theorem inv31_18 {ts:List T} {d:DataW Hp} (h:CT P18 31 ts d):∃ D:IR,D.Ok/\Sim (topT P18 31 ts) (.agg [.int .u8 D.wd,D.rows none]):=by
 obtain ⟨parts,ds,rfl,rfl,hs⟩:=CT.struct_inv Try.underlying31 h; clear h; rename _=>h
 change CTs P18 [5,29] parts ds at h
 obtain ⟨p1,_,d1,_,rfl,rfl,h1,h⟩:=h.cons
 obtain ⟨p2,_,d2,_,rfl,rfl,h2,h⟩:=h.cons
 obtain ⟨rfl,rfl⟩:=h.nil
 obtain ⟨a,rfl,a1,a2⟩:=inv5_18 h1
 obtain ⟨m,ln,x,b2,y,rfl,b3⟩:=rows18 h2
 refine ⟨⟨a,m,ln,x⟩,⟨⟨a1,a2⟩,b2⟩,?_⟩
 rw [show topT P18 31 ([[T.int .u8 a],[y]].flatten) = .agg [.int .u8 a,y] by simp [topT,agg31_18]]
 exact .agg (.cons (.refl _) (.cons b3 .nil))
end
end Go.Ab

