/- A part of the proof: nothing is assumed. -/
import Derived.Test.YteoamlekamflbaaP4
set_option linter.all false
namespace Go.Ab
theorem exTr {R:Type} {c:Bool} {x y:Option R} {P:R->Prop} (hc:c = true) (h:∃ q,x = some q/\P q):∃ q,(bif c then x else y) = some q/\P q:=by rw [hc]; exact h
theorem exFa {R:Type} {c:Bool} {x y:Option R} {P:R->Prop} (hc:¬ c = true) (h:∃ q,y = some q/\P q):∃ q,(bif c then x else y) = some q/\P q:=by
 rw [Bool.not_eq_true] at hc
 rw [hc]; exact h
theorem exTr2 {R S:Type} {c:Bool} {x y:Option (R × S)} {r:R} {P:S->Prop} (hc:c = true) (h:∃ q,x = some (r,q)/\P q):∃ q,(bif c then x else y) = some (r,q)/\P q:=by rw [hc]; exact h
theorem exFa2 {R S:Type} {c:Bool} {x y:Option (R × S)} {r:R} {P:S->Prop} (hc:¬ c = true) (h:∃ q,y = some (r,q)/\P q):∃ q,(bif c then x else y) = some (r,q)/\P q:=by
 rw [Bool.not_eq_true] at hc
 rw [hc]; exact h
theorem by_tree {R:Type} {x t:Option R} {G:Prop} (ht:x = t) (h:∃ q,t = some q/\(x = some q->G)):G:=by
 obtain ⟨q,h1,h2⟩:=h
 exact h2 (ht.trans h1)
theorem one_of {j:Nat} (h:j<1):j = 0:=by omega
theorem WeakTo.canonS {Gl:Nat->Option (List T)} {prom:List Nat} {nt:Nat} {l:List Nat} {k:Nat} {vs vs':List T} {h h2 h':Heap} (σ:List Nat) (ho:orderOkC k σ h = true) (hv:vs.map (ren σ h) = vs') (hh:renH σ h = h2) (hs:SameBlks h2 h'):WeakTo Gl prom nt l k vs h vs' h' :=
 .trans (.canon σ ho) (by rw [hv,hh]; exact .same hs)
section
variable {P:Program} {Gl:Nat->Option (List T)}
noncomputable def decF (q:Prop):Bool:=@decide q (Classical.propDecidable _)
theorem decF_iff {q:Prop}:decF q = true ↔ q:=by simp [decF]
noncomputable def callF (p:List T->T->Prop) (F:List T->Option T) (args:List T):Tree:=match F args with
 | some r=>.ite (decF (p args r)) (.ret r) .none
 | none=>.none
theorem callF_told {f:FuncId} {p:List T->T->Prop} {F:List T->Option T} (hp:p = ToldOk P Gl f):∀ args r,(callF p F args).run some = some r->ToldOk P Gl f args r:=by
 intro args r hr
 unfold callF at hr
 split at hr
 ·simp only [Tree.run] at hr
  obtain ⟨hc,hr⟩:=bif_none hr
  obtain rfl:=Option.some.inj hr
  have:=decF_iff.1 hc
  rw [hp] at this
  exact this
 ·cases hr
theorem callF_yes {f:FuncId} {p:List T->T->Prop} (hp:p = ToldOk P Gl f) {a:List T} {r:T} (t:ToldOk P Gl f a r):decF (p a r) = true:=decF_iff.2 (by rw [hp]; exact t)
noncomputable def refF (p:List T->Heap->T->Heap->Prop) (F:List T->Heap->Option (T × Heap)) (args:List T) (h:Heap):HTree:=match F args h with
 | some (r,h')=>.ite (decF (p args h r h')) (.ret r h') .none
 | none=>.none
theorem refF_told {f:FuncId} {p:List T->Heap->T->Heap->Prop} {F:List T->Heap->Option (T × Heap)} (hp:p = ToldRef P Gl f):∀ args h r h',(refF p F args h).run (fun v h=>some (v,h)) = some (r,h')->ToldRef P Gl f args h r h':=by
 intro args h r h' hr
 unfold refF at hr
 split at hr
 ·simp only [HTree.run] at hr
  obtain ⟨hc,hr⟩:=bif_none hr
  simp only [Option.some.injEq,Prod.mk.injEq] at hr
  obtain ⟨rfl,rfl⟩:=hr
  have:=decF_iff.1 hc
  rw [hp] at this
  exact this
 ·cases hr
theorem refF_yes {f:FuncId} {p:List T->Heap->T->Heap->Prop} (hp:p = ToldRef P Gl f) {a:List T} {h:Heap} {r:T} {h':Heap} (t:ToldRef P Gl f a h r h'):decF (p a h r h') = true:=decF_iff.2 (by rw [hp]; exact t)
theorem is_ref (P:Program) (Gl:Nat->Option (List T)) (f:FuncId):∃ p:List T->Heap->T->Heap->Prop,p = ToldRef P Gl f:=⟨_,rfl⟩
theorem is_val (P:Program) (Gl:Nat->Option (List T)) (f:FuncId):∃ p:List T->T->Prop,p = ToldOk P Gl f:=⟨_,rfl⟩
end
section
variable {P:Program} {Gl:Nat->Option (List T)}
noncomputable def loopF (q:List T->Heap->Ex->List T->Heap->Prop):LT->List T->Heap->LT
 | .none,_,_=>.none
 | .ret e vs' h',vs,h=>.ite (decF (q vs h e vs' h')) (.ret e vs' h') .none
 | .ite c x y,vs,h=>.ite c (loopF q x vs h) (loopF q y vs h)
theorem is_loop (P:Program) (Gl:Nat->Option (List T)) (an:Ann) (f r:Nat):∃ q:List T->Heap->Ex->List T->Heap->Prop,q = fun vs h e vs' h'=>LoopOk P Gl an f r (litS vs h e vs' h'):=⟨_,rfl⟩
theorem loopF_ok {an:Ann} {f r:Nat} {q:List T->Heap->Ex->List T->Heap->Prop} (hq:q = fun vs h e vs' h'=>LoopOk P Gl an f r (litS vs h e vs' h')):∀ t:LT,LoopOk P Gl an f r (loopF q t)
 | .none,fn,hf,hnt,vs,h,e,vs',h',hk=>by cases hk
 | .ret e1 v1 h1,fn,hf,hnt,vs,h,e,vs',h',hk=>by
  simp only [loopF,LT.run] at hk
  obtain ⟨hc,hk⟩:=bif_none hk
  simp only [Option.some.injEq,Prod.mk.injEq] at hk
  obtain ⟨rfl,rfl,rfl⟩:=hk
  have:=decF_iff.1 hc
  rw [hq] at this
  refine this fn hf hnt vs h e1 v1 h1 ?_
  unfold litS
  simp only [LT.run]
  rw [weakF_of ⟨rfl,.refl _⟩]
  rfl
 | .ite c x y,fn,hf,hnt,vs,h,e,vs',h',hk=>by
  simp only [loopF,LT.run] at hk
  cases c
  ·exact loopF_ok hq y fn hf hnt vs h e vs' h' hk
  ·exact loopF_ok hq x fn hf hnt vs h e vs' h' hk
theorem loopF_yes {an:Ann} {f r:Nat} {q:List T->Heap->Ex->List T->Heap->Prop} (hq:q = fun vs h e vs' h'=>LoopOk P Gl an f r (litS vs h e vs' h')) {vs vs1:List T} {h h1:Heap} {e:Ex} (l:LoopOk P Gl an f r (litS vs h e vs1 h1)):decF (q vs h e vs1 h1) = true:=decF_iff.2 (by rw [hq]; exact l)
def allB (g:Nat->Bool):Nat->Bool
 | 0=>true
 | n+1=>allB g n&&g n
theorem allB_iff (g:Nat->Bool):∀ n,allB g n = true ↔ ∀ i,i<n->g i = true
 | 0=>⟨fun _ i h=>by omega,fun _=>rfl⟩
 | n+1=>by
  have ih:=allB_iff g n
  unfold allB
  rw [Bool.and_eq_true,ih]
  constructor
  ·intro ⟨h1,h2⟩ i hi
   by_cases e:i = n
   ·rw [e]; exact h2
   ·exact h1 i (by omega)
  ·exact fun h=>⟨fun i hi=>h i (by omega),h n (by omega)⟩
theorem first_badB (p:Nat->Bool) (n:Nat):allB p n = true ∨ ∃ I,I<n/\p I = false/\∀ i,i<I->p i = true:=by
 induction n with
 | zero=>exact .inl rfl
 | succ n ih =>
  rcases ih with h | ⟨I,h1,h2,h3⟩
  ·cases q:p n
   ·exact .inr ⟨n,by omega,q,(allB_iff p n).1 h⟩
   ·exact .inl (by unfold allB; rw [h,q]; rfl)
  ·exact .inr ⟨I,by omega,h2,h3⟩
theorem allB_congr {p q:Nat->Bool} {n:Nat} (h:∀ i,i<n->p i = q i):allB p n = allB q n:=by
 induction n with
 | zero=>rfl
 | succ n ih=>unfold allB; rw [ih fun i hi=>h i (by omega),h n (by omega)]
theorem loop_scan (hm:P.follows .mixedOrders = true) {f r:Nat} (ha:loopAt P f r = true) {an:Ann} (vs:Nat->List T) (hh:Nat->Heap) (good:Nat->Bool) {n:Nat} {e1 e2:Ex} {v1 v2:List T} {h1 h2:Heap}
 (step:∀ i,i<n->(∀ j,j<i->good j = true)->good i = true->Step P Gl an f r (hh 0).length (vs i) (hh i) (vs (i+1)) (hh (i+1)))
 (bad:∀ i,i<n->(∀ j,j<i->good j = true)->good i = false->Last P Gl an f r (hh 0).length (vs i) (hh i) e2 v2 h2)
 (last:(∀ i,i<n->good i = true)->Last P Gl an f r (hh 0).length (vs n) (hh n) e1 v1 h1) :
 (allB good n = true->LoopOk P Gl an f r (litS (vs 0) (hh 0) e1 v1 h1))/\(allB good n = false->LoopOk P Gl an f r (litS (vs 0) (hh 0) e2 v2 h2)):=by
 constructor
 ·intro h
  have h:=(allB_iff good n).1 h
  exact loop_steps hm ha vs hh (n:=n) (fun i hi=>step i hi (fun j hj=>h j (by omega)) (h i hi)) (last h)
 ·intro h
  rcases first_badB good n with q | ⟨I,hI,hb,hlt⟩
  ·rw [q] at h; cases h
  ·exact loop_steps hm ha vs hh (n:=I) (fun i hi=>step i (by omega) (fun j hj=>hlt j (by omega)) (hlt i hi)) (bad I hI hlt hb)
end
section
variable {P:Program} {Gl:Nat->Option (List T)}
theorem callF_y {f:FuncId} {p:List T->T->Prop} (hp:p = ToldOk P Gl f) {a:List T} {r:T} (t:ToldOk P Gl f a r):p a r:=by rw [hp]; exact t
theorem refF_y {f:FuncId} {p:List T->Heap->T->Heap->Prop} (hp:p = ToldRef P Gl f) {a:List T} {h:Heap} {r:T} {h':Heap} (t:ToldRef P Gl f a h r h'):p a h r h':=by rw [hp]; exact t
theorem loopF_y {an:Ann} {f r:Nat} {q:List T->Heap->Ex->List T->Heap->Prop} (hq:q = fun vs h e vs' h'=>LoopOk P Gl an f r (litS vs h e vs' h')) {vs vs1:List T} {h h1:Heap} {e:Ex} (l:LoopOk P Gl an f r (litS vs h e vs1 h1)):q vs h e vs1 h1:=by rw [hq]; exact l
end
theorem BS {R:Type} {c:Bool} {x y r:R} (h1:x = r) (hc:c = true:=by
 first
 | (with_reducible refine decF_iff.2 ?_); first | exact callF_y (by assumption) (by assumption) | exact loopF_y (by assumption) (by assumption) | exact refF_y (by assumption) (by assumption)
 | (with_reducible refine weakF_of ?_); exact ⟨rfl,.refl _⟩
 | with_reducible assumption
 | omega
 | (simp (disch:=omega) only [numsE,List.length_cons,List.length_nil,Nat.reduceAdd]; done)
 | (simp (disch:=omega) only [numsE,List.length_cons,List.length_nil,Nat.reduceAdd]; omega)):(bif c then x else y) = r:=bift hc h1
theorem num1 {i h:Nat} (hi:i<h) (hh:h<=100000):IntKind.i64.wrap ((i:Int)+1) = ((i+1:Nat):Int):=by rw [wr64 (by omega) (by omega)]; omega
theorem up1 {i:Nat} (h:i<=1000000):IntKind.i64.wrap (Int.ofNat i+1) = Int.ofNat (i+1):=by rw [wr64 (by show (-9223372036854775808:Int)<=(i:Int)+1; omega) (by show (i:Int)+1<=9223372036854775807; omega)]; rfl
end Go.Ab

