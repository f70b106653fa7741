/- A part of the proof: nothing is assumed. -/
import Derived.Test.YtlaganadekpcjaaP3
set_option linter.all false
namespace Go.Ab
theorem biff {R:Type} {c:Bool} {x y r:R} (hc:¬ c = true) (h1:y = r):(bif c then x else y) = r:=by cases c; exact h1; exact absurd rfl hc
theorem nbeq {a b:Nat}:((a==b) = true) = (a = b):=by simp
theorem nblt {a b:Nat}:(Nat.blt a b = true) = (a<b):=by simp [Nat.blt_eq]
theorem nble {a b:Nat}:(Nat.ble a b = true) = (a<=b):=by simp [Nat.ble_eq]
theorem ofNatE (n:Nat):Int.ofNat n = (n:Int):=rfl
theorem toNatE (n:Nat):(n:Int).toNat = n:=rfl
theorem toNatE1 (n:Nat):((n:Int)+1).toNat = n+1:=rfl
section
variable {P:Program} {Gl:Nat->Option (List T)}
def Step (P:Program) (Gl:Nat->Option (List T)) (an:Ann) (f r k:Nat) (vs:List T) (h:Heap) (vs':List T) (h':Heap):Prop :=
 ∃ v1 h1,Rnd P Gl an f r vs h .normal v1 h1/\∀ nt,WeakTo Gl an.prom nt (an.live r false) k v1 h1 vs' h'
def Last (P:Program) (Gl:Nat->Option (List T)) (an:Ann) (f r k:Nat) (vs:List T) (h:Heap) (e:Ex) (vs':List T) (h':Heap):Prop :=
 e ≠ .normal/\∃ v1 h1,Rnd P Gl an f r vs h e v1 h1/\∀ nt,WeakTo Gl an.prom nt (an.live r true) k v1 h1 vs' h'
theorem weak_mk {prom:List Nat} {nt:Nat} {l:List Nat} {k:Nat} {vs:List T} {h1 h':Heap} (mm:Nat) (hk:k<=mm) (ht:trimOk mm vs h1 = true) (hs:SameBlks (h1.take mm) h'):WeakTo Gl prom nt l k vs h1 vs h' :=
 .trans (.takeM hk ht) (.same hs)
theorem Step.mk {an:Ann} {A:FuncId->Ann} {K:Orc} {f r m k:Nat} {l:List (Nat × (List T->Heap->LT))} {vs vs':List T} {h h1 h':Heap} (hK:OrcOk P Gl K) (hp:(A f).prom = an.prom) (hl:(A f).live r = an.live r) (hL:∀ p ∈ l,LoopOk P Gl (A f) f p.1 p.2)
 (mm:Nat) (hk:k<=mm) (hr:iterR P Gl A K m f l r vs h = some (.normal,vs',h1)) (ht:trimOk mm vs' h1 = true) (hs:SameBlks (h1.take mm) h'):Step P Gl an f r k vs h vs' h' :=
 ⟨vs',h1,⟨A,K,m,l,hK,hp,hl,hL,hr⟩,fun _=>weak_mk mm hk ht hs⟩
theorem Step.mk0 {an:Ann} {A:FuncId->Ann} {K:Orc} {f r m k:Nat} {l:List (Nat × (List T->Heap->LT))} {vs vs':List T} {h h1 h':Heap} (hK:OrcOk P Gl K) (hp:(A f).prom = an.prom) (hl:(A f).live r = an.live r) (hL:∀ p ∈ l,LoopOk P Gl (A f) f p.1 p.2)
 (hr:iterR P Gl A K m f l r vs h = some (.normal,vs',h1)) (hs:SameBlks h1 h'):Step P Gl an f r k vs h vs' h' :=
 ⟨vs',h1,⟨A,K,m,l,hK,hp,hl,hL,hr⟩,fun _=>.same hs⟩
theorem Last.mk0 {an:Ann} {A:FuncId->Ann} {K:Orc} {f r m k:Nat} {l:List (Nat × (List T->Heap->LT))} {vs vs':List T} {h h1 h':Heap} {e:Ex} (hK:OrcOk P Gl K) (hp:(A f).prom = an.prom) (hl:(A f).live r = an.live r) (hL:∀ p ∈ l,LoopOk P Gl (A f) f p.1 p.2)
 (he:e ≠ .normal) (hr:iterR P Gl A K m f l r vs h = some (e,vs',h1)) (hs:SameBlks h1 h'):Last P Gl an f r k vs h e vs' h' :=
 ⟨he,vs',h1,⟨A,K,m,l,hK,hp,hl,hL,hr⟩,fun _=>.same hs⟩
theorem Last.mk {an:Ann} {A:FuncId->Ann} {K:Orc} {f r m k:Nat} {l:List (Nat × (List T->Heap->LT))} {vs vs':List T} {h h1 h':Heap} {e:Ex} (hK:OrcOk P Gl K) (hp:(A f).prom = an.prom) (hl:(A f).live r = an.live r) (hL:∀ p ∈ l,LoopOk P Gl (A f) f p.1 p.2)
 (he:e ≠ .normal) (mm:Nat) (hk:k<=mm) (hr:iterR P Gl A K m f l r vs h = some (e,vs',h1)) (ht:trimOk mm vs' h1 = true) (hs:SameBlks (h1.take mm) h'):Last P Gl an f r k vs h e vs' h' :=
 ⟨he,vs',h1,⟨A,K,m,l,hK,hp,hl,hL,hr⟩,fun _=>weak_mk mm hk ht hs⟩
theorem loop_steps (hm:P.follows .mixedOrders = true) {f r:Nat} (ha:loopAt P f r = true) {an:Ann} (vs:Nat->List T) (hh:Nat->Heap) {n:Nat} {e1:Ex} {vs1:List T} {h1:Heap}
 (round:∀ i,i<n->Step P Gl an f r (hh 0).length (vs i) (hh i) (vs (i+1)) (hh (i+1))) (last:Last P Gl an f r (hh 0).length (vs n) (hh n) e1 vs1 h1):LoopOk P Gl an f r (litS (vs 0) (hh 0) e1 vs1 h1) :=
 .lit fun fn hf hnt=>loop_seq hm ha hf hnt vs hh (n:=n) (fun i hi=>by
  obtain ⟨v1,h1,q1,q2⟩:=round i hi
  exact ⟨v1,h1,q1,q2 _⟩) (by
  obtain ⟨he,v1,h1,q1,q2⟩:=last
  exact ⟨he,v1,h1,q1,q2 _⟩)
theorem loops0 {an:Ann} {f:Nat}:∀ p ∈ ([]:List (Nat × (List T->Heap->LT))),LoopOk P Gl an f p.1 p.2:=fun p hp=>by cases hp
end
theorem getD_app_l {α:Type} {d x:α} {l:List α} {j:Nat} (q:j<l.length):(l ++ [x]).getD j d = l.getD j d:=by
 rw [List.getD_eq_getElem?_getD,List.getD_eq_getElem?_getD,List.getElem?_append_left q]
theorem getD_app_r {α:Type} {d x:α} {l:List α}:(l ++ [x]).getD l.length d = x:=by
 rw [List.getD_eq_getElem?_getD,List.getElem?_append_right (Nat.le_refl _),Nat.sub_self]; rfl
end Go.Ab

