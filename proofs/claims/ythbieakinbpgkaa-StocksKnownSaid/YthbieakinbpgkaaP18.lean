/- A part of the proof: nothing is assumed. -/
import Derived.Test.YthbieakinbpgkaaP4
import Derived.Test.YthbieakinbpgkaaP10
set_option linter.all false
namespace Go.Ab
theorem ET {R:Type} {c:Bool} {x y:Option R} {P:R->Prop} (h:∃ q,x = some q/\P q) (hc:c = true:=by
 first
 | (with_reducible refine decF_iff.2 ?_); first | exact callF_y (by assumption) (by assumption) | exact loopF_y (by assumption) (by assumption) | exact refF_y (by assumption) (by assumption)
 | (with_reducible refine weakF_of ?_); exact ⟨rfl,.refl _⟩
 | with_reducible assumption
 | omega
 | (simp (disch:=omega) only [numsE,List.length_cons,List.length_nil,Nat.reduceAdd]; done)
 | (simp (disch:=omega) only [numsE,List.length_cons,List.length_nil,Nat.reduceAdd]; omega)):∃ q,(bif c then x else y) = some q/\P q:=exTr hc h
theorem EF {R:Type} {c:Bool} {x y:Option R} {P:R->Prop} (h:∃ q,y = some q/\P q) (hc:¬ c = true:=by first | with_reducible assumption | (simp (disch:=omega) only [numsE,List.length_cons,List.length_nil,Nat.reduceAdd]; done) | (simp (disch:=omega) only [numsE,List.length_cons,List.length_nil,Nat.reduceAdd]; omega) | (simp; done) | fail):∃ q,(bif c then x else y) = some q/\P q:=exFa hc h
theorem bleD0 (a b:Nat):Nat.ble a b = decide (a<=b):=by
 by_cases h:a<=b
 ·rw [Nat.ble_eq_true_of_le h,decide_eq_true h]
 ·rw [decide_eq_false h,← Bool.not_eq_true,Nat.ble_eq]; exact h
theorem bltD0 (a b:Nat):Nat.blt a b = decide (a<b):=bleD0 (a+1) b
inductive SimSL:List T->List T->Prop
 | nil:SimSL [] []
 | cons {x y:T} {l m:List T} (h:SimS x y) (t:SimSL l m):SimSL (x :: l) (y :: m)
theorem SimSL.refl:∀ l,SimSL l l
 | []=>.nil
 | x :: l=>.cons (.refl x) (.refl l)
theorem SimSL.len {l m:List T} (h:SimSL l m):l.length = m.length:=by
 induction h with
 | nil=>rfl
 | cons _ _ ih=>simp [ih]
theorem SimSL.get {l m:List T} (h:SimSL l m):∀ (i:Nat) x y,l[i]? = some x->m[i]? = some y->SimS x y:=by
 induction h with
 | nil=>intro i x y hx; simp at hx
 | cons h _ ih =>
  intro i x y hx hy
  cases i with
  | zero =>
   obtain rfl:_ = x:=by simpa using hx
   obtain rfl:_ = y:=by simpa using hy
   exact h
  | succ i=>exact ih i x y (by simpa using hx) (by simpa using hy)
theorem WeakTo.sl {Gl:Nat->Option (List T)} {prom:List Nat} {nt:Nat} {l:List Nat} {k:Nat} {vs vs2:List T} {h h2:Heap} (hv:SimSL vs vs2) (hb:SimBlks h h2):WeakTo Gl prom nt l k vs h vs2 h2:=.simAll hv.len hv.get hb
theorem SimBlks.refl (h:Heap):SimBlks h h:=⟨rfl,fun i b b2 h1 h2=>by
 obtain rfl:=Option.some.inj (h1.symm.trans h2)
 exact ⟨rfl,rfl,rfl,rfl,.inl,fun _ _=>.refl _,fun _ _ _=>rfl⟩⟩
theorem WeakTo.slS {Gl:Nat->Option (List T)} {prom:List Nat} {nt:Nat} {l:List Nat} {k:Nat} {vs vs2:List T} {h h2:Heap} (hv:SimSL vs vs2) (hs:SameBlks h h2):WeakTo Gl prom nt l k vs h vs2 h2:=.trans (.sl hv (.refl h)) (.same hs)
theorem SimS.view {sz n:Nat} {g g':Nat->List T} {c c':Option Nat} (hc:c' = c ∨ c' = none) (hg:∀ j,j<n->Sims (g j) (g' j)):SimS (.view sz n g c) (.view sz n g' c'):=.inl (.inr ⟨rfl,.view hc hg,rfl⟩)
theorem SimS.nilv (sz:Nat) (g:Nat->List T) {cap:Option Nat} (hc:cap = none ∨ cap = some 0):SimS .nils (.view sz 0 g cap):=.inl (.inr ⟨rfl,.nilv sz g hc,rfl⟩)
inductive NilSL (H:Heap) (lo:Nat):List T->List T->Prop
 | nil:NilSL H lo [] []
 | cons {x y:T} {l m:List T} (h:NilS H lo x y) (t:NilSL H lo l m):NilSL H lo (x :: l) (y :: m)
theorem NilSL.len {H:Heap} {lo:Nat} {l m:List T} (h:NilSL H lo l m):l.length = m.length:=by
 induction h with
 | nil=>rfl
 | cons _ _ ih=>simp [ih]
theorem NilSL.get {H:Heap} {lo:Nat} {l m:List T} (h:NilSL H lo l m):∀ (i:Nat) x y,l[i]? = some x->m[i]? = some y->NilS H lo x y:=by
 induction h with
 | nil=>intro i x y hx; simp at hx
 | cons h _ ih =>
  intro i x y hx hy
  cases i with
  | zero =>
   obtain rfl:_ = x:=by simpa using hx
   obtain rfl:_ = y:=by simpa using hy
   exact h
  | succ i=>exact ih i x y (by simpa using hx) (by simpa using hy)
theorem WeakTo.gh {Gl:Nat->Option (List T)} {prom:List Nat} {nt:Nat} {l:List Nat} {k:Nat} {vs vs2:List T} {h h2:Heap} (bs:Heap) (hbs:∀ b,b ∈ bs->b.n = 0/\b.mp = none) (hv:NilSL h2 h.length vs vs2) (hb:NilBs h2 h.length (h ++ bs) h2):WeakTo Gl prom nt l k vs h vs2 h2:=.ghost bs hbs hv.len hv.get hb
end Go.Ab

