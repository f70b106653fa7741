/- A part of the proof: nothing is assumed. -/
import Derived.Test.YteoamlekamflbaaP6
import Derived.Test.YteoamlekamflbaaP14
set_option linter.all false
namespace Go.Ab
inductive SimSL:List T->List T->Prop
 | nil:SimSL [] []
 | cons {x y:T} {l m:List T} (h:SimS x y) (t:SimSL l m):SimSL (x :: l) (y :: m)
theorem SimSL.refl:∀ l,SimSL l l
 | []=>.nil
 | x :: l=>.cons (.refl x) (.refl l)
theorem SimSL.len {l m:List T} (h:SimSL l m):l.length = m.length:=by
 induction h with
 | nil=>rfl
 | cons _ _ ih=>simp [ih]
theorem SimSL.get {l m:List T} (h:SimSL l m):∀ (i:Nat) x y,l[i]? = some x->m[i]? = some y->SimS x y:=by
 induction h with
 | nil=>intro i x y hx; simp at hx
 | cons h _ ih =>
  intro i x y hx hy
  cases i with
  | zero =>
   obtain rfl:_ = x:=by simpa using hx
   obtain rfl:_ = y:=by simpa using hy
   exact h
  | succ i=>exact ih i x y (by simpa using hx) (by simpa using hy)
theorem WeakTo.sl {Gl:Nat->Option (List T)} {prom:List Nat} {nt:Nat} {l:List Nat} {k:Nat} {vs vs2:List T} {h h2:Heap} (hv:SimSL vs vs2) (hb:SimBlks h h2):WeakTo Gl prom nt l k vs h vs2 h2:=.simAll hv.len hv.get hb
theorem SimBlks.refl (h:Heap):SimBlks h h:=⟨rfl,fun i b b2 h1 h2=>by
 obtain rfl:=Option.some.inj (h1.symm.trans h2)
 exact ⟨rfl,rfl,rfl,rfl,.inl,fun _ _=>.refl _,fun _ _ _=>rfl⟩⟩
theorem WeakTo.slS {Gl:Nat->Option (List T)} {prom:List Nat} {nt:Nat} {l:List Nat} {k:Nat} {vs vs2:List T} {h h2:Heap} (hv:SimSL vs vs2) (hs:SameBlks h h2):WeakTo Gl prom nt l k vs h vs2 h2:=.trans (.sl hv (.refl h)) (.same hs)
theorem SimS.view {sz n:Nat} {g g':Nat->List T} {c c':Option Nat} (hc:c' = c ∨ c' = none) (hg:∀ j,j<n->Sims (g j) (g' j)):SimS (.view sz n g c) (.view sz n g' c'):=.inl (.inr ⟨rfl,.view hc hg,rfl⟩)
theorem SimS.nilv (sz:Nat) (g:Nat->List T) {cap:Option Nat} (hc:cap = none ∨ cap = some 0):SimS .nils (.view sz 0 g cap):=.inl (.inr ⟨rfl,.nilv sz g hc,rfl⟩)
inductive NilSL (H:Heap) (lo:Nat):List T->List T->Prop
 | nil:NilSL H lo [] []
 | cons {x y:T} {l m:List T} (h:NilS H lo x y) (t:NilSL H lo l m):NilSL H lo (x :: l) (y :: m)
theorem NilSL.len {H:Heap} {lo:Nat} {l m:List T} (h:NilSL H lo l m):l.length = m.length:=by
 induction h with
 | nil=>rfl
 | cons _ _ ih=>simp [ih]
theorem NilSL.get {H:Heap} {lo:Nat} {l m:List T} (h:NilSL H lo l m):∀ (i:Nat) x y,l[i]? = some x->m[i]? = some y->NilS H lo x y:=by
 induction h with
 | nil=>intro i x y hx; simp at hx
 | cons h _ ih =>
  intro i x y hx hy
  cases i with
  | zero =>
   obtain rfl:_ = x:=by simpa using hx
   obtain rfl:_ = y:=by simpa using hy
   exact h
  | succ i=>exact ih i x y (by simpa using hx) (by simpa using hy)
theorem WeakTo.gh {Gl:Nat->Option (List T)} {prom:List Nat} {nt:Nat} {l:List Nat} {k:Nat} {vs vs2:List T} {h h2:Heap} (bs:Heap) (hbs:∀ b,b ∈ bs->b.n = 0/\b.mp = none) (hv:NilSL h2 h.length vs vs2) (hb:NilBs h2 h.length (h ++ bs) h2):WeakTo Gl prom nt l k vs h vs2 h2:=.ghost bs hbs hv.len hv.get hb
end Go.Ab

