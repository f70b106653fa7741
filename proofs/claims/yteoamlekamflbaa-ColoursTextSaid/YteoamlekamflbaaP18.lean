/- A part of the proof: nothing is assumed. -/
import Derived.Test.YteoamlekamflbaaP16
set_option linter.all false
namespace Go.Ab
def CapS (h:Heap) (x y:T):Prop:=x = y ∨ ∃ i ver off n m,(∀ b,h[i]? = some b->b.n<=off+m)/\x = .own i ver off n (some m)/\y = .own i ver off n none
theorem CapS.refl {h:Heap} (x:T):CapS h x x:=.inl rfl
theorem CapS.own {h:Heap} {i ver off n m:Nat} {b:Blk} (hb:h[i]? = some b) (hm:b.n<=off+m):CapS h (.own i ver off n (some m)) (.own i ver off n none):=.inr ⟨i,ver,off,n,m,fun c hc=>by rw [hb] at hc; cases hc; exact hm,rfl,rfl⟩
theorem VR.capS {w:World} {U:Nat->Prop} {φ:Nat->Option (Nat × Nat)} {h:Heap} {x y:T} {v:Value} (hs:CapS h x y) (hx:VR w U φ h x v):VR w U φ h y v:=by
 rcases hs with rfl | ⟨i,ver,off,n,c,hm,rfl,rfl⟩
 ·exact hx
 ·cases hx with
  | imm _ _ hv=>cases hv
  | own _ _ _ _ _ b _ hb hver h1 hok =>
   refine .own _ _ _ _ _ b _ hb hver h1 fun e=>?_
   rcases hok e with q | q
   ·obtain ⟨cb,sh,c,ad,q1,q2,q3,q4,q5,q6,q7,q8,_⟩:=q
    exact .inl ⟨cb,sh,c,ad,q1,q2,q3,q4,q5,fun m hm=>(by cases hm),q7,q8,fun _=>by have:=hm b hb; have:=(q6 _ rfl).1; omega⟩
   ·obtain ⟨q1,q2,q3,q4,q5,q6⟩:=q
    exact .inr ⟨q1,q2,q3,q4,fun m hm=>(by cases hm),q6⟩
inductive CapSL (H:Heap):List T->List T->Prop
 | nil:CapSL H [] []
 | cons {x y:T} {l m:List T} (h:CapS H x y) (t:CapSL H l m):CapSL H (x :: l) (y :: m)
theorem CapSL.refl {H:Heap}:∀ l,CapSL H l l
 | []=>.nil
 | x :: l=>.cons (.refl x) (.refl l)
theorem CapSL.len {H:Heap} {l m:List T} (h:CapSL H l m):l.length = m.length:=by
 induction h with
 | nil=>rfl
 | cons _ _ ih=>simp [ih]
theorem CapSL.get {H:Heap} {l m:List T} (h:CapSL H l m):∀ (i:Nat) x y,l[i]? = some x->m[i]? = some y->CapS H x y:=by
 induction h with
 | nil=>intro i x y hx; simp at hx
 | cons h _ ih =>
  intro i x y hx hy
  cases i with
  | zero =>
   obtain rfl:_ = x:=by simpa using hx
   obtain rfl:_ = y:=by simpa using hy
   exact h
  | succ i=>exact ih i x y (by simpa using hx) (by simpa using hy)
theorem WeakTo.cap {Gl:Nat->Option (List T)} {prom:List Nat} {nt:Nat} {l:List Nat} {k:Nat} {vs vs2:List T} {h:Heap} (hv:CapSL h vs vs2):WeakTo Gl prom nt l k vs h vs2 h:=by
 intro g a w g0 h0 w0 _ _ hf hsr
 have hS:∀ t,CapS h ((mkSt l vs h).at t) ((mkSt l vs2 h).at t):=by
  intro t
  unfold St.at
  cases ht:Nat.blt t 1024 with
  | false=>exact .refl _
  | true =>
   simp only [cond_true]
   exact putL_rel l vs vs2 .nil .nil hv.len hv.get (fun _ _=>.refl _) t (blt_lt ht)
 refine ⟨g,⟨hsr.hr,hsr.defers,hsr.size,hsr.nt,fun t ht=>VR.capS (hS t) (hsr.tmps t ht),fun t ht cells hc=>?_,fun d t o h=>(by cases h),hsr.glob,fun d t o h=>(by cases h)⟩,hf,.refl g⟩
 have hreg:(mkSt l vs h).at t = .reg cells:=by
  rcases hS t with e | ⟨_,_,_,_,_,_,_,e⟩
  ·rw [e]; exact hc
  ·rw [hc] at e; cases e
 exact hsr.regs t ht cells hreg
end Go.Ab

