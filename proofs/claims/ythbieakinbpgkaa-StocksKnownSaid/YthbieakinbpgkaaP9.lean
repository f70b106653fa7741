/- A part of the proof: nothing is assumed. -/
import Derived.Test.YthbieakinbpgkaaP7
import Derived.Test.YthbieakinbpgkaaP8
set_option linter.all false
namespace Go.Ab
open Go.Proofs Go.RowKit Go.Maps
noncomputable def shortM (m:MapD):Bool:=@decide (∃ x,m.has [x] = true/\m.val [x]<0) (Classical.propDecidable _)
theorem shortM_iff {m:MapD}:shortM m = true ↔ ∃ x,m.has [x] = true/\m.val [x]<0:=by simp [shortM]
theorem enters42 (f:Nat) (h:(match P42.funcs[f]? with | some fn=>!(fn.body.isNone)&&!(fn.name=="runtime.NumGoroutine") | none=>false) = true):∃ fn,P42.funcs[f]? = some fn/\fn.body.isNone = false/\(fn.name=="runtime.NumGoroutine") = false:=by
 cases hf:P42.funcs[f]? with
 | none=>rw [hf] at h; cases h
 | some fn =>
  rw [hf] at h
  simp only [Bool.and_eq_true,Bool.not_eq_true'] at h
  exact ⟨fn,rfl,h.1,h.2⟩
theorem shortR {h:Heap} {i:Nat} {b:Blk} {m:MapD} (hb:h[i]? = some b) (hm:b.mp = some m) (gm:MGood m):ToldRef P42 G42 24 [.mp i b.ver] h (.bool (shortM m)) h:=by
 refine ⟨enters42 24 (by kernel_rfl),fun g w cargs hr hno hgl ha=>?_⟩
 obtain ⟨v0,a1,a2⟩:=ha.2 0 _ rfl
 obtain rfl:=args1 ha.1.symm a1
 obtain ⟨cb,o1,o2,o3⟩:=hr.mp i b m hb hm
 have hv:v0 = .map (some cb):=by
  cases a2 with
  | imm _ _ hv=>cases hv
  | mp _ _ b2 _ hb2 hver h1 hok =>
   rw [hb] at hb2
   obtain rfl:=Option.some.inj hb2
   obtain ⟨cb2,q1,q2⟩:=hok rfl
   rw [o1] at q1
   obtain ⟨rfl,_⟩:=Prod.mk.inj (Option.some.inj q1)
   exact q2
 subst hv
 obtain ⟨D,hown,hD⟩:=gm.owns (H:=Unit) (P:=P42) (k:=3) (e:=3) Try.underlying3 Try.underlying3 o3
 refine (short_walk cb m.clock D w hown).mono fun e w' ⟨r,he,hg,h1,h2⟩=>?_
 have hr2:r = shortM m:=by
  cases r with
  | true =>
   obtain ⟨x,c,q1,q2,q3⟩:=h1 rfl
   have hx:=(hD x).1.symm.trans q1
   have e:=((hD x).2 hx .nil).symm.trans (q2 .nil)
   cases e
   exact (shortM_iff.2 ⟨x,hx,q3⟩).symm
  | false =>
   symm
   rw [← Bool.not_eq_true,shortM_iff]
   rintro ⟨x,hx,hl⟩
   have:=h2 rfl x (m.val [x]) ((hD x).1.trans hx) ((hD x).2 hx)
   omega
 subst hr2
 exact ⟨_,he,Res.grown hr hg fun U=>.bool _⟩
end Go.Ab

