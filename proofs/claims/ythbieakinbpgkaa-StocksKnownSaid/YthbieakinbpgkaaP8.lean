/- A part of the proof: nothing is assumed. -/
import Derived.Test.YthbieakinbpgkaaP4
import Derived.Laws.AppendOwn
set_option linter.all false
namespace Go.Ab
theorem args1 {cargs:Array Value} {v0:Value} (hs:cargs.size = 1) (a1:cargs[0]? = some v0):cargs = #[v0]:=by
 refine Array.ext (by simp [hs]) fun k h1 h2=>?_
 match k,h1 with
 | 0,_=>simpa [Array.getElem?_eq_getElem (show 0<cargs.size by omega)] using a1
 | k+1,h1=>omega
section
variable {g:Gh} {h:Heap} {w w':World}
theorem keep_grown (hr:HR g h w) (hg:w.grownBy w' none):Keep g h w g h w' :=
 ⟨fun b hb=>⟨hb,hg.block b (hr.u b hb).1 (by simp)⟩,fun i b hb=>⟨b,hb,Nat.le_refl _,fun _=>⟨rfl,rfl,rfl⟩⟩,fun b n ⟨arr,e,q1,q2⟩=>⟨arr,e,(hg.block b (lt_of_heap q1) (by simp)).trans q1,q2⟩⟩
theorem HR.grown (hr:HR g h w) (hg:w.grownBy w' none):HR g h w':=by
 have hk:=keep_grown hr hg
 have same:∀ b o,g.own b = some o->w'.heap[b]? = w.heap[b]?:=fun b o ho=>hg.block b (hr.own b o ho).2 (by simp)
 refine ⟨fun i b hb hm=>?_,fun b hb=>⟨Nat.lt_of_lt_of_le (hr.u b hb).1 hg.size,(hr.u b hb).2⟩,fun b o ho=>⟨(hr.own b o ho).1,Nat.lt_of_lt_of_le (hr.own b o ho).2 hg.size⟩,Nat.le_trans hr.base hg.size,fun b o ho=>hr.cells_of ho (same b o ho),hr.lt,fun i b m hb hm=>hr.mp_of hb hm rfl (fun _ h=>h) fun _ _ h=>?_⟩
 ·rcases hr.blk0 i b hb hm with ⟨cb,sh,arr,e,hok⟩ | q
  ·refine .inl ⟨cb,sh,arr,e,hok.φ,hok.own,(same _ _ hok.own).trans hok.heap,hok.room,hok.len,fun j o c hj hc=>?_,hok.flat⟩
   obtain ⟨v,q1,q2,q3⟩:=hok.cell j o c hj hc
   exact ⟨v,q1,q2,q3.keep hk⟩
  ·exact .inr q
 ·first | exact same _ _ h | exact same _ _ (by assumption)
theorem Res.grown {x:T} {v:Value} (hr:HR g h w) (hg:w.grownBy w' none) (hx:∀ U,VI w' U x v):Res g h w x h v w' :=
 ⟨g,hr.grown hg,.imm _ _ (hx _),keep_grown hr hg,⟨hg.size,fun _ _=>rfl,hg.os,hg.tape,⟨hg.output,Nat.le_refl _⟩,fun b hb _=>hg.block b hb (by simp),rfl,fun _ h=>.inl h,fun b hb t e=>by have:=(hr.own b _ e).2; omega⟩⟩
end
end Go.Ab

