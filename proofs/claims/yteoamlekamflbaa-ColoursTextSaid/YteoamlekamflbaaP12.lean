/- A part of the proof: nothing is assumed. -/
import Derived.Test.YteoamlekamflbaaP10
set_option linter.all false
namespace Go.Ab
section
variable {P:Program} {Gl:Nat->Option (List T)} {prom:List Nat} {nt:Nat} {K:Orc} {A:FuncId->Ann}
def TailGoes (P:Program) (Gl:Nat->Option (List T)) (prom:List Nat) (nt:Nat) (h0:Heap) (c:Code) (s:St) (e:Ex) (s':St):Prop :=
 ∀ (ro:Option Nat) (n:Nat),(hasRange c = true->ro = none)->∀ (g0:Gh) (w0:World) (g:Gh) (a:Act) (w:World),HR g0 h0 w0->FrC g0 h0 w0 g s.h w->SR Gl prom nt g s a w->∀ Q:Exit->Act->World->Prop,
  (∀ a' w' g',SR Gl prom nt g' s' a' w'->FrC g0 h0 w0 g' s'.h w'->(hasRange c = false->a'.defers = a.defers)->Q e.out a' w')->c.wpIn (wideR ro) n P Q a w
theorem tail_end {h0:Heap} {c:Code} {s s':St} {e:Ex} (h:CodeGoes P Gl prom nt c s e s'):TailGoes P Gl prom nt h0 c s e s' :=
 fun ro n hro _ _ g a w _ hf hs Q hn=>h ro n hro g a w hs Q fun a' w' g' hs' hf' hd'=>hn a' w' g' hs' (hf.trans hf') hd'
theorem tail_scope {h0:Heap} {c:Code} {s s':St} {e:Ex} (h:TailGoes P Gl prom nt h0 c s e s'):TailGoes P Gl prom nt h0 (.scope c) s e s' :=
 fun ro n hro g0 w0 g a w hr hf hs Q hn=>wpIn_scope (h ro n (fun h=>hro (by simpa [hasRange] using h)) g0 w0 g a w hr hf hs _ fun a1 w1 g1 hs1 hf1 hd1=>by
  have:=hn a1 w1 g1 hs1 hf1 fun h=>hd1 (by simpa only [hasRange] using h)
  cases e <;> exact this)
theorem tail_weak {h0:Heap} {c:Code} {s':St} {e:Ex} {l:List Nat} {vs vs2:List T} {h h2:Heap} (hw:WeakTo Gl prom nt l h0.length vs h vs2 h2) (ht:TailGoes P Gl prom nt h0 c (mkSt l vs2 h2) e s'):TailGoes P Gl prom nt h0 c (mkSt l vs h) e s' :=
 fun ro n hro g0 w0 g a w hr hf hs Q hn=>by
  obtain ⟨g2,q1,q2,_⟩:=hw g a w g0 h0 w0 (Nat.le_refl _) hr hf hs
  exact ht ro n hro g0 w0 g2 a w hr q2 q1 Q hn
theorem tail_goes {c:Code} {s s':St} {e:Ex} (h:TailGoes P Gl prom nt s.h c s e s'):CodeGoes P Gl prom nt c s e s' :=
 fun ro n hro g a w hs Q hn=>h ro n hro g w g a w hs.hr (.refl _ _ _) hs Q hn
theorem goes_told (hn:namesOk P = true) {f:FuncId} {fn:Func} {c:Code} (hfn:P.funcs[f]? = some fn) (hb:fn.body = some c) {args:List T} (hc:(Nat.ble fn.ntmps 1024&&Nat.ble args.length fn.ntmps) = true) {s':St} (hgo:CodeGoes P Gl prom fn.ntmps c (enter args []) .ret s') {r:T} (hres:resK P Gl prom fn s' (fun v=>some (give s'.h v)) = some r):ToldOk P Gl f args r:=by
 obtain ⟨rv,hrv,hres2⟩:=det_some (resK_det (P:=P) (Gl:=Gl) (prom:=prom) fn s') hres
 obtain rfl:=Option.some.inj hrv
 simp only [Bool.and_eq_true] at hc
 have hnt:=ble_le hc.1
 have hle:=ble_le hc.2
 refine ⟨⟨fn,hfn,by rw [hb]; rfl,?_⟩,fun w U cargs hU hgl ha=>?_⟩
 ·have:=Array.all_eq_true'.1 hn fn (Array.mem_of_getElem? hfn)
  rw [hb] at this
  simpa using this
 let g0:Gh:={ U:=U,φ:=fun _=>none,own:=fun _=>none,base:=w.heap.size,low:=0 }
 have hr:HR g0 [] w:=⟨fun i b hb=>by simp at hb,fun b hb=>⟨hU b hb,rfl⟩,fun b o ho=>(by cases ho),Nat.le_refl _,fun b o ho=>(by cases ho),fun b i ho=>(by cases ho),fun i b m hb=>by simp at hb⟩
 have hav:ArgsVR g0 [] w args cargs:=⟨ha.1,fun i x hi=>by
  obtain ⟨v,q1,q2⟩:=ha.2 i x hi
  exact ⟨v,q1,.imm _ _ q2⟩⟩
 have hs0:=SR.enter (Gl:=Gl) (prom:=prom) (Nat.le_refl _) (hr.setLow w.heap.size) hgl hav hnt hle
 rw [← callsIn_wide (n:=0)]
 refine callsIn_of_wp_marks hfn hb trivial (hgo none 0 (fun _=>rfl) _ _ w hs0 _ fun a' w' g' hs' hf' _=>?_) rfl
 obtain ⟨hlo,l,hl1,hl2,hl3⟩:=hs'.defers
 obtain ⟨t1,t2,t3,t4,t5⟩:=turn_is l w'
 have hoff:∀ b,g'.U b ∨ g'.own b ≠ none->b ∉ l:=by
  rintro b hb hbl
  obtain ⟨q1,q2,q3,q4⟩:=hl3 b hbl
  rcases hb with hb | hb
  ·exact q3 hb
  ·exact hb q2
 have hrm:∀ b n,room w' b n->room (turn l w') b n:=by
  rintro b n ⟨arr,e,h1,h2⟩
  refine ⟨arr,e,?_,h2⟩
  rw [t5 b fun hbl=>?_]
  ·exact h1
  ·have:=(hl3 b hbl).2.2.2
   rw [h1] at this; cases this
 have hs2:=hs'.world (w':=turn l w') (ds:=[]) (by omega) (fun b hb=>t5 b (hoff b hb)) hrm (Marks.nil (by omega))
 obtain ⟨x,hk,v,h1,h2⟩:=resK_sound hs2 (hres2 T some)
 obtain rfl:=Option.some.inj hk
 show LeavesInM Fence.wide 0 P fn a'.tmps (fun e w'=>∃ v,e = .returned v/\RV w U (give s'.h x) v w') a'.defers .returning w'
 rw [hl1]
 refine leaves_marks l w' hl2 (fun D hD=>(hl3 D hD).2.2.2) ⟨v,h1,v,rfl,?_⟩
 have hbase:g'.base = w.heap.size:=hf'.base
 obtain ⟨X,q1,q2,q3⟩:=give_sound hs2.hr (B:=w.heap.size) (by omega) h2
 refine ⟨⟨⟨t2.trans hf'.os,t3.trans hf'.tape,(t4.trans hf'.output).1,by have:=hf'.size; omega,fun b hb=>?_⟩,(t4.trans hf'.output).2⟩,Given g' (turn l w') w.heap.size (tops x),X,fun b hb=>.inl ((hf'.keep.u b hb).1),fun b hb=>?_,q2,q3,q1⟩
 ·rw [t5 b fun hbl=>by have:=(hl3 b hbl).1; have h4:g'.low = w.heap.size:=hf'.low; omega]
  exact hf'.same b hb rfl
 ·rcases hb with hb | hb
  ·exact ⟨hf'.u b hb,(hs2.hr.u b hb).1⟩
  ·exact ⟨.inr hb.1,hb.2.1⟩
end
end Go.Ab

