/- A part of the proof: nothing is assumed. -/
import Derived.Test.YtlaganadekpcjaaP7
import Derived.Test.YtlaganadekpcjaaP3
set_option linter.all false
namespace Go.Ab
def posOf:List Nat->Nat->Option Nat
 | [],_=>none
 | a :: l,i=>bif a==i then some 0 else (posOf l i).map (·+1)
theorem posOf_some:∀ {l:List Nat} {i j:Nat},posOf l i = some j->l[j]? = some i
 | [],i,j,h=>by cases h
 | a :: l,i,j,h=>by
  simp only [posOf] at h
  cases q:a==i with
  | true =>
   rw [q] at h
   obtain rfl:0 = j:=by simpa using h
   have:a = i:=by simpa using q
   rw [this]; rfl
  | false =>
   rw [q] at h
   simp only [cond_false,Option.map_eq_some_iff] at h
   obtain ⟨k,hk,rfl⟩:=h
   rw [List.getElem?_cons_succ]
   exact posOf_some hk
theorem posOf_none:∀ {l:List Nat} {i:Nat},posOf l i = none->i ∉ l
 | [],i,_=>by simp
 | a :: l,i,h=>by
  simp only [posOf] at h
  cases q:a==i with
  | true=>rw [q] at h; cases h
  | false =>
   rw [q] at h
   simp only [cond_false,Option.map_eq_none_iff] at h
   have:a ≠ i:=by simpa using q
   simp only [List.mem_cons,not_or]
   exact ⟨fun e=>this e.symm,posOf_none h⟩
theorem posOf_nodup:∀ {l:List Nat} {i j:Nat},nodupB l = true->l[j]? = some i->posOf l i = some j
 | [],i,j,_,h=>by simp at h
 | a :: l,i,j,hn,h=>by
  simp only [nodupB,Bool.and_eq_true,Bool.not_eq_true'] at hn
  cases j with
  | zero=>simp at h; subst h; simp [posOf]
  | succ j =>
   have hj:l[j]? = some i:=by simpa using h
   have hne:a ≠ i:=fun e=>by
    have:=List.mem_of_getElem? hj
    rw [← e] at this
    have h2:l.contains a = true:=List.contains_iff_mem.2 this
    rw [h2] at hn; cases hn.1
   simp only [posOf,beq_eq_false_iff_ne.2 hne,cond_false,posOf_nodup hn.2 hj]
   rfl
def ren0 (σ:List Nat) (h:Heap) (x:T):T :=
 match x with
 | .own i ver off len cap=>match posOf σ i with | some j=>.own j ver off len cap | none=>resolve 4 σ h x
 | .ptr i ver j o=>match posOf σ i with | some i'=>.ptr i' ver j o | none=>resolve 4 σ h x
 | x=>bif imm x then x else resolve 4 σ h x
def ren (σ:List Nat) (h:Heap) (x:T):T :=
 match x with
 | .agg l=>.agg (l.map (ren0 σ h))
 | .fn f caps=>.fn f (caps.map (ren0 σ h))
 | .reg l=>.reg (l.map (ren0 σ h))
 | x=>ren0 σ h x
def renB (σ:List Nat) (h:Heap) (b:Blk):Blk:=bif b.flat then b else { b with get:=fun j=>(b.get j).map (ren0 σ h) }
def renH (σ:List Nat) (h:Heap):Heap:=σ.filterMap fun i=>(h[i]?).map (renB σ h)
def orderOkC (k:Nat) (σ:List Nat) (h:Heap):Bool:=(List.range k).all (fun i=>match σ[i]? with | some j=>j==i | none=>false)&&nodupB σ&&σ.all fun i=>Nat.blt i h.length
theorem filterMap_all {α β:Type} {f:α->Option β}:∀ {l:List α},(∀ a ∈ l,∃ b,f a = some b)->(l.filterMap f).length = l.length/\∀ i:Nat,(l.filterMap f)[i]? = (l[i]?).bind f
 | [],_=>⟨rfl,fun i=>by simp⟩
 | a :: l,h=>by
  obtain ⟨b,hb⟩:=h a (by simp)
  obtain ⟨q1,q2⟩:=filterMap_all (l:=l) fun a ha=>h a (by simp [ha])
  rw [List.filterMap_cons_some hb]
  refine ⟨by simp [q1],fun i=>?_⟩
  cases i with
  | zero=>simp [hb]
  | succ i=>simpa using q2 i
def isReg:T->Bool
 | .reg _=>true
 | _=>false
theorem resolve_noreg (d:Nat) (ex:List Nat) (h:Heap) (x:T):isReg (resolve (d+1) ex h x) = false:=by
 cases x with
 | own i ver off len cap =>
  simp only [resolve]
  cases ex.contains i with
  | true=>rfl
  | false =>
   cases h[i]? with
   | none=>rfl
   | some b=>cases hc:(b.ver==ver&&Nat.ble (off+len) b.n) <;> simp only [cond_false,hc,cond_true] <;> rfl
 | ptr i ver j o =>
  simp only [resolve]
  cases ex.contains i with
  | true=>rfl
  | false =>
   cases h[i]? with
   | none=>rfl
   | some b=>cases hc:(b.ver==ver&&Nat.blt j b.n) <;> simp only [cond_false,hc,cond_true] <;> rfl
 | agg l=>rfl
 | tup l=>rfl
 | fn f caps=>rfl
 | iface t v=>rfl
 | reg l=>rfl
 | _=>simp [resolve,isReg,imm0]
theorem ren0_noreg {σ:List Nat} {h:Heap} {x:T} (hx:isReg x = false):isReg (ren0 σ h x) = false:=by
 have oth:isReg (bif imm x then x else resolve 4 σ h x) = false:=by
  cases imm x with
  | true=>exact hx
  | false=>exact resolve_noreg 3 σ h x
 cases x with
 | own i ver off len cap=>simp only [ren0]; cases posOf σ i with
  | none=>exact resolve_noreg 3 σ h _
  | some j=>rfl
 | ptr i ver j o=>simp only [ren0]; cases posOf σ i with
  | none=>exact resolve_noreg 3 σ h _
  | some j=>rfl
 | _=>exact oth
theorem ren_reg {σ:List Nat} {h:Heap} {x:T} {cells:List T} (hx:ren σ h x = .reg cells):∃ m,x = .reg m/\cells = m.map (ren0 σ h):=by
 have oth:isReg x = false->ren σ h x = ren0 σ h x->False:=fun h1 h2=>by
  have:=ren0_noreg (σ:=σ) (h:=h) h1
  rw [← h2,hx] at this
  cases this
 cases x with
 | reg m=>simp only [ren,T.reg.injEq] at hx; exact ⟨m,rfl,hx.symm⟩
 | agg l=>cases hx
 | fn f caps=>cases hx
 | _=>exact absurd (oth rfl rfl) id
section
variable {P:Program} {Gl:Nat->Option (List T)} {prom:List Nat} {nt:Nat}
theorem at_mkSt_map (f:T->T) (hf:f .undef = .undef) (l:List Nat) (vs:List T) (h h2:Heap) (t:Nat):(mkSt l (vs.map f) h2).at t = f ((mkSt l vs h).at t):=by
 unfold St.at
 cases hb:Nat.blt t 1024 with
 | false=>simp [hf]
 | true =>
  simp only [cond_true]
  have key:∀ (l:List Nat) (vs:List T) (e e2:Tr),(∀ t,t<1024->Tr.get deep e2 t = f (Tr.get deep e t))->∀ t,t<1024->Tr.get deep (putL l (vs.map f) e2) t = f (Tr.get deep (putL l vs e) t):=by
   intro l
   induction l with
   | nil=>intro vs e e2 he; simpa only [putL] using he
   | cons i l ih =>
    intro vs e e2 he
    cases vs with
    | nil=>simpa only [putL,List.map_nil] using he
    | cons x vs =>
     simp only [List.map_cons,putL]
     refine ih vs _ _ (fun t ht=>?_)
     cases hi:Nat.blt i 1024 with
     | false=>exact he t ht
     | true =>
      simp only [cond_true]
      have h1:Tr.get deep (Tr.set deep e i x) t = if t = i then x else Tr.get deep e t:=Tr.get_set 10 e i t x (by have:=blt_lt hi; omega) ht
      have h2:Tr.get deep (Tr.set deep e2 i (f x)) t = if t = i then f x else Tr.get deep e2 t:=Tr.get_set 10 e2 i t (f x) (by have:=blt_lt hi; omega) ht
      rw [h1,h2]
      by_cases q:t = i
      ·rw [if_pos q,if_pos q]
      ·rw [if_neg q,if_neg q]; exact he t ht
  exact key l vs .nil .nil (fun t _=>by show T.undef = f .undef; rw [hf]) t (blt_lt hb)
theorem WeakTo.canon {l:List Nat} {k:Nat} {vs:List T} {h:Heap} (σ:List Nat) (ho:orderOkC k σ h = true):WeakTo Gl prom nt l k vs h (vs.map (ren σ h)) (renH σ h):=by
 simp only [orderOkC,Bool.and_eq_true] at ho
 obtain ⟨⟨hpre,hnd⟩,hlt⟩:=ho
 have hpre:∀ i,i<k->σ[i]? = some i:=by
  intro i hi
  have:=List.all_eq_true.1 hpre i (List.mem_range.2 hi)
  cases hs:σ[i]? with
  | none=>rw [hs] at this; cases this
  | some j=>rw [hs] at this; rw [show j = i by simpa using this]
 have hlt:∀ i,i ∈ σ->i<h.length:=fun i hi=>blt_lt (List.all_eq_true.1 hlt i hi)
 intro g a w g0 h0 w0 hk hr0 hf hs
 have hr:=hs.hr
 simp only [mkSt] at hr
 obtain ⟨hHl,hHg⟩:=filterMap_all (l:=σ) (f:=fun i=>(h[i]?).map (renB σ h)) fun i hi=>⟨_,by rw [List.getElem?_eq_getElem (hlt i hi)]; rfl⟩
 have hHget:∀ (j i:Nat) (b:Blk),σ[j]? = some i->h[i]? = some b->(renH σ h)[j]? = some (renB σ h b):=fun j i b h1 h2=>by
  show (σ.filterMap _)[j]? = _
  rw [hHg,h1]; simp [h2]
 have hHback:∀ (j:Nat) (b2:Blk),(renH σ h)[j]? = some b2->∃ (i:Nat) (b:Blk),σ[j]? = some i/\h[i]? = some b/\b2 = renB σ h b:=by
  intro j b2 hb
  have hb:(σ.filterMap fun i=>(h[i]?).map (renB σ h))[j]? = some b2:=hb
  rw [hHg] at hb
  obtain ⟨i,h1,h2⟩:=Option.bind_eq_some_iff.1 hb
  obtain ⟨b,h3,h4⟩:=Option.map_eq_some_iff.1 h2
  exact ⟨i,b,h1,h3,h4.symm⟩
 have hnew:∀ cb i,g.own cb = some (.inl i)->k<=i->w0.heap.size<=cb:=by
  intro cb i ho hi
  rcases Nat.lt_or_ge cb w0.heap.size with q | q
  ·rw [hf.own cb q] at ho
   have:=hr0.lt cb i ho
   omega
  ·exact q
 have hdrop:∀ i,posOf σ i = none->k<=i:=fun i hi=>by
  rcases Nat.lt_or_ge i k with q | q
  ·exact absurd (List.mem_of_getElem? (hpre i q)) (posOf_none hi)
  ·exact q
 let fr:Nat->Prop:=fun cb=>∃ i,i ∉ σ/\g.own cb = some (.inl i)/\∃ (b:Blk) (sh:Nat),h[i]? = some b/\g.φ i = some (cb,sh)
 let g2:Gh:={ g with
  U:=fun b=>g.U b ∨ fr b
  φ:=fun j=>(σ[j]?).bind g.φ
  own:=fun b=>match g.own b with | some (.inl i)=>(posOf σ i).map .inl | o=>o }
 have hown2:∀ b i,g.own b = some (.inl i)->g2.own b = (posOf σ i).map .inl:=fun b i hb=>by simp only [g2,hb]
 have hownN:∀ b,g.own b = none->g2.own b = none:=fun b hb=>by simp only [g2,hb]
 have hownR:∀ b t,g.own b = some (.inr t)->g2.own b = some (.inr t):=fun b t hb=>by simp only [g2,hb]
 have hU:∀ b,g.U b->g2.U b:=fun b hb=>.inl hb
 have hreads:Reads g h w σ g2.U:=⟨hU,fun i b cb sh hb hi hφ=>by
  obtain ⟨cb',sh',arr,e,hok⟩:=hr.blk i b hb
  rw [hok.φ] at hφ
  obtain ⟨rfl,rfl⟩:=Prod.mk.inj (Option.some.inj hφ)
  exact .inr ⟨i,hi,hok.own,b,sh',hb,hok.φ⟩⟩
 have hkU:KeepU w g.U w g2.U:=fun b hb=>⟨hU b hb,rfl⟩
 have hv0:∀ x v,g.VR h w x v->g2.VR (renH σ h) w (ren0 σ h x) v:=by
  intro x v hx
  have other:ren0 σ h x = (bif imm x then x else resolve 4 σ h x)->g2.VR (renH σ h) w (ren0 σ h x) v:=fun e=>by
   rw [e]
   cases hi:imm x with
   | true=>exact .imm _ _ ((imm_vi hi hx).keep hkU)
   | false=>exact .imm _ _ (resolve_vi hr hreads 4 x v hx)
  cases x with
  | own i ver off len cap =>
   cases hp:posOf σ i with
   | none =>
    have e:ren0 σ h (.own i ver off len cap) = resolve 4 σ h (.own i ver off len cap):=by simp only [ren0,hp]
    rw [e]; exact .imm _ _ (resolve_vi hr hreads 4 _ v hx)
   | some j =>
    have e:ren0 σ h (.own i ver off len cap) = .own j ver off len cap:=by simp only [ren0,hp]
    rw [e]
    obtain ⟨b,hb,hver,h1,hok⟩:=hx.own_inv
    have hj:=posOf_some hp
    have hb2:(renB σ h b).ver = b.ver/\(renB σ h b).sz = b.sz/\(renB σ h b).n = b.n:=by unfold renB; cases b.flat <;> exact ⟨rfl,rfl,rfl⟩
    refine .own _ _ _ _ _ (renB σ h b) _ (hHget j i b hj hb) (by rw [hb2.1]; exact hver) h1 fun ev=>?_
    obtain ⟨cb,sh,c,ad,e1,e2,es,e2',e3,e4,e5,e6,e7⟩:=hok (by rw [← hb2.1]; exact ev)
    exact ⟨cb,sh,c,ad,by show (σ[j]?).bind g.φ = _; rw [hj]; exact e1,e2,es,by rw [hb2.2.1]; exact e2',e3,by rw [hb2.2.2]; exact e4,by rw [hb2.2.2]; exact e5,by rw [hb2.2.1]; exact e6,by rw [hb2.2.2]; exact e7⟩
  | ptr i ver jj o =>
   cases hp:posOf σ i with
   | none =>
    have e:ren0 σ h (.ptr i ver jj o) = resolve 4 σ h (.ptr i ver jj o):=by simp only [ren0,hp]
    rw [e]; exact .imm _ _ (resolve_vi hr hreads 4 _ v hx)
   | some j =>
    have e:ren0 σ h (.ptr i ver jj o) = .ptr j ver jj o:=by simp only [ren0,hp]
    rw [e]
    obtain ⟨b,hb,hver,h1,hok⟩:=hx.ptr_inv
    have hj:=posOf_some hp
    have hb2:(renB σ h b).ver = b.ver/\(renB σ h b).sz = b.sz/\(renB σ h b).n = b.n:=by unfold renB; cases b.flat <;> exact ⟨rfl,rfl,rfl⟩
    refine .ptr _ _ _ _ (renB σ h b) _ (hHget j i b hj hb) (by rw [hb2.1]; exact hver) h1 fun ev=>?_
    obtain ⟨cb,sh,e1,e2⟩:=hok (by rw [← hb2.1]; exact ev)
    exact ⟨cb,sh,by show (σ[j]?).bind g.φ = _; rw [hj]; exact e1,by rw [hb2.2.1]; exact e2⟩
  | _=>exact other rfl
 have hv:∀ x v,g.VR h w x v->g2.VR (renH σ h) w (ren σ h x) v:=by
  intro x v hx
  cases x with
  | agg m =>
   obtain ⟨cs,rfl,hl,h1,hc⟩:=hx.agg_inv
   refine VR.mk_agg (by simpa using hl) h1 (fun i c hi=>?_)
   obtain ⟨c0,h0,rfl⟩:=map_get hi
   obtain ⟨u,hu,hr'⟩:=hc i c0 h0
   exact ⟨u,hu,hv0 _ _ hr'⟩
  | fn f m =>
   obtain ⟨cs,rfl,hl,hc⟩:=hx.fn_inv
   refine VR.mk_fn (by simpa using hl) (fun i c hi=>?_)
   obtain ⟨c0,h0,rfl⟩:=map_get hi
   obtain ⟨u,hu,hr'⟩:=hc i c0 h0
   exact ⟨u,hu,hv0 _ _ hr'⟩
  | reg m=>exact absurd hx VR.not_reg
  | _=>exact hv0 _ _ hx
 have hr2:HR g2 (renH σ h) w:=by
  refine ⟨fun j b2 hb2=>?_,fun b hb=>?_,fun b o ho=>?_,hr.base,fun b o ho=>?_,fun b j ho=>?_⟩
  ·obtain ⟨i,b,hj,hb,rfl⟩:=hHback j b2 hb2
   obtain ⟨cb,sh,arr,e,hok⟩:=hr.blk i b hb
   have hbb:(renB σ h b).sz = b.sz/\(renB σ h b).n = b.n/\(renB σ h b).flat = b.flat:=by unfold renB; cases hq:b.flat <;> simp [hq]
   refine ⟨cb,sh,arr,e,by show (σ[j]?).bind g.φ = _; rw [hj]; exact hok.φ,by rw [hown2 cb i hok.own,posOf_nodup hnd hj]; rfl,hok.heap,by rw [hbb.1,hbb.2.1]; exact hok.room,fun q hq=>?_,fun q o c hq hc=>?_,fun hfl q hq c hc=>?_⟩
   ·rw [hbb.2.1] at hq
    rw [hbb.1,← hok.len q hq]
    unfold renB; cases b.flat <;> simp
   ·rw [hbb.2.1] at hq
    rw [hbb.1]
    cases hfl:b.flat with
    | true =>
     have:(renB σ h b).get q = b.get q:=by unfold renB; rw [hfl]; rfl
     rw [this] at hc
     obtain ⟨v,h1,h2,h3⟩:=hok.cell q o c hq hc
     exact ⟨v,h1,h2,.imm _ _ (plain0_vr (hok.flat hfl q hq c (List.mem_of_getElem? hc)) h3)⟩
    | false =>
     have:(renB σ h b).get q = (b.get q).map (ren0 σ h):=by unfold renB; rw [hfl]; rfl
     rw [this] at hc
     obtain ⟨c0,h0',rfl⟩:=map_get hc
     obtain ⟨v,h1,h2,h3⟩:=hok.cell q o c0 hq h0'
     exact ⟨v,h1,h2,hv0 _ _ h3⟩
   ·rw [hbb.2.2] at hfl
    rw [hbb.2.1] at hq
    have:(renB σ h b).get q = b.get q:=by unfold renB; rw [hfl]; rfl
    rw [this] at hc
    exact hok.flat hfl q hq c hc
  ·rcases hb with hb | ⟨i,hi,ho,_⟩
   ·exact ⟨(hr.u b hb).1,hownN b (hr.u b hb).2⟩
   ·refine ⟨(hr.own b _ ho).2,?_⟩
    rw [hown2 b i ho]
    cases hp:posOf σ i with
    | none=>rfl
    | some j=>exact absurd (List.mem_of_getElem? (posOf_some hp)) hi
  ·cases hob:g.own b with
   | none=>rw [hownN b hob] at ho; cases ho
   | some o'=>exact hr.own b o' hob
  ·cases hob:g.own b with
   | none=>rw [hownN b hob] at ho; cases ho
   | some o'=>exact hr.cells b o' hob
  ·cases hob:g.own b with
   | none=>rw [hownN b hob] at ho; cases ho
   | some o' =>
    cases o' with
    | inr t=>rw [hownR b t hob] at ho; cases ho
    | inl i =>
     rw [hown2 b i hob] at ho
     obtain ⟨j',hj',e⟩:=Option.map_eq_some_iff.1 ho
     obtain rfl:j' = j:=by simpa using e
     have hlj:(renH σ h).length = σ.length:=hHl
     rw [hlj]
     exact lt_of_get (posOf_some hj')
 refine ⟨g2,⟨hr2,?_,hs.size,hs.nt,fun t ht=>?_,fun t ht cells hc=>?_,fun d t o hh=>(by cases hh),fun gl cells hg=>(hs.glob gl cells hg).keep hkU,fun d t o hh=>(by cases hh)⟩,?_,fun b hb=>⟨hownN b hb,fun hu=>?_⟩⟩
 ·obtain ⟨m0,l0,m1,m2,m3⟩:=hs.defers
  refine ⟨m0,l0,m1,m2,fun D hD=>?_⟩
  obtain ⟨q1,q2,q3,q4⟩:=m3 D hD
  refine ⟨q1,hownN D q2,fun hu=>?_,q4⟩
  rcases hu with hu | ⟨i,_,ho,_⟩
  ·exact q3 hu
  ·rw [q2] at ho; cases ho
 ·rw [at_mkSt_map (ren σ h) rfl l vs h]
  exact hv _ _ (hs.tmps t ht)
 ·rw [at_mkSt_map (ren σ h) rfl l vs h] at hc
  have hreg:=ren_reg hc
  obtain ⟨m,hx,rfl⟩:=hreg
  obtain ⟨cb,arr,e,hok⟩:=hs.regs t ht m hx
  refine ⟨cb,arr,e,hok.ptr,hownR cb t hok.own,hok.heap,by rw [List.length_map]; exact hok.len,fun o c hc2=>?_⟩
  obtain ⟨c0,h0',rfl⟩:=map_get hc2
  obtain ⟨u,h1,h2,h3⟩:=hok.cell o c0 h0'
  exact ⟨u,h1,h2,hv0 _ _ h3⟩
 ·refine ⟨⟨fun b hb=>⟨hU b (hf.keep.u b hb).1,(hf.keep.u b hb).2⟩,fun i b hb=>?_,hf.keep.rm⟩,hf.size,fun b hb=>?_,hf.os,hf.tape,hf.output,hf.same,hf.bs,fun b hb=>?_,fun b hb=>hU b (hf.u' b hb)⟩
  ·obtain ⟨b',hb',q1,q2⟩:=hf.keep.blk i b hb
   have hi:i<k:=Nat.lt_of_lt_of_le (lt_of_get hb) hk
   have hbb:(renB σ h b').ver = b'.ver/\(renB σ h b').sz = b'.sz/\(renB σ h b').n = b'.n:=by unfold renB; cases b'.flat <;> exact ⟨rfl,rfl,rfl⟩
   refine ⟨renB σ h b',hHget i i b' (hpre i hi) hb',by rw [hbb.1]; exact q1,fun ev=>?_⟩
   rw [hbb.1] at ev
   obtain ⟨r1,r2,r3⟩:=q2 ev
   exact ⟨by rw [hbb.2.1]; exact r1,by rw [hbb.2.2]; exact r2,by show (σ[i]?).bind g.φ = _; rw [hpre i hi]; exact r3⟩
  ·have:=hf.own b hb
   cases hob:g.own b with
   | none=>rw [hownN b hob,← this,hob]
   | some o =>
    cases o with
    | inr t=>rw [hownR b t hob,← this,hob]
    | inl i =>
     have hlt0:i<k:=Nat.lt_of_lt_of_le (hr0.lt b i (by rw [← this]; exact hob)) hk
     rw [hown2 b i hob,posOf_nodup hnd (hpre i hlt0),← this,hob]; rfl
  ·rcases hb with hb | ⟨i,hi,ho,_⟩
   ·exact hf.u b hb
   ·refine .inr (hnew b i ho (hdrop i ?_))
    cases hp:posOf σ i with
    | none=>rfl
    | some j=>exact absurd (List.mem_of_getElem? (posOf_some hp)) hi
 ·rcases hu with hu | ⟨i,_,ho,_⟩
  ·exact hu
  ·rw [hb] at ho; cases ho
def SimI (x y:T):Prop:=x = y ∨ (imm x = true/\Sim x y/\isReg y = false)
theorem SimI.refl (x:T):SimI x x:=.inl rfl
theorem VR.simI {w:World} {U:Nat->Prop} {φ:Nat->Option (Nat × Nat)} {h:Heap} {x y:T} {v:Value} (hs:SimI x y) (hx:VR w U φ h x v):VR w U φ h y v:=by
 rcases hs with rfl | ⟨hi,hs,_⟩
 ·exact hx
 ·exact .imm _ _ (hs _ _ _ (imm_vi (g:={ U:=U,φ:=φ,own:=fun _=>none,base:=0,low:=0 }) hi hx))
def SimL (l m:List T):Prop:=l.length = m.length/\∀ (i:Nat) a b,l[i]? = some a->m[i]? = some b->SimI a b
theorem SimL.refl (l:List T):SimL l l:=⟨rfl,fun i a b h1 h2=>by rw [h1] at h2; obtain rfl:=Option.some.inj h2; exact .refl _⟩
theorem SimL.nil:SimL [] []:=.refl _
theorem SimL.cons {x y:T} {l m:List T} (h:SimI x y) (hl:SimL l m):SimL (x :: l) (y :: m):=by
 refine ⟨by simp [hl.1],fun i a b h1 h2=>?_⟩
 cases i with
 | zero=>simp at h1 h2; subst h1; subst h2; exact h
 | succ i=>exact hl.2 i a b (by simpa using h1) (by simpa using h2)
theorem SimL.get {l m:List T} (h:SimL l m) {i:Nat} {b:T} (hb:m[i]? = some b):∃ a,l[i]? = some a/\SimI a b:=by
 have hi:=lt_of_get hb
 have ha:l[i]? = some (l[i]'(by rw [h.1]; exact hi)):=List.getElem?_eq_getElem _
 exact ⟨_,ha,h.2 i _ _ ha hb⟩
def SimS (x y:T):Prop:=SimI x y ∨ (∃ l m,x = .reg l/\y = .reg m/\SimL l m) ∨ ∃ l m,x = .agg l/\y = .agg m/\SimL l m
theorem SimS.refl (x:T):SimS x x:=.inl (.refl x)
theorem VR.simS {w:World} {U:Nat->Prop} {φ:Nat->Option (Nat × Nat)} {h:Heap} {x y:T} {v:Value} (hs:SimS x y) (hx:VR w U φ h x v):VR w U φ h y v:=by
 rcases hs with hs | ⟨l,m,rfl,rfl,hs⟩ | ⟨l,m,rfl,rfl,hs⟩
 ·exact hx.simI hs
 ·exact absurd hx VR.not_reg
 ·obtain ⟨cs,rfl,hl,h1,hc⟩:=hx.agg_inv
  refine VR.mk_agg (by rw [← hs.1]; exact hl) h1 (fun i c hi=>?_)
  obtain ⟨a,ha,hab⟩:=hs.get hi
  obtain ⟨u,hu,hur⟩:=hc i a ha
  exact ⟨u,hu,hur.simI hab⟩
theorem putL_rel {R:T->T->Prop}:∀ (l:List Nat) (vs vs2:List T) (e e2:Tr),vs.length = vs2.length->(∀ (i:Nat) x y,vs[i]? = some x->vs2[i]? = some y->R x y)->(∀ t,t<1024->R (Tr.get deep e t) (Tr.get deep e2 t)) →
 ∀ t,t<1024->R (Tr.get deep (putL l vs e) t) (Tr.get deep (putL l vs2 e2) t)
 | [],_,_,e,e2,_,_,he=>by simpa only [putL] using he
 | i :: l,[],[],e,e2,_,_,he=>by simpa only [putL] using he
 | i :: l,x :: vs,y :: vs2,e,e2,hl,hv,he=>by
  simp only [putL]
  refine putL_rel l vs vs2 _ _ (by simpa using hl) (fun j x y a b=>hv (j+1) x y (by simpa using a) (by simpa using b)) (fun t ht=>?_)
  cases hi:Nat.blt i 1024 with
  | false=>exact he t ht
  | true =>
   simp only [cond_true]
   have h1:Tr.get deep (Tr.set deep e i x) t = if t = i then x else Tr.get deep e t:=Tr.get_set 10 e i t x (by have:=blt_lt hi; omega) ht
   have h2:Tr.get deep (Tr.set deep e2 i y) t = if t = i then y else Tr.get deep e2 t:=Tr.get_set 10 e2 i t y (by have:=blt_lt hi; omega) ht
   rw [h1,h2]
   by_cases q:t = i
   ·rw [if_pos q,if_pos q]; exact hv 0 x y rfl rfl
   ·rw [if_neg q,if_neg q]; exact he t ht
 | i :: l,[],_ :: _,_,_,hl,_,_=>by simp at hl
 | i :: l,x :: vs,[],_,_,hl,_,_=>by simp at hl
theorem mkSt_simS {l:List Nat} {vs vs2:List T} (h h2:Heap) (hl:vs.length = vs2.length) (hv:∀ (i:Nat) x y,vs[i]? = some x->vs2[i]? = some y->SimS x y) (t:Nat):SimS ((mkSt l vs h).at t) ((mkSt l vs2 h2).at t):=by
 unfold St.at
 cases ht:Nat.blt t 1024 with
 | false=>exact .refl _
 | true =>
  simp only [cond_true]
  exact putL_rel l vs vs2 .nil .nil hl hv (fun _ _=>.refl _) t (blt_lt ht)
def SimBlks (h h2:Heap):Prop:=h2.length = h.length/\∀ (i:Nat) b b2,h[i]? = some b->h2[i]? = some b2->b2.ver = b.ver/\b2.sz = b.sz/\b2.n = b.n/\(b2.flat = true->b.flat = true ∨ ∀ j,j<b.n->(b.get j).all plain0 = true)/\(∀ j,j<b.n->SimL (b.get j) (b2.get j))/\(b2.flat = true->∀ j,j<b.n->b2.get j = b.get j)
theorem SimBlks.nil:SimBlks [] []:=⟨rfl,fun i b b2 h=>by simp at h⟩
theorem SimBlks.cons {b b2:Blk} {h h2:Heap} (h1:b2.ver = b.ver/\b2.sz = b.sz/\b2.n = b.n) (hf:b2.flat = true->b.flat = true/\∀ j,j<b.n->b2.get j = b.get j) (hb:∀ j,j<b.n->SimL (b.get j) (b2.get j)) (hs:SimBlks h h2):SimBlks (b :: h) (b2 :: h2):=by
 refine ⟨by simp [hs.1],fun i x y q1 q2=>?_⟩
 cases i with
 | zero=>simp at q1 q2; subst q1; subst q2; exact ⟨h1.1,h1.2.1,h1.2.2,fun q=>.inl (hf q).1,hb,fun q=>(hf q).2⟩
 | succ i=>exact hs.2 i x y (by simpa using q1) (by simpa using q2)
theorem SimBlks.at {h h2:Heap} (hs:SimBlks h h2) {i:Nat} {b:Blk} (hb:h[i]? = some b):∃ b2,h2[i]? = some b2:=by
 have hi:=lt_of_get hb
 exact ⟨_,List.getElem?_eq_getElem (by rw [hs.1]; exact hi)⟩
theorem SimBlks.back {h h2:Heap} (hs:SimBlks h h2) {i:Nat} {b2:Blk} (hb:h2[i]? = some b2):∃ b,h[i]? = some b:=by
 have hi:=lt_of_get hb
 exact ⟨_,List.getElem?_eq_getElem (by rw [← hs.1]; exact hi)⟩
theorem SimBlks.keep {h h2:Heap} (hs:SimBlks h h2) (w:World) (U:Nat->Prop) (φ:Nat->Option (Nat × Nat)):KeepR w U φ h w U φ h2 :=
 ⟨.refl _ _,fun i b hb=>by
  obtain ⟨b2,hb2⟩:=hs.at hb
  obtain ⟨q1,q2,q3,_⟩:=hs.2 i b b2 hb hb2
  exact ⟨b2,hb2,by omega,fun _=>⟨q2,q3,rfl⟩⟩,fun _ _ hr=>hr⟩
theorem HR.simB {g:Gh} {h h2:Heap} {w:World} (hr:HR g h w) (hs:SimBlks h h2):HR g h2 w:=by
 refine ⟨fun i b2 hb=>?_,hr.u,hr.own,hr.base,hr.cells,fun b i ho=>by rw [hs.1]; exact hr.lt b i ho⟩
 obtain ⟨b,hb0⟩:=hs.back hb
 obtain ⟨q1,q2,q3,q4,q5,q6⟩:=hs.2 i b b2 hb0 hb
 obtain ⟨cb,sh,arr,e,hok⟩:=hr.blk i b hb0
 refine ⟨cb,sh,arr,e,hok.φ,hok.own,hok.heap,by rw [q2,q3]; exact hok.room,fun j hj=>?_,fun j o c hj ho=>?_,fun hf j hj c hc=>?_⟩
 ·rw [← (q5 j (by omega)).1,q2]; exact hok.len j (by omega)
 ·obtain ⟨c0,h0,hsim⟩:=(q5 j (by omega)).get ho
  obtain ⟨v,h1,h3,h4⟩:=hok.cell j o c0 (by omega) h0
  rw [q2]
  exact ⟨v,h1,h3,VR.simI hsim (h4.keep (hs.keep _ _ _))⟩
 ·rw [q6 hf j (by omega)] at hc
  rcases q4 hf with q | q
  ·exact hok.flat q j (by omega) c hc
  ·exact List.all_eq_true.1 (q j (by omega)) c hc
theorem WeakTo.simAll {l:List Nat} {k:Nat} {vs vs2:List T} {h h2:Heap} (hl:vs.length = vs2.length) (hv:∀ (i:Nat) x y,vs[i]? = some x->vs2[i]? = some y->SimS x y) (hb:SimBlks h h2):WeakTo Gl prom nt l k vs h vs2 h2:=by
 intro g a w g0 h0 w0 _ _ hf hsr
 have hk:=hb.keep w g.U g.φ
 have hS:=mkSt_simS (l:=l) h h2 hl hv
 refine ⟨g,⟨hsr.hr.simB hb,hsr.defers,hsr.size,hsr.nt,fun t ht=>VR.simS (hS t) ((hsr.tmps t ht).keep hk),fun t ht cells hc=>?_,fun d t o h=>(by cases h),hsr.glob,fun d t o h=>(by cases h)⟩,hf.trans ⟨hk,Nat.le_refl _,fun _ _=>rfl,rfl,rfl,.refl _,fun _ _ _=>rfl,rfl,fun _ h=>.inl h,fun _ h=>h⟩,.refl g⟩
 have hreg:∃ m,(mkSt l vs h).at t = .reg m/\SimL m cells:=by
  rcases hS t with (e | ⟨_,_,e⟩) | ⟨m,m2,e1,e2,hs⟩ | ⟨m,m2,e1,e2,hs⟩
  ·rw [hc] at e; exact ⟨cells,e,.refl _⟩
  ·rw [hc] at e; cases e
  ·rw [hc] at e2
   obtain rfl:=T.reg.inj e2
   exact ⟨m,e1,hs⟩
  ·rw [hc] at e2; cases e2
 obtain ⟨m,hm,hsm⟩:=hreg
 obtain ⟨cb,arr,e,hok⟩:=hsr.regs t ht m hm
 refine ⟨cb,arr,e,hok.ptr,hok.own,hok.heap,by rw [← hsm.1]; exact hok.len,fun o c ho=>?_⟩
 obtain ⟨c0,h0',hs0⟩:=hsm.get ho
 obtain ⟨u,h1,h2',h3⟩:=hok.cell o c0 h0'
 exact ⟨u,h1,h2',VR.simI hs0 (h3.keep hk)⟩
end
theorem Sim.nilv (sz:Nat) (g:Nat->List T) {cap:Option Nat} (hc:cap = none ∨ cap = some 0):Sim .nils (.view sz 0 g cap):=by
 intro w U v h
 cases h
 exact .vnil sz g cap hc
def frz0:T->T
 | .fresh true sz _ g len cap=>.new (.view sz len g cap)
 | .fresh false sz _ g len cap=>.view sz len g cap
 | x=>x
def frz1:T->T
 | .agg l=>.agg (l.map frz0)
 | x=>frz0 x
def frz:T->T
 | .tup l=>.tup (l.map frz1)
 | x=>frz1 x
section
variable {w:World} {B:Nat} {U:Nat->Prop}
theorem RT0.mono {U2:Nat->Prop} (hU:∀ b,U b->U2 b) {x:T} {v:Value} {X:List Nat} (h:RT0 w B U x v X):RT0 w B U2 x v X:=by
 cases h with
 | vi x v hv=>exact .vi _ _ (hv.keep fun b hb=>⟨hU b hb,rfl⟩)
 | nw x v hv=>exact .nw _ _ (hv.keep fun b hb=>⟨⟨hU b hb.1,hb.2⟩,rfl⟩)
 | fresh flat sz n gg len cap cb sh cc ad arr e es e2 e3 e4 e5 e7 hh r1 r2 hl hc hf =>
  exact .fresh flat sz n gg len cap cb sh cc ad arr e es e2 e3 e4 e5 e7 hh r1 r2 hl (fun j o c hj ho=>by
   obtain ⟨u,q1,q2,q3⟩:=hc j o c hj ho
   exact ⟨u,q1,q2,q3.keep fun b hb=>⟨hU b hb,rfl⟩⟩) hf
def FrzOk (w:World) (B:Nat) (U:Nat->Prop) (Q:(Nat->Prop)->List Nat->Prop) (X:List Nat):Prop :=
 ∃ X2 Y,X.Perm (X2 ++ Y)/\∀ U2:Nat->Prop,(∀ b,U b->U2 b)->(∀ b,b ∈ Y->U2 b/\B<=b)->Q U2 X2
theorem frz_view {flat:Bool} {sz n:Nat} {gg:Nat->List T} {len:Nat} {cap:Option Nat} {cb sh cc:Nat} {ad:Addr} {arr:Array Value} {e:TypeId} {U2:Nat->Prop}
 (es:ad.spot = none) (e2:0<cc->ad = ⟨cb,sh,none⟩) (e3:len<=cc) (e4:∀ m,cap = some m->cc = m/\m<=n) (e5:len<=n) (hh:w.heap[cb]? = some (.cells arr e (0,0)))
 (hl:∀ j,j<n->(gg j).length = sz) (hc:∀ j o c,j<n->(gg j)[o]? = some c->∃ u,arr[sh+j * sz+o]? = some u/\u.oneCell' = true/\VI w U2 c u) (hcb:U2 cb):VI w U2 (.view sz len gg cap) (.slice (some ad) len cc):=by
 let vs:Nat->Nat->Value:=fun j o=>(arr[sh+j * sz+o]?).getD Go.undef
 have hvs:∀ j o c,j<len->(gg j)[o]? = some c->cellAt w ad.block (ad.off+j * sz+o) (vs j o)/\VI w U2 c (vs j o):=by
  intro j o c hj ho
  obtain ⟨u,q1,q2,q3⟩:=hc j o c (by omega) ho
  have hv:vs j o = u:=by simp [vs,q1]
  rw [hv,e2 (by omega)]
  exact ⟨⟨by simp [World.cell?,hh,q1],q2⟩,q3⟩
 exact .view sz len gg cap ad cc vs (fun _=>es) (fun m hm=>(e4 m hm).1) e3 (fun hp=>by rw [e2 (by omega)]; exact hcb) (fun j hj=>hl j (by omega)) (fun j o c hj ho=>(hvs j o c hj ho).1) (fun j o c hj ho=>(hvs j o c hj ho).2)
theorem RT0.frz {x:T} {v:Value} {X:List Nat} (h:RT0 w B U x v X):FrzOk w B U (fun U2 X2=>RT0 w B U2 (frz0 x) v X2) X:=by
 have same:frz0 x = x->FrzOk w B U (fun U2 X2=>RT0 w B U2 (frz0 x) v X2) X:=fun e=>⟨X,[],by simp,fun U2 hU _=>by rw [e]; exact h.mono hU⟩
 cases h with
 | vi x v hv=>exact same (by cases hv <;> rfl)
 | nw x v hv=>exact same rfl
 | fresh flat sz n gg len cap cb sh cc ad arr e es e2 e3 e4 e5 e7 hh r1 r2 hl hc hf =>
  refine ⟨[],[cb],by simp,fun U2 hU hY=>?_⟩
  obtain ⟨y1,y2⟩:=hY cb (by simp)
  cases flat with
  | true =>
   exact .nw _ _ (frz_view (flat:=true) (n:=n) es e2 e3 e4 e5 hh hl (fun j o c hj ho=>by
    obtain ⟨u,q1,q2,q3⟩:=hc j o c hj ho
    exact ⟨u,q1,q2,plain0_vi (hf rfl j hj c (List.mem_of_getElem? ho)) q3⟩) ⟨y1,y2⟩)
  | false =>
   exact .vi _ _ (frz_view (flat:=false) (n:=n) es e2 e3 e4 e5 hh hl (fun j o c hj ho=>by
    obtain ⟨u,q1,q2,q3⟩:=hc j o c hj ho
    exact ⟨u,q1,q2,q3.keep fun b hb=>⟨hU b hb,rfl⟩⟩) y1)
theorem RTL.frz {Q:(Nat->Prop)->T->Value->List Nat->Prop} {f:T->T} {l:List T} {vs:List Value} {X:List Nat} (h:RTL (Q U) l vs X)
 (hf:∀ x v X,Q U x v X->FrzOk w B U (fun U2 X2=>Q U2 (f x) v X2) X):FrzOk w B U (fun U2 X2=>RTL (Q U2) (l.map f) vs X2) X:=by
 induction h with
 | nil=>exact ⟨[],[],by simp,fun _ _ _=>.nil⟩
 | cons x v X l vs Y hx hl ih =>
  obtain ⟨X1,Y1,p1,q1⟩:=hf x v X hx
  obtain ⟨X2,Y2,p2,q2⟩:=ih
  refine ⟨X1 ++ X2,Y1 ++ Y2,?_,fun U2 hU hY=>.cons _ _ _ _ _ _ (q1 U2 hU fun b hb=>hY b (by simp [hb])) (q2 U2 hU fun b hb=>hY b (by simp [hb]))⟩
  refine (p1.append p2).trans ?_
  simp only [List.append_assoc]
  refine List.Perm.append_left X1 ?_
  rw [← List.append_assoc,← List.append_assoc]
  exact List.Perm.append_right Y2 List.perm_append_comm
theorem frz0_noagg {x:T} (h:∀ l,x ≠ .agg l):∀ l,frz0 x ≠ .agg l:=by
 intro l
 cases x with
 | agg m=>exact absurd rfl (h m)
 | fresh flat=>cases flat <;> simp [frz0]
 | _=>simp [frz0]
theorem RT0.to1' {x:T} {v:Value} {X:List Nat} (h:RT0 w B U x v X) (hx:∀ l,x ≠ .agg l):RT1 w B U x v X:=by
 cases x with
 | agg l=>exact absurd rfl (hx l)
 | _=>exact h
theorem RT1.frz {x:T} {v:Value} {X:List Nat} (h:RT1 w B U x v X):FrzOk w B U (fun U2 X2=>RT1 w B U2 (frz1 x) v X2) X:=by
 cases x with
 | agg l =>
  obtain ⟨cs,rfl,h1,h2⟩:=h
  obtain ⟨X2,Y,p,q⟩:=RTL.frz (w:=w) (B:=B) (Q:=fun U=>RT0 w B U) (f:=frz0) h2 fun x v X h=>h.frz
  exact ⟨X2,Y,p,fun U2 hU hY=>⟨cs,rfl,h1,q U2 hU hY⟩⟩
 | _ =>
  obtain ⟨X2,Y,p,q⟩:=RT0.frz (show RT0 w B U _ v X from h)
  exact ⟨X2,Y,p,fun U2 hU hY=>(q U2 hU hY).to1' (frz0_noagg (fun l=>by simp))⟩
theorem RT1.to2' {x:T} {v:Value} {X:List Nat} (h:RT1 w B U x v X) (hx:∀ l,x ≠ .tup l):RT2 w B U x v X:=by
 cases x with
 | tup l=>exact absurd rfl (hx l)
 | _=>exact h
theorem frz1_notup {x:T} (h:∀ l,x ≠ .tup l):∀ l,frz1 x ≠ .tup l:=by
 intro l
 cases x with
 | tup m=>exact absurd rfl (h m)
 | fresh flat=>cases flat <;> simp [frz1,frz0]
 | _=>simp [frz1,frz0]
theorem RT2.to1 {x:T} {v:Value} {X:List Nat} (h:RT2 w B U x v X) (hx:∀ l,x ≠ .tup l):RT1 w B U x v X:=by
 cases x with
 | tup l=>exact absurd rfl (hx l)
 | _=>exact h
theorem frz_eq1 {x:T} (hx:∀ l,x ≠ .tup l):Ab.frz x = frz1 x:=by
 cases x with
 | tup l=>exact absurd rfl (hx l)
 | _=>rfl
theorem RT2.frz {x:T} {v:Value} {X:List Nat} (h:RT2 w B U x v X):FrzOk w B U (fun U2 X2=>RT2 w B U2 (Ab.frz x) v X2) X:=by
 have gen:(∀ l,x ≠ .tup l)->FrzOk w B U (fun U2 X2=>RT2 w B U2 (Ab.frz x) v X2) X:=fun hx=>by
  obtain ⟨X2,Y,p,q⟩:=(h.to1 hx).frz
  refine ⟨X2,Y,p,fun U2 hU hY=>?_⟩
  rw [frz_eq1 hx]
  exact (q U2 hU hY).to2' (frz1_notup hx)
 cases x with
 | tup l =>
  obtain ⟨cs,rfl,h2⟩:=h
  obtain ⟨X2,Y,p,q⟩:=RTL.frz (w:=w) (B:=B) (Q:=fun U=>RT1 w B U) (f:=frz1) h2 fun x v X h=>h.frz
  exact ⟨X2,Y,p,fun U2 hU hY=>⟨cs,rfl,q U2 hU hY⟩⟩
 | _=>exact gen (fun l=>by simp)
theorem RV.frz {r:T} {v:Value} {w':World} (h:RV w U r v w'):RV w U (Ab.frz r) v w':=by
 obtain ⟨h0,U',X,h1,h2,h3,h4,h5⟩:=h
 obtain ⟨X2,Y,p,q⟩:=h5.frz
 have hnd:(X2 ++ Y).Nodup:=p.nodup_iff.1 h3
 have hmem:∀ b,b ∈ X2 ++ Y->b ∈ X:=fun b hb=>p.mem_iff.2 hb
 refine ⟨h0,fun b=>U' b ∨ b ∈ Y,X2,fun b hb=>.inl (h1 b hb),fun b hb=>?_,(List.nodup_append.1 hnd).1,fun b hb=>?_,q _ (fun b hb=>.inl hb) fun b hb=>⟨.inr hb,(h4 b (hmem b (by simp [hb]))).1⟩⟩
 ·rcases hb with hb | hb
  ·exact h2 b hb
  ·have:=h4 b (hmem b (by simp [hb]))
   exact ⟨.inr this.1,this.2.1⟩
 ·have:=h4 b (hmem b (by simp [hb]))
  refine ⟨this.1,this.2.1,fun hu=>?_⟩
  rcases hu with hu | hu
  ·exact this.2.2 hu
  ·exact (List.nodup_append.1 hnd).2.2 b hb b hu rfl
end
section
variable {P:Program} {Gl:Nat->Option (List T)}
theorem ToldOk.frz {f:FuncId} {args:List T} {r:T} (t:ToldOk P Gl f args r):ToldOk P Gl f args (Ab.frz r) :=
 ⟨t.enters,fun w U cargs hU hgl ha=>(t.calls w U cargs hU hgl ha).mono fun e w' ⟨v,q1,q2⟩=>⟨v,q1,q2.frz⟩⟩
theorem loop_exists (hm:P.follows .mixedOrders = true) {f r:Nat} (ha:loopAt P f r = true) {an:Ann} {k:Nat} (I:Nat->List T->Heap->Prop) (Post:Ex->List T->Heap->Prop)
 (round:∀ n vs h,I n vs h->(∃ m vs' h',m<n/\Step P Gl an f r k vs h vs' h'/\I m vs' h') ∨ (∃ e vs' h',Last P Gl an f r k vs h e vs' h'/\Post e vs' h'))
 {n:Nat} {vs:List T} {h:Heap} (hk:h.length = k) (hI:I n vs h):∃ e vs1 h1,Post e vs1 h1/\LoopOk P Gl an f r (litS vs h e vs1 h1):=by
 have key:∀ n vs h,I n vs h->∃ (N:Nat) (V:Nat->List T) (H:Nat->Heap) (e:Ex) (vs1:List T) (h1:Heap),V 0 = vs/\H 0 = h/\Post e vs1 h1/\(∀ i,i<N->Step P Gl an f r k (V i) (H i) (V (i+1)) (H (i+1)))/\Last P Gl an f r k (V N) (H N) e vs1 h1:=by
  intro n
  induction n using Nat.strongRecOn with
  | _ n ih =>
   intro vs h hI
   rcases round n vs h hI with ⟨m,vs',h',hm,hs,hI'⟩ | ⟨e,vs',h',hl,hp⟩
   ·obtain ⟨N,V,H,e,vs1,h1,q1,q2,q3,q4,q5⟩:=ih m hm vs' h' hI'
    refine ⟨N+1,fun i=>match i with | 0=>vs | i+1=>V i,fun i=>match i with | 0=>h | i+1=>H i,e,vs1,h1,rfl,rfl,q3,fun i hi=>?_,q5⟩
    cases i with
    | zero=>show Step P Gl an f r k vs h (V 0) (H 0); rw [q1,q2]; exact hs
    | succ i=>exact q4 i (by omega)
   ·exact ⟨0,fun _=>vs,fun _=>h,e,vs',h',rfl,rfl,hp,fun i hi=>by omega,hl⟩
 obtain ⟨N,V,H,e,vs1,h1,q1,q2,q3,q4,q5⟩:=key n vs h hI
 refine ⟨e,vs1,h1,q3,?_⟩
 have:=loop_steps (an:=an) hm ha V H (n:=N) (e1:=e) (vs1:=vs1) (h1:=h1) (fun i hi=>by rw [q2,hk]; exact q4 i hi) (by rw [q2,hk]; exact q5)
 rw [q1,q2] at this
 exact this
end
section
variable {P:Program} {Gl:Nat->Option (List T)}
theorem Step.mkC {an:Ann} {A:FuncId->Ann} {K:Orc} {f r m k:Nat} {l:List (Nat × (List T->Heap->LT))} {vs v1 v2 vs':List T} {h h1 h2 h':Heap} (hK:OrcOk P Gl K) (hp:(A f).prom = an.prom) (hl:(A f).live r = an.live r) (hL:∀ p ∈ l,LoopOk P Gl (A f) f p.1 p.2)
 (σ:List Nat) (hr:iterR P Gl A K m f l r vs h = some (.normal,v1,h1)) (ho:orderOkC k σ h1 = true) (hv:v1.map (ren σ h1) = v2) (hh:renH σ h1 = h2) (hw:∀ nt,WeakTo Gl an.prom nt (an.live r false) k v2 h2 vs' h'):Step P Gl an f r k vs h vs' h' :=
 ⟨v1,h1,⟨A,K,m,l,hK,hp,hl,hL,hr⟩,fun nt=>.trans (.canon σ ho) (by rw [hv,hh]; exact hw nt)⟩
theorem Last.mkC {an:Ann} {A:FuncId->Ann} {K:Orc} {f r m k:Nat} {l:List (Nat × (List T->Heap->LT))} {vs v1 v2 vs':List T} {h h1 h2 h':Heap} {e:Ex} (hK:OrcOk P Gl K) (hp:(A f).prom = an.prom) (hl:(A f).live r = an.live r) (hL:∀ p ∈ l,LoopOk P Gl (A f) f p.1 p.2)
 (he:e ≠ .normal) (σ:List Nat) (hr:iterR P Gl A K m f l r vs h = some (e,v1,h1)) (ho:orderOkC k σ h1 = true) (hv:v1.map (ren σ h1) = v2) (hh:renH σ h1 = h2) (hw:∀ nt,WeakTo Gl an.prom nt (an.live r true) k v2 h2 vs' h'):Last P Gl an f r k vs h e vs' h' :=
 ⟨he,v1,h1,⟨A,K,m,l,hK,hp,hl,hL,hr⟩,fun nt=>.trans (.canon σ ho) (by rw [hv,hh]; exact hw nt)⟩
end
inductive ResTo:T->T->Prop
 | refl (x:T):ResTo x x
 | nilv (sz:Nat) (g:Nat->List T) (cap:Option Nat) (hc:cap = none ∨ cap = some 0):ResTo .nils (.view sz 0 g cap)
 | niln (sz:Nat) (g:Nat->List T) (cap:Option Nat) (hc:cap = none ∨ cap = some 0):ResTo .nils (.new (.view sz 0 g cap))
 | new {x y:T} (h:Sim x y):ResTo (.new x) (.new y)
 | fresh {flat:Bool} {sz n:Nat} {g:Nat->List T} {len:Nat} {cap:Option Nat} {n':Nat} {g':Nat->List T} (h1:len<=n') (h2:n'<=n) (h3:∀ m,cap = some m->m<=n') (h4:∀ j,j<n'->g' j = g j):ResTo (.fresh flat sz n g len cap) (.fresh flat sz n' g' len cap)
 | view {sz n:Nat} {g:Nat->List T} {cap:Option Nat} {sz' n':Nat} {g':Nat->List T} {cap':Option Nat} (h:Sim (.view sz n g cap) (.view sz' n' g' cap')):ResTo (.view sz n g cap) (.view sz' n' g' cap')
section
variable {w:World} {B:Nat} {U:Nat->Prop} {P:Program} {Gl:Nat->Option (List T)}
theorem ResTo.rt0 {x y:T} (h:ResTo x y) {v:Value} {X:List Nat} (hx:RT0 w B U x v X):RT0 w B U y v X:=by
 cases h with
 | refl=>exact hx
 | nilv sz g cap hc=>cases hx with | vi _ _ hv=>cases hv; exact .vi _ _ (.vnil sz g cap hc)
 | niln sz g cap hc=>cases hx with | vi _ _ hv=>cases hv; exact .nw _ _ (.vnil sz g cap hc)
 | new h=>cases hx with
  | vi _ _ hv=>cases hv
  | nw _ _ hv=>exact .nw _ _ (h _ _ _ hv)
 | view h=>cases hx with | vi _ _ hv=>exact .vi _ _ (h _ _ _ hv)
 | fresh h1 h2 h3 h4=>cases hx with
  | vi _ _ hv=>cases hv
  | fresh _ _ _ _ _ _ cb sh cc ad arr e es e2 e3 e4 e5 e7 hh r1 r2 hl hc hf =>
   refine .fresh _ _ _ _ _ _ cb sh cc ad arr e es e2 e3 (fun m hm=>⟨(e4 m hm).1,h3 m hm⟩) h1 (fun hc=>Nat.le_trans h2 (e7 hc)) hh (Nat.le_trans (Nat.add_le_add_left (Nat.mul_le_mul_right _ h2) _) r1) r2 (fun j hj=>by rw [h4 j hj]; exact hl j (by omega)) (fun j o c hj ho=>hc j o c (by omega) (by rw [← h4 j hj]; exact ho)) fun hfl j hj c hcm=>hf hfl j (by omega) c (by rw [← h4 j hj]; exact hcm)
theorem ResTo.rt1 {x y:T} (h:ResTo x y) {v:Value} {X:List Nat} (hx:RT1 w B U x v X):RT1 w B U y v X:=by
 cases h with
 | refl=>exact hx
 | nilv sz g cap hc=>exact (ResTo.nilv sz g cap hc).rt0 (w:=w) (B:=B) (U:=U) hx
 | niln sz g cap hc=>exact (ResTo.niln sz g cap hc).rt0 (w:=w) (B:=B) (U:=U) hx
 | new h=>exact (ResTo.new h).rt0 (w:=w) (B:=B) (U:=U) hx
 | view h=>exact (ResTo.view h).rt0 (w:=w) (B:=B) (U:=U) hx
 | fresh h1 h2 h3 h4=>exact (ResTo.fresh h1 h2 h3 h4).rt0 (w:=w) (B:=B) (U:=U) hx
theorem ResTo.rt2 {x y:T} (h:ResTo x y) {v:Value} {X:List Nat} (hx:RT2 w B U x v X):RT2 w B U y v X:=by
 cases h with
 | refl=>exact hx
 | nilv sz g cap hc=>exact (ResTo.nilv sz g cap hc).rt0 (w:=w) (B:=B) (U:=U) hx
 | niln sz g cap hc=>exact (ResTo.niln sz g cap hc).rt0 (w:=w) (B:=B) (U:=U) hx
 | new h=>exact (ResTo.new h).rt0 (w:=w) (B:=B) (U:=U) hx
 | view h=>exact (ResTo.view h).rt0 (w:=w) (B:=B) (U:=U) hx
 | fresh h1 h2 h3 h4=>exact (ResTo.fresh h1 h2 h3 h4).rt0 (w:=w) (B:=B) (U:=U) hx
inductive ResToL:List T->List T->Prop
 | nil:ResToL [] []
 | cons {x y:T} {l m:List T} (h:ResTo x y) (hl:ResToL l m):ResToL (x :: l) (y :: m)
theorem ResToL.rtl {l m:List T} (h:ResToL l m):∀ {vs:List Value} {X:List Nat},RTL (RT1 w B U) l vs X->RTL (RT1 w B U) m vs X:=by
 induction h with
 | nil=>intro vs X hx; exact hx
 | cons h hl ih =>
  intro vs X hx
  cases hx with
  | cons _ _ _ _ _ _ h0 h1=>exact .cons _ _ _ _ _ _ (h.rt1 h0) (ih h1)
theorem ToldOk.resTo {f:FuncId} {args:List T} {r r2:T} (t:ToldOk P Gl f args r) (h:ResTo r r2):ToldOk P Gl f args r2 :=
 ⟨t.enters,fun w U cargs hU hgl ha=>(t.calls w U cargs hU hgl ha).mono fun e w' ⟨v,q1,q2⟩=>⟨v,q1,by
  obtain ⟨h0,U',X,h1,h2,h3,h4,h5⟩:=q2
  exact ⟨h0,U',X,h1,h2,h3,h4,h.rt2 h5⟩⟩⟩
theorem ToldOk.tupTo {f:FuncId} {args:List T} {l m:List T} (t:ToldOk P Gl f args (.tup l)) (h:ResToL l m):ToldOk P Gl f args (.tup m) :=
 ⟨t.enters,fun w U cargs hU hgl ha=>(t.calls w U cargs hU hgl ha).mono fun e w' ⟨v,q1,q2⟩=>⟨v,q1,by
  obtain ⟨h0,U',X,h1,h2,h3,h4,cs,rfl,h5⟩:=q2
  exact ⟨h0,U',X,h1,h2,h3,h4,cs,rfl,h.rtl h5⟩⟩⟩
end
section
variable {P:Program} {Gl:Nat->Option (List T)}
theorem range_lit (hm:P.follows .mixedOrders = true) {f r t:Nat} {an:Ann} (ha:rangeOk P an f r t = true)
 {vs:List T} (hvl:(an.live r false).length = vs.length) {gf:FuncId} {caps:List T} (hci:caps.all imm0 = true) {N:Nat} {xs:Nat->List T} (hseq:SeqTold P Gl gf caps N xs) {np:Nat} (hnp:(rangeAt P f r).map (fun p=>p.2.1.length) = some np) (hxl:∀ i,i<N->np = (xs i).length)
 (st:Nat->Heap) (hg:(mkSt (an.live r false) vs (st 0)).at t = .fn gf caps) {n:Nat} (hn:n<=N) {e1:Ex} {h1:Heap} {vo:List T} (hvo:getL (mkSt (an.live r false) vs (st 0)) (an.live r true) = vo)
 (round:∀ i,i<n->∃ (A:FuncId->Ann) (K:Orc) (m:Nat) (l:List (Nat × (List T->Heap->LT))),OrcOk P Gl K/\(A f).prom = an.prom/\(A f).live r = an.live r/\(∀ p ∈ l,LoopOk P Gl (A f) f p.1 p.2) ∧
  ∃ h',rangeR P Gl A K m f l r vs (xs i) (st i) = some (.normal,h')/\∀ nt,WeakTo Gl an.prom nt (an.live r false) (st 0).length vs h' vs (st (i+1)))
 (last:(n = N/\e1 = .normal/\h1 = st N) ∨ (n<N/\e1 ≠ .normal/\∃ (A:FuncId->Ann) (K:Orc) (m:Nat) (l:List (Nat × (List T->Heap->LT))),OrcOk P Gl K/\(A f).prom = an.prom/\(A f).live r = an.live r/\(∀ p ∈ l,LoopOk P Gl (A f) f p.1 p.2) ∧
  ∃ h',rangeR P Gl A K m f l r vs (xs n) (st n) = some (e1,h')/\∀ nt,WeakTo Gl an.prom nt (an.live r false) (st 0).length vs h' vs h1)):LoopOk P Gl an f r (litS vs (st 0) e1 vo h1) :=
 .lit fun fn hf hnt=>by
  rw [← hvo]
  exact range_told hm ha hf hnt hvl hci hseq hnp hxl st hg hn (fun i hi=>by
   obtain ⟨A,K,m,l,q1,q2,q3,q4,h',q5,q6⟩:=round i hi
   exact ⟨A,K,m,l,q1,q2,q3,q4,h',q5,q6 _⟩) (by
   rcases last with q | ⟨q1,q2,A,K,m,l,q3,q4,q5,q6,h',q7,q8⟩
   ·exact .inl q
   ·exact .inr ⟨q1,q2,A,K,m,l,q3,q4,q5,q6,h',q7,q8 _⟩)
end
end Go.Ab

