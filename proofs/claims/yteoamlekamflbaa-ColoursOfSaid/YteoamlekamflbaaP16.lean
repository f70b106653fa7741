/- A part of the proof: nothing is assumed. -/
import Derived.Test.YteoamlekamflbaaP12
import Derived.Test.YteoamlekamflbaaP14
set_option linter.all false
namespace Go.Ab
section
variable {P:Program} {Gl:Nat->Option (List T)} {prom:List Nat} {nt:Nat} {K:Orc} {A:FuncId->Ann}
def BGoes (P:Program) (Gl:Nat->Option (List T)) (prom:List Nat) (nt k:Nat) (c:Code) (s:St) (e:Ex) (s':St):Prop:=∀ h0:Heap,h0.length<=k->TailGoes P Gl prom nt h0 c s e s'
theorem CodeGoes.base {c:Code} {s s':St} {e:Ex} (h:CodeGoes P Gl prom nt c s e s') (k:Nat):BGoes P Gl prom nt k c s e s':=fun _ _=>tail_end h
def RecB (P:Program) (Gl:Nat->Option (List T)) (prom:List Nat) (nt k:Nat) (live:Nat->Bool->List Nat) (S:Code->Prop) (rec:Rec):Prop :=
 RecDet rec/\∀ b vs h e vs' h',S b->rec _ b vs h (fun e vs h=>some (e,vs,h)) = some (e,vs',h')->BGoes P Gl prom nt k (asLoop b) (mkSt (live (firstReg b) false) vs h) e (mkSt (live (firstReg b) true) vs' h')
theorem exK_leaf (hm:P.follows .mixedOrders = true) (hK:OrcOk P Gl K) (hnt:nt<=1024) {k0:Nat} {live:Nat->Bool->List Nat} {rec:Rec} (c:Code) {R:Type} {s:St} {k:Ex->St->Option R} {r:R} (hk:exK P K Gl prom nt live rec c s k = some r)
 (he:exK P K Gl prom nt live rec c s k = exK P K Gl prom nt live (loopN P K Gl prom nt live 0) c s k:=by rfl):∃ e s',k e s' = some r/\BGoes P Gl prom nt k0 c s e s':=by
 obtain ⟨e,s',h1,h2⟩:=exK_goes hm hK hnt (loopN_ok hm hK hnt 0) c (fun _ _=>trivial) (he.symm.trans hk)
 exact ⟨e,s',h1,h2.base k0⟩
theorem exK_base (hm:P.follows .mixedOrders = true) (hK:OrcOk P Gl K) (hnt:nt<=1024) {k0:Nat} {live:Nat->Bool->List Nat} {S:Code->Prop} {rec:Rec} (hrec:RecB P Gl prom nt k0 live S rec) :
 ∀ (c:Code) (_:∀ b ∈ loopsOf c,S b) {R:Type} {s:St} {k:Ex->St->Option R} {r:R},exK P K Gl prom nt live rec c s k = some r->∃ e s',k e s' = some r/\BGoes P Gl prom nt k0 c s e s'
 | .skip,_,R,s,k,r,hk=>exK_leaf hm hK hnt .skip hk
 | .label i,_,R,s,k,r,hk=>exK_leaf hm hK hnt (.label i) hk
 | .region id ops draw,_,R,s,k,r,hk=>exK_leaf hm hK hnt (rec:=rec) (.region id ops draw) hk
 | .seq x y,hl,R,s,k,r,hk=>by
  simp only [exK] at hk
  obtain ⟨e,s1,hk,h1⟩:=exK_base hm hK hnt hrec x (fun b hb=>hl b (by simp [loopsOf,hb])) hk
  cases e with
  | normal =>
   obtain ⟨e2,s2,hk,h2⟩:=exK_base hm hK hnt hrec y (fun b hb=>hl b (by simp [loopsOf,hb])) hk
   exact ⟨e2,s2,hk,fun h0 hle ro n hro g0 w0 g a w hr hf hs Q hn=>wpIn_seq (h1 h0 hle ro n (fun h=>hro (by simp [hasRange,h])) g0 w0 g a w hr hf hs _ fun a1 w1 g1 hs1 hf1 hd1=>h2 h0 hle ro n (fun h=>hro (by simp [hasRange,h])) g0 w0 g1 a1 w1 hr hf1 hs1 Q fun a2 w2 g2 hs2 hf2 hd2=>hn a2 w2 g2 hs2 hf2 fun h=>by simp only [hasRange,Bool.or_eq_false_iff] at h; exact (hd2 h.2).trans (hd1 h.1))⟩
  | exit i=>exact ⟨_,_,hk,fun h0 hle ro n hro g0 w0 g a w hr hf hs Q hn=>wpIn_seq (h1 h0 hle ro n (fun h=>hro (by simp [hasRange,h])) g0 w0 g a w hr hf hs _ fun a1 w1 g1 hs1 hf1 hd1=>hn a1 w1 g1 hs1 hf1 fun h=>by simp only [hasRange,Bool.or_eq_false_iff] at h; exact hd1 h.1)⟩
  | ret=>exact ⟨_,_,hk,fun h0 hle ro n hro g0 w0 g a w hr hf hs Q hn=>wpIn_seq (h1 h0 hle ro n (fun h=>hro (by simp [hasRange,h])) g0 w0 g a w hr hf hs _ fun a1 w1 g1 hs1 hf1 hd1=>hn a1 w1 g1 hs1 hf1 fun h=>by simp only [hasRange,Bool.or_eq_false_iff] at h; exact hd1 h.1)⟩
 | .cond c x y,hl,R,s,k,r,hk=>by
  simp only [exK] at hk
  cases hc:Ab.ev Gl prom s c with
  | bool t =>
   rw [hc] at hk
   have hev:∀ (g:Gh) (a:Act) (w:World),SR Gl prom nt g s a w->a.eval c = .bool t:=fun g a w hs=>by
    have:=hs.ev c
    rw [hc] at this
    exact this.bool
   cases t with
   | true =>
    obtain ⟨e,s1,hk,h1⟩:=exK_base hm hK hnt hrec x (fun b hb=>hl b (by simp [loopsOf,hb])) hk
    exact ⟨e,s1,hk,fun h0 hle ro n hro g0 w0 g a w hr hf hs Q hn=>wpIn_cond_true (hev g a w hs) (h1 h0 hle ro n (fun h=>hro (by simp [hasRange,h])) g0 w0 g a w hr hf hs Q fun a1 w1 g1 hs1 hf1 hd1=>hn a1 w1 g1 hs1 hf1 fun h=>by simp only [hasRange,Bool.or_eq_false_iff] at h; exact hd1 h.1)⟩
   | false =>
    obtain ⟨e,s1,hk,h1⟩:=exK_base hm hK hnt hrec y (fun b hb=>hl b (by simp [loopsOf,hb])) hk
    exact ⟨e,s1,hk,fun h0 hle ro n hro g0 w0 g a w hr hf hs Q hn=>wpIn_cond_false (hev g a w hs) (h1 h0 hle ro n (fun h=>hro (by simp [hasRange,h])) g0 w0 g a w hr hf hs Q fun a1 w1 g1 hs1 hf1 hd1=>hn a1 w1 g1 hs1 hf1 fun h=>by simp only [hasRange,Bool.or_eq_false_iff] at h; exact hd1 h.2)⟩
  | _=>rw [hc] at hk; cases hk
 | .block id b,hl,R,s,k,r,hk=>by
  simp only [exK] at hk
  obtain ⟨e,s1,hk,h1⟩:=exK_base hm hK hnt hrec b (fun b' hb=>hl b' (by simp [loopsOf,hb])) hk
  cases e with
  | normal=>exact ⟨_,_,hk,fun h0 hle ro n hro g0 w0 g a w hr hf hs Q hn=>wpIn_block (h1 h0 hle ro n (fun h=>hro (by simp [hasRange,h])) g0 w0 g a w hr hf hs _ fun a1 w1 g1 hs1 hf1 hd1=>hn a1 w1 g1 hs1 hf1 fun h=>hd1 (by simpa only [hasRange] using h))⟩
  | ret=>exact ⟨_,_,hk,fun h0 hle ro n hro g0 w0 g a w hr hf hs Q hn=>wpIn_block (h1 h0 hle ro n (fun h=>hro (by simp [hasRange,h])) g0 w0 g a w hr hf hs _ fun a1 w1 g1 hs1 hf1 hd1=>hn a1 w1 g1 hs1 hf1 fun h=>hd1 (by simpa only [hasRange] using h))⟩
  | exit i =>
   dsimp only at hk
   rcases bif_some hk with ⟨hi,hk⟩ | ⟨hi,hk⟩
   ·refine ⟨_,_,hk,fun h0 hle ro n hro g0 w0 g a w hr hf hs Q hn=>wpIn_block (h1 h0 hle ro n (fun h=>hro (by simp [hasRange,h])) g0 w0 g a w hr hf hs _ fun a1 w1 g1 hs1 hf1 hd1=>?_)⟩
    have hi:i = id:=by simpa using hi
    simp only [Ex.out,Exit.inBlock,if_pos hi]
    exact hn a1 w1 g1 hs1 hf1 fun h=>hd1 (by simpa only [hasRange] using h)
   ·refine ⟨_,_,hk,fun h0 hle ro n hro g0 w0 g a w hr hf hs Q hn=>wpIn_block (h1 h0 hle ro n (fun h=>hro (by simp [hasRange,h])) g0 w0 g a w hr hf hs _ fun a1 w1 g1 hs1 hf1 hd1=>?_)⟩
    have hi:i ≠ id:=by simpa using hi
    simp only [Ex.out,Exit.inBlock,if_neg hi]
    exact hn a1 w1 g1 hs1 hf1 fun h=>hd1 (by simpa only [hasRange] using h)
 | .loop b,hl,R,s,k,r,hk=>by
  simp only [exK] at hk
  rcases bif_some hk with ⟨_,hk⟩ | ⟨hrg,hk⟩
  ·cases hk
  obtain ⟨⟨e,vs,h⟩,hk,hr⟩:=det_some (hrec.1 b (getL s (live (firstReg b) false)) s.h) (k:=fun p=>k p.1 (mkSt (live (firstReg b) true) p.2.1 p.2.2)) hk
  have hgo:=hrec.2 b _ _ e vs h (hl b (by simp [loopsOf])) (hr _ some)
  rw [show asLoop b = .loop b by simp [asLoop,hrg]] at hgo
  exact ⟨e,_,hk,fun h0 hle ro n hro g0 w0 g a w hr hf hs Q hn=>hgo h0 hle ro n hro g0 w0 g a w hr hf (hs.only _) Q hn⟩
 | .exit id,_,R,s,k,r,hk=>exK_leaf hm hK hnt (.exit id) hk
 | .ret,_,R,s,k,r,hk=>exK_leaf hm hK hnt .ret hk
 | .scope b,hl,R,s,k,r,hk=>by
  simp only [exK] at hk
  obtain ⟨e,s1,hk,h1⟩:=exK_base hm hK hnt hrec b (fun b' hb=>hl b' (by simpa [loopsOf] using hb)) hk
  refine ⟨e,s1,hk,fun h0 hle ro n hro g0 w0 g a w hr hf hs Q hn=>wpIn_scope (h1 h0 hle ro n (fun h=>hro (by simpa [hasRange] using h)) g0 w0 g a w hr hf hs _ fun a1 w1 g1 hs1 hf1 hd1=>?_)⟩
  have:=hn a1 w1 g1 hs1 hf1 fun h=>hd1 (by simpa only [hasRange] using h)
  cases e <;> exact this
 | .goto _,_,R,s,k,r,hk=>by simp only [exK] at hk; cases hk
 | .refuse _,_,R,s,k,r,hk=>by simp only [exK] at hk; cases hk
 | .rangeFunc f ps x y,hl,R,s,k,r,hk=>by
  simp only [exK] at hk
  obtain ⟨⟨e,vs,h⟩,hk,hr⟩:=det_some (hrec.1 (.rangeFunc f ps x y) (getL s (live (firstReg (.rangeFunc f ps x y)) false)) s.h) (k:=fun p=>k p.1 (mkSt (live (firstReg (.rangeFunc f ps x y)) true) p.2.1 p.2.2)) hk
  have hgo:=hrec.2 _ _ _ e vs h (hl (.rangeFunc f ps x y) (by simp [loopsOf])) (hr _ some)
  rw [show asLoop (.rangeFunc f ps x y) = .rangeFunc f ps x y by rfl] at hgo
  exact ⟨e,_,hk,fun h0 hle ro n hro g0 w0 g a w hr hf hs Q hn=>hgo h0 hle ro n hro g0 w0 g a w hr hf (hs.only _) Q hn⟩
def BaseOk (P:Program) (Gl:Nat->Option (List T)) (an:Ann) (f:FuncId) (k r:Nat) (spec:List T->Heap->LT):Prop :=
 ∀ fn,P.funcs[f]? = some fn->fn.ntmps<=1024->∀ vs h e vs' h',(spec vs h).run (fun e vs h=>some (e,vs,h)) = some (e,vs',h') →
  BGoes P Gl an.prom fn.ntmps k (asLoop (bodyAt P f r)) (mkSt (an.live r false) vs h) e (mkSt (an.live r true) vs' h')
theorem LoopOk.base {an:Ann} {f r:Nat} {spec:List T->Heap->LT} (h:LoopOk P Gl an f r spec) (k:Nat):BaseOk P Gl an f k r spec:=fun fn hf hnt vs hp e vs' h' hk=>(h fn hf hnt vs hp e vs' h' hk).base k
theorem recWith_base {f k:Nat} (ha:loopsApart P f = true) {base:Func->Rec} (hbd:∀ fn,RecDet (base fn)) (hb:RecsOk P Gl A f base) {fn:Func} {c:Code} (hf:P.funcs[f]? = some fn) (hc:fn.body = some c) (hnt:fn.ntmps<=1024) :
 ∀ {l:List (Nat × (List T->Heap->LT))},(∀ p ∈ l,BaseOk P Gl (A f) f k p.1 p.2)->RecB P Gl (A f).prom fn.ntmps k (A f).live (fun b=>b ∈ loopsOf c) (recWith l base fn)
 | [],_=>⟨hbd fn,fun b vs h e vs' h' hS hk=>((hb fn c hf hc hnt).2 b vs h e vs' h' hS hk).base k⟩
 | (r,spec) :: l,hl=>by
  have ih:=recWith_base ha hbd hb hf hc hnt (l:=l) (fun p hp=>hl p (by simp [hp]))
  refine ⟨recWith_det hbd _ fn,fun b vs h e vs' h' hS hk=>?_⟩
  simp only [recWith] at hk
  rcases bif_some hk with ⟨hr,hk⟩ | ⟨_,hk⟩
  ·have hr:firstReg b = r:=by simpa using hr
   have:=hl (r,spec) (by simp) fn hf hnt vs h e vs' h' hk
   dsimp only at this
   rw [← hr,bodyAt_of ha hf hc hS] at this
   exact this
  ·exact ih.2 b vs h e vs' h' hS hk
def stepT (P:Program) (G:Nat->Option (List T)) (A:FuncId->Ann) (K:Orc) (m:Nat) (f:FuncId) (l:List (Nat × (List T->Heap->LT))) (args:List T):Option T:=match P.funcs[f]? with
 | some fn=>match fn.body with
  | some c=>bif Nat.ble fn.ntmps 1024&&Nat.ble args.length fn.ntmps then
   exK P K G (A f).prom fn.ntmps (A f).live (recWith l (recN P G A K m f) fn) c (enter args []) fun e s=>match e with
    | .ret=>resK P G (A f).prom fn s fun v=>some (give s.h v)
    | _=>none
   else none
  | none=>none
 | none=>none
theorem stepT_told (hm:P.follows .mixedOrders = true) (hn:namesOk P = true) (hK:OrcOk P Gl K) {m:Nat} {f:FuncId} (ha:loopsApart P f = true) {l:List (Nat × (List T->Heap->LT))}
 (hl:∀ p ∈ l,BaseOk P Gl (A f) f 0 p.1 p.2) {args:List T} {r:T} (h:stepT P Gl A K m f l args = some r):ToldOk P Gl f args r:=by
 unfold stepT at h
 cases hf:P.funcs[f]? with
 | none=>rw [hf] at h; cases h
 | some fn =>
  rw [hf] at h
  dsimp only at h
  cases hb:fn.body with
  | none=>rw [hb] at h; cases h
  | some c =>
   rw [hb] at h
   dsimp only at h
   obtain ⟨hc,h⟩:=bif_none h
   have hc':=hc
   simp only [Bool.and_eq_true] at hc'
   have hnt:=ble_le hc'.1
   obtain ⟨e,s',hk,hgo⟩:=exK_base hm hK hnt (recWith_base (A:=A) (k:=0) ha (recN_det P Gl A K m f) (recN_ok hm hK m f) hf hb hnt hl) c (fun _ hb=>hb) h
   cases e with
   | ret=>exact goes_told hn hf hb hc (tail_goes (hgo [] (Nat.le_refl _))) hk
   | _=>cases hk
noncomputable def weakK (k:Nat) (vs:List T) (h:Heap) (vs0:List T) (h0:Heap):Bool:=@decide (∀ (Gl:Nat->Option (List T)) (prom:List Nat) (nt:Nat) (l:List Nat),WeakTo Gl prom nt l k vs h vs0 h0) (Classical.propDecidable _)
theorem weakK_iff {k:Nat} {vs vs0:List T} {h h0:Heap}:weakK k vs h vs0 h0 = true ↔ ∀ (Gl:Nat->Option (List T)) (prom:List Nat) (nt:Nat) (l:List Nat),WeakTo Gl prom nt l k vs h vs0 h0:=by simp [weakK]
theorem weakK_of {k:Nat} {vs vs0:List T} {h h0:Heap} (q:vs = vs0/\SameBlks h h0):weakK k vs h vs0 h0 = true:=weakK_iff.2 fun Gl prom nt l=>by rw [q.1]; exact WeakTo.same q.2
theorem weakK_canon {k:Nat} {vs vs':List T} {h h2 h':Heap} (σ:List Nat) (ho:orderOkC k σ h = true) (hv:vs.map (ren σ h) = vs') (hh:renH σ h = h2) (hs:SameBlks h2 h'):weakK k vs h vs' h' = true:=weakK_iff.2 fun Gl prom nt l=>.trans (.canon σ ho) (by rw [hv,hh]; exact .same hs)
noncomputable def litK (k:Nat) (vs0:List T) (h0:Heap) (e:Ex) (vs1:List T) (h1:Heap):List T->Heap->LT:=fun vs h=>.ite (weakK k vs h vs0 h0) (.ret e vs1 h1) .none
def RndB (P:Program) (Gl:Nat->Option (List T)) (an:Ann) (f r k:Nat) (vs:List T) (h:Heap) (e:Ex) (vs':List T) (h':Heap):Prop :=
 ∃ (A:FuncId->Ann) (K:Orc) (m:Nat) (l:List (Nat × (List T->Heap->LT))),OrcOk P Gl K/\(A f).prom = an.prom/\(A f).live r = an.live r/\(∀ p ∈ l,BaseOk P Gl (A f) f k p.1 p.2)/\iterR P Gl A K m f l r vs h = some (e,vs',h')
theorem Rnd.base {an:Ann} {f r:Nat} {vs vs':List T} {h h':Heap} {e:Ex} (x:Rnd P Gl an f r vs h e vs' h') (k:Nat):RndB P Gl an f r k vs h e vs' h':=by
 obtain ⟨A,K,m,l,q1,q2,q3,q4,q5⟩:=x
 exact ⟨A,K,m,l,q1,q2,q3,fun p hp=>(q4 p hp).base k,q5⟩
def StepB (P:Program) (Gl:Nat->Option (List T)) (an:Ann) (f r k:Nat) (vs:List T) (h:Heap) (vs':List T) (h':Heap):Prop :=
 ∃ v1 h1,RndB P Gl an f r k vs h .normal v1 h1/\∀ nt,WeakTo Gl an.prom nt (an.live r false) k v1 h1 vs' h'
def LastB (P:Program) (Gl:Nat->Option (List T)) (an:Ann) (f r k:Nat) (vs:List T) (h:Heap) (e:Ex) (vs':List T) (h':Heap):Prop :=
 e ≠ .normal/\∃ v1 h1,RndB P Gl an f r k vs h e v1 h1/\∀ nt,WeakTo Gl an.prom nt (an.live r true) k v1 h1 vs' h'
theorem Step.base {an:Ann} {f r k:Nat} {vs vs':List T} {h h':Heap} (x:Step P Gl an f r k vs h vs' h'):StepB P Gl an f r k vs h vs' h':=by
 obtain ⟨v1,h1,q1,q2⟩:=x
 exact ⟨v1,h1,q1.base k,q2⟩
theorem Last.base {an:Ann} {f r k:Nat} {vs vs':List T} {h h':Heap} {e:Ex} (x:Last P Gl an f r k vs h e vs' h'):LastB P Gl an f r k vs h e vs' h':=by
 obtain ⟨he,v1,h1,q1,q2⟩:=x
 exact ⟨he,v1,h1,q1.base k,q2⟩
theorem base_steps (hm:P.follows .mixedOrders = true) {f r k:Nat} (ha:loopAt P f r = true) {an:Ann} (vs:Nat->List T) (hh:Nat->Heap) {n:Nat} {e1:Ex} {vs1:List T} {h1:Heap}
 (round:∀ i,i<n->StepB P Gl an f r k (vs i) (hh i) (vs (i+1)) (hh (i+1))) (last:LastB P Gl an f r k (vs n) (hh n) e1 vs1 h1):BaseOk P Gl an f k r (litK k (vs 0) (hh 0) e1 vs1 h1):=by
 intro fn hf hnt vs0 h0' e vs' h' hk
 unfold litK at hk
 obtain ⟨hc,rfl,rfl,rfl⟩:=LT.ite_some hk
 have hw0:=weakK_iff.1 hc
 obtain ⟨hap,c,hb,hmem,hfr,hasl⟩:=loopAt_of ha hf
 rw [hasl]
 intro h0 hle ro nn hro g0 w0 g a w hr0 hf0 hs0 Q hn
 obtain ⟨gs,q1,q2,_⟩:=hw0 Gl an.prom fn.ntmps (an.live r false) g a w g0 h0 w0 hle hr0 hf0 hs0
 refine wpIn_loop_num (fun j a' w'=>∃ i g',i<=n/\j = n - i/\SR Gl an.prom fn.ntmps g' (mkSt (an.live r false) (vs i) (hh i)) a' w'/\FrC g0 h0 w0 g' (hh i) w'/\(hasRange (bodyAt P f r) = false->a'.defers = a.defers)) (fun j a' w' hJ=>?_) n a w ⟨0,gs,Nat.zero_le _,rfl,q1,q2,fun _=>rfl⟩
 obtain ⟨i,g',hi,rfl,hs,hfr',hdf⟩:=hJ
 have go:∀ {e v1 h2},RndB P Gl an f r k (vs i) (hh i) e v1 h2->BGoes P Gl an.prom fn.ntmps k (bodyAt P f r) (mkSt (an.live r false) (vs i) (hh i)) e (mkSt (match e with | .normal=>an.live r false | _=>an.live r true) v1 h2):=fun {e v1 h2} x=>by
  obtain ⟨A,K,m,l,hK,hp,hlive,hl,hit⟩:=x
  unfold iterR at hit
  rw [hf] at hit
  dsimp only at hit
  obtain ⟨e',s',hk2,hgo⟩:=exK_base hm hK hnt (recWith_base (A:=A) (k:=k) hap (recN_det P Gl A K m f) (recN_ok hm hK m f) hf hb hnt hl) (bodyAt P f r) (fun b hb'=>loopsOf_trans c hmem hb') hit
  rw [hp,hlive] at hgo
  rw [hlive] at hk2
  cases e' with
  | normal =>
   simp only [Option.some.injEq,Prod.mk.injEq] at hk2
   obtain ⟨rfl,rfl,rfl⟩:=hk2
   exact fun h0 hle ro n hro g0 w0 g a w hr hf hs Q hn=>hgo h0 hle ro n hro g0 w0 g a w hr hf hs Q fun a' w' g' hs' hf' hd'=>hn a' w' g' (hs'.only _) hf' hd'
  | exit j =>
   simp only [Option.some.injEq,Prod.mk.injEq] at hk2
   obtain ⟨rfl,rfl,rfl⟩:=hk2
   exact fun h0 hle ro n hro g0 w0 g a w hr hf hs Q hn=>hgo h0 hle ro n hro g0 w0 g a w hr hf hs Q fun a' w' g' hs' hf' hd'=>hn a' w' g' (hs'.only _) hf' hd'
  | ret =>
   simp only [Option.some.injEq,Prod.mk.injEq] at hk2
   obtain ⟨rfl,rfl,rfl⟩:=hk2
   exact fun h0 hle ro n hro g0 w0 g a w hr hf hs Q hn=>hgo h0 hle ro n hro g0 w0 g a w hr hf hs Q fun a' w' g' hs' hf' hd'=>hn a' w' g' (hs'.only _) hf' hd'
 rcases Nat.lt_or_ge i n with hlt | hge
 ·obtain ⟨v1,h2,hx,hw⟩:=round i hlt
  refine go hx h0 hle ro nn (fun hh=>hro (by simpa [hasRange] using hh)) g0 w0 g' a' w' hr0 hfr' hs _ fun a2 w2 g2 hs2 hf2 hd2=>?_
  obtain ⟨g3,p1,p2,_⟩:=hw fn.ntmps g2 a2 w2 g0 h0 w0 hle hr0 hf2 hs2
  exact ⟨n - (i+1),by omega,i+1,g3,by omega,rfl,p1,p2,fun h=>(hd2 h).trans (hdf h)⟩
 ·obtain rfl:i = n:=by omega
  obtain ⟨hne,v1,h2,hx,hw⟩:=last
  refine go hx h0 hle ro nn (fun hh=>hro (by simpa [hasRange] using hh)) g0 w0 g' a' w' hr0 hfr' hs _ fun a2 w2 g2 hs2 hf2 hd2=>?_
  cases e1 with
  | normal=>exact absurd rfl hne
  | exit j =>
   obtain ⟨g3,p1,p2,_⟩:=hw fn.ntmps g2 a2 w2 g0 h0 w0 hle hr0 hf2 hs2
   exact hn a2 w2 g3 p1 p2 fun h=>by simp only [hasRange] at h; exact (hd2 h).trans (hdf h)
  | ret =>
   obtain ⟨g3,p1,p2,_⟩:=hw fn.ntmps g2 a2 w2 g0 h0 w0 hle hr0 hf2 hs2
   exact hn a2 w2 g3 p1 p2 fun h=>by simp only [hasRange] at h; exact (hd2 h).trans (hdf h)
theorem is_base (P:Program) (Gl:Nat->Option (List T)) (an:Ann) (f k r:Nat):∃ q:List T->Heap->Ex->List T->Heap->Prop,q = fun vs h e vs' h'=>BaseOk P Gl an f k r (litK k vs h e vs' h'):=⟨_,rfl⟩
theorem BaseOk.less {an:Ann} {f k r:Nat} {vs vs0 vs1:List T} {h h0 h1:Heap} {e:Ex} (l:BaseOk P Gl an f k r (litK k vs0 h0 e vs1 h1)) (hw:weakK k vs h vs0 h0 = true):BaseOk P Gl an f k r (litK k vs h e vs1 h1):=by
 intro fn hf hnt vs2 h2 e' vs' h' hk
 unfold litK at hk
 obtain ⟨hc,rfl,rfl,rfl⟩:=LT.ite_some hk
 refine l fn hf hnt vs2 h2 _ _ _ ?_
 unfold litK
 simp only [LT.run]
 rw [weakK_iff.2 fun Gl prom nt l=>(weakK_iff.1 hc Gl prom nt l).trans (weakK_iff.1 hw Gl prom nt l)]
 rfl
theorem LoopOk.lit_base {an:Ann} {f k r:Nat} {vs0 vs1:List T} {h0 h1:Heap} {e:Ex} (l:LoopOk P Gl an f r (litS vs0 h0 e vs1 h1)):BaseOk P Gl an f k r (litK k vs0 h0 e vs1 h1):=by
 intro fn hf hnt vs2 h2 e' vs' h' hk
 unfold litK at hk
 obtain ⟨hc,rfl,rfl,rfl⟩:=LT.ite_some hk
 have hgo:=l fn hf hnt vs0 h0 _ _ _ (by unfold litS; simp only [LT.run]; rw [weakF_of ⟨rfl,.refl _⟩]; rfl)
 intro hp hle ro n hro g0 w0 g a w hr hf' hs Q hn
 obtain ⟨g2,q1,q2,_⟩:=weakK_iff.1 hc Gl an.prom fn.ntmps (an.live r false) g a w g0 hp w0 hle hr hf' hs
 exact hgo ro n hro g2 a w q1 Q fun a' w' g' hs' hf2 hd'=>hn a' w' g' hs' (q2.trans hf2) hd'
theorem baseF_ok {an:Ann} {f k r:Nat} {q:List T->Heap->Ex->List T->Heap->Prop} (hq:q = fun vs h e vs' h'=>BaseOk P Gl an f k r (litK k vs h e vs' h')):∀ t:LT,BaseOk P Gl an f k r (loopF q t)
 | .none,fn,hf,hnt,vs,h,e,vs',h',hk=>by cases hk
 | .ret e1 v1 h1,fn,hf,hnt,vs,h,e,vs',h',hk=>by
  simp only [loopF,LT.run] at hk
  obtain ⟨hc,hk⟩:=bif_none hk
  simp only [Option.some.injEq,Prod.mk.injEq] at hk
  obtain ⟨rfl,rfl,rfl⟩:=hk
  have:=decF_iff.1 hc
  rw [hq] at this
  refine this fn hf hnt vs h e1 v1 h1 ?_
  unfold litK
  simp only [LT.run]
  rw [weakK_of ⟨rfl,.refl _⟩]
  rfl
 | .ite c x y,fn,hf,hnt,vs,h,e,vs',h',hk=>by
  simp only [loopF,LT.run] at hk
  cases c
  ·exact baseF_ok hq y fn hf hnt vs h e vs' h' hk
  ·exact baseF_ok hq x fn hf hnt vs h e vs' h' hk
theorem baseF_y {an:Ann} {f k r:Nat} {q:List T->Heap->Ex->List T->Heap->Prop} (hq:q = fun vs h e vs' h'=>BaseOk P Gl an f k r (litK k vs h e vs' h')) {vs vs1:List T} {h h1:Heap} {e:Ex} (l:BaseOk P Gl an f k r (litK k vs h e vs1 h1)):q vs h e vs1 h1:=by rw [hq]; exact l
theorem baseF_yes {an:Ann} {f k r:Nat} {q:List T->Heap->Ex->List T->Heap->Prop} (hq:q = fun vs h e vs' h'=>BaseOk P Gl an f k r (litK k vs h e vs' h')) {vs vs1:List T} {h h1:Heap} {e:Ex} (l:BaseOk P Gl an f k r (litK k vs h e vs1 h1)):decF (q vs h e vs1 h1) = true:=decF_iff.2 (baseF_y hq l)
theorem bases1 {an:Ann} {f k r:Nat} {s:List T->Heap->LT} (h:BaseOk P Gl an f k r s):∀ p ∈ [(r,s)],BaseOk P Gl an f k p.1 p.2:=fun p hp=>by
 simp only [List.mem_singleton] at hp; subst hp; exact h
theorem basesC {an:Ann} {f k r:Nat} {s:List T->Heap->LT} {l:List (Nat × (List T->Heap->LT))} (h:BaseOk P Gl an f k r s) (hl:∀ p ∈ l,BaseOk P Gl an f k p.1 p.2):∀ p ∈ (r,s) :: l,BaseOk P Gl an f k p.1 p.2:=fun p hp=>by
 rcases List.mem_cons.1 hp with rfl | hp
 ·exact h
 ·exact hl p hp
end
end Go.Ab

