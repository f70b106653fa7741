/- A part of the proof: nothing is assumed. -/
import Derived.Test.YtlaganadekpcjaaP3
import Derived.Test.YtlaganadekpcjaaP9
import Derived.Test.YtlaganadekpcjaaP11
import Derived.Test.YtlaganadekpcjaaP7
set_option linter.all false
namespace Go.Ab
def sq1:Code->Code
 | .seq a _=>a
 | c=>c
def sq2:Code->Code
 | .seq _ b=>b
 | c=>c
def codeL (P:Program) (G:Nat->Option (List T)) (A:FuncId->Ann) (K:Orc) (m:Nat) (f:FuncId) (lo:List (Nat × (List T->Heap->LT))) (pick:Code->Code) (l:List Nat) (vs:List T) (h:Heap) (l':List Nat):Option (Ex × List T × Heap) :=
 match P.funcs[f]? with
 | some fn=>match fn.body with
  | some c=>exK P K G (A f).prom fn.ntmps (A f).live (recWith lo (recN P G A K m f) fn) (pick c) (mkSt l vs h) fun e s=>some (e,getL s l',s.h)
  | none=>none
 | none=>none
section
variable {P:Program} {Gl:Nat->Option (List T)} {K:Orc} {A:FuncId->Ann}
theorem loops_sq1 (c:Code):∀ b ∈ loopsOf (sq1 c),b ∈ loopsOf c:=by
 intro b hb
 cases c with
 | seq x y=>simp only [sq1,loopsOf,List.mem_append] at *; exact .inl hb
 | _=>exact hb
theorem loops_sq2 (c:Code):∀ b ∈ loopsOf (sq2 c),b ∈ loopsOf c:=by
 intro b hb
 cases c with
 | seq x y=>simp only [sq2,loopsOf,List.mem_append] at *; exact .inr hb
 | _=>exact hb
end
section
variable {P:Program} {Gl:Nat->Option (List T)} {prom:List Nat} {nt:Nat}
theorem goes_codeL {K:Orc} {A:FuncId->Ann} (hm:P.follows .mixedOrders = true) (hK:OrcOk P Gl K) {m:Nat} {f:FuncId} {fn:Func} {c:Code} (hf:P.funcs[f]? = some fn) (hb:fn.body = some c) (hnt:fn.ntmps<=1024) (ha:loopsApart P f = true) {lo:List (Nat × (List T->Heap->LT))} (hL:∀ p ∈ lo,LoopOk P Gl (A f) f p.1 p.2)
 (pick:Code->Code) {c0:Code} (hc:pick c = c0) (hsub:∀ b ∈ loopsOf (pick c),b ∈ loopsOf c) {l l':List Nat} {vs vs':List T} {h h':Heap} {e:Ex}
 (hk:codeL P Gl A K m f lo pick l vs h l' = some (e,vs',h')):CodeGoes P Gl (A f).prom fn.ntmps c0 (mkSt l vs h) e (mkSt l' vs' h'):=by
 subst hc
 unfold codeL at hk
 rw [hf] at hk
 dsimp only at hk
 rw [hb] at hk
 dsimp only at hk
 have hrec:=recWith_ok (A:=A) ha (recN_det P Gl A K m f) (recN_ok hm hK m f) hL fn c hf hb hnt
 obtain ⟨e1,s1,hk,hgo⟩:=exK_goes hm hK hnt hrec (pick c) hsub hk
 simp only [Option.some.injEq,Prod.mk.injEq] at hk
 obtain ⟨rfl,rfl,rfl⟩:=hk
 exact fun ro n hro g a w hs Q hn=>hgo ro n hro g a w hs Q fun a' w' g' hs' hf' hd'=>hn a' w' g' (hs'.only l') hf' hd'
end
def inB:Code->Code
 | .block _ c=>c
 | .loop c=>c
 | .scope c=>c
 | c=>c
theorem loops_inB (c:Code):∀ b ∈ loopsOf (inB c),b ∈ loopsOf c:=by
 intro b hb
 cases c with
 | loop x=>simp only [inB,loopsOf,List.mem_cons] at *; exact .inr hb
 | _=>exact hb
section
variable {P:Program} {Gl:Nat->Option (List T)} {prom:List Nat} {nt:Nat} {K:Orc} {A:FuncId->Ann}
def TailGoes (P:Program) (Gl:Nat->Option (List T)) (prom:List Nat) (nt:Nat) (h0:Heap) (c:Code) (s:St) (e:Ex) (s':St):Prop :=
 ∀ (ro:Option Nat) (n:Nat),(hasRange c = true->ro = none)->∀ (g0:Gh) (w0:World) (g:Gh) (a:Act) (w:World),HR g0 h0 w0->FrC g0 h0 w0 g s.h w->SR Gl prom nt g s a w->∀ Q:Exit->Act->World->Prop,
  (∀ a' w' g',SR Gl prom nt g' s' a' w'->FrC g0 h0 w0 g' s'.h w'->(hasRange c = false->a'.defers = a.defers)->Q e.out a' w')->c.wpIn (wideR ro) n P Q a w
theorem tail_end {h0:Heap} {c:Code} {s s':St} {e:Ex} (h:CodeGoes P Gl prom nt c s e s'):TailGoes P Gl prom nt h0 c s e s' :=
 fun ro n hro _ _ g a w _ hf hs Q hn=>h ro n hro g a w hs Q fun a' w' g' hs' hf' hd'=>hn a' w' g' hs' (hf.trans hf') hd'
theorem tail_scope {h0:Heap} {c:Code} {s s':St} {e:Ex} (h:TailGoes P Gl prom nt h0 c s e s'):TailGoes P Gl prom nt h0 (.scope c) s e s' :=
 fun ro n hro g0 w0 g a w hr hf hs Q hn=>wpIn_scope (h ro n (fun h=>hro (by simpa [hasRange] using h)) g0 w0 g a w hr hf hs _ fun a1 w1 g1 hs1 hf1 hd1=>by
  have:=hn a1 w1 g1 hs1 hf1 fun h=>hd1 (by simpa only [hasRange] using h)
  cases e <;> exact this)
theorem tail_weak {h0:Heap} {c:Code} {s':St} {e:Ex} {l:List Nat} {vs vs2:List T} {h h2:Heap} (hw:WeakTo Gl prom nt l h0.length vs h vs2 h2) (ht:TailGoes P Gl prom nt h0 c (mkSt l vs2 h2) e s'):TailGoes P Gl prom nt h0 c (mkSt l vs h) e s' :=
 fun ro n hro g0 w0 g a w hr hf hs Q hn=>by
  obtain ⟨g2,q1,q2,_⟩:=hw g a w g0 h0 w0 (Nat.le_refl _) hr hf hs
  exact ht ro n hro g0 w0 g2 a w hr q2 q1 Q hn
theorem tail_goes {c:Code} {s s':St} {e:Ex} (h:TailGoes P Gl prom nt s.h c s e s'):CodeGoes P Gl prom nt c s e s' :=
 fun ro n hro g a w hs Q hn=>h ro n hro g w g a w hs.hr (.refl _ _ _) hs Q hn
theorem goes_told (hn:namesOk P = true) {f:FuncId} {fn:Func} {c:Code} (hfn:P.funcs[f]? = some fn) (hb:fn.body = some c) {args:List T} (hc:(Nat.ble fn.ntmps 1024&&Nat.ble args.length fn.ntmps) = true) {s':St} (hgo:CodeGoes P Gl prom fn.ntmps c (enter args []) .ret s') {r:T} (hres:resK P Gl prom fn s' (fun v=>some (give s'.h v)) = some r):ToldOk P Gl f args r:=by
 obtain ⟨rv,hrv,hres2⟩:=det_some (resK_det (P:=P) (Gl:=Gl) (prom:=prom) fn s') hres
 obtain rfl:=Option.some.inj hrv
 simp only [Bool.and_eq_true] at hc
 have hnt:=ble_le hc.1
 have hle:=ble_le hc.2
 refine ⟨⟨fn,hfn,by rw [hb]; rfl,?_⟩,fun w U cargs hU hgl ha=>?_⟩
 ·have:=Array.all_eq_true'.1 hn fn (Array.mem_of_getElem? hfn)
  rw [hb] at this
  simpa using this
 let g0:Gh:={ U:=U,φ:=fun _=>none,own:=fun _=>none,base:=w.heap.size,low:=0 }
 have hr:HR g0 [] w:=⟨fun i b hb=>by simp at hb,fun b hb=>⟨hU b hb,rfl⟩,fun b o ho=>(by cases ho),Nat.le_refl _,fun b o ho=>(by cases ho),fun b i ho=>(by cases ho)⟩
 have hav:ArgsVR g0 [] w args cargs:=⟨ha.1,fun i x hi=>by
  obtain ⟨v,q1,q2⟩:=ha.2 i x hi
  exact ⟨v,q1,.imm _ _ q2⟩⟩
 have hs0:=SR.enter (Gl:=Gl) (prom:=prom) (Nat.le_refl _) (hr.setLow w.heap.size) hgl hav hnt hle
 rw [← callsIn_wide (n:=0)]
 refine callsIn_of_wp_marks hfn hb trivial (hgo none 0 (fun _=>rfl) _ _ w hs0 _ fun a' w' g' hs' hf' _=>?_) rfl
 obtain ⟨hlo,l,hl1,hl2,hl3⟩:=hs'.defers
 obtain ⟨t1,t2,t3,t4,t5⟩:=turn_is l w'
 have hoff:∀ b,g'.U b ∨ g'.own b ≠ none->b ∉ l:=by
  rintro b hb hbl
  obtain ⟨q1,q2,q3,q4⟩:=hl3 b hbl
  rcases hb with hb | hb
  ·exact q3 hb
  ·exact hb q2
 have hrm:∀ b n,room w' b n->room (turn l w') b n:=by
  rintro b n ⟨arr,e,h1,h2⟩
  refine ⟨arr,e,?_,h2⟩
  rw [t5 b fun hbl=>?_]
  ·exact h1
  ·have:=(hl3 b hbl).2.2.2
   rw [h1] at this; cases this
 have hs2:=hs'.world (w':=turn l w') (ds:=[]) (by omega) (fun b hb=>t5 b (hoff b hb)) hrm (Marks.nil (by omega))
 obtain ⟨x,hk,v,h1,h2⟩:=resK_sound hs2 (hres2 T some)
 obtain rfl:=Option.some.inj hk
 show LeavesInM Fence.wide 0 P fn a'.tmps (fun e w'=>∃ v,e = .returned v/\RV w U (give s'.h x) v w') a'.defers .returning w'
 rw [hl1]
 refine leaves_marks l w' hl2 (fun D hD=>(hl3 D hD).2.2.2) ⟨v,h1,v,rfl,?_⟩
 have hbase:g'.base = w.heap.size:=hf'.base
 obtain ⟨X,q1,q2,q3⟩:=give_sound hs2.hr (B:=w.heap.size) (by omega) h2
 refine ⟨⟨⟨t2.trans hf'.os,t3.trans hf'.tape,(t4.trans hf'.output).1,by have:=hf'.size; omega,fun b hb=>?_⟩,(t4.trans hf'.output).2⟩,Given g' (turn l w') w.heap.size (tops x),X,fun b hb=>.inl ((hf'.keep.u b hb).1),fun b hb=>?_,q2,q3,q1⟩
 ·rw [t5 b fun hbl=>by have:=(hl3 b hbl).1; have h4:g'.low = w.heap.size:=hf'.low; omega]
  exact hf'.same b hb rfl
 ·rcases hb with hb | hb
  ·exact ⟨hf'.u b hb,(hs2.hr.u b hb).1⟩
  ·exact ⟨.inr hb.1,hb.2.1⟩
end
def cnT:Code->Code
 | .cond _ a _=>a
 | c=>c
def cnE:Code->Code
 | .cond _ _ b=>b
 | c=>c
def nav1:Nat->Code->Code
 | 0,c=>inB c
 | 1,c=>sq1 c
 | 2,c=>sq2 c
 | 3,c=>cnT c
 | _,c=>cnE c
def nav:List Nat->Code->Code
 | [],c=>c
 | k :: p,c=>nav1 k (nav p c)
theorem loops_nav1 (k:Nat) (c:Code):∀ b ∈ loopsOf (nav1 k c),b ∈ loopsOf c:=by
 intro b hb
 match k with
 | 0=>exact loops_inB c b hb
 | 1=>exact loops_sq1 c b hb
 | 2=>exact loops_sq2 c b hb
 | 3 =>
  cases c with
  | cond o x y=>simp only [nav1,cnT,loopsOf,List.mem_append] at *; exact .inl hb
  | _=>exact hb
 | k+4 =>
  cases c with
  | cond o x y=>simp only [nav1,cnE,loopsOf,List.mem_append] at *; exact .inr hb
  | _=>exact hb
theorem loops_nav:∀ (p:List Nat) (c:Code),∀ b ∈ loopsOf (nav p c),b ∈ loopsOf c
 | [],_,_,hb=>hb
 | k :: p,c,b,hb=>loops_nav p c b (loops_nav1 k _ b hb)
def codeAt (P:Program) (f:Nat) (p:List Nat) (t:Code->Bool):Bool:=match P.funcs[f]? with
 | some fn=>match fn.body with
  | some c=>t (nav p c)
  | none=>false
 | none=>false
theorem codeAt_of {P:Program} {f:Nat} {p:List Nat} {t:Code->Bool} (h:codeAt P f p t = true) {fn:Func} {c:Code} (hf:P.funcs[f]? = some fn) (hb:fn.body = some c):t (nav p c) = true:=by
 unfold codeAt at h
 rw [hf] at h
 dsimp only at h
 rw [hb] at h
 exact h
def isSeq:Code->Bool
 | .seq _ _=>true
 | _=>false
def isBlk (id:Nat):Code->Bool
 | .block i _=>i==id
 | _=>false
def isLoop:Code->Bool
 | .loop b=>!(hasRange b)
 | _=>false
def isScope:Code->Bool
 | .scope _=>true
 | _=>false
section
variable {P:Program} {G:Nat->Option (List T)} {prom:List Nat} {nt:Nat} {A:FuncId->Ann} {f:FuncId}
theorem tail_loop {h0:Heap} {b:Code} (hrg:hasRange b = false) {lin lout:List Nat} (I:Nat->List T->Heap->Prop) (Post:Ex->List T->Heap->Prop)
 (round:∀ n vs h,I n vs h->(∃ m vs' h',m<n/\TailGoes P G prom nt h0 b (mkSt lin vs h) .normal (mkSt lin vs' h')/\I m vs' h') ∨ ∃ e vs' h',e ≠ .normal/\TailGoes P G prom nt h0 b (mkSt lin vs h) e (mkSt lout vs' h')/\Post e vs' h')
 {n:Nat} {vs:List T} {h:Heap} (hI:I n vs h):∃ e vs1 h1,Post e vs1 h1/\TailGoes P G prom nt h0 (.loop b) (mkSt lin vs h) e (mkSt lout vs1 h1):=by
 have key:∀ n vs h,I n vs h->∃ (N:Nat) (V:Nat->List T) (H:Nat->Heap) (e:Ex) (vs1:List T) (h1:Heap),V 0 = vs/\H 0 = h/\Post e vs1 h1/\(∀ i,i<N->TailGoes P G prom nt h0 b (mkSt lin (V i) (H i)) .normal (mkSt lin (V (i+1)) (H (i+1))))/\e ≠ .normal/\TailGoes P G prom nt h0 b (mkSt lin (V N) (H N)) e (mkSt lout vs1 h1):=by
  intro n
  induction n using Nat.strongRecOn with
  | _ n ih =>
   intro vs h hI
   rcases round n vs h hI with ⟨m,vs',h',hm,hs,hI'⟩ | ⟨e,vs',h',hne,hl,hp⟩
   ·obtain ⟨N,V,H,e,vs1,h1,q1,q2,q3,q4,q5⟩:=ih m hm vs' h' hI'
    refine ⟨N+1,fun i=>match i with | 0=>vs | i+1=>V i,fun i=>match i with | 0=>h | i+1=>H i,e,vs1,h1,rfl,rfl,q3,fun i hi=>?_,q5⟩
    cases i with
    | zero=>show TailGoes P G prom nt h0 b (mkSt lin vs h) .normal (mkSt lin (V 0) (H 0)); rw [q1,q2]; exact hs
    | succ i=>exact q4 i (by omega)
   ·exact ⟨0,fun _=>vs,fun _=>h,e,vs',h',rfl,rfl,hp,fun i hi=>by omega,hne,hl⟩
 obtain ⟨N,V,H,e,vs1,h1,q1,q2,q3,q4,hne,q5⟩:=key n vs h hI
 refine ⟨e,vs1,h1,q3,?_⟩
 subst q1 q2
 intro ro nn hro gg w0 g0 a0 ww hr0 hf0 hs0 Q hn
 refine wpIn_loop_num (fun j a w=>∃ i g,i<=N/\j = N - i/\SR G prom nt g (mkSt lin (V i) (H i)) a w/\FrC gg h0 w0 g (H i) w/\a.defers = a0.defers) (fun j a w hJ=>?_) N a0 ww ⟨0,g0,Nat.zero_le _,rfl,hs0,hf0,rfl⟩
 obtain ⟨i,g,hi,rfl,hs,hf,hdf⟩:=hJ
 rcases Nat.lt_or_ge i N with q | q
 ·refine q4 i q ro nn (fun hh=>hro (by simpa [hasRange] using hh)) gg w0 g a w hr0 hf hs _ fun a' w' g' hs' hf' hd'=>?_
  exact ⟨N - (i+1),by omega,i+1,g',by omega,rfl,hs',hf',(hd' hrg).trans hdf⟩
 ·obtain rfl:i = N:=by omega
  refine q5 ro nn (fun hh=>hro (by simpa [hasRange] using hh)) gg w0 g a w hr0 hf hs _ fun a' w' g' hs' hf' hd'=>?_
  have fin:=hn a' w' g' hs' hf' (fun h=>(hd' hrg).trans hdf)
  cases e with
  | normal=>exact absurd rfl hne
  | exit i=>exact fin
  | ret=>exact fin
theorem tail_block {h0:Heap} {c:Code} {id:Nat} {s s1:St} {e e':Ex} (he:e' = match e with | .exit i=>bif i==id then .normal else .exit i | e=>e) (h1:TailGoes P G prom nt h0 c s e s1):TailGoes P G prom nt h0 (.block id c) s e' s1:=by
 subst he
 intro ro n hro g0 w0 g a w hr hf hs Q hn
 refine wpIn_block (h1 ro n (fun h=>hro (by simp [hasRange,h])) g0 w0 g a w hr hf hs _ fun a1 w1 g1 hs1 hf1 hd1=>?_)
 have fin:=hn a1 w1 g1 hs1 hf1 fun h=>hd1 (by simpa only [hasRange] using h)
 cases e with
 | normal=>exact fin
 | ret=>exact fin
 | exit i =>
  simp only [Ex.out,Exit.inBlock] at fin ⊢
  by_cases q:i = id
  ·subst q
   rw [show (i==i) = true by simp] at fin
   rw [if_pos rfl]
   exact fin
  ·rw [show (i==id) = false by simp [q]] at fin
   rw [if_neg q]
   exact fin
theorem tail_seq2 {h0:Heap} {c d:Code} {s s1 s':St} {e:Ex} (h1:TailGoes P G prom nt h0 c s .normal s1) (h2:TailGoes P G prom nt h0 d s1 e s'):TailGoes P G prom nt h0 (.seq c d) s e s' :=
 fun ro n hro g0 w0 g a w hr hf hs Q hn=>wpIn_seq (h1 ro n (fun h=>hro (by simp [hasRange,h])) g0 w0 g a w hr hf hs _ fun a1 w1 g1 hs1 hf1 hd1=>h2 ro n (fun h=>hro (by simp [hasRange,h])) g0 w0 g1 a1 w1 hr hf1 hs1 Q fun a2 w2 g2 hs2 hf2 hd2=>hn a2 w2 g2 hs2 hf2 fun h=>by simp only [hasRange,Bool.or_eq_false_iff] at h; exact (hd2 h.2).trans (hd1 h.1))
theorem tail_seqX {h0:Heap} {c d:Code} {s s':St} {e:Ex} (he:e ≠ .normal) (h1:TailGoes P G prom nt h0 c s e s'):TailGoes P G prom nt h0 (.seq c d) s e s' :=
 fun ro n hro g0 w0 g a w hr hf hs Q hn=>wpIn_seq (h1 ro n (fun h=>hro (by simp [hasRange,h])) g0 w0 g a w hr hf hs _ fun a1 w1 g1 hs1 hf1 hd1=>by
  have fin:=hn a1 w1 g1 hs1 hf1 fun h=>by simp only [hasRange,Bool.or_eq_false_iff] at h; exact hd1 h.1
  cases e with
  | normal=>exact absurd rfl he
  | exit i=>exact fin
  | ret=>exact fin)
theorem tail_post {h0:Heap} {c:Code} {s:St} {e:Ex} {l:List Nat} {vs vs2:List T} {h h2:Heap} (ht:TailGoes P G prom nt h0 c s e (mkSt l vs h)) (hw:WeakTo G prom nt l h0.length vs h vs2 h2):TailGoes P G prom nt h0 c s e (mkSt l vs2 h2) :=
 fun ro n hro g0 w0 g a w hr hf hs Q hn=>ht ro n hro g0 w0 g a w hr hf hs Q fun a1 w1 g1 hs1 hf1 hd1=>by
  obtain ⟨g2,q1,q2,_⟩:=hw g1 a1 w1 g0 h0 w0 (Nat.le_refl _) hr hf1 hs1
  exact hn a1 w1 g2 q1 q2 hd1
def Pz (P:Program) (G:Nat->Option (List T)) (A:FuncId->Ann) (f:FuncId) (h0:Heap) (p:List Nat) (l:List Nat) (vs:List T) (h:Heap) (e:Ex) (l':List Nat) (vs':List T) (h':Heap):Prop :=
 ∀ fn c,P.funcs[f]? = some fn->fn.body = some c->TailGoes P G (A f).prom fn.ntmps h0 (nav p c) (mkSt l vs h) e (mkSt l' vs' h')
def Wk (G:Nat->Option (List T)) (A:FuncId->Ann) (f:FuncId) (k:Nat) (l:List Nat) (vs:List T) (h:Heap) (vs2:List T) (h2:Heap):Prop:=∀ nt,WeakTo G (A f).prom nt l k vs h vs2 h2
variable {h0:Heap} {p:List Nat} {l l1 l2:List Nat} {vs v1 v2:List T} {h h1 h2:Heap} {e:Ex}
theorem Pz.seq (hq:codeAt P f p isSeq = true) (a:Pz P G A f h0 (1 :: p) l vs h .normal l1 v1 h1) (b:Pz P G A f h0 (2 :: p) l1 v1 h1 e l2 v2 h2):Pz P G A f h0 p l vs h e l2 v2 h2:=by
 intro fn c hf hb
 have hc:=codeAt_of hq hf hb
 have ha:=a fn c hf hb
 have hb':=b fn c hf hb
 simp only [nav,nav1] at ha hb'
 revert hc ha hb'
 generalize nav p c = d
 intro hc ha hb'
 cases d with
 | seq x y=>exact tail_seq2 ha hb'
 | _=>cases hc
theorem Pz.seqX (hq:codeAt P f p isSeq = true) (he:e ≠ .normal) (a:Pz P G A f h0 (1 :: p) l vs h e l1 v1 h1):Pz P G A f h0 p l vs h e l1 v1 h1:=by
 intro fn c hf hb
 have hc:=codeAt_of hq hf hb
 have ha:=a fn c hf hb
 simp only [nav,nav1] at ha
 revert hc ha
 generalize nav p c = d
 intro hc ha
 cases d with
 | seq x y=>exact tail_seqX he ha
 | _=>cases hc
theorem Pz.blk {id:Nat} {e':Ex} (hq:codeAt P f p (isBlk id) = true) (he:e' = match e with | .exit i=>bif i==id then .normal else .exit i | e=>e) (a:Pz P G A f h0 (0 :: p) l vs h e l1 v1 h1):Pz P G A f h0 p l vs h e' l1 v1 h1:=by
 intro fn c hf hb
 have hc:=codeAt_of hq hf hb
 have ha:=a fn c hf hb
 simp only [nav,nav1] at ha
 revert hc ha
 generalize nav p c = d
 intro hc ha
 cases d with
 | block i x =>
  obtain rfl:i = id:=by simpa [isBlk] using hc
  exact tail_block he ha
 | _=>cases hc
theorem Pz.scope (hq:codeAt P f p isScope = true) (a:Pz P G A f h0 (0 :: p) l vs h e l1 v1 h1):Pz P G A f h0 p l vs h e l1 v1 h1:=by
 intro fn c hf hb
 have hc:=codeAt_of hq hf hb
 have ha:=a fn c hf hb
 simp only [nav,nav1] at ha
 revert hc ha
 generalize nav p c = d
 intro hc ha
 cases d with
 | scope x=>exact tail_scope ha
 | _=>cases hc
theorem Pz.post (a:Pz P G A f h0 p l vs h e l1 v1 h1) (w:Wk G A f h0.length l1 v1 h1 v2 h2):Pz P G A f h0 p l vs h e l1 v2 h2 :=
 fun fn c hf hb=>tail_post (a fn c hf hb) (w _)
theorem Pz.pre (w:Wk G A f h0.length l vs h v1 h1) (a:Pz P G A f h0 p l v1 h1 e l2 v2 h2):Pz P G A f h0 p l vs h e l2 v2 h2 :=
 fun fn c hf hb=>tail_weak (w _) (a fn c hf hb)
theorem Pz.only (a:Pz P G A f h0 p l vs h e l1 v1 h1) (hv:getL (mkSt l1 v1 h1) l2 = v2):Pz P G A f h0 p l vs h e l2 v2 h1:=by
 intro fn c hf hb ro n hro g0 w0 g a' w hr hfr hs Q hn
 subst hv
 exact a fn c hf hb ro n hro g0 w0 g a' w hr hfr hs Q fun a1 w1 g1 hs1 hf1 hd1=>hn a1 w1 g1 (hs1.only l2) hf1 hd1
theorem Pz.loop (hq:codeAt P f p isLoop = true) (I:Nat->List T->Heap->Prop) (Post:Ex->List T->Heap->Prop)
 (round:∀ n vs h,I n vs h->(∃ m vs' h',m<n/\Pz P G A f h0 (0 :: p) l vs h .normal l vs' h'/\I m vs' h') ∨ ∃ e vs' h',e ≠ .normal/\Pz P G A f h0 (0 :: p) l vs h e l1 vs' h'/\Post e vs' h')
 {n:Nat} (hI:I n vs h):∃ e vs' h',Post e vs' h'/\Pz P G A f h0 p l vs h e l1 vs' h':=by
 by_cases hh:∃ fn c,P.funcs[f]? = some fn/\fn.body = some c
 ·obtain ⟨fn,c,hf,hb⟩:=hh
  have hc:=codeAt_of hq hf hb
  have key:∃ b,nav p c = .loop b/\hasRange b = false:=by
   revert hc
   generalize nav p c = d
   intro hc
   cases d with
   | loop b=>exact ⟨b,rfl,by simpa [isLoop] using hc⟩
   | _=>cases hc
  obtain ⟨b,hb1,hb2⟩:=key
  have hb0:nav (0 :: p) c = b:=by simp only [nav,nav1,hb1,inB]
  obtain ⟨e,vs1,h1,q1,q2⟩:=tail_loop (P:=P) (G:=G) (prom:=(A f).prom) (nt:=fn.ntmps) (h0:=h0) hb2 (lin:=l) (lout:=l1) I Post (fun n vs h hI=>by
   rcases round n vs h hI with ⟨m,vs',h',hm,hs,hI'⟩ | ⟨e,vs',h',hne,hl,hp⟩
   ·exact .inl ⟨m,vs',h',hm,hb0 ▸ hs fn c hf hb,hI'⟩
   ·exact .inr ⟨e,vs',h',hne,hb0 ▸ hl fn c hf hb,hp⟩) hI
  refine ⟨e,vs1,h1,q1,fun fn2 c2 hf2 hb2=>?_⟩
  rw [hf] at hf2
  obtain rfl:=Option.some.inj hf2
  rw [hb] at hb2
  obtain rfl:=Option.some.inj hb2
  rw [hb1]; exact q2
 ·unfold codeAt at hq
  cases hf:P.funcs[f]? with
  | none=>rw [hf] at hq; cases hq
  | some fn =>
   rw [hf] at hq
   dsimp only at hq
   cases hb:fn.body with
   | none=>rw [hb] at hq; cases hq
   | some c=>exact absurd ⟨fn,c,hf,hb⟩ hh
theorem Pz.count (hq:codeAt P f p isLoop = true) (V:Nat->List T) (H:Nat->Heap) {n:Nat} (he:e ≠ .normal)
 (round:∀ i,i<n->Pz P G A f h0 (0 :: p) l (V i) (H i) .normal l (V (i+1)) (H (i+1))) (last:Pz P G A f h0 (0 :: p) l (V n) (H n) e l1 v1 h1):Pz P G A f h0 p l (V 0) (H 0) e l1 v1 h1:=by
 obtain ⟨e',vs',h',⟨rfl,rfl,rfl⟩,q⟩:=Pz.loop (P:=P) (G:=G) (A:=A) (f:=f) (h0:=h0) (p:=p) (l:=l) (l1:=l1) hq (fun m vs h=>∃ i,i<=n/\m = n - i/\vs = V i/\h = H i) (fun e' vs' h'=>e' = e/\vs' = v1/\h' = h1) (fun m vs h hI=>by
  obtain ⟨i,hi,rfl,rfl,rfl⟩:=hI
  rcases Nat.lt_or_ge i n with q | q
  ·exact .inl ⟨n - (i+1),_,_,by omega,round i q,i+1,by omega,rfl,rfl,rfl⟩
  ·obtain rfl:i = n:=by omega
   exact .inr ⟨e,v1,h1,he,last,rfl,rfl,rfl⟩) (n:=n) ⟨0,Nat.zero_le _,rfl,rfl,rfl⟩
 exact q
def smallF (P:Program) (f:Nat):Bool:=match P.funcs[f]? with
 | some fn=>Nat.ble fn.ntmps 1024
 | none=>false
theorem Pz.run {K:Orc} (hm:P.follows .mixedOrders = true) (hK:OrcOk P G K) {m:Nat} (ha:(loopsApart P f&&smallF P f) = true) {lo:List (Nat × (List T->Heap->LT))} (hL:∀ p ∈ lo,LoopOk P G (A f) f p.1 p.2)
 (hk:codeL P G A K m f lo (nav p) l vs h l1 = some (e,v1,h1)):Pz P G A f h0 p l vs h e l1 v1 h1:=by
 intro fn c hf hb
 simp only [Bool.and_eq_true] at ha
 have hnt:fn.ntmps<=1024:=by
  have:=ha.2
  unfold smallF at this
  rw [hf] at this
  exact ble_le this
 exact tail_end (goes_codeL hm hK hf hb hnt ha.1 hL (nav p) rfl (fun b hb=>loops_nav p c b hb) hk)
theorem Pz.told (hn:namesOk P = true) {args:List T} {fn:Func} (hfn:P.funcs[f]? = some fn) (hc:(Nat.ble fn.ntmps 1024&&Nat.ble args.length fn.ntmps) = true) (hbd:fn.body.isSome = true) (hl:enter args [] = mkSt l args [])
 (hgo:Pz P G A f [] [] l args [] .ret l1 v1 h1) {r:T} (hres:resK P G (A f).prom fn (mkSt l1 v1 h1) (fun v=>some (give h1 v)) = some r):ToldOk P G f args r:=by
 obtain ⟨c,hb⟩:=Option.isSome_iff_exists.1 hbd
 have:=hgo fn c hfn hb
 rw [show nav [] c = c from rfl,← hl] at this
 exact goes_told hn hfn hb hc (tail_goes (s:=enter args []) this) hres
end
section
variable {P:Program} {Gl:Nat->Option (List T)} {A:FuncId->Ann}
end
section
variable {P:Program} {Gl:Nat->Option (List T)} {K:Orc} {prom:List Nat} {nt:Nat}
theorem RunIs.goes_then (hK:OrcOk P Gl K) {ops:Array Oper} {l l2:List Oper} {s s':St} {fps:List FP} (h:RunIs P K Gl prom nt ops.toList l s s' fps):∀ {g:Gh} {a:Act} {w:World},SR Gl prom nt g s a w →
 ∀ (ro:Option Nat) (n:Nat) (Q:Exit->Act->World->Prop),(∀ a' w' g',SR Gl prom nt g' s' a' w'->FrC g s.h w g' s'.h w'->a'.defers = a.defers->wpListIn (wideR ro) n P ops Q l2 a' w')->wpListIn (wideR ro) n P ops Q (l ++ l2) a w:=by
 induction h with
 | nil s=>exact fun hs ro n Q hn=>hn _ _ _ hs (FrC.refl _ _ _) rfl
 | cons h1 h2 ih =>
  intro g a w hs ro n Q hn
  rw [List.cons_append]
  unfold wpListIn
  have:=h1.goes hK hs ro n (wpListIn (wideR ro) n P ops Q _) Q (fun a' w' g' hs' hf' hd'=>ih hs' ro n Q fun a2 w2 g2 hs2 hf2 hd2=>hn a2 w2 g2 hs2 (hf'.trans hf2) (hd2.trans hd'))
  split at this
  ·rename_i hw; rw [if_pos hw]; exact this
  ·rename_i hw; rw [if_neg hw]; exact ⟨fun _ _=>trivial,this⟩
theorem append_two {g:Gh} {h:Heap} {w:World} {t ty e:TypeId} {i len:Nat} {b:Blk} {v:Value} (he:elemTy P t = some e) (hz:zeroOk P e = true) (hr:HR g h w) (hb:h[i]? = some b) (hsz:b.sz = szTy P e) (hn:b.n = len) (hflat:b.flat = true) (hlen:0<len)
 (hroom:appRoom P e (len+len) = true) (hs:g.VR h w (.own i b.ver 0 len none) v) :
 (∃ r w',(Builtin.append_ #[t,t] ty #[v,v]).run P w = .ok r w'/\Res g h w (.tup [.own i (b.ver+1) 0 (len+len) none,.own i (b.ver+1) 0 len none]) (h.set i (catBlk (b.ver+1) b.sz len len b.get b.get true)) (.tuple #[r,v]) w') ∨
 ∃ r w',(Builtin.append_ #[t,t] ty #[v,v]).run P w = .ok r w'/\Res g h w (.own h.length 0 0 (len+len) none) (h ++ [catBlk 0 b.sz len len b.get b.get true]) r w':=by
 have ht:=elemTy_eq he
 have hxt:=xTy_ok (P:=P) (tx:=t) (show ((elemTy P t).isSome || strTy P t) = true by rw [he]; rfl)
 obtain ⟨z,hzr,hkn,hz1,hz2,hz3,hz4⟩:=zero_run (P:=P) (g:=g) (h:=h) (w:=w) hz
 obtain ⟨z',hzr',_⟩:=zero_run (P:=P) (g:=g) (h:=h) (w:=w.drew) hz
 have hzz:z' = z:=by
  obtain ⟨i,hi⟩:=known_info hkn
  cases hiz:i.zero with
  | none=>simp [zeroValue,typeInfo,hi,hiz] at hzr
  | some q =>
   simp only [zeroValue,typeInfo,Sem.run_bind,run_program,Result.andThen_ok,hi,Sem.run_pure,hiz,Result.ok.injEq] at hzr hzr'
   exact hzr'.1.symm.trans hzr.1
 subst hzz
 have hle:0+len<=b.n:=by omega
 obtain ⟨m,gx,fl,olds,e0,hold⟩:=source_sound (P:=P) (R:=Nat × (Nat->List T) × Bool) (sz:=szTy P e) (x:=.own i b.ver 0 len none) (k:=fun a b c=>some (a,b,c)) (r:=(len,(fun j=>b.get (0+j)),b.flat))
  (by simp [source,withBlk,hb,hsz,show Nat.ble len b.n = true from Nat.ble_eq_true_of_le (by omega)]) hr hs
 have e0:=e0.symm
 simp only [Option.some.injEq,Prod.mk.injEq,Nat.zero_add] at e0
 obtain ⟨rfl,rfl,rfl⟩:=e0
 rw [hflat] at hold
 obtain ⟨cb,sh,cc,ad,e1,rfl,es,e2,e3,e4,e5,e6,e7⟩:=own_slice hb rfl hs
 obtain ⟨cb',sh',arr,e',hok⟩:=hr.blk i b hb
 rw [hok.φ] at e1
 obtain ⟨rfl,rfl⟩:=Prod.mk.inj (Option.some.inj e1)
 have hroom2:=room_is hok.heap e6
 rw [← hsz] at hold hz2
 have hfl:(∀ j,j<len->∀ c,c ∈ b.get j->plain0 c = true)/\∀ j,j<len->∀ c,c ∈ b.get j->plain0 c = true:=⟨hold.flat rfl,hold.flat rfl⟩
 rcases Nat.lt_or_ge cc (len+len) with hgt | hfit
 ·right
  obtain ⟨nc,hnc,hrun⟩:=run_append_out (P:=P) (w:=w) (ty:=ty) (olds:=olds) ht hkn hzr' hxt (hsz ▸ hold) (hsz ▸ hold).runD hgt (ble_le hroom)
  exact ⟨_,_,hrun,grow_res (P:=P) (e:=e) hr hold.size hold.lens hold.one_cell hold true (fun _=>hfl) hz2 hnc⟩
 ·left
  have hfits:sh'+(0+len) * b.sz+olds.length<=arr.size:=by
   rw [hold.size]
   refine Nat.le_trans ?_ hroom2
   have:(0+len) * b.sz+len * b.sz<=(0+cc) * b.sz:=by rw [← Nat.add_mul]; exact Nat.mul_le_mul_right _ (by omega)
   omega
  have hrun:(Builtin.append_ #[t,t] ty #[.slice (some ad) len cc,.slice (some ad) len cc]).run P w =
   .ok (.slice (some ad) (len+len) cc) (w.setRow cb' (arr.toList.take (sh'+(0+len) * b.sz) ++ olds ++ arr.toList.drop (sh'+(0+len) * b.sz+olds.length)).toArray):=by
   refine run_append_in (P:=P) ht hkn hxt (hsz ▸ hold) hfit ?_
   rw [e2 (by omega)]
   dsimp only
   rw [add_none,← hsz,Nat.add_assoc,← Nat.add_mul]
   have:=run_storeCells_at P cb' (sh'+(0+len) * b.sz) e' olds 0 arr w hok.heap (by simpa using hfits) hold.one
   simpa using this
  refine ⟨_,_,hrun,?_⟩
  have hws:=written_size arr olds _ hfits
  obtain ⟨g',f1,f2,_,hr',hkeep,hfr⟩:=hr.change hb (w':=w.setRow cb' (arr.toList.take (sh'+(0+len) * b.sz) ++ olds ++ arr.toList.drop (sh'+(0+len) * b.sz+olds.length)).toArray) (cb:=cb') (sh:=sh') (e:=e')
   (arr:=(arr.toList.take (sh'+(0+len) * b.sz) ++ olds ++ arr.toList.drop (sh'+(0+len) * b.sz+olds.length)).toArray) (b':=catBlk (b.ver+1) b.sz len len b.get b.get true)
   (by simp [World.setRow]) (fun k _ hne=>setRow_other w cb' k _ hne) (setRow_at w cb' arr _ e' hok.heap) (.inl hok.own) (fun n hn=>by rw [hws]; exact room_is hok.heap hn)
   (Nat.le_succ _) (fun q=>by simp [catBlk] at q) (by
    rw [hws]
    refine Nat.le_trans ?_ hroom2
    have:(len+len) * b.sz<=(0+cc) * b.sz:=Nat.mul_le_mul_right _ (by omega)
    simp only [catBlk]
    omega) (cat_lens hold.lens hold _ _) (fun j o c hj ho=>by
    rw [written arr _ _ _ hfits]
    have hj:j<len+len:=hj
    have hos:o<b.sz:=by
     have hlt:=lt_of_get ho
     rw [cat_lens hold.lens hold _ _ j hj] at hlt
     exact hlt
    simp only [catBlk,Bool.cond_eq_ite] at ho ⊢
    split at ho
    ·rename_i hlt
     have hlt:=blt_lt hlt
     have hj2:(j+1) * b.sz<=(0+len) * b.sz:=Nat.mul_le_mul_right _ (by omega)
     rw [Nat.add_mul,Nat.one_mul] at hj2
     rw [if_neg (by omega)]
     exact hok.cell j o c (by omega) ho
    ·rename_i hlt
     have hlt:len<=j:=by
      rcases Nat.lt_or_ge j len with q | q
      ·exact absurd (Nat.ble_eq_true_of_le q) hlt
      ·exact q
     obtain ⟨u,u1,u2,u3⟩:=hold.one_cell (j - len) o c (by omega) ho
     refine ⟨u,?_,u2,u3⟩
     have hj3:j * b.sz = len * b.sz+(j - len) * b.sz:=by rw [← Nat.add_mul]; congr 1; omega
     have hj4:(j - len+1) * b.sz<=len * b.sz:=Nat.mul_le_mul_right _ (by omega)
     rw [Nat.add_mul,Nat.one_mul] at hj4
     have hol:=hold.size
     rw [if_pos (by rw [Nat.zero_add]; omega)]
     rw [← u1]
     congr 1
     rw [Nat.zero_add]
     omega) (fun _=>cat_flat _ _ hfl.1 hfl.2) rfl rfl ⟨rfl,Nat.le_refl _⟩
  have hroomN:room (w.setRow cb' (arr.toList.take (sh'+(0+len) * b.sz) ++ olds ++ arr.toList.drop (sh'+(0+len) * b.sz+olds.length)).toArray) cb' (sh'+(0+cc) * b.sz):=⟨_,e',setRow_at w cb' arr _ e' hok.heap,by rw [hws]; exact hroom2⟩
  have hset:=List.getElem?_set_self (a:=catBlk (b.ver+1) b.sz len len b.get b.get true) (lt_of_get hb)
  refine ⟨g',hr',VR.mk_tup rfl fun k c hk=>?_,hkeep,hfr⟩
  match k,hk with
  | 0,hk =>
   obtain rfl:=Option.some.inj hk
   exact ⟨_,rfl,.own _ _ _ _ _ _ _ hset (Nat.le_refl _) rfl fun _=>⟨cb',sh',cc,ad,f1,rfl,es,e2,hfit,fun _ hm=>(by cases hm),by simp [catBlk],hroomN,fun _=>by simpa [catBlk] using hfit⟩⟩
  | 1,hk =>
   obtain rfl:=Option.some.inj hk
   exact ⟨_,rfl,.own _ _ _ _ _ _ _ hset (Nat.le_refl _) rfl fun _=>⟨cb',sh',cc,ad,f1,rfl,es,e2,e3,fun _ hm=>(by cases hm),by simp [catBlk],hroomN,fun _=>by simpa [catBlk] using hfit⟩⟩
theorem SR.retell {g:Gh} {s:St} {a:Act} {w:World} (hs:SR Gl prom nt g s a w) {d:Nat} (hd:d<1024) (hp:d ∉ prom) {x:T} (hx:g.VR s.h w x (a.tmps.getD d undef)):SR Gl prom nt g (s.lay d x none) a w:=by
 have hat:=at_set (s:=s) (s':=s.lay d x none) (d:=d) (v:=x) rfl hd
 refine ⟨hs.hr,hs.defers,hs.size,hs.nt,fun t ht=>?_,fun t ht cells hc=>?_,fun e t o hl=>hs.loc e t o (put_loc hl).1,hs.glob,fun e t o hl=>hs.used e t o (put_loc hl).1⟩
 ·rw [hat]
  split
  ·rename_i q; subst q; exact hx
  ·exact hs.tmps t ht
 ·rw [hat,if_neg (by rintro rfl; exact hp ht)] at hc
  exact hs.regs t ht cells hc
theorem wanted_true {g:Gh} {s:St} {a:Act} {w:World} {ops:Array Oper} {o:Oper} {j gd:Nat} {b:Bool} (hs:SR Gl prom nt g s a w) (hg:o.guard = some (j,b)) (hgs:guardSlot ops.toList j = some gd) (hat:s.at gd = .bool b) (hp:gd ∉ prom):Region.wanted o (yielded ops a.tmps) = true:=by
 have hv:=hs.tmps gd hp
 rw [hat] at hv
 have hv:=hv.bool
 have hy:yielded ops a.tmps j = some b:=by
  have hd:(ops[j]?).bind (·.dst) = some gd:=by
   unfold guardSlot at hgs
   rw [Array.getElem?_toList] at hgs
   cases ho:ops[j]? with
   | none=>rw [ho] at hgs; cases hgs
   | some o'=>rw [ho] at hgs; exact hgs
  unfold yielded
  rw [hd]
  simp only [Option.bind_some]
  have hlt:gd<a.tmps.size:=by
   rcases Nat.lt_or_ge gd a.tmps.size with hq | hq
   ·exact hq
   ·rw [Array.getD_eq_getD_getElem?,Array.getElem?_eq_none hq] at hv; cases hv
  rw [Array.getD_eq_getD_getElem?,Array.getElem?_eq_getElem hlt] at hv
  rw [Array.getElem?_eq_getElem hlt]
  simp only [Option.getD_some] at hv
  rw [hv]
 simp [Region.wanted,hg,hy]
theorem wp_value {o:Oper} {a:Act} {w w':World} {v:Value} {ro:Option Nat} {n:Nat} {next:Act->World->Prop} {Q:Exit->Act->World->Prop} (h:(execOp a.eval o).run P w = .ok (.value v) w') (hn:next (a.put o.dst v) w'):o.wpIn (wideR ro) n P a w next Q:=by
 refine ⟨fun _ _=>trivial,?_⟩
 rw [semAt_run h (by simp)]
 exact hn
def catI (b:Blk) (len:Nat):Blk:=catBlk (b.ver+1) b.sz len len b.get b.get true
def catN (b:Blk) (len:Nat):Blk:=catBlk 0 b.sz len len b.get b.get true
def forkA (s:St) (i:Nat) (b:Blk) (len t d1 d2 d3:Nat):St:=(((s.lay d1 .undef none).lay d2 .undef none).lay d3 (.own i (b.ver+1) 0 (len+len) none) (some (s.h.set i (catI b len)))).lay t (.own i (b.ver+1) 0 len none) none
def forkB (s:St) (b:Blk) (len d1 d2 d3:Nat):St:=((s.lay d1 .undef none).lay d2 .undef none).lay d3 (.own s.h.length 0 0 (len+len) none) (some (s.h ++ [catN b len]))
structure ForkOps (ops:Array Oper) (o1 o2 o3:Oper) (j gd t d1 d2 d3:Nat) (ty:TypeId):Prop where
 g1:o1.guard = some (j,false)
 p1:o1.op = .move (.tmp t)
 q1:o1.dst = some d1
 g2:o2.guard = some (j,false)
 p2:o2.op = .move (.tmp t)
 q2:o2.dst = some d2
 g3:o3.guard = some (j,false)
 p3:o3.op = .call { callee:=.builtin .append,args:=#[.tmp d1,.tmp d2],argTypes:=#[ty,ty] }
 q3:o3.dst = some d3
 hgs:guardSlot ops.toList j = some gd
structure ForkSt (P:Program) (prom:List Nat) (nt:Nat) (s:St) (i len:Nat) (b:Blk) (gd t d1 d2 d3:Nat) (ty:TypeId):Prop where
 e:∃ e,elemTy P ty = some e/\zeroOk P e = true/\b.sz = szTy P e/\appRoom P e (len+len) = true
 ne:(t ≠ d1/\t ≠ d2/\t ≠ d3)/\d1 ≠ d2/\gd ≠ d1/\gd ≠ d2
 lt:d1<nt/\d2<nt/\d3<nt/\t<nt
 pr:t ∉ prom/\gd ∉ prom
 us:s.used = fun _=>false
 gd:s.at gd = .bool false
 l:s.at t = .own i b.ver 0 len none
 hb:s.h[i]? = some b
 n:b.n = len
 flat:b.flat = true
 pos:0<len
theorem fork3 {g:Gh} {s:St} {a:Act} {w:World} {ops:Array Oper} {o1 o2 o3:Oper} {post:List Oper} {j gd t d1 d2 d3:Nat} {ty:TypeId} {i len:Nat} {b:Blk} (ho:ForkOps ops o1 o2 o3 j gd t d1 d2 d3 ty) (hf:ForkSt P prom nt s i len b gd t d1 d2 d3 ty) (hs:SR Gl prom nt g s a w) {ro:Option Nat} {n:Nat} {Q:Exit->Act->World->Prop}
 (kA:∀ a' w' g',SR Gl prom nt g' (forkA s i b len t d1 d2 d3) a' w'->FrC g s.h w g' (s.h.set i (catI b len)) w'->a'.defers = a.defers->wpListIn (wideR ro) n P ops Q post a' w')
 (kB:∀ a' w' g',SR Gl prom nt g' (forkB s b len d1 d2 d3) a' w'->FrC g s.h w g' (s.h ++ [catN b len]) w'->a'.defers = a.defers->wpListIn (wideR ro) n P ops Q post a' w') :
 wpListIn (wideR ro) n P ops Q (o1 :: o2 :: o3 :: post) a w:=by
 obtain ⟨e,he,hz,hsz,hroom⟩:=hf.e
 obtain ⟨⟨n1,n2,n3⟩,n4,n5,n6⟩:=hf.ne
 obtain ⟨l1,l2,l3,l4⟩:=hf.lt
 have hnt:=hs.nt
 have hsize:=hs.size
 have fr0:FrO g w g w:=.refl _ _ fun b o e=>(hs.hr.own b o e).2
 have us:∀ d,s.used d = false:=fun d=>by rw [hf.us]
 have hs1:SR Gl prom nt g (s.lay d1 .undef none) (a.put (some d1) (a.tmps.getD t undef)) w:=hs.done l1 hs.hr (.imm _ _ (.undef _)) (.refl _ _ _ _) fr0 rfl (us d1)
 have hs2:SR Gl prom nt g ((s.lay d1 .undef none).lay d2 .undef none) ((a.put (some d1) (a.tmps.getD t undef)).put (some d2) (a.tmps.getD t undef)) w:=hs1.done l2 hs1.hr (.imm _ _ (.undef _)) (.refl _ _ _ _) fr0 rfl (us d2)
 have at1:∀ k,(s.lay d1 .undef none).at k = if k = d1 then .undef else s.at k:=fun k=>at_set rfl (by omega) k
 have at2:∀ k,((s.lay d1 .undef none).lay d2 .undef none).at k = if k = d2 then .undef else (s.lay d1 .undef none).at k:=fun k=>at_set rfl (by omega) k
 have hv:=hs.tmps t hf.pr.1
 rw [hf.l] at hv
 have ev1:(a.put (some d1) (a.tmps.getD t undef)).tmps.getD t undef = a.tmps.getD t undef:=by rw [put_tmps _ _ _ (by rw [hsize]; exact l1),if_neg n1]
 have sz1:(a.put (some d1) (a.tmps.getD t undef)).tmps.size = nt:=hs1.size
 generalize hv0:a.tmps.getD t undef = v at *
 have ev2:∀ k,k = d1 ∨ k = d2 ∨ k = t->((a.put (some d1) v).put (some d2) v).tmps.getD k undef = v:=by
  intro k hk
  rw [put_tmps _ _ _ (by rw [sz1]; exact l2)]
  split
  ·rfl
  ·rename_i hk2
   rcases hk with rfl | rfl | rfl
   ·rw [put_tmps _ _ _ (by rw [hsize]; exact l1),if_pos rfl]
   ·exact absurd rfl hk2
   ·exact ev1
 unfold wpListIn
 rw [if_pos (wanted_true hs ho.g1 ho.hgs hf.gd hf.pr.2)]
 refine wp_value (v:=v) (w':=w) (by unfold execOp; rw [ho.p1]; show (Sem.run P (pure (Next.value (a.tmps.getD t undef))) w) = _; rw [hv0]; rfl) ?_
 rw [ho.q1]
 unfold wpListIn
 rw [if_pos (wanted_true hs1 ho.g2 ho.hgs (by rw [at1,if_neg n5]; exact hf.gd) hf.pr.2)]
 refine wp_value (v:=v) (w':=w) (by unfold execOp; rw [ho.p2]; show (Sem.run P (pure (Next.value ((a.put (some d1) v).tmps.getD t undef))) w) = _; rw [ev1]; rfl) ?_
 rw [ho.q2]
 unfold wpListIn
 rw [if_pos (wanted_true hs2 ho.g3 ho.hgs (by rw [at2,if_neg n6,at1,if_neg n5]; exact hf.gd) hf.pr.2)]
 have hex:∀ {r:Value} {w':World},(Builtin.append_ #[ty,ty] o3.type #[v,v]).run P w = .ok r w'->(execOp ((a.put (some d1) v).put (some d2) v).eval o3).run P w = .ok (.value r) w':=by
  intro r w' hrun
  have hb:builtin .append #[ty,ty] o3.type ((#[.tmp d1,.tmp d2]:Array Operand).map fun | .const _=>true | _=>false) ((#[.tmp d1,.tmp d2]:Array Operand).map ((a.put (some d1) v).put (some d2) v).eval) = (do pure (.value (← Builtin.append_ #[ty,ty] o3.type ((#[.tmp d1,.tmp d2]:Array Operand).map ((a.put (some d1) v).put (some d2) v).eval)))):=rfl
  have e:execOp ((a.put (some d1) v).put (some d2) v).eval o3 = (do pure (.value (← Builtin.append_ #[ty,ty] o3.type ((#[.tmp d1,.tmp d2]:Array Operand).map ((a.put (some d1) v).put (some d2) v).eval)))):=by
   unfold execOp
   rw [ho.p3]
   exact hb
  have em:(#[.tmp d1,.tmp d2]:Array Operand).map ((a.put (some d1) v).put (some d2) v).eval = #[v,v]:=by
   simp only [List.map_toArray,List.map_cons,List.map_nil]
   rw [show ((a.put (some d1) v).put (some d2) v).eval (.tmp d1) = v from ev2 d1 (.inl rfl),show ((a.put (some d1) v).put (some d2) v).eval (.tmp d2) = v from ev2 d2 (.inr (.inl rfl))]
  rw [e,em]
  simp [hrun]
 have dfe:∀ r:Value,(((a.put (some d1) v).put (some d2) v).put (some d3) r).defers = a.defers:=fun r=>by rw [put_defers,put_defers,put_defers]
 rcases append_two (ty:=o3.type) he hz hs2.hr hf.hb hsz hf.n hf.flat hf.pos hroom hv with ⟨r,w',hrun,g',hr',hx,hkp,hfo⟩ | ⟨r,w',hrun,g',hr',hx,hkp,hfo⟩
 ·refine wp_value (hex hrun) ?_
  rw [ho.q3]
  obtain ⟨cs,hcs,hl,hc⟩:=hx.tup_inv
  simp only [Value.tuple.injEq] at hcs
  subst hcs
  obtain ⟨u0,hu0,x0⟩:=hc 0 _ rfl
  obtain ⟨u1,hu1,x1⟩:=hc 1 _ rfl
  obtain rfl:r = u0:=by simpa using hu0
  obtain rfl:v = u1:=by simpa using hu1
  have hs3:=hs2.done l3 hr' x0 hkp hfo (hp:=some (s.h.set i (catI b len))) rfl (us d3)
  have hs4:=hs3.retell (d:=t) (by omega) hf.pr.1 (x:=.own i (b.ver+1) 0 len none) (by
   rw [put_tmps _ _ _ (by rw [hs2.size]; exact l3),if_neg n3,ev2 t (.inr (.inr rfl))]
   exact x1)
  exact kA _ _ _ hs4 (hfo.toC hkp) (dfe r)
 ·refine wp_value (hex hrun) ?_
  rw [ho.q3]
  have hs3:=hs2.done l3 hr' hx hkp hfo (hp:=some (s.h ++ [catN b len])) rfl (us d3)
  exact kB _ _ _ hs3 (hfo.toC hkp) (dfe r)
end
def opsAt (P:Program) (f:Nat) (p:List Nat):List Oper:=match P.funcs[f]? with
 | some fn=>match fn.body with
  | some c=>match nav p c with
   | .region _ ops _=>ops.toList
   | _=>[]
  | none=>[]
 | none=>[]
def ntOf (P:Program) (f:Nat):Nat:=match P.funcs[f]? with
 | some fn=>fn.ntmps
 | none=>0
def isMv (j t d:Nat) (o:Oper):Bool:=match o.op with
 | .move (.tmp t')=>(t'==t)&&((o.dst==some d)&&(o.guard==some (j,false)))
 | _=>false
def isAp (j d1 d2 d3:Nat) (ty:TypeId) (o:Oper):Bool:=match o.op with
 | .call { callee:=.builtin .append,args:=a,argTypes:=ts }=>(match a.toList with
  | [.tmp x,.tmp y]=>(x==d1)&&(y==d2)
  | _=>false)&&((ts.toList==[ty,ty])&&((o.dst==some d3)&&(o.guard==some (j,false))))
 | _=>false
def isFork (n j gd t d1 d2 d3:Nat) (ty:TypeId):Code->Bool
 | .region _ ops draw=>!draw&&((match ops.toList.drop n with
  | o1 :: o2 :: o3 :: _=>isMv j t d1 o1&&(isMv j t d2 o2&&isAp j d1 d2 d3 ty o3)
  | _=>false)&&(guardSlot ops.toList j==some gd))
 | _=>false
theorem isMv_is {j t d:Nat} {o:Oper} (h:isMv j t d o = true):o.op = .move (.tmp t)/\o.dst = some d/\o.guard = some (j,false):=by
 unfold isMv at h
 split at h
 ·rename_i t' ho
  simp only [Bool.and_eq_true,beq_iff_eq] at h
  obtain ⟨rfl,h2,h3⟩:=h
  exact ⟨ho,h2,h3⟩
 ·cases h
theorem isAp_is {j d1 d2 d3:Nat} {ty:TypeId} {o:Oper} (h:isAp j d1 d2 d3 ty o = true):o.op = .call { callee:=.builtin .append,args:=#[.tmp d1,.tmp d2],argTypes:=#[ty,ty] }/\o.dst = some d3/\o.guard = some (j,false):=by
 unfold isAp at h
 split at h
 ·rename_i a ts ho
  simp only [Bool.and_eq_true,beq_iff_eq] at h
  obtain ⟨h1,h2,h3,h4⟩:=h
  split at h1
  ·rename_i x y hxy
   simp only [Bool.and_eq_true,beq_iff_eq] at h1
   obtain ⟨rfl,rfl⟩:=h1
   refine ⟨?_,h3,h4⟩
   rw [ho]
   congr 2
   ·exact Array.toList_inj.1 hxy
   ·exact Array.toList_inj.1 h2
  ·cases h1
 ·cases h
theorem fork_of {n j gd t d1 d2 d3:Nat} {ty:TypeId} {c:Code} (h:isFork n j gd t d1 d2 d3 ty c = true) :
 ∃ id ops o1 o2 o3,c = .region id ops false/\ops.toList = ops.toList.take n ++ o1 :: o2 :: o3 :: ops.toList.drop (n+3)/\ForkOps ops o1 o2 o3 j gd t d1 d2 d3 ty:=by
 cases c with
 | region id ops draw =>
  simp only [isFork,Bool.and_eq_true,Bool.not_eq_true',beq_iff_eq] at h
  obtain ⟨rfl,h1,h2⟩:=h
  split at h1
  ·rename_i o1 o2 o3 post hd
   simp only [Bool.and_eq_true] at h1
   obtain ⟨a1,a2,a3⟩:=h1
   obtain ⟨b1,b2,b3⟩:=isMv_is a1
   obtain ⟨c1,c2,c3⟩:=isMv_is a2
   obtain ⟨e1,e2,e3⟩:=isAp_is a3
   refine ⟨id,ops,o1,o2,o3,rfl,?_,b3,b1,b2,c3,c1,c2,e3,e1,e2,h2⟩
   have:=(List.take_append_drop n ops.toList).symm
   rw [hd] at this
   rw [show ops.toList.drop (n+3) = post by rw [← List.drop_drop,hd]; rfl]
   exact this
  ·cases h1
 | _=>cases h
section
variable {P:Program} {G:Nat->Option (List T)} {A:FuncId->Ann} {f:FuncId} {h0:Heap} {p:List Nat} {l l1 l2 lA lB:List Nat} {vs v1 v2 vA vB wA wB:List T} {h h1 h2 hA' hB':Heap} {K:Orc} {n j gd t d1 d2 d3 i len:Nat} {ty:TypeId} {b:Blk}
theorem runL_goes (hK:OrcOk P G K) {prom:List Nat} {nt:Nat} {ops:Array Oper} {lo:List Oper} (hk:runOps P K G prom nt ops.toList lo (mkSt l vs h) (fun s _=>some (getL s l1,s.h)) = some (v1,h1)) {lo2:List Oper} {g:Gh} {a:Act} {w:World} (hs:SR G prom nt g (mkSt l vs h) a w) {ro:Option Nat} {m:Nat} {Q:Exit->Act->World->Prop}
 (hn:∀ a' w' g',SR G prom nt g' (mkSt l1 v1 h1) a' w'->FrC g h w g' h1 w'->a'.defers = a.defers->wpListIn (wideR ro) m P ops Q lo2 a' w'):wpListIn (wideR ro) m P ops Q (lo ++ lo2) a w:=by
 obtain ⟨s',fps,hk,hrun⟩:=runOps_is _ hk
 simp only [Option.some.injEq,Prod.mk.injEq] at hk
 obtain ⟨rfl,rfl⟩:=hk
 exact hrun.goes_then hK hs ro m Q fun a' w' g' hs' hf' hd'=>hn a' w' g' (hs'.only l1) hf' hd'
theorem Pz.fork (hK:OrcOk P G K) (hq:codeAt P f p (isFork n j gd t d1 d2 d3 ty) = true)
 (hpre:runOps P K G (A f).prom (ntOf P f) (opsAt P f p) ((opsAt P f p).take n) (mkSt l vs h) (fun s _=>some (getL s l1,s.h)) = some (v1,h1)) (hst:ForkSt P (A f).prom (ntOf P f) (mkSt l1 v1 h1) i len b gd t d1 d2 d3 ty)
 (hA1:getL (forkA (mkSt l1 v1 h1) i b len t d1 d2 d3) lA = vA) (hA:runOps P K G (A f).prom (ntOf P f) (opsAt P f p) ((opsAt P f p).drop (n+3)) (mkSt lA vA (h1.set i (catI b len))) (fun s _=>some (getL s l2,s.h)) = some (wA,hA')) (hAw:Wk G A f h0.length l2 wA hA' v2 h2)
 (hB1:getL (forkB (mkSt l1 v1 h1) b len d1 d2 d3) lB = vB) (hB:runOps P K G (A f).prom (ntOf P f) (opsAt P f p) ((opsAt P f p).drop (n+3)) (mkSt lB vB (h1 ++ [catN b len])) (fun s _=>some (getL s l2,s.h)) = some (wB,hB')) (hBw:Wk G A f h0.length l2 wB hB' v2 h2) :
 Pz P G A f h0 p l vs h .normal l2 v2 h2:=by
 intro fn c hf hb ro m hro g0 w0 g a w hr hfr hs Q hn
 have hc:=codeAt_of hq hf hb
 have ho:∀ id ops dr,nav p c = .region id ops dr->opsAt P f p = ops.toList:=fun id ops dr e=>by simp only [opsAt,hf,hb,e]
 have hnt:ntOf P f = fn.ntmps:=by simp only [ntOf,hf]
 rw [hnt] at hpre hst hA hB
 obtain ⟨id,ops,o1,o2,o3,e,hsp,hops⟩:=fork_of hc
 rw [ho _ _ _ e] at hpre hA hB
 rw [e]
 refine wpIn_region_list ?_
 rw [hsp]
 refine runL_goes hK hpre hs fun a1 w1 g1 hs1 hf1 hd1=>?_
 refine fork3 hops hst hs1 (fun a2 w2 g2 hs2 hf2 hd2=>?_) fun a2 w2 g2 hs2 hf2 hd2=>?_
 ·have hs3:=hs2.only lA
  rw [hA1] at hs3
  rw [← List.append_nil (ops.toList.drop (n+3))]
  refine runL_goes hK hA hs3 fun a3 w3 g3 hs4 hf3 hd3=>?_
  obtain ⟨g4,q1,q2,_⟩:=hAw _ g3 a3 w3 g0 h0 w0 (Nat.le_refl _) hr (((hfr.trans hf1).trans hf2).trans hf3) hs4
  exact hn a3 w3 g4 q1 q2 fun _=>(hd3.trans hd2).trans hd1
 ·have hs3:=hs2.only lB
  rw [hB1] at hs3
  rw [← List.append_nil (ops.toList.drop (n+3))]
  refine runL_goes hK hB hs3 fun a3 w3 g3 hs4 hf3 hd3=>?_
  obtain ⟨g4,q1,q2,_⟩:=hBw _ g3 a3 w3 g0 h0 w0 (Nat.le_refl _) hr (((hfr.trans hf1).trans hf2).trans hf3) hs4
  exact hn a3 w3 g4 q1 q2 fun _=>(hd3.trans hd2).trans hd1
end
theorem numsE:(∀ {x:Int},-9223372036854775808<=x->x<=9223372036854775807->IntKind.i64.wrap x = x)/\(∀ {x:Int},0<=x->x<=255->IntKind.u8.wrap x = x)/\(∀ {x:Int},0<=x->x<=65535->IntKind.u16.wrap x = x)/\(∀ {x:Int},0<=x->x<=4294967295->IntKind.u32.wrap x = x) ∧
 (∀ n:Nat,Int.ofNat n = (n:Int))/\(∀ n:Nat,(n:Int).toNat = n)/\(∀ n:Nat,((n:Int)+1).toNat = n+1)/\(∀ a b:Bool,((a&&b) = true) = (a = true/\b = true))/\(∀ a b:Bool,((a || b) = true) = (a = true ∨ b = true))/\(∀ b:Bool,((!b) = true) = (b = false)) ∧
 (∀ (p:Prop) [Decidable p],(decide p = true) = p)/\(∀ (p:Prop) [Decidable p],(decide p = false) = ¬ p)/\(∀ a b:Nat,(Nat.ble a b = true) = (a<=b))/\(∀ a b:Nat,(Nat.blt a b = true) = (a<b))/\(∀ a b:Nat,((a==b) = true) = (a = b)) ∧
 (∀ n:Nat,0+n = n)/\(∀ n:Nat,n+0 = n)/\(∀ n:Int,0+n = n)/\(∀ n:Int,n+0 = n)/\(∀ p:Prop,(True/\p) = p)/\(∀ p:Prop,(p/\True) = p)/\∀ p:Prop,(p/\p) = p :=
 ⟨wr64,wr8,wr16,wr32,ofNatE,toNatE,toNatE1,fun _ _=>Bool.and_eq_true _ _,fun _ _=>Bool.or_eq_true _ _,fun _=>Bool.not_eq_true' _,fun _=>decide_eq_true_eq,fun _=>by simp,fun _ _=>nble,fun _ _=>nblt,fun _ _=>nbeq,Nat.zero_add,Nat.add_zero,Int.zero_add,Int.add_zero,true_and,and_true,and_self⟩
theorem BT {R:Type} {c:Bool} {x y r:R} (h1:x = r) (hc:c = true:=by first | assumption | omega | (simp (disch:=omega) only [numsE,List.length_cons,List.length_nil,Nat.reduceAdd]; done) | (simp (disch:=omega) only [numsE,List.length_cons,List.length_nil,Nat.reduceAdd]; omega)):(bif c then x else y) = r:=bift hc h1
theorem BF {R:Type} {c:Bool} {x y r:R} (h1:y = r) (hc:¬ c = true:=by first | with_reducible assumption | (simp (disch:=omega) only [numsE,List.length_cons,List.length_nil,Nat.reduceAdd]; done) | (simp (disch:=omega) only [numsE,List.length_cons,List.length_nil,Nat.reduceAdd]; omega) | (simp; done) | fail):(bif c then x else y) = r:=biff hc h1
theorem WeakTo.canonS {Gl:Nat->Option (List T)} {prom:List Nat} {nt:Nat} {l:List Nat} {k:Nat} {vs vs':List T} {h h2 h':Heap} (σ:List Nat) (ho:orderOkC k σ h = true) (hv:vs.map (ren σ h) = vs') (hh:renH σ h = h2) (hs:SameBlks h2 h'):WeakTo Gl prom nt l k vs h vs' h' :=
 .trans (.canon σ ho) (by rw [hv,hh]; exact .same hs)
section
variable {P:Program} {Gl:Nat->Option (List T)}
noncomputable def decF (q:Prop):Bool:=@decide q (Classical.propDecidable _)
theorem decF_iff {q:Prop}:decF q = true ↔ q:=by simp [decF]
noncomputable def callF (p:List T->T->Prop) (F:List T->Option T) (args:List T):Tree:=match F args with
 | some r=>.ite (decF (p args r)) (.ret r) .none
 | none=>.none
theorem callF_told {f:FuncId} {p:List T->T->Prop} {F:List T->Option T} (hp:p = ToldOk P Gl f):∀ args r,(callF p F args).run some = some r->ToldOk P Gl f args r:=by
 intro args r hr
 unfold callF at hr
 split at hr
 ·simp only [Tree.run] at hr
  obtain ⟨hc,hr⟩:=bif_none hr
  obtain rfl:=Option.some.inj hr
  have:=decF_iff.1 hc
  rw [hp] at this
  exact this
 ·cases hr
theorem callF_yes {f:FuncId} {p:List T->T->Prop} (hp:p = ToldOk P Gl f) {a:List T} {r:T} (t:ToldOk P Gl f a r):decF (p a r) = true:=decF_iff.2 (by rw [hp]; exact t)
end
section
variable {P:Program} {Gl:Nat->Option (List T)}
end
section
variable {P:Program} {Gl:Nat->Option (List T)}
end
end Go.Ab

