/- A part of the proof: nothing is assumed. -/
import Derived.Test.YteoamlekamflbaaP2
import Derived.Test.YteoamlekamflbaaP1
import Derived.Orders
import Derived.OrdersIn
import Derived.TacticsIn
import Derived.RangeFuncLeaves
import Derived.RangeFuncRecord
set_option linter.all false
namespace Go.Ab
section
variable {P:Program} {Gl:Nat->Option (List T)} {K:Orc} {R:Type} {prom:List Nat} {nt:Nat} {g:Gh} {s:St} {a:Act} {w:World}
def GoesIn (P:Program) (Gl:Nat->Option (List T)) (prom:List Nat) (nt:Nat) (ops:Array Oper) (o:Oper) (a:Act) (w:World) (g:Gh) (h:Heap) (s':St):Prop :=
 ∀ (ro:Option Nat) (n:Nat) (next:Act->World->Prop) (Q:Exit->Act->World->Prop),(∀ a' w' g',SR Gl prom nt g' s' a' w'->FrC g h w g' s'.h w'->a'.defers = a.defers->next a' w') →
  if Region.wanted o (yielded ops a.tmps) then o.wpIn (wideR ro) n P a w next Q else next (a.put o.dst undef) w
theorem frzStep_goes {o:Oper} {k:Eff->FP->Option R} {r:R} (hk:frzStep P Gl prom nt o s k = some r) (hs:SR Gl prom nt g s a w) :
 ∃ f fp,k f fp = some r/\Goes P Gl prom nt o a w g s.h (f.app s):=by
 unfold frzStep at hk
 split at hk
 ·rename_i t len ps ho
  obtain ⟨y,hy,v,w',hrun,hres⟩:=semBuildFrz_sound (cparts:=ps.map fun p=>(p.1,a.eval p.2)) hk hs.hr (by simp) (parts_rel hs.ev)
  exact done_goes hy hs rfl (yields_res (exec_buildSlice ho) hrun hres)
 ·cases hk
theorem guarded_goes (hK:OrcOk P Gl K) {ops:Array Oper} {o:Oper} {k:Eff->FP->Option R} {r:R} (hk:guarded P K Gl prom nt ops.toList o s k = some r) (hs:SR Gl prom nt g s a w) :
 ∃ f fp,k f fp = some r/\GoesIn P Gl prom nt ops o a w g s.h (f.app s):=by
 unfold guarded at hk
 cases hg:o.guard with
 | none =>
  rw [hg] at hk
  obtain ⟨s',fp,h1,h2⟩:∃ f fp,k f fp = some r/\Goes P Gl prom nt o a w g s.h (f.app s):=by
   rcases bif_some hk with ⟨_,hk⟩ | ⟨_,hk⟩
   ·exact frzStep_goes hk hs
   ·exact opStep_goes hK hk hs
  exact ⟨s',fp,h1,fun ro n next Q hn=>by rw [if_pos (by simp [Region.wanted,hg])]; exact h2 ro n next Q hn⟩
 | some p =>
  obtain ⟨j,want⟩:=p
  rw [hg] at hk
  dsimp only at hk
  cases hgs:guardSlot ops.toList j with
  | none=>rw [hgs] at hk; cases hk
  | some gd =>
   rw [hgs] at hk
   dsimp only at hk
   cases hat:s.at gd with
   | bool b =>
    rw [hat] at hk
    dsimp only at hk
    rcases bif_some hk with ⟨_,hk⟩ | ⟨hp,hk⟩
    ·cases hk
    have hv:=hs.tmps gd (by simpa using hp)
    rw [hat] at hv
    have hv:=hv.bool
    have hy:yielded ops a.tmps j = some b:=by
     have hd:(ops[j]?).bind (·.dst) = some gd:=by
      unfold guardSlot at hgs
      rw [Array.getElem?_toList] at hgs
      cases ho:ops[j]? with
      | none=>rw [ho] at hgs; cases hgs
      | some o'=>rw [ho] at hgs; exact hgs
     unfold yielded
     rw [hd]
     simp only [Option.bind_some]
     have hlt:gd<a.tmps.size:=by
      rcases Nat.lt_or_ge gd a.tmps.size with hq | hq
      ·exact hq
      ·rw [Array.getD_eq_getD_getElem?,Array.getElem?_eq_none hq] at hv; cases hv
     rw [Array.getD_eq_getD_getElem?,Array.getElem?_eq_getElem hlt] at hv
     rw [Array.getElem?_eq_getElem hlt]
     simp only [Option.getD_some] at hv
     rw [hv]
    have hw:Region.wanted o (yielded ops a.tmps) = (b==want):=by simp [Region.wanted,hg,hy]
    have hb:(bif b then want else !want) = (b==want):=beq_bool b want
    rw [hb] at hk
    rcases bif_some hk with ⟨hbw,hk⟩ | ⟨hbw,hk⟩
    ·obtain ⟨s',fp,h1,h2⟩:=opStep_goes hK hk hs
     exact ⟨s',_,h1,fun ro n next Q hn=>by rw [if_pos (by rw [hw]; exact hbw)]; exact h2 ro n next Q hn⟩
    ·unfold done at hk
     have hneg:¬ Region.wanted o (yielded ops a.tmps) = true:=by rw [hw,hbw]; simp
     cases hd:o.dst with
     | none =>
      rw [hd] at hk
      refine ⟨_,_,hk,fun _ _ next Q hn=>?_⟩
      rw [if_neg hneg]
      refine hn _ _ g ?_ (FrC.refl _ _ _) (put_defers _ _ _)
      rw [hd]
      exact hs.done0 hs.hr (.refl _ _ _ _) (.refl _ _ fun b o e=>(hs.hr.own b o e).2) rfl
     | some d =>
      rw [hd] at hk
      obtain ⟨hlt,hk⟩:=bif_none hk
      refine ⟨_,_,parted_eq hk,fun _ _ next Q hn=>?_⟩
      rw [if_neg hneg]
      refine hn _ _ g ?_ (FrC.refl _ _ _) (put_defers _ _ _)
      rw [hd]
      simp only [Bool.and_eq_true,Bool.not_eq_true'] at hlt
      exact hs.done (blt_lt hlt.1) hs.hr (.imm _ _ (.gone _ (fun b h=>by cases h))) (.refl _ _ _ _) (.refl _ _ fun b o e=>(hs.hr.own b o e).2) rfl hlt.2
   | gone =>
    rw [hat] at hk
    dsimp only at hk
    rcases bif_some hk with ⟨_,hk⟩ | ⟨hp,hk⟩
    ·cases hk
    have hv:=hs.tmps gd (by simpa using hp)
    rw [hat] at hv
    have hy:yielded ops a.tmps j = none:=by
     have hd:(ops[j]?).bind (·.dst) = some gd:=by
      unfold guardSlot at hgs
      rw [Array.getElem?_toList] at hgs
      cases ho:ops[j]? with
      | none=>rw [ho] at hgs; cases hgs
      | some o'=>rw [ho] at hgs; exact hgs
     unfold yielded
     rw [hd]
     simp only [Option.bind_some]
     rcases Nat.lt_or_ge gd a.tmps.size with hq | hq
     ·rw [Array.getD_eq_getD_getElem?,Array.getElem?_eq_getElem hq] at hv
      rw [Array.getElem?_eq_getElem hq]
      simp only [Option.getD_some] at hv
      have hnb:=hv.gone
      generalize a.tmps[gd] = x at hnb
      cases x <;> first | rfl | exact absurd rfl (hnb _)
     ·rw [Array.getElem?_eq_none hq]
    have hw:Region.wanted o (yielded ops a.tmps) = false:=by simp [Region.wanted,hg,hy]
    have hneg:¬ Region.wanted o (yielded ops a.tmps) = true:=by rw [hw]; simp
    unfold done at hk
    cases hd:o.dst with
    | none =>
     rw [hd] at hk
     refine ⟨_,_,hk,fun _ _ next Q hn=>?_⟩
     rw [if_neg hneg]
     refine hn _ _ g ?_ (FrC.refl _ _ _) (put_defers _ _ _)
     rw [hd]
     exact hs.done0 hs.hr (.refl _ _ _ _) (.refl _ _ fun b o e=>(hs.hr.own b o e).2) rfl
    | some d =>
     rw [hd] at hk
     obtain ⟨hlt,hk⟩:=bif_none hk
     refine ⟨_,_,parted_eq hk,fun _ _ next Q hn=>?_⟩
     rw [if_neg hneg]
     refine hn _ _ g ?_ (FrC.refl _ _ _) (put_defers _ _ _)
     rw [hd]
     simp only [Bool.and_eq_true,Bool.not_eq_true'] at hlt
     exact hs.done (blt_lt hlt.1) hs.hr (.imm _ _ (.gone _ (fun b h=>by cases h))) (.refl _ _ _ _) (.refl _ _ fun b o e=>(hs.hr.own b o e).2) rfl hlt.2
   | _=>rw [hat] at hk; cases hk
def StepIs (P:Program) (K:Orc) (Gl:Nat->Option (List T)) (prom:List Nat) (nt:Nat) (ops:List Oper) (o:Oper) (s:St) (f:Eff) (fp:FP):Prop :=
 ∀ (R:Type) (k:Eff->FP->Option R),guarded P K Gl prom nt ops o s k = k f fp
theorem guarded_is {ops:List Oper} {o:Oper} {k:Eff->FP->Option R} {r:R} (hk:guarded P K Gl prom nt ops o s k = some r):∃ f fp,k f fp = some r/\StepIs P K Gl prom nt ops o s f fp:=by
 obtain ⟨⟨f,fp⟩,h1,h2⟩:=det_some (guarded_det P K Gl prom nt ops o s) (k:=fun p=>k p.1 p.2) hk
 exact ⟨f,fp,h1,fun R k=>h2 R fun p=>k p.1 p.2⟩
theorem StepIs.goes (hK:OrcOk P Gl K) {ops:Array Oper} {o:Oper} {f:Eff} {fp:FP} (h:StepIs P K Gl prom nt ops.toList o s f fp) (hs:SR Gl prom nt g s a w):GoesIn P Gl prom nt ops o a w g s.h (f.app s):=by
 obtain ⟨f',fp',h1,h2⟩:=guarded_goes hK (h (Eff × FP) fun f fp=>some (f,fp)) hs
 simp only [Option.some.injEq,Prod.mk.injEq] at h1
 obtain ⟨rfl,rfl⟩:=h1
 exact h2
inductive RunIs (P:Program) (K:Orc) (Gl:Nat->Option (List T)) (prom:List Nat) (nt:Nat) (ops:List Oper):List Oper->St->St->List FP->Prop where
 | nil (s:St):RunIs P K Gl prom nt ops [] s s []
 | cons {o:Oper} {l:List Oper} {s s':St} {f:Eff} {fp:FP} {fps:List FP} (h:StepIs P K Gl prom nt ops o s f fp) (t:RunIs P K Gl prom nt ops l (f.app s) s' fps):RunIs P K Gl prom nt ops (o :: l) s s' (fp :: fps)
theorem runOps_is {ops:List Oper}:∀ (l:List Oper) {s:St} {k:St->List FP->Option R} {r:R},runOps P K Gl prom nt ops l s k = some r->∃ s' fps,k s' fps = some r/\RunIs P K Gl prom nt ops l s s' fps
 | [],s,k,r,hk=>⟨s,[],hk,.nil s⟩
 | o :: l,s,k,r,hk=>by
  simp only [runOps] at hk
  obtain ⟨f,fp,hk,h1⟩:=guarded_is hk
  obtain ⟨s',fps,hk,h2⟩:=runOps_is l hk
  exact ⟨s',fp :: fps,hk,.cons h1 h2⟩
theorem RunIs.goes (hK:OrcOk P Gl K) {ops:Array Oper} {l:List Oper} {s s':St} {fps:List FP} (h:RunIs P K Gl prom nt ops.toList l s s' fps):∀ {g:Gh} {a:Act} {w:World},SR Gl prom nt g s a w →
 ∀ (ro:Option Nat) (n:Nat) (Q:Exit->Act->World->Prop),(∀ a' w' g',SR Gl prom nt g' s' a' w'->FrC g s.h w g' s'.h w'->a'.defers = a.defers->Q .normal a' w')->wpListIn (wideR ro) n P ops Q l a w:=by
 induction h with
 | nil s=>exact fun hs ro n Q hn=>hn _ _ _ hs (FrC.refl _ _ _) rfl
 | cons h1 h2 ih =>
  intro g a w hs ro n Q hn
  unfold wpListIn
  have:=h1.goes hK hs ro n (wpListIn (wideR ro) n P ops Q _) Q (fun a' w' g' hs' hf' hd'=>ih hs' ro n Q fun a2 w2 g2 hs2 hf2 hd2=>hn a2 w2 g2 hs2 (hf'.trans hf2) (hd2.trans hd'))
  split at this
  ·rename_i hw; rw [if_pos hw]; exact this
  ·rename_i hw; rw [if_neg hw]; exact ⟨fun _ _=>trivial,this⟩
end
section
variable {P:Program} {K:Orc} {Gl:Nat->Option (List T)} {prom:List Nat} {nt:Nat} {s s1 s':St} {f:Eff} {fp:FP}
theorem frzStep_congr {o:Oper} (hk:frzStep P Gl prom nt o s two = some (f,fp)) (ha:Agree s s1 fp):frzStep P Gl prom nt o s1 two = some (f,fp):=by
 unfold frzStep at hk ⊢
 split at hk
 ·rename_i t len ps ho
  rw [ho]
  obtain ⟨y,hk1,hall⟩:=det_some (semBuildFrz_det P t len (ps.toList.map fun p=>(p.1,ev Gl prom s p.2))) (k:=fun v=>done nt o s v none (opSlots o.op) false false two) hk
  obtain ⟨h1,h2,h3,h4⟩:=done_congr (s1:=s1) hk1
  have he:(ps.toList.map fun p=>(p.1,ev Gl prom s1 p.2)) = ps.toList.map fun p=>(p.1,ev Gl prom s p.2):=List.map_congr_left fun p hp=>by
   rw [ev_congr fun t ht=>ha.at' t ?_]
   rw [h1]
   refine List.mem_flatMap.2 ⟨p.2,?_,ht⟩
   rw [ho]
   simp only [Op.operands]
   first
    | (simp only [Array.toList_map,List.mem_map]; exact ⟨p,hp,rfl⟩)
    | (simp; exact ⟨p.1,by simpa using hp⟩)
  rw [he]
  have:=hall _ fun v=>done nt o s1 v none (opSlots o.op) false false two
  rw [ho] at this h4
  rw [this]
  exact h4 ha.used
 ·cases hk
theorem frzFit_congr {o:Oper} (hsub:∀ t ∈ opSlots o.op,t ∈ fp.rs) (ha:Agree s s1 fp):frzFit Gl prom s1 o = frzFit Gl prom s o:=by
 unfold frzFit
 cases ho:o.op with
 | buildSlice t len ps =>
  dsimp only
  have he:∀ p ∈ ps.toList,ev Gl prom s1 p.2 = ev Gl prom s p.2:=fun p hp=>by
   refine ev_congr fun t ht=>ha.at' t (hsub t (List.mem_flatMap.2 ⟨p.2,?_,ht⟩))
   rw [ho]
   simp only [Op.operands]
   first
    | (simp only [Array.toList_map,List.mem_map]; exact ⟨p,hp,rfl⟩)
    | (simp; exact ⟨p.1,by simpa using hp⟩)
  rw [Bool.eq_iff_iff,List.all_eq_true,List.all_eq_true]
  exact ⟨fun h p hp=>by rw [← he p hp]; exact h p hp,fun h p hp=>by rw [he p hp]; exact h p hp⟩
 | _=>rfl
theorem frzStep_rs {o:Oper} (hk:frzStep P Gl prom nt o s two = some (f,fp)):∀ t ∈ opSlots o.op,t ∈ fp.rs:=by
 unfold frzStep at hk
 split at hk
 ·rename_i t len ps ho
  obtain ⟨y,hk1,hall⟩:=det_some (semBuildFrz_det P t len (ps.toList.map fun p=>(p.1,ev Gl prom s p.2))) (k:=fun v=>done nt o s v none (opSlots o.op) false false two) hk
  obtain ⟨h1,h2,h3,h4⟩:=done_congr (s1:=s) hk1
  exact fun t ht=>h1 ▸ ht
 ·cases hk
theorem opStep_fit {o:Oper} (hk:opStep P K Gl prom nt o s two = some (f,fp)) (ha:Agree s s1 fp):frzFit Gl prom s1 o = frzFit Gl prom s o:=by
 cases ho:o.op with
 | buildSlice t len ps =>
  unfold opStep at hk
  rw [ho] at hk
  dsimp only at hk
  exact frzFit_congr (plainStep_congr (s1:=s1) hk).1 ha
 | _=>simp only [frzFit,ho]
theorem guarded_congr {ops:List Oper} {o:Oper} (hk:guarded P K Gl prom nt ops o s two = some (f,fp)) (ha:Agree s s1 fp):guarded P K Gl prom nt ops o s1 two = some (f,fp):=by
 unfold guarded at hk ⊢
 cases hg:o.guard with
 | none =>
  rw [hg] at hk
  dsimp only at hk ⊢
  cases hz:(frzOp K.byRef ops o&&frzFit Gl prom s o) with
  | true =>
   rw [hz] at hk
   rw [frzFit_congr (frzStep_rs hk) ha,hz]
   exact frzStep_congr hk ha
  | false =>
   rw [hz] at hk
   rw [opStep_fit hk ha,hz]
   exact opStep_congr hk ha
 | some p =>
  obtain ⟨j,want⟩:=p
  rw [hg] at hk
  dsimp only at hk ⊢
  cases hgs:guardSlot ops j with
  | none=>rw [hgs] at hk; cases hk
  | some gd =>
   rw [hgs] at hk
   dsimp only at hk ⊢
   cases hat:s.at gd with
   | bool b =>
    rw [hat] at hk
    dsimp only at hk
    cases hp:prom.contains gd with
    | true=>rw [hp] at hk; cases hk
    | false =>
     rw [hp] at hk
     simp only [cond_false] at hk
     cases hw:(bif b then want else !want) with
     | true =>
      rw [hw] at hk
      simp only [cond_true] at hk
      obtain ⟨⟨f1,fp1⟩,h1,h2⟩:=det_some (opStep_det P K Gl prom nt o s) (k:=fun p=>two p.1 { p.2 with rs:=gd :: p.2.rs }) hk
      simp only [Option.some.injEq,Prod.mk.injEq] at h1
      obtain ⟨rfl,rfl⟩:=h1
      have ha1:Agree s s1 fp1:=⟨fun e he=>ha.at' e (List.mem_cons_of_mem _ he),fun e he=>ha.loc e (List.mem_cons_of_mem _ he),ha.used,ha.heap,ha.heapR⟩
      have h3:=opStep_congr (h2 _ fun p=>two p.1 p.2) ha1
      rw [ha.at' gd List.mem_cons_self,hat]
      simp only [cond_false,cond_true,hw]
      obtain ⟨q,q1,q2⟩:=det_some (opStep_det P K Gl prom nt o s1) (k:=fun p=>two p.1 p.2) h3
      obtain ⟨f2,fp2⟩:=q
      simp only [Option.some.injEq,Prod.mk.injEq] at q1
      obtain ⟨rfl,rfl⟩:=q1
      exact q2 _ fun p=>two p.1 { p.2 with rs:=gd :: p.2.rs }
     | false =>
      rw [hw] at hk
      simp only [cond_false] at hk
      obtain ⟨h1,_,_,h4⟩:=done_congr (s1:=s1) hk
      rw [ha.at' gd (h1 ▸ List.mem_cons_self),hat]
      simp only [cond_false,hw]
      exact h4 ha.used
   | gone =>
    rw [hat] at hk
    dsimp only at hk
    cases hp:prom.contains gd with
    | true=>rw [hp] at hk; cases hk
    | false =>
     rw [hp] at hk
     simp only [cond_false] at hk
     obtain ⟨h1,_,_,h4⟩:=done_congr (s1:=s1) hk
     rw [ha.at' gd (h1 ▸ List.mem_cons_self),hat]
     simp only [cond_false]
     exact h4 ha.used
   | _=>rw [hat] at hk; cases hk
theorem StepIs.congr {ops:List Oper} {o:Oper} (h:StepIs P K Gl prom nt ops o s f fp) (ha:Agree s s1 fp):StepIs P K Gl prom nt ops o s1 f fp:=by
 obtain ⟨f',fp',h1,h2⟩:=guarded_is (guarded_congr (h _ two) ha)
 simp only [Option.some.injEq,Prod.mk.injEq] at h1
 obtain ⟨rfl,rfl⟩:=h1
 exact h2
structure Fits (f:Eff) (fp:FP):Prop where
 slot:∀ d v,f.slot = some (d,v)->d ∈ fp.ws/\d<1024
 place:∀ d p,f.place = some (d,p)->d ∈ fp.ws/\∀ t o,p = some (t,o)->t ∈ fp.rs
 heap:∀ h,f.heap = some h->fp.wr = true
theorem done_fits (hnt:nt<=1024) {o:Oper} {v:T} {hp:Option Heap} {rs:List Nat} {rd wr:Bool} (hw:∀ h,hp = some h->wr = true) (hk:done nt o s v hp rs rd wr two = some (f,fp)):Fits f fp:=by
 unfold done at hk
 cases hd:o.dst with
 | none =>
  rw [hd] at hk
  simp only [Option.some.injEq,Prod.mk.injEq] at hk
  obtain ⟨rfl,rfl⟩:=hk
  exact ⟨fun d v h=>(by cases h),fun d v h=>(by cases h),hw⟩
 | some d =>
  rw [hd] at hk
  dsimp only at hk
  cases hb:(Nat.blt d nt&&!s.used d) with
  | false=>rw [hb] at hk; cases hk
  | true =>
   rw [hb] at hk
   simp only [cond_true,parted_some,Option.some.injEq,Prod.mk.injEq] at hk
   obtain ⟨rfl,rfl⟩:=hk
   simp only [Bool.and_eq_true] at hb
   have:=blt_lt hb.1
   refine ⟨fun d' v' h=>?_,fun d' p h=>?_,hw⟩
   ·simp only [Option.some.injEq,Prod.mk.injEq] at h
    obtain ⟨rfl,_⟩:=h
    exact ⟨by simp,by omega⟩
   ·simp only [Option.some.injEq,Prod.mk.injEq] at h
    obtain ⟨rfl,rfl⟩:=h
    exact ⟨by simp,fun t o h=>by cases h⟩
theorem done_fits2 (hnt:nt<=1024) {o:Oper} {v:T} {hp:Option Heap} {rs:List Nat} {rd wr:Bool} {rb wb:Option Nat × Bool} (hw:∀ h,hp = some h->wr = true) (hk:done nt o s v hp rs rd wr (fun f fp=>two f { fp with rb:=rb,wb:=wb }) = some (f,fp)) :
 Fits f fp/\f.heap = hp/\fp.wb = wb:=by
 obtain ⟨⟨f1,fp1⟩,h1,h2⟩:=det_some (done_det nt o s v hp rs rd wr) (k:=fun p=>two p.1 { p.2 with rb:=rb,wb:=wb }) hk
 simp only [Option.some.injEq,Prod.mk.injEq] at h1
 obtain ⟨rfl,rfl⟩:=h1
 have h3:=h2 _ fun p=>two p.1 p.2
 have hf:=done_fits hnt hw h3
 refine ⟨⟨hf.slot,hf.place,hf.heap⟩,?_,rfl⟩
 unfold done at h3
 cases hd:o.dst with
 | none =>
  rw [hd] at h3
  simp only [Option.some.injEq,Prod.mk.injEq] at h3
  rw [← h3.1]
 | some d =>
  rw [hd] at h3
  dsimp only at h3
  cases hb:(Nat.blt d nt&&!s.used d) with
  | false=>rw [hb] at h3; cases h3
  | true =>
   rw [hb] at h3
   simp only [cond_true,parted_some,Option.some.injEq,Prod.mk.injEq] at h3
   rw [← h3.1]
def WOnly (s:St) (f:Eff) (fp:FP):Prop:=(∀ h i,f.heap = some h->fp.wb.1 = some i->∀ j:Nat,j ≠ i->h[j]? = s.h[j]?)/\(∀ h,f.heap = some h->fp.wb.2 = true->∀ j,mvw h j = mvw s.h j)
theorem WOnly.no {s:St} {f:Eff} {fp:FP} (h:fp.wb = (none,false)):WOnly s f fp:=⟨fun _ i _ hw=>(by rw [h] at hw; cases hw),fun _ _ hw=>(by rw [h] at hw; cases hw)⟩
theorem WOnly.no' {s:St} {f:Eff} {fp:FP} (h:f.heap = none):WOnly s f fp:=⟨fun _ i hh=>(by rw [h] at hh; cases hh),fun _ hh=>(by rw [h] at hh; cases hh)⟩
theorem app_ne {h:Heap} {b:Blk} {j:Nat} (hj:j ≠ h.length):(h ++ [b])[j]? = h[j]?:=by
 rcases Nat.lt_or_ge j h.length with q | q
 ·rw [List.getElem?_append_left q]
 ·rw [List.getElem?_eq_none (by simp; omega),List.getElem?_eq_none (by omega)]
theorem set_ne {h:Heap} {b:Blk} {i j:Nat} (hj:j ≠ i):(h.set i b)[j]? = h[j]?:=List.getElem?_set_ne (fun q=>hj q.symm)
theorem k3 {y y2:T} {h h2:Heap} {w w2:Bool} (h0:some (y,h,w) = some (y2,h2,w2)):y = y2/\h = h2:=by
 simp only [Option.some.injEq,Prod.mk.injEq] at h0
 exact ⟨h0.1,h0.2.1⟩
theorem semAppend_wonly {t:TypeId} {s0 x:T} {h:Heap} {y:T} {h':Heap} {wr:Bool} {i:Nat} (hk:semAppend P t s0 x h (fun y h w=>some (y,h,w)) = some (y,h',wr)) (ho:ownBlk y = some i):∀ j:Nat,j ≠ i->h'[j]? = h[j]?:=by
 intro j hj
 have own_i:∀ {i' v o l:Nat} {c:Option Nat},T.own i' v o l c = y->i' = i:=fun e=>by subst e; simpa [ownBlk] using ho
 unfold semAppend at hk
 cases he:elemTy P t with
 | none=>rw [he] at hk; cases hk
 | some e =>
  rw [he] at hk
  dsimp only at hk
  obtain ⟨_,hk⟩:=bif_none' hk
  obtain ⟨⟨m,gx,fl⟩,hk,_⟩:=det_some (f:=fun R k=>source2 (R:=R) ((zeroTy P e).all plain0) (szTy P e) x h fun a b c=>k (a,b,c)) (source2_det _ _ _ x) (k:=fun p=>match s0 with
  | .nils=>bif p.1==0 then some (T.nils,h,false)
   else bif appRoom P e p.1 then some (T.own h.length 0 0 p.1 none,h ++ [⟨0,szTy P e,p.1,p.2.1,plainUpTo p.1 p.2.1 p.2.2,false,none⟩],true) else none
  | .view sz n g cap=>bif sz==szTy P e then bif p.1==0 then some (s0,h,false) else match cap with
   | some c=>bif Nat.blt c (n+p.1)&&appRoom P e (n+p.1) then
    some (.own h.length 0 0 (n+p.1) none,h ++ [catV ((zeroTy P e).all plain0) sz n p.1 g p.2.1 (plainUpTo p.1 p.2.1 p.2.2)],true) else none
   | none=>none
   else none
  | .own i ver off len cap=>withBlk h i ver fun b=>bif (b.sz==szTy P e)&&Nat.ble (off+len) b.n then
   bif p.1==0 then some (s0,h,false) else
   bif appRoom P e (len+p.1) then
    match cap with
    | some c=>bif Nat.ble (len+p.1) c then
     bif Nat.ble (off+len+p.1) b.n then
      some (.own i ver off (len+p.1) cap,h.set i { b with get:=fun j=>bif Nat.ble (off+len) j&&Nat.blt j (off+len+p.1) then p.2.1 (j - (off+len)) else b.get j,flat:=b.flat&&plainUpTo p.1 p.2.1 p.2.2 },true)
     else none
     else some (.own h.length 0 0 (len+p.1) none,h ++ [catBlk 0 b.sz len p.1 (fun j=>b.get (off+j)) p.2.1 (b.flat&&plainUpTo p.1 p.2.1 p.2.2)],true)
    | none=>bif Nat.ble (off+len+p.1) b.n then
     some (.own i ver off (len+p.1) none,h.set i { b with get:=fun j=>bif Nat.ble (off+len) j&&Nat.blt j (off+len+p.1) then p.2.1 (j - (off+len)) else b.get j,flat:=b.flat&&plainUpTo p.1 p.2.1 p.2.2 },true)
     else some (.own i (ver+1) 0 (len+p.1) none,h.set i (catBlk (ver+1) b.sz len p.1 (fun j=>b.get (off+j)) p.2.1 (b.flat&&plainUpTo p.1 p.2.1 p.2.2)),true)
   else none
   else none
  | _=>none) hk
  dsimp only at hk
  cases s0 with
  | nils =>
   dsimp only at hk
   rcases bif_some hk with ⟨_,hk⟩ | ⟨_,hk⟩
   ·obtain ⟨_,rfl⟩:=k3 hk; rfl
   ·obtain ⟨_,hk⟩:=bif_none' hk
    obtain ⟨q,rfl⟩:=k3 hk
    have:=own_i q
    exact app_ne (by omega)
  | view sz n g cap =>
   dsimp only at hk
   obtain ⟨_,hk⟩:=bif_none' hk
   rcases bif_some hk with ⟨_,hk⟩ | ⟨_,hk⟩
   ·obtain ⟨_,rfl⟩:=k3 hk; rfl
   ·cases cap with
    | none=>cases hk
    | some c =>
     obtain ⟨_,hk⟩:=bif_none' hk
     obtain ⟨q,rfl⟩:=k3 hk
     have:=own_i q
     exact app_ne (by omega)
  | own i' ver off len cap =>
   dsimp only at hk
   obtain ⟨b,hb,hmp,hver,hk⟩:=blk_of' hk
   obtain ⟨_,hk⟩:=bif_none' hk
   rcases bif_some hk with ⟨_,hk⟩ | ⟨_,hk⟩
   ·obtain ⟨_,rfl⟩:=k3 hk; rfl
   ·obtain ⟨_,hk⟩:=bif_none' hk
    cases cap with
    | some c =>
     dsimp only at hk
     rcases bif_some hk with ⟨_,hk⟩ | ⟨_,hk⟩
     ·obtain ⟨_,hk⟩:=bif_none' hk
      obtain ⟨q,rfl⟩:=k3 hk
      have:=own_i q
      exact set_ne (by omega)
     ·obtain ⟨q,rfl⟩:=k3 hk
      have:=own_i q
      exact app_ne (by omega)
    | none =>
     dsimp only at hk
     rcases bif_some hk with ⟨_,hk⟩ | ⟨_,hk⟩
     ·obtain ⟨q,rfl⟩:=k3 hk
      have:=own_i q
      exact set_ne (by omega)
     ·obtain ⟨q,rfl⟩:=k3 hk
      have:=own_i q
      exact set_ne (by omega)
  | _=>cases hk
theorem ofMap_at {R:Type} {t:TypeId} {x:T} {h:Heap} {k:Nat->Blk->MapD->Option R} {r:R} (hk:ofMap P t x h k = some r):∃ i b m,k i b m = some r/\mpBlk x = some i:=by
 unfold ofMap at hk
 cases x with
 | mp i ver =>
  dsimp only at hk
  unfold withMap at hk
  cases hb:h[i]? with
  | none=>rw [hb] at hk; cases hk
  | some b =>
   rw [hb] at hk
   dsimp only at hk
   obtain ⟨_,hk⟩:=bif_none' hk
   cases hm:b.mp with
   | none=>rw [hm] at hk; cases hk
   | some m =>
    rw [hm] at hk
    dsimp only at hk
    cases ht:mapTy P t with
    | none=>rw [ht] at hk; cases hk
    | some p =>
     obtain ⟨kt,ks,q⟩:=p
     rw [ht] at hk
     dsimp only at hk
     obtain ⟨_,hk⟩:=bif_none' hk
     exact ⟨i,b,m,hk,rfl⟩
 | _=>cases hk
theorem atMap_at {R:Type} {t:TypeId} {x key:T} {h:Heap} {k:Nat->Blk->MapD->List Int->Option R} {r:R} (hk:atMap P t x key h k = some r):∃ i b m l,k i b m l = some r/\mpBlk x = some i:=by
 unfold atMap at hk
 obtain ⟨i,b,m,hk,hi⟩:=ofMap_at hk
 obtain ⟨l,hk,_⟩:=det_some (keyInts_det m.ks key) hk
 exact ⟨i,b,m,l,hk,hi⟩
theorem semOp_wonly {op:Op} {e:Operand->T} {h:Heap} {y:T} {h':Heap} {wr:Bool} {i:Nat} (hk:semOp P K op e h (fun y h w=>some (y,h,w)) = some (y,h',wr)) (ho:onlyW op e h y = some i):∀ j:Nat,j ≠ i->h'[j]? = h[j]?:=by
 intro j hj
 cases op with
 | store t a v =>
  simp only [onlyW] at ho
  cases hx:e a with
  | ptr i' ver jj o =>
   rw [hx] at ho
   obtain rfl:i' = i:=by simpa [ptrBlk] using ho
   simp only [semOp,semStore,hx] at hk
   obtain ⟨b,hb,hmp,hver,hk⟩:=blk_of hk
   obtain ⟨_,hk⟩:=bif_none hk
   obtain ⟨_,rfl⟩:=k3 hk
   exact set_ne hj
  | _=>rw [hx] at ho; cases ho
 | buildSlice t len parts =>
  obtain rfl:h.length = i:=by simpa [onlyW] using ho
  simp only [semOp,semBuildSlice] at hk
  cases he:elemTy P t with
  | none=>rw [he] at hk; cases hk
  | some ee =>
   rw [he] at hk
   dsimp only at hk
   obtain ⟨_,hk⟩:=bif_none' hk
   obtain ⟨els,hk,_⟩:=det_some (setElems_det _ _ _) (k:=fun els=>some (T.own h.length 0 0 len (some len),h ++ [⟨0,szTy P ee,len,fun j=>els.getD j [],els.all (·.all plain0),Nat.ble len 8,none⟩],true)) hk
   obtain ⟨_,rfl⟩:=k3 hk
   exact app_ne hj
 | alloc ty =>
  obtain rfl:h.length = i:=by simpa [onlyW] using ho
  simp only [semOp] at hk
  obtain ⟨_,hk⟩:=bif_none' hk
  unfold semAllocT at hk
  split at hk
  ·obtain ⟨_,rfl⟩:=k3 hk
   exact app_ne hj
  ·obtain ⟨_,rfl⟩:=k3 hk
   exact app_ne hj
 | box ty x =>
  obtain rfl:h.length = i:=by simpa [onlyW] using ho
  simp only [semOp] at hk
  obtain ⟨_,hk⟩:=bif_none' hk
  obtain ⟨_,rfl⟩:=k3 hk
  exact app_ne hj
 | makeMap t rr =>
  obtain rfl:h.length = i:=by simpa [onlyW] using ho
  cases rr with
  | some x=>cases hk
  | none =>
   simp only [semOp,semMakeMap] at hk
   split at hk
   ·obtain ⟨_,rfl⟩:=k3 hk
    exact app_ne hj
   ·cases hk
 | mapUpdate t x key v =>
  have ho:mpBlk (e x) = some i:=ho
  simp only [semOp,semUpdate] at hk
  split at hk
  ·obtain ⟨i',b,m,l,hk,hi⟩:=atMap_at hk
   obtain ⟨_,hk⟩:=bif_none' hk
   obtain ⟨_,rfl⟩:=k3 hk
   rw [hi] at ho
   obtain rfl:=Option.some.inj ho
   exact set_ne hj
  ·cases hk
 | mapEntry t x key =>
  have ho:mpBlk (e x) = some i:=ho
  simp only [semOp,semEntry] at hk
  obtain ⟨i',b,m,l,hk,hi⟩:=atMap_at hk
  obtain ⟨_,rfl⟩:=k3 hk
  rw [hi] at ho
  obtain rfl:=Option.some.inj ho
  exact set_ne hj
 | entryStore t x st v =>
  have ho:mpBlk (e x) = some i:=ho
  simp only [semOp,semEntryStore] at hk
  split at hk
  ·obtain ⟨i',b,m,hk,hi⟩:=ofMap_at hk
   split at hk
   ·obtain ⟨_,hk⟩:=bif_none' hk
    obtain ⟨_,rfl⟩:=k3 hk
    rw [hi] at ho
    obtain rfl:=Option.some.inj ho
    exact set_ne hj
   ·cases hk
  ·cases hk
 | call c =>
  obtain ⟨callee,args,types⟩:=c
  cases callee with
  | builtin b =>
   cases b with
   | append =>
    have ho:ownBlk y = some i:=ho
    simp only [semOp,semBuiltin] at hk
    split at hk
    all_goals first
     | contradiction
     | (cases hk; done)
     | (obtain ⟨_,hk⟩:=bif_none' hk; exact semAppend_wonly hk ho j hj)
   | _=>cases ho
  | _=>cases ho
 | _=>cases ho
theorem bif_prod {A:Type} {c:Bool} {x y z:A} (h:(bif c then x else y) = z):x = z ∨ y = z:=by
 cases c
 ·exact .inr h
 ·exact .inl h
theorem take1_wonly {safe:Bool} {h:Heap} {x:T} {i ver off len:Nat} {cap:Option Nat} {h':Heap} (hk:take1 safe h x = (.own i ver off len cap,h')):∀ j:Nat,j ≠ h.length->h'[j]? = h[j]?:=by
 intro j hj
 cases x with
 | agg l=>simp only [take1,Prod.mk.injEq] at hk; cases hk.1
 | fresh flat sz n g len cap =>
  simp only [take1,take0] at hk
  rcases bif_prod hk with hk | hk
  ·rw [← (Prod.mk.inj hk).2]; exact app_ne hj
  ·rw [← (Prod.mk.inj hk).2]; exact app_ne hj
 | freshm m=>simp only [take1,take0,Prod.mk.injEq] at hk; cases hk.1
 | _=>simp only [take1,take0,Prod.mk.injEq] at hk; rw [← hk.2]
theorem taken_wonly {safe:Bool} {h:Heap} {x:T} {i ver off len:Nat} {cap:Option Nat} {h':Heap} (hk:taken safe h x = (.own i ver off len cap,h')):∀ j:Nat,j ≠ h.length->h'[j]? = h[j]?:=by
 cases x with
 | tup l=>simp only [taken,Prod.mk.injEq] at hk; cases hk.1
 | _=>simp only [taken] at hk; exact take1_wonly hk
theorem semOp_wonly2 {op:Op} {e:Operand->T} {h:Heap} {y:T} {h':Heap} {wr:Bool} {i:Nat} (hk:semOp P K op e h (fun y h w=>some (y,h,w)) = some (y,h',wr)) (ho:onlyW2 K op e h y wr = some i):∀ j:Nat,j ≠ i->h'[j]? = h[j]?:=by
 cases op with
 | call c =>
  obtain ⟨callee,args,types⟩:=c
  cases callee with
  | value f =>
   simp only [onlyW2] at ho
   simp only [semOp] at hk
   cases hf:e f with
   | fn g caps =>
    rw [hf] at ho hk
    dsimp only at ho
    rcases bif_some ho with ⟨_,ho⟩ | ⟨hb,ho⟩
    ·cases ho
    ·simp only [Bool.or_eq_false_iff] at hb
     simp only [semCall,hb.1,cond_false] at hk
     obtain ⟨rr,hk,_⟩:=det_some (K.valDet g _) (k:=fun r=>some ((taken ((args.toList.map e ++ caps).all imm) h r).1,(taken ((args.toList.map e ++ caps).all imm) h r).2,!(noFresh r))) hk
     simp only [Option.some.injEq,Prod.mk.injEq] at hk
     obtain ⟨q1,q2,_⟩:=hk
     split at ho
     ·obtain ⟨q3,q4⟩:=bif_none' ho
      have q3:=beq_iff_eq.1 q3
      obtain rfl:=Option.some.inj q4
      subst q3
      exact taken_wonly (Prod.ext q1 q2)
     ·cases ho
   | _=>rw [hf] at ho; cases ho
  | builtin b=>exact semOp_wonly hk ho
  | invoke r m=>exact semOp_wonly hk ho
 | _=>exact semOp_wonly hk ho
theorem doneLoc_fits (hnt:nt<=1024) {o:Oper} {t off:Nat} {rs:List Nat} (hk:doneLoc prom nt o t off rs two = some (f,fp)):Fits f fp:=by
 unfold doneLoc at hk
 cases hd:o.dst with
 | none=>rw [hd] at hk; cases hk
 | some d =>
  rw [hd] at hk
  dsimp only at hk
  cases hb:(Nat.blt d nt&&!prom.contains d) with
  | false=>rw [hb] at hk; cases hk
  | true =>
   rw [hb] at hk
   simp only [cond_true,Option.some.injEq,Prod.mk.injEq] at hk
   obtain ⟨rfl,rfl⟩:=hk
   simp only [Bool.and_eq_true] at hb
   have:=blt_lt hb.1
   refine ⟨fun d' v' h=>?_,fun d' p h=>?_,fun h e=>by cases e⟩
   ·simp only [Option.some.injEq,Prod.mk.injEq] at h
    obtain ⟨rfl,_⟩:=h
    exact ⟨by simp,by omega⟩
   ·simp only [Option.some.injEq,Prod.mk.injEq] at h
    obtain ⟨rfl,rfl⟩:=h
    refine ⟨by simp,fun t' o' h=>?_⟩
    simp only [Option.some.injEq,Prod.mk.injEq] at h
    obtain ⟨rfl,_⟩:=h
    exact List.mem_cons_self
theorem plainStep_fits (hnt:nt<=1024) {o:Oper} (hk:plainStep P K Gl prom nt o s two = some (f,fp)):Fits f fp:=by
 unfold plainStep at hk
 cases hn:noHeap o.op (ev Gl prom s) with
 | true =>
  rw [hn] at hk
  simp only [cond_true] at hk
  obtain ⟨⟨y,h',wr⟩,hk1,_⟩:=det_some (semOp_det P K o.op (ev Gl prom s) []) (k:=fun p=>bif p.2.2 then none else done nt o s p.1 none (opSlots o.op) false false two) hk
  cases wr with
  | true=>cases hk1
  | false=>exact done_fits hnt (fun h e=>by cases e) hk1
 | false =>
  rw [hn] at hk
  simp only [cond_false] at hk
  obtain ⟨⟨y,h',wr⟩,hk1,_⟩:=det_some (semOp_det P K o.op (ev Gl prom s) s.h) (k:=fun p=>done nt o s p.1 (bif p.2.2 then some p.2.1 else none) (opSlots o.op) (callReads K o.op (ev Gl prom s)) p.2.2 fun f fp=>two f { fp with rb:=(onlyR o.op (ev Gl prom s),lookV o.op),wb:=(onlyW2 K o.op (ev Gl prom s) s.h p.1 p.2.2,entV o.op) }) hk
  refine (done_fits2 hnt (fun h e=>?_) hk1).1
  cases wr with
  | true=>rfl
  | false=>cases e
theorem done_wonly (hnt:nt<=1024) {o:Oper} {v:T} {hp:Option Heap} {rs:List Nat} {rd wr:Bool} (hk:done nt o s v hp rs rd wr two = some (f,fp)):fp.wb = (none,false):=by
 unfold done at hk
 cases hd:o.dst with
 | none =>
  rw [hd] at hk
  simp only [Option.some.injEq,Prod.mk.injEq] at hk
  rw [← hk.2]
 | some d =>
  rw [hd] at hk
  dsimp only at hk
  cases hb:(Nat.blt d nt&&!s.used d) with
  | false=>rw [hb] at hk; cases hk
  | true =>
   rw [hb] at hk
   simp only [cond_true,parted_some,Option.some.injEq,Prod.mk.injEq] at hk
   rw [← hk.2]
theorem semOp_ent {op:Op} {e:Operand->T} {h:Heap} {y:T} {h':Heap} {wr:Bool} (hk:semOp P K op e h (fun y h w=>some (y,h,w)) = some (y,h',wr)) (ho:entV op = true):∀ j:Nat,mvw h' j = mvw h j:=by
 intro j
 cases op with
 | mapEntry t x i =>
  cases hx:e x with
  | mp ii ver =>
   simp only [semOp,hx,semEntry,atMap,ofMap,withMap] at hk
   cases hb:h[ii]? with
   | none=>rw [hb] at hk; cases hk
   | some b =>
    rw [hb] at hk
    dsimp only at hk
    obtain ⟨_,hk⟩:=bif_none' hk
    cases hm:b.mp with
    | none=>rw [hm] at hk; cases hk
    | some m =>
     rw [hm] at hk
     dsimp only at hk
     cases ht:mapTy P t with
     | none=>rw [ht] at hk; cases hk
     | some p =>
      obtain ⟨kt,ks,q⟩:=p
      rw [ht] at hk
      dsimp only at hk
      obtain ⟨_,hk⟩:=bif_none' hk
      obtain ⟨l,hk,_⟩:=det_some (keyInts_det m.ks (e i)) hk
      obtain ⟨_,rfl⟩:=k3 hk
      have hlt:ii<h.length:=(List.getElem?_eq_some_iff.1 hb).1
      unfold mvw
      by_cases hij:j = ii
      ·subst hij
       rw [List.getElem?_set_self hlt,hb]
       simp only [Option.map_some,hm,MapD.entry,MapD.put,Option.some.injEq,Prod.mk.injEq,true_and]
       funext z
       cases hq:keq z l with
       | true=>rw [keq_iff.1 hq]; rfl
       | false=>rfl
      ·rw [List.getElem?_set_ne (fun q=>hij q.symm)]
  | _=>(simp only [semOp,hx,semEntry,atMap,ofMap] at hk; cases hk)
 | _=>cases ho
theorem plainStep_wonly (hnt:nt<=1024) {o:Oper} (hk:plainStep P K Gl prom nt o s two = some (f,fp)):WOnly s f fp:=by
 unfold plainStep at hk
 cases hn:noHeap o.op (ev Gl prom s) with
 | true =>
  rw [hn] at hk
  simp only [cond_true] at hk
  obtain ⟨⟨y,h',wr⟩,hk1,_⟩:=det_some (semOp_det P K o.op (ev Gl prom s) []) (k:=fun p=>bif p.2.2 then none else done nt o s p.1 none (opSlots o.op) false false two) hk
  cases wr with
  | true=>cases hk1
  | false=>exact .no (done_wonly hnt hk1)
 | false =>
  rw [hn] at hk
  simp only [cond_false] at hk
  obtain ⟨⟨y,h',wr⟩,hk1,hall⟩:=det_some (semOp_det P K o.op (ev Gl prom s) s.h) (k:=fun p=>done nt o s p.1 (bif p.2.2 then some p.2.1 else none) (opSlots o.op) (callReads K o.op (ev Gl prom s)) p.2.2 fun f fp=>two f { fp with rb:=(onlyR o.op (ev Gl prom s),lookV o.op),wb:=(onlyW2 K o.op (ev Gl prom s) s.h p.1 p.2.2,entV o.op) }) hk
  obtain ⟨_,q1,q2⟩:=done_fits2 hnt (fun h e=>by cases wr with | true=>rfl | false=>cases e) hk1
  refine ⟨fun h i hh hw j hj=>?_,fun h hh hw j=>?_⟩
  ·rw [q2] at hw
   have:=semOp_wonly2 (P:=P) (K:=K) (hall _ some) hw j hj
   rw [q1] at hh
   cases wr with
   | false=>cases hh
   | true =>
    obtain rfl:h' = h:=by simpa using hh
    exact this
  ·rw [q2] at hw
   have:=semOp_ent (P:=P) (K:=K) (hall _ some) hw j
   rw [q1] at hh
   cases wr with
   | false=>cases hh
   | true =>
    obtain rfl:h' = h:=by simpa using hh
    exact this
theorem opStep_fits (hnt:nt<=1024) {o:Oper} (hk:opStep P K Gl prom nt o s two = some (f,fp)):Fits f fp:=by
 have noH:∀ h,(none:Option Heap) = some h->false = true:=fun h e=>by cases e
 unfold opStep at hk
 split at hk
 ·cases hd:o.dst with
  | none=>rw [hd] at hk; cases hk
  | some d =>
   rw [hd] at hk
   rcases bif_some hk with ⟨_,hk⟩ | ⟨_,hk⟩
   ·exact done_fits hnt noH (bif_none hk).2
   ·exact plainStep_fits hnt hk
 ·cases hd:o.dst with
  | none=>rw [hd] at hk; cases hk
  | some d =>
   rw [hd] at hk
   rcases bif_some hk with ⟨_,hk⟩ | ⟨_,hk⟩
   ·exact done_fits hnt noH (bif_none hk).2
   ·exact plainStep_fits hnt hk
 ·split at hk
  ·split at hk
   ·obtain ⟨v,hk1,_⟩:=det_some (ld_det P _ _) hk
    exact done_fits hnt noH hk1
   ·cases hk
  ·exact plainStep_fits hnt hk
 ·split at hk
  ·rename_i t off _
   split at hk
   ·rename_i cells hc hd
    have hk:=(bif_none hk).2
    simp only [Option.some.injEq,Prod.mk.injEq] at hk
    obtain ⟨rfl,rfl⟩:=hk
    refine ⟨fun d' v' h=>?_,fun d' p h=>(by cases h),fun h e=>by cases e⟩
    simp only [Option.some.injEq,Prod.mk.injEq] at h
    obtain ⟨rfl,_⟩:=h
    refine ⟨by simp,?_⟩
    rcases Nat.lt_or_ge t 1024 with hq | hq
    ·exact hq
    ·rw [at_ge (by omega)] at hc; cases hc
   ·cases hk
  ·exact plainStep_fits hnt hk
 ·split at hk
  ·split at hk
   ·split at hk
    ·exact doneLoc_fits hnt hk
    ·cases hk
   ·cases hk
  ·exact plainStep_fits hnt hk
 ·split at hk
  ·split at hk
   ·split at hk
    ·split at hk
     ·obtain ⟨hc,hk⟩:=bif_none hk
      simp only [Bool.and_eq_true,decide_eq_true_eq] at hc
      exact doneLoc_fits hnt (pickAt_some (by omega) hk)
     ·cases hk
    ·cases hk
   ·cases hk
  ·exact plainStep_fits hnt hk
 ·split at hk
  ·split at hk
   ·exact doneLoc_fits hnt hk
   ·cases hk
  ·exact plainStep_fits hnt hk
 ·exact plainStep_fits hnt hk
theorem opStep_wonly (hnt:nt<=1024) {o:Oper} (hk:opStep P K Gl prom nt o s two = some (f,fp)):WOnly s f fp:=by
 have loc:∀ {t off:Nat} {rs:List Nat},doneLoc prom nt o t off rs two = some (f,fp)->WOnly s f fp:=fun {t off rs} hk=>by
  refine .no' ?_
  unfold doneLoc at hk
  cases hd:o.dst with
  | none=>rw [hd] at hk; cases hk
  | some d =>
   rw [hd] at hk
   obtain ⟨_,hk⟩:=bif_none hk
   simp only [Option.some.injEq,Prod.mk.injEq] at hk
   rw [← hk.1]
 have dn:∀ {v:T} {rs:List Nat},done nt o s v none rs false false two = some (f,fp)->WOnly s f fp:=fun {v rs} hk=>.no (done_wonly hnt hk)
 unfold opStep at hk
 split at hk
 ·cases hd:o.dst with
  | none=>rw [hd] at hk; cases hk
  | some d =>
   rw [hd] at hk
   rcases bif_some hk with ⟨_,hk⟩ | ⟨_,hk⟩
   ·exact dn (bif_none hk).2
   ·exact plainStep_wonly hnt hk
 ·cases hd:o.dst with
  | none=>rw [hd] at hk; cases hk
  | some d =>
   rw [hd] at hk
   rcases bif_some hk with ⟨_,hk⟩ | ⟨_,hk⟩
   ·exact dn (bif_none hk).2
   ·exact plainStep_wonly hnt hk
 ·split at hk
  ·split at hk
   ·obtain ⟨v,hk1,_⟩:=det_some (ld_det P _ _) hk
    exact dn hk1
   ·cases hk
  ·exact plainStep_wonly hnt hk
 ·split at hk
  ·rename_i t off _
   split at hk
   ·rename_i cells hc hd
    have hk:=(bif_none hk).2
    simp only [Option.some.injEq,Prod.mk.injEq] at hk
    obtain ⟨rfl,rfl⟩:=hk
    exact .no' rfl
   ·cases hk
  ·exact plainStep_wonly hnt hk
 ·split at hk
  ·split at hk
   ·split at hk
    ·exact loc hk
    ·cases hk
   ·cases hk
  ·exact plainStep_wonly hnt hk
 ·split at hk
  ·split at hk
   ·split at hk
    ·split at hk
     ·obtain ⟨hc,hk⟩:=bif_none hk
      simp only [Bool.and_eq_true,decide_eq_true_eq] at hc
      exact loc (pickAt_some (by omega) hk)
     ·cases hk
    ·cases hk
   ·cases hk
  ·exact plainStep_wonly hnt hk
 ·split at hk
  ·split at hk
   ·exact loc hk
   ·cases hk
  ·exact plainStep_wonly hnt hk
 ·exact plainStep_wonly hnt hk
theorem frzStep_fits (hnt:nt<=1024) {o:Oper} (hk:frzStep P Gl prom nt o s two = some (f,fp)):Fits f fp/\fp.wb = (none,false):=by
 unfold frzStep at hk
 split at hk
 ·obtain ⟨y,hk1,_⟩:=det_some (semBuildFrz_det P _ _ _) (k:=fun v=>done nt o s v none (opSlots o.op) false false two) hk
  exact ⟨done_fits hnt (fun h e=>by cases e) hk1,done_wonly hnt hk1⟩
 ·cases hk
theorem StepIs.fits (hnt:nt<=1024) {ops:List Oper} {o:Oper} (h:StepIs P K Gl prom nt ops o s f fp):Fits f fp:=by
 have hk:=h _ two
 unfold guarded at hk
 split at hk
 ·rcases bif_some hk with ⟨_,hk⟩ | ⟨_,hk⟩
  ·exact (frzStep_fits hnt hk).1
  ·exact opStep_fits hnt hk
 ·split at hk
  ·cases hk
  ·split at hk
   ·rcases bif_some hk with ⟨_,hk⟩ | ⟨_,hk⟩
    ·cases hk
    ·rcases bif_some hk with ⟨_,hk⟩ | ⟨_,hk⟩
     ·obtain ⟨⟨f1,fp1⟩,h1,h2⟩:=det_some (opStep_det P K Gl prom nt o s) (k:=fun p=>two p.1 { p.2 with rs:=_ :: p.2.rs }) hk
      simp only [Option.some.injEq,Prod.mk.injEq] at h1
      obtain ⟨rfl,rfl⟩:=h1
      have hf:=opStep_fits hnt (h2 _ fun p=>two p.1 p.2)
      exact ⟨hf.slot,fun d p e=>⟨(hf.place d p e).1,fun t o ho=>List.mem_cons_of_mem _ ((hf.place d p e).2 t o ho)⟩,hf.heap⟩
     ·exact done_fits hnt (fun h e=>by cases e) hk
   ·rcases bif_some hk with ⟨_,hk⟩ | ⟨_,hk⟩
    ·cases hk
    ·exact done_fits hnt (fun h e=>by cases e) hk
   ·cases hk
theorem StepIs.wonly (hnt:nt<=1024) {ops:List Oper} {o:Oper} (h:StepIs P K Gl prom nt ops o s f fp):WOnly s f fp:=by
 have hk:=h _ two
 unfold guarded at hk
 split at hk
 ·rcases bif_some hk with ⟨_,hk⟩ | ⟨_,hk⟩
  ·exact .no (frzStep_fits hnt hk).2
  ·exact opStep_wonly hnt hk
 ·split at hk
  ·cases hk
  ·split at hk
   ·rcases bif_some hk with ⟨_,hk⟩ | ⟨_,hk⟩
    ·cases hk
    ·rcases bif_some hk with ⟨_,hk⟩ | ⟨_,hk⟩
     ·obtain ⟨⟨f1,fp1⟩,h1,h2⟩:=det_some (opStep_det P K Gl prom nt o s) (k:=fun p=>two p.1 { p.2 with rs:=_ :: p.2.rs }) hk
      simp only [Option.some.injEq,Prod.mk.injEq] at h1
      obtain ⟨rfl,rfl⟩:=h1
      have hf:=opStep_wonly hnt (h2 _ fun p=>two p.1 p.2)
      exact hf
     ·exact .no (done_wonly hnt hk)
   ·rcases bif_some hk with ⟨_,hk⟩ | ⟨_,hk⟩
    ·cases hk
    ·exact .no (done_wonly hnt hk)
   ·cases hk
structure Same (s s1:St):Prop where
 at':∀ e,s1.at e = s.at e
 loc:∀ e,s1.loc e = s.loc e
 used:∀ e,s1.used e = s.used e
 h:s1.h = s.h
theorem Same.refl (s:St):Same s s:=⟨fun _=>rfl,fun _=>rfl,fun _=>rfl,rfl⟩
theorem Same.trans {a b c:St} (x:Same a b) (y:Same b c):Same a c:=⟨fun e=>(y.at' e).trans (x.at' e),fun e=>(y.loc e).trans (x.loc e),fun e=>(y.used e).trans (x.used e),y.h.trans x.h⟩
theorem Same.symm {a b:St} (x:Same a b):Same b a:=⟨fun e=>(x.at' e).symm,fun e=>(x.loc e).symm,fun e=>(x.used e).symm,x.h.symm⟩
theorem Same.agree {s s1:St} (x:Same s s1) (fp:FP):Agree s s1 fp:=⟨fun e _=>x.at' e,fun e _=>x.loc e,fun e _=>x.used e,fun _=>x.h,fun _=>.inl x.h⟩
theorem app_at (f:Eff) (s:St) (hf:∀ d v,f.slot = some (d,v)->d<1024) (t:Nat):(f.app s).at t = match f.slot with | some (d,v)=>if t = d then v else s.at t | none=>s.at t:=by
 cases hs:f.slot with
 | none=>simp [St.at,Eff.app,putEnv,hs]
 | some p =>
  obtain ⟨d,v⟩:=p
  exact at_set (s:=s) (s':=f.app s) (by simp [Eff.app,putEnv,hs]) (hf d v hs) t
theorem Same.app {s s1:St} (x:Same s s1) {f:Eff} (hf:∀ d v,f.slot = some (d,v)->d<1024):Same (f.app s) (f.app s1):=by
 refine ⟨fun e=>?_,fun e=>?_,fun e=>?_,?_⟩
 ·rw [app_at f s hf,app_at f s1 hf]
  cases f.slot with
  | none=>exact x.at' e
  | some p=>simp only [x.at' e]
 ·simp only [Eff.app]
  cases f.place with
  | none=>exact x.loc e
  | some p=>simp only [putPlace,x.loc e]
 ·simp only [Eff.app]
  cases f.place with
  | none=>exact x.used e
  | some p =>
   obtain ⟨d,q⟩:=p
   cases q with
   | none=>exact x.used e
   | some q=>simp only [putUsed,x.used e]
 ·simp only [Eff.app,x.h]
theorem meets_false {a b:List Nat} (h:meets a b = false):∀ x ∈ a,x ∉ b:=by
 intro x hx hb
 unfold meets at h
 rw [List.any_eq_false] at h
 exact h x hx (by simpa using hb)
def Far (w r:Option Nat × Bool):Prop:=(∃ i j:Nat,w.1 = some i/\r.1 = some j/\i ≠ j) ∨ (w.2 = true/\r.2 = true)
theorem Fits.agree {f:Eff} {fp q:FP} (hf:Fits f fp) (h1:meets fp.ws q.rs = false) (h2:meets q.ws fp.rs = false) (h3:fp.wr = true->q.wr = false/\(q.rd = true->Far fp.wb q.rb)) (s:St) (hw:WOnly s f fp):Agree s (f.app s) q:=by
 have w:=meets_false h1
 have u:=meets_false h2
 refine ⟨fun e he=>?_,fun e he=>?_,fun d hd=>?_,fun hh=>?_,fun hh=>?_⟩
 ·rw [app_at f s fun d v h=>(hf.slot d v h).2]
  cases hs:f.slot with
  | none=>rfl
  | some p =>
   obtain ⟨d,v⟩:=p
   have:=(hf.slot d v hs).1
   have hne:e ≠ d:=by rintro rfl; exact w e this he
   simp only [if_neg hne]
 ·simp only [Eff.app]
  cases hp:f.place with
  | none=>rfl
  | some p =>
   obtain ⟨d,v⟩:=p
   have:=(hf.place d v hp).1
   have hne:e ≠ d:=by rintro rfl; exact w e this he
   simp only [putPlace,Bool.cond_eq_ite,beq_iff_eq,if_neg hne]
 ·simp only [Eff.app]
  cases hp:f.place with
  | none=>rfl
  | some p =>
   obtain ⟨d',v⟩:=p
   cases v with
   | none=>rfl
   | some v =>
    obtain ⟨t,o⟩:=v
    have:=(hf.place d' _ hp).2 t o rfl
    have hne:d ≠ t:=by rintro rfl; exact u d hd this
    simp only [putUsed,Bool.cond_eq_ite,beq_iff_eq,if_neg hne]
 ·simp only [Eff.app]
  cases hx:f.heap with
  | none=>rfl
  | some x =>
   rw [(h3 (hf.heap x hx)).1] at hh; cases hh
 ·cases hx:f.heap with
  | none=>left; simp only [Eff.app,hx]; rfl
  | some x =>
   rcases (h3 (hf.heap x hx)).2 hh with ⟨i,j,e1,e2,e3⟩ | ⟨e1,e2⟩
   ·right; left
    refine ⟨j,e2,?_⟩
    simp only [Eff.app,hx]
    exact hw.1 x i hx e1 j (fun q=>e3 q.symm)
   ·right; right
    refine ⟨e2,?_⟩
    simp only [Eff.app,hx]
    exact hw.2 x hx e1
theorem farB_some {w r:Option Nat × Bool} (h:farB w r = true):Far w r:=by
 obtain ⟨w,wv⟩:=w
 obtain ⟨r,rv⟩:=r
 unfold farB at h
 rw [Bool.or_eq_true] at h
 rcases h with h | h
 ·split at h
  ·rename_i i j e1 e2
   exact .inl ⟨i,j,e1,e2,by simpa using h⟩
  ·cases h
 ·rw [Bool.and_eq_true] at h
  exact .inr h
theorem clash_false {a b:FP} (h:clash a b = false):meets a.ws b.rs = false/\meets a.ws b.ws = false/\meets b.ws a.rs = false/\(a.wr = true->b.wr = false/\(b.rd = true->Far a.wb b.rb))/\(b.wr = true->a.wr = false/\(a.rd = true->Far b.wb a.rb)):=by
 simp only [clash,Bool.or_eq_false_iff] at h
 obtain ⟨⟨⟨⟨h1,h2⟩,h3⟩,h4⟩,h5⟩:=h
 refine ⟨h1,h2,h3,fun ha=>?_,fun hb=>?_⟩
 ·rw [ha] at h4
  simp only [Bool.true_and,Bool.or_eq_false_iff] at h4
  refine ⟨h4.1,fun hr=>?_⟩
  have:=h4.2
  rw [hr] at this
  exact farB_some (by simpa using this)
 ·rw [hb] at h5 h4
  simp only [Bool.true_and,Bool.true_or,Bool.and_true] at h5 h4
  refine ⟨h4,fun hr=>?_⟩
  rw [hr] at h5
  exact farB_some (by simpa using h5)
theorem app_comm {f1 f2:Eff} {p1 p2:FP} (h1:Fits f1 p1) (h2:Fits f2 p2) (hc:clash p1 p2 = false) (s:St):Same (f2.app (f1.app s)) (f1.app (f2.app s)):=by
 obtain ⟨c1,c2,c3,c4,c5⟩:=clash_false hc
 have w:=meets_false c2
 refine ⟨fun e=>?_,fun e=>?_,fun e=>?_,?_⟩
 ·rw [app_at f1 _ fun d v h=>(h1.slot d v h).2,app_at f2 _ fun d v h=>(h2.slot d v h).2,app_at f2 _ fun d v h=>(h2.slot d v h).2,app_at f1 _ fun d v h=>(h1.slot d v h).2]
  cases e1:f1.slot with
  | none=>rfl
  | some q1 =>
   cases e2:f2.slot with
   | none=>rfl
   | some q2 =>
    obtain ⟨d1,v1⟩:=q1
    obtain ⟨d2,v2⟩:=q2
    have a1:=(h1.slot d1 v1 e1).1
    have a2:=(h2.slot d2 v2 e2).1
    have hne:d1 ≠ d2:=by rintro rfl; exact w d1 a1 a2
    dsimp only
    by_cases x1:e = d1
    ·rw [if_pos x1,if_neg (by omega),if_pos x1]
    ·rw [if_neg x1]
     by_cases x2:e = d2
     ·rw [if_pos x2,if_pos x2]
     ·rw [if_neg x2,if_neg x2,if_neg x1]
 ·simp only [Eff.app]
  cases e1:f1.place with
  | none=>rfl
  | some q1 =>
   cases e2:f2.place with
   | none=>rfl
   | some q2 =>
    obtain ⟨d1,v1⟩:=q1
    obtain ⟨d2,v2⟩:=q2
    have a1:=(h1.place d1 v1 e1).1
    have a2:=(h2.place d2 v2 e2).1
    have hne:d1 ≠ d2:=by rintro rfl; exact w d1 a1 a2
    simp only [putPlace,Bool.cond_eq_ite,beq_iff_eq]
    by_cases x1:e = d1
    ·rw [if_pos x1,if_neg (by omega),if_pos x1]
    ·rw [if_neg x1]
     by_cases x2:e = d2
     ·rw [if_pos x2,if_pos x2]
     ·rw [if_neg x2,if_neg x2,if_neg x1]
 ·simp only [Eff.app]
  have key:∀ (u:Nat->Bool) (p q:Option (Nat × Option (Nat × Nat))),putUsed (putUsed u p) q e = putUsed (putUsed u q) p e:=by
   intro u p q
   rcases p with _ | ⟨d1,_ | ⟨t1,o1⟩⟩ <;> rcases q with _ | ⟨d2,_ | ⟨t2,o2⟩⟩ <;> simp only [putUsed]
   cases (e==t1) <;> cases (e==t2) <;> rfl
  exact (key _ _ _).symm
 ·simp only [Eff.app]
  cases e1:f1.heap with
  | none=>rfl
  | some x1 =>
   cases e2:f2.heap with
   | none=>rfl
   | some x2 =>
    have:=(c4 (h1.heap x1 e1)).1
    rw [h2.heap x2 e2] at this
    cases this
theorem RunIs.same (hnt:nt<=1024) {ops l:List Oper} {s s':St} {fps:List FP} (h:RunIs P K Gl prom nt ops l s s' fps):∀ {s1:St},Same s s1->∃ s1',RunIs P K Gl prom nt ops l s1 s1' fps/\Same s' s1':=by
 induction h with
 | nil s=>exact fun x=>⟨_,.nil _,x⟩
 | cons h1 h2 ih =>
  intro s1 x
  obtain ⟨s1',q1,q2⟩:=ih (x.app fun d v e=>((h1.fits hnt).slot d v e).2)
  exact ⟨s1',.cons (h1.congr (x.agree _)) q1,q2⟩
theorem RunIs.pull (hnt:nt<=1024) {ops:List Oper} {o:Oper} {post:List Oper} {fp:FP} {fpost:List FP}:∀ {pre:List Oper} {fpre:List FP} {s s':St},pre.length = fpre.length->(∀ q ∈ fpre,clash q fp = false) →
 RunIs P K Gl prom nt ops (pre ++ o :: post) s s' (fpre ++ fp :: fpost)->∃ f s1,StepIs P K Gl prom nt ops o s f fp/\RunIs P K Gl prom nt ops (pre ++ post) (f.app s) s1 (fpre ++ fpost)/\Same s' s1
 | [],[],s,s',_,_,h=>by
  cases h with
  | cons h1 h2=>exact ⟨_,_,h1,h2,.refl _⟩
 | p :: pre,q :: fpre,s,s',hl,hc,h=>by
  cases h with
  | @cons _ _ _ _ fq _ _ h1 h2 =>
   have hcq:=hc q (by simp)
   obtain ⟨c1,c2,c3,c4,c5⟩:=clash_false hcq
   obtain ⟨f,s1,g1,g2,g3⟩:=RunIs.pull hnt (by simpa using hl) (fun q hq=>hc q (by simp [hq])) h2
   have fitq:=h1.fits hnt
   have fitf:=g1.fits hnt
   have a1:=fitq.agree c1 c3 c4 s (h1.wonly hnt)
   have a1':Agree (fq.app s) s fp:=⟨fun e he=>(a1.at' e he).symm,fun e he=>(a1.loc e he).symm,fun e he=>(a1.used e he).symm,fun hh=>(a1.heap hh).symm,fun hh=>(a1.heapR hh).elim (fun h=>.inl h.symm) fun h=>.inr (h.elim (fun ⟨j,h1,h2⟩=>.inl ⟨j,h1,h2.symm⟩) fun ⟨h1,h2⟩=>.inr ⟨h1,fun j=>(h2 j).symm⟩)⟩
   have hq0:∀ h,f.heap = some h->(fq.app s).h = s.h:=fun h hh=>by
    have hq0:fq.heap = none:=by
     cases hx:fq.heap with
     | none=>rfl
     | some x =>
      have:=(c5 (fitf.heap h hh)).1
      rw [fitq.heap x hx] at this; cases this
    simp only [Eff.app,hq0]; rfl
   have g1w:=g1.wonly hnt
   have a2:=fitf.agree c3 c1 c5 s ⟨fun h i hh hw j hj=>by
    have q:=g1w.1 h i hh hw j hj
    rw [q,hq0 h hh],fun h hh hw j=>by
    have q:=g1w.2 h hh hw j
    rw [q,hq0 h hh]⟩
   obtain ⟨s2,q1,q2⟩:=g2.same hnt (app_comm fitq fitf hcq s)
   exact ⟨f,s2,g1.congr a1',.cons (h1.congr a2) q1,g3.trans q2⟩
 | [],_ :: _,_,_,hl,_,_=>by cases hl
 | _ :: _,[],_,_,hl,_,_=>by cases hl
end
inductive Behind (ops:Array Oper):Nat->Nat->Prop where
 | one {j k:Nat} {o:Oper} {e:Edge} (ho:ops[j]? = some o) (he:e ∈ o.after) (hb:Region.binds .any e = true) (hk:e.on = k):Behind ops j k
 | more {j m k:Nat} {o:Oper} {e:Edge} (ho:ops[j]? = some o) (he:e ∈ o.after) (hb:Region.binds .any e = true) (hm:e.on = m) (h:Behind ops m k):Behind ops j k
theorem fold_bits {ops:Array Oper} {j:Nat} {o:Oper} {acc:Array Nat} (ho:ops[j]? = some o) (hacc:∀ m k,(acc.getD m 0).testBit k = true->Behind ops m k) :
 ∀ (l:List Edge) (s0:Nat),(∀ e ∈ l,e ∈ o.after)->(∀ k,s0.testBit k = true->Behind ops j k)->∀ k,(l.foldl (fun s e=>if Region.binds .any e then s ||| 2 ^ e.on ||| acc.getD e.on 0 else s) s0).testBit k = true->Behind ops j k
 | [],s0,_,h0,k,hk=>h0 k hk
 | e :: l,s0,hl,h0,k,hk=>by
  refine fold_bits ho hacc l _ (fun e he=>hl e (List.mem_cons_of_mem _ he)) (fun k hk=>?_) k hk
  dsimp only at hk
  split at hk
  ·rename_i hb
   simp only [Nat.testBit_or,Bool.or_eq_true] at hk
   rcases hk with (hk | hk) | hk
   ·exact h0 k hk
   ·rw [Nat.testBit_two_pow] at hk
    exact .one ho (hl e (by simp)) hb (by simpa using hk)
   ·exact .more ho (hl e (by simp)) hb rfl (hacc _ k hk)
  ·exact h0 k hk
theorem before_list {ops:Array Oper}:∀ (l:List Oper) (acc:Array Nat),(∀ i,l[i]? = ops[acc.size+i]?)->(∀ m k,(acc.getD m 0).testBit k = true->Behind ops m k) →
 ∀ m k,((l.foldl (fun (acc:Array Nat) o=>acc.push (o.after.foldl (fun s e=>if Region.binds .any e then s ||| 2 ^ e.on ||| acc.getD e.on 0 else s) 0)) acc).getD m 0).testBit k = true->Behind ops m k
 | [],acc,_,h,m,k,hk=>h m k hk
 | o :: l,acc,hl,h,m,k,hk=>by
  have ho:ops[acc.size]? = some o:=by have:=hl 0; simpa using this.symm
  refine before_list l _ (fun i=>?_) (fun m k hk=>?_) m k hk
  ·have:=hl (i+1)
   simp only [List.getElem?_cons_succ] at this
   rw [this,Array.size_push]
   congr 1
   omega
  ·rw [Array.getD_eq_getD_getElem?,Array.getElem?_push] at hk
   split at hk
   ·rename_i hm
    subst hm
    rw [← Array.foldl_toList] at hk
    exact fold_bits ho h o.after.toList 0 (fun e he=>by simpa using he) (fun k hk=>by simp at hk) k hk
   ·rw [← Array.getD_eq_getD_getElem?] at hk
    exact h m k hk
theorem before_behind {ops:Array Oper} {j k:Nat} (h:((Region.before ops).getD j 0).testBit k = true):Behind ops j k:=by
 unfold Region.before at h
 rw [← Array.foldl_toList] at h
 exact before_list ops.toList #[] (fun i=>by simp) (fun m k hk=>by simp at hk) j k h
theorem edgesOk_spec:∀ (l:List Oper) (j:Nat),edgesOk j l = true->∀ (i:Nat) (o:Oper),l[i]? = some o->∀ e ∈ o.after,Region.binds .any e = true->e.on<j+i
 | [],_,_,i,o,ho=>by simp at ho
 | o :: l,j,h,i,o',ho=>by
  simp only [edgesOk,Bool.and_eq_true] at h
  intro e he hb
  cases i with
  | zero =>
   simp only [List.getElem?_cons_zero,Option.some.injEq] at ho
   subst ho
   have:=List.all_eq_true.1 h.1 e (by simpa using he)
   rw [hb] at this
   simp only [Bool.not_true,Bool.false_or] at this
   exact blt_lt this
  | succ i =>
   have:=edgesOk_spec l (j+1) h.2 i o' (by simpa using ho) e he hb
   omega
theorem pairsOk_spec {before:List Nat}:∀ (l:List (Nat × FP)),pairsOk before l = true->List.Pairwise (fun a b=>(before.getD b.1 0).testBit a.1 = true ∨ clash a.2 b.2 = false) l
 | [],_=>.nil
 | (i,a) :: l,h=>by
  simp only [pairsOk,Bool.and_eq_true] at h
  refine List.pairwise_cons.2 ⟨fun b hb=>?_,pairsOk_spec l h.2⟩
  have:=List.all_eq_true.1 h.1 b hb
  simpa using this
section
variable {P:Program} {K:Orc} {Gl:Nat->Option (List T)} {prom:List Nat} {nt:Nat} {s s1 s':St}
theorem Same.sr (x:Same s s1) {g:Gh} {a:Act} {w:World} (h:SR Gl prom nt g s a w):SR Gl prom nt g s1 a w :=
 ⟨by rw [x.h]; exact h.hr,h.defers,h.size,h.nt,fun t ht=>by rw [x.h,x.at']; exact h.tmps t ht,fun t ht cells hc=>by rw [x.h]; exact h.regs t ht cells (by rw [← x.at']; exact hc),
  fun d t o hl=>h.loc d t o (by rw [← x.loc]; exact hl),h.glob,fun d t o hl=>by rw [x.used]; exact h.used d t o (by rw [← x.loc]; exact hl)⟩
structure Rest (ops:Array Oper) (listed:Array Bool) (rem:List Nat):Prop where
 size:listed.size = ops.size
 mem:∀ i,i ∈ rem ↔ listed.getD i true = false
 sorted:List.Pairwise (·<·) rem
 closed:∀ j o,ops[j]? = some o->listed.getD j false = true->∀ e ∈ o.after,Region.binds .any e = true->listed.getD e.on false = true
theorem Rest.behind {ops:Array Oper} {listed:Array Bool} {rem:List Nat} (r:Rest ops listed rem) {j k:Nat} (h:Behind ops j k):listed.getD j false = true->listed.getD k false = true:=by
 induction h with
 | one ho he hb hk=>exact fun hl=>hk ▸ r.closed _ _ ho hl _ he hb
 | more ho he hb hm h ih=>exact fun hl=>ih (hm ▸ r.closed _ _ ho hl _ he hb)
theorem Rest.ready {ops:Array Oper} {listed:Array Bool} {rem:List Nat} (r:Rest ops listed rem) {i k:Nat} (hi:i ∈ Region.ready .any ops listed) (h:Behind ops i k):listed.getD k false = true:=by
 obtain ⟨_,o,ho,hall⟩:=mem_ready.1 hi
 cases h with
 | one ho' he hb hk =>
  obtain rfl:=Option.some.inj (ho'.symm.trans ho)
  exact hk ▸ hall _ he hb
 | more ho' he hb hm h =>
  obtain rfl:=Option.some.inj (ho'.symm.trans ho)
  exact r.behind h (hm ▸ hall _ he hb)
theorem getD_false_of {listed:Array Bool} {i:Nat} (h:listed.getD i true = false):i<listed.size/\listed.getD i false = false:=by
 rw [Array.getD_eq_getD_getElem?] at h ⊢
 rcases Nat.lt_or_ge i listed.size with h' | h'
 ·rw [Array.getElem?_eq_getElem h'] at h ⊢
  exact ⟨h',h⟩
 ·rw [Array.getElem?_eq_none h'] at h
  cases h
theorem drawn_goes (hK:OrcOk P Gl K) (hnt:nt<=1024) {ops:Array Oper} (hedge:edgesOk 0 ops.toList = true) {O:Nat->Oper} (hO:∀ i,i<ops.size->ops[i]? = some (O i)) {F:Nat->FP}
 (hF:∀ i j,i<j->j<ops.size->((Region.before ops).getD j 0).testBit i = true ∨ clash (F i) (F j) = false) :
 ∀ (fuel:Nat) {rem:List Nat} {listed:Array Bool} {s s1:St} {g:Gh} {a:Act} {w:World},rem.length = fuel->Rest ops listed rem->RunIs P K Gl prom nt ops.toList (rem.map O) s s1 (rem.map F)->Same s1 s'->SR Gl prom nt g s a w →
  ∀ (ro:Option Nat) (n:Nat) (Q:Exit->Act->World->Prop),(∀ a' w' g',SR Gl prom nt g' s' a' w'->FrC g s.h w g' s'.h w'->a'.defers = a.defers->Q .normal a' w')->wpAnyIn (wideR ro) n P .any ops Q fuel listed a w
 | 0,rem,listed,s,s1,g,a,w,hl,hr,hrun,hsame,hs,ro,n,Q,hn=>by
  obtain rfl:=List.length_eq_zero_iff.1 hl
  cases hrun with
  | nil =>
   refine ⟨?_,hn _ _ _ (hsame.sr hs) (by rw [hsame.h]; exact FrC.refl _ _ _) rfl⟩
   apply List.eq_nil_iff_forall_not_mem.2
   intro i hi
   have:=(hr.mem i).2 (mem_ready.1 hi).1
   simp at this
 | fuel+1,rem,listed,s,s1,g,a,w,hl,hr,hrun,hsame,hs,ro,n,Q,hn=>by
  refine ⟨fun h0=>?_,fun i hi=>?_⟩
  ·
   exfalso
   cases rem with
   | nil=>cases hl
   | cons i0 rem =>
    have hun:=(hr.mem i0).1 (by simp)
    have hlt:=(getD_false_of hun).1
    rw [hr.size] at hlt
    have ho:=hO i0 hlt
    have:i0 ∈ Region.ready .any ops listed:=by
     refine mem_ready.2 ⟨hun,O i0,ho,fun e he hb=>?_⟩
     have h1:=edgesOk_spec ops.toList 0 hedge i0 (O i0) (by rw [Array.getElem?_toList]; exact ho) e he hb
     rw [Nat.zero_add] at h1
     cases hb2:listed.getD e.on false with
     | true=>rfl
     | false =>
      have hes:e.on<listed.size:=by rw [hr.size]; omega
      have:e.on ∈ i0 :: rem:=(hr.mem e.on).2 (by rw [Array.getD_eq_getD_getElem?] at hb2 ⊢; rw [Array.getElem?_eq_getElem hes] at hb2 ⊢; exact hb2)
      rcases List.mem_cons.1 this with h2 | h2
      ·omega
      ·have:=(List.pairwise_cons.1 hr.sorted).1 _ h2
       omega
    rw [h0] at this
    cases this
  ·have hun:=(mem_ready.1 hi).1
   have hlt:=(getD_false_of hun).1
   rw [hr.size] at hlt
   have ho:=hO i hlt
   obtain ⟨pre,post,rfl⟩:=List.append_of_mem ((hr.mem i).2 hun)
   have hsort:=List.pairwise_append.1 hr.sorted
   have hpre:∀ j ∈ pre,j<i:=fun j hj=>hsort.2.2 j hj i (by simp)
   have hcl:∀ q ∈ pre.map F,clash q (F i) = false:=by
    intro q hq
    obtain ⟨j,hj,rfl⟩:=List.mem_map.1 hq
    rcases hF j i (hpre j hj) hlt with h1 | h1
    ·have h2:=hr.ready hi (before_behind h1)
     have h3:=(hr.mem j).1 (List.mem_append_left _ hj)
     rw [(getD_false_of h3).2] at h2
     cases h2
    ·exact h1
   rw [List.map_append,List.map_cons,List.map_append,List.map_cons] at hrun
   obtain ⟨f,s2,g1,g2,g3⟩:=RunIs.pull hnt (by simp) hcl hrun
   have hgo:=g1.goes hK hs
   have hrest:Rest ops (listed.setIfInBounds i true) (pre ++ post):=by
    refine ⟨by simp [hr.size],fun j=>?_,?_,fun j o hj hl' e he hb=>?_⟩
    ·by_cases hji:j = i
     ·subst hji
      have hx:j<listed.size:=by rw [hr.size]; exact hlt
      have h4:(listed.setIfInBounds j true).getD j true = true:=by
       rw [Array.getD_eq_getD_getElem?,Array.getElem?_setIfInBounds_self_of_lt hx]; rfl
      rw [h4]
      have h6:=(List.pairwise_cons.1 hsort.2.1).1
      constructor
      ·intro hm
       rcases List.mem_append.1 hm with h5 | h5
       ·have:=hpre j h5; omega
       ·have:=h6 j h5; omega
      ·intro h5; cases h5
     ·rw [getD_set_ne true (Ne.symm hji),← hr.mem j]
      simp [hji]
    ·refine List.pairwise_append.2 ⟨hsort.1,(List.pairwise_cons.1 hsort.2.1).2,fun x hx y hy=>hsort.2.2 x hx y (by simp [hy])⟩
    ·by_cases hji:i = j
     ·subst hji
      obtain ⟨_,o2,ho2,hall⟩:=mem_ready.1 hi
      obtain rfl:=Option.some.inj (hj.symm.trans ho2)
      exact getD_set_true (hall e he hb)
     ·rw [getD_set_ne false hji] at hl'
      exact getD_set_true (hr.closed j o hj hl' e he hb)
   have hih:=fun a' w' g' (hs':SR Gl prom nt g' (f.app s) a' w') (hf':FrC g s.h w g' (f.app s).h w') (hd':a'.defers = a.defers) =>
    drawn_goes hK hnt hedge hO hF fuel (rem:=pre ++ post) (listed:=listed.setIfInBounds i true) (s1:=s2) (by simp at hl ⊢; omega) hrest (by rw [List.map_append,List.map_append]; exact g2) (g3.symm.trans hsame) hs' ro n Q
     fun a2 w2 g2' hs2 hf2 hd2=>hn a2 w2 g2' hs2 (hf'.trans hf2) (hd2.trans hd')
   have:=hgo ro n (wpAnyIn (wideR ro) n P .any ops Q fuel (listed.setIfInBounds i true)) Q hih
   unfold wpOpIn
   rw [ho]
   dsimp only
   split at this
   ·rename_i hw; rw [if_pos hw]; exact this
   ·rename_i hw; rw [if_neg hw]; exact ⟨fun _ _=>trivial,this⟩
end
theorem stepR_scope {P:Program} {b:Frame} {a:Act} {k:List Item} {cs:List Frame} {w:World} {c:Code}:step P (lone (b.atR a (.code (.scope c) :: k)) cs w) = .next (lone (b.atR a (.code c :: .inScope c :: k)) cs w) :=
 step_lone_go (by simp [stepG,stepG.exec,Frame.atR])
theorem stepR_inScope {P:Program} {b:Frame} {a:Act} {k:List Item} {cs:List Frame} {w:World} {c:Code}:step P (lone (b.atR a (.inScope c :: k)) cs w) = .next (lone (b.atR a k) cs w) :=
 step_lone_go (by simp [stepG,stepG.exec,Frame.atR])
theorem wpIn_scope {F:Fence} {n:Nat} {P:Program} {Q:Exit->Act->World->Prop} {a:Act} {w:World} {c:Code} (h:c.wpIn F n P (Exit.noGoto Q) a w):(Code.scope c).wpIn F n P Q a w:=by
 intro b k cs hro hb hr
 have h0:(lone (b.atR a (.code (.scope c) :: k)) cs w).fenced P F:=fenced_calm hb hr rfl
 obtain ⟨e,a₁,w₁,hq,harr⟩:=h b (.inScope c :: k) cs hro hb hr
 cases e with
 | normal=>exact ⟨.normal,a₁,w₁,hq,.head h0 stepR_scope (StepsIn.trans harr (.one (fenced_calm hb hr rfl) stepR_inScope))⟩
 | exit id =>
  have hx:exitTo id (.inScope c :: k) = exitTo id k:=by simp [exitTo]
  exact ⟨.exit id,a₁,w₁,hq,fun k' hk=>.head h0 stepR_scope (harr.1 k' (by rw [hx]; exact hk)),
   fun hr' hk=>let ⟨k₁,h1,h2⟩:=harr.2 hr' (by rw [hx]; exact hk); ⟨k₁,h1,.head h0 stepR_scope h2⟩⟩
 | goto l=>exact hq.elim
 | ret=>exact ⟨_,a₁,w₁,hq,.of_steps (.one h0 stepR_scope) harr⟩
 | panic ch=>exact ⟨_,a₁,w₁,hq,.of_steps (.one h0 stepR_scope) harr⟩
 | outgrown=>exact ⟨_,a₁,w₁,hq,.of_steps (.one h0 stepR_scope) harr⟩
def Ex.out:Ex->Exit
 | .normal=>.normal
 | .exit i=>.exit i
 | .ret=>.ret
theorem wpIn_loop_num {F:Fence} {n0:Nat} {P:Program} {Q:Exit->Act->World->Prop} {c:Code} (I:Nat->Act->World->Prop) (round:∀ n a w,I n a w->c.wpIn F n0 P (Exit.then (fun a' w'=>∃ m,m<n/\I m a' w') Q) a w) :
 ∀ n a w,I n a w->(Code.loop c).wpIn F n0 P Q a w:=by
 intro n a w h0 b k cs hro hb hr
 have key:∀ n a w,I n a w->∃ e a' w',Q e a' w'/\ArrivesIn (Machine.fenced P F) P (lone (b.atR a (.code c :: .inLoop c :: k)) cs w) b k cs e a' w':=by
  intro n
  induction n using Nat.strongRecOn with
  | _ n ih =>
   intro a w hI
   obtain ⟨e,a₁,w₁,hq,harr⟩:=round n a w hI b (.inLoop c :: k) cs hro hb hr
   cases e with
   | normal =>
    obtain ⟨m,hlt,hI₁⟩:=hq
    obtain ⟨e₂,a₂,w₂,hq₂,harr₂⟩:=ih m hlt a₁ w₁ hI₁
    exact ⟨e₂,a₂,w₂,hq₂,.of_steps (StepsIn.trans harr (.one (fenced_calm hb hr rfl) stepR_inLoop)) harr₂⟩
   | exit id=>exact ⟨_,a₁,w₁,hq,.pass (x:=.inLoop c) rfl (fun _ _=>.inl (by simp)) harr⟩
   | goto l=>exact ⟨_,a₁,w₁,hq,.pass (x:=.inLoop c) rfl (fun _ _=>.inl (by simp)) harr⟩
   | ret=>exact ⟨_,a₁,w₁,hq,.pass (x:=.inLoop c) rfl (fun _ _=>.inl (by simp)) harr⟩
   | panic ch=>exact ⟨_,a₁,w₁,hq,.pass (x:=.inLoop c) rfl (fun _ _=>.inl (by simp)) harr⟩
   | outgrown=>exact ⟨_,a₁,w₁,hq,.pass (x:=.inLoop c) rfl (fun _ _=>.inl (by simp)) harr⟩
 obtain ⟨e,a',w',hq,harr⟩:=key n a w h0
 exact ⟨e,a',w',hq,.of_steps (.one (fenced_calm hb hr rfl) stepR_loop) harr⟩
section
variable {P:Program} {K:Orc} {Gl:Nat->Option (List T)} {prom:List Nat} {nt:Nat} {R:Type}
def CodeGoes (P:Program) (Gl:Nat->Option (List T)) (prom:List Nat) (nt:Nat) (c:Code) (s:St) (e:Ex) (s':St):Prop :=
 ∀ (ro:Option Nat) (n:Nat),(hasRange c = true->ro = none)->∀ (g:Gh) (a:Act) (w:World),SR Gl prom nt g s a w->∀ Q:Exit->Act->World->Prop,(∀ a' w' g',SR Gl prom nt g' s' a' w'->FrC g s.h w g' s'.h w'->(hasRange c = false->a'.defers = a.defers)->Q e.out a' w')->c.wpIn (wideR ro) n P Q a w
theorem SR.bare {g:Gh} {s:St} {a:Act} {w:World} (h:SR Gl prom nt g s a w) (env:Tr) (he:∀ t,({ s with env:=env,loc:=fun _=>none,used:=fun _=>false }:St).at t = s.at t ∨ ({ s with env:=env,loc:=fun _=>none,used:=fun _=>false }:St).at t = .undef) :
 SR Gl prom nt g { s with env:=env,loc:=fun _=>none,used:=fun _=>false } a w:=by
 refine ⟨h.hr,h.defers,h.size,h.nt,fun t ht=>?_,fun t ht cells hc=>?_,fun d t o hl=>(by cases hl),h.glob,fun d t o hl=>(by cases hl)⟩
 ·rcases he t with h1 | h1
  ·rw [h1]; exact h.tmps t ht
  ·rw [h1]; exact .imm _ _ (.undef _)
 ·rcases he t with h1 | h1
  ·exact h.regs t ht cells (by rw [← h1]; exact hc)
  ·rw [h1] at hc; cases hc
theorem putL_at (s:St) (h:Heap) (l:List Nat) (t:Nat):(mkSt l (getL s l) h).at t = s.at t ∨ (mkSt l (getL s l) h).at t = .undef:=by
 rcases Nat.lt_or_ge t 1024 with ht | ht
 ·rw [at_lt ht]
  have key:∀ (l:List Nat) (e:Tr),(Tr.get deep e t = s.at t ∨ Tr.get deep e t = .undef)->(Tr.get deep (putL l (getL s l) e) t = s.at t ∨ Tr.get deep (putL l (getL s l) e) t = .undef):=by
   intro l
   induction l with
   | nil=>exact fun e he=>he
   | cons i l ih =>
    intro e he
    refine ih _ ?_
    cases hb:Nat.blt i 1024 with
    | false=>simp only [cond_false]; exact he
    | true =>
     have hi:=blt_lt hb
     simp only [cond_true]
     rw [show Tr.get deep (Tr.set deep e i (s.at i)) t = _ from Tr.get_set 10 e i t _ hi ht]
     by_cases hti:t = i
     ·subst hti; rw [if_pos rfl]; exact .inl rfl
     ·rw [if_neg hti]; exact he
  exact key l .nil (.inr rfl)
 ·rw [at_ge (by omega)]; exact .inr rfl
theorem SR.only {g:Gh} {s:St} {a:Act} {w:World} (h:SR Gl prom nt g s a w) (l:List Nat):SR Gl prom nt g (mkSt l (getL s l) s.h) a w:=by
 have:=putL_at s s.h l
 exact h.bare (putL l (getL s l) .nil) this
theorem SR.drawn {g:Gh} {s:St} {a:Act} {w:World} (h:SR Gl prom nt g s a w) (n:Nat):SR Gl prom nt g s a { w with drawn:=n }:=by
 have hk:Keep g s.h w g s.h { w with drawn:=n }:=⟨fun b hb=>⟨hb,rfl⟩,fun _ b hb=>⟨b,hb,Nat.le_refl _,fun _=>⟨rfl,rfl,rfl⟩⟩,fun _ _ h=>h⟩
 refine ⟨⟨fun i b hb hmp=>?_,h.hr.u,h.hr.own,h.hr.base,h.hr.cells,h.hr.lt,fun i b m hb hm=>h.hr.mp_of hb hm rfl (fun _ hc=>hc) fun _ _ _=>rfl⟩,h.defers.to (Nat.le_refl _) (fun _ _=>rfl) (fun _ _ _=>rfl) rfl (fun _ h=>.inl h),h.size,h.nt,fun t ht=>(h.tmps t ht).keep hk,fun t ht cells hc=>?_,h.loc,fun gl cells hg=>(h.glob gl cells hg).keep hk.u,h.used⟩
 ·rcases h.hr.blk0 i b hb hmp with ⟨cb,sh,arr,e,hok⟩ | q
  rotate_left
  ·exact .inr q
  refine .inl ⟨cb,sh,arr,e,hok.φ,hok.own,hok.heap,hok.room,hok.len,fun j o c hj hc=>?_,hok.flat⟩
  obtain ⟨v,h1,h2,h3⟩:=hok.cell j o c hj hc
  exact ⟨v,h1,h2,h3.keep hk⟩
 ·obtain ⟨cb,arr,e,hreg⟩:=h.regs t ht cells hc
  exact ⟨cb,arr,e,hreg.keep hk rfl rfl⟩
theorem region_goes (hm:P.follows .mixedOrders = true) (hK:OrcOk P Gl K) (hnt:nt<=1024) {id:Nat} {ops:Array Oper} {draw:Bool} {s s':St} {fps:List FP}
 (hrun:RunIs P K Gl prom nt ops.toList ops.toList { s with loc:=fun _=>none,used:=fun _=>false } s' fps) (hd:draw = true->orderOk ops fps = true):CodeGoes P Gl prom nt (.region id ops draw) s .normal s':=by
 intro ro n _ g a w hs Q hn
 have hs0:=hs.bare s.env (fun t=>.inl rfl)
 cases draw with
 | false=>exact wpIn_region_list (hrun.goes hK hs0 ro n Q fun a' w' g' h1 h2 h3=>hn a' w' g' h1 h2 fun _=>h3)
 | true =>
  have hok:=hd rfl
  simp only [orderOk,Bool.and_eq_true] at hok
  have hlen:fps.length = ops.size:=by
   have:∀ {l:List Oper} {s s':St} {fps:List FP},RunIs P K Gl prom nt ops.toList l s s' fps->fps.length = l.length:=by
    intro l s s' fps h
    induction h with
    | nil=>rfl
    | cons _ _ ih=>simp [ih]
   have:=this hrun
   simpa using this
  refine wpIn_region_any hm ?_
  have hO:∀ i,i<ops.size->ops[i]? = some (ops.getD i default):=fun i hi=>by
   rw [Array.getD_eq_getD_getElem?,Array.getElem?_eq_getElem hi]; rfl
  have hmapO:(List.range ops.size).map (fun i=>ops.getD i default) = ops.toList:=by
   apply List.ext_getElem (by simp)
   intro i h1 h2
   simp only [List.length_map,List.length_range] at h1
   simp [Array.getElem?_eq_getElem h1]
  have hmapF:(List.range ops.size).map (fun i=>fps.getD i ⟨[],[],false,false,(none,false),(none,false)⟩) = fps:=by
   apply List.ext_getElem (by simp [hlen])
   intro i h1 h2
   simp [List.getElem?_eq_getElem h2]
  have hpair:∀ i j,i<j->j<ops.size->((Region.before ops).getD j 0).testBit i = true ∨ clash (fps.getD i ⟨[],[],false,false,(none,false),(none,false)⟩) (fps.getD j ⟨[],[],false,false,(none,false),(none,false)⟩) = false:=by
   intro i j hij hj
   have hp:=pairsOk_spec _ hok.2
   rw [List.pairwise_iff_getElem] at hp
   have hz:∀ m,m<ops.size->((List.range ops.size).zip fps)[m]? = some (m,fps.getD m ⟨[],[],false,false,(none,false),(none,false)⟩):=by
    intro m hm
    rw [List.getElem?_zip_eq_some]
    refine ⟨by simp [hm],?_⟩
    rw [List.getD_eq_getElem?_getD,List.getElem?_eq_getElem (by omega)]
    rfl
   have hlz:((List.range ops.size).zip fps).length = ops.size:=by simp [hlen]
   have h1:=hp i j (by omega) (by omega) hij
   have e1:=hz i (by omega)
   have e2:=hz j hj
   rw [List.getElem?_eq_getElem (by omega)] at e1 e2
   rw [Option.some.inj e1,Option.some.inj e2] at h1
   dsimp only at h1
   have e3:(Region.before ops).toList.getD j 0 = (Region.before ops).getD j 0:=by
    simp [List.getD_eq_getElem?_getD,Array.getD_eq_getD_getElem?]
   rw [e3] at h1
   exact h1
  refine drawn_goes hK hnt (s':=s') hok.1 hO hpair ops.size (rem:=List.range ops.size) (listed:=Array.replicate ops.size false) (s:=_) (s1:=s') (by simp) ⟨by simp,fun i=>?_,?_,fun j o _ hl=>?_⟩ (by rw [hmapO,hmapF]; exact hrun) (.refl _) (hs0.drawn _) ro n Q ?_
  ·rw [List.mem_range,Array.getD_eq_getD_getElem?]
   rcases Nat.lt_or_ge i ops.size with h | h
   ·simp [h]
   ·rw [Array.getElem?_eq_none (by simpa using h)]; simp; omega
  ·exact List.pairwise_lt_range
  ·rw [Array.getD_eq_getD_getElem?] at hl
   rcases Nat.lt_or_ge j ops.size with h | h
   ·simp [h] at hl
   ·rw [Array.getElem?_eq_none (by simpa using h)] at hl; simp at hl
  ·intro a' w' g' hs' hf' hd'
   refine hn a' w' g' hs' ?_ (fun _=>hd')
   exact ⟨⟨hf'.keep.u,hf'.keep.blk,hf'.keep.rm⟩,hf'.size,hf'.own,hf'.os,hf'.tape,⟨hf'.output.1,hf'.output.2⟩,hf'.same,hf'.bs,hf'.u,hf'.u'⟩
def RecOk (P:Program) (Gl:Nat->Option (List T)) (prom:List Nat) (nt:Nat) (live:Nat->Bool->List Nat) (S:Code->Prop) (rec:Rec):Prop :=
 RecDet rec/\∀ b vs h e vs' h',S b->rec _ b vs h (fun e vs h=>some (e,vs,h)) = some (e,vs',h')->CodeGoes P Gl prom nt (asLoop b) (mkSt (live (firstReg b) false) vs h) e (mkSt (live (firstReg b) true) vs' h')
theorem RecOk.mono {live:Nat->Bool->List Nat} {S:Code->Prop} {rec:Rec} (h:RecOk P Gl prom nt live (fun _=>True) rec):RecOk P Gl prom nt live S rec :=
 ⟨h.1,fun b vs h0 e vs' h' _ hk=>h.2 b vs h0 e vs' h' trivial hk⟩
theorem exK_goes (hm:P.follows .mixedOrders = true) (hK:OrcOk P Gl K) (hnt:nt<=1024) {live:Nat->Bool->List Nat} {S:Code->Prop} {rec:Rec} (hrec:RecOk P Gl prom nt live S rec) :
 ∀ (c:Code) (_:∀ b ∈ loopsOf c,S b) {s:St} {k:Ex->St->Option R} {r:R},exK P K Gl prom nt live rec c s k = some r->∃ e s',k e s' = some r/\CodeGoes P Gl prom nt c s e s'
 | .skip,_,s,k,r,hk=>⟨_,_,hk,fun ro n _ g a w hs Q hn=>wpIn_skip (hn _ _ _ hs (FrC.refl _ _ _) fun _=>rfl)⟩
 | .label _,_,s,k,r,hk=>⟨_,_,hk,fun ro n _ g a w hs Q hn=>wpIn_label (hn _ _ _ hs (FrC.refl _ _ _) fun _=>rfl)⟩
 | .region id ops draw,_,s,k,r,hk=>by
  simp only [exK] at hk
  obtain ⟨s',fps,hk,hrun⟩:=runOps_is _ hk
  replace hk:=(bif_none hk).2
  cases draw with
  | false=>exact ⟨_,_,hk,region_goes hm hK hnt hrun (fun h=>by cases h)⟩
  | true =>
   simp only [cond_true] at hk
   obtain ⟨ho,hk⟩:=bif_none hk
   exact ⟨_,_,hk,region_goes hm hK hnt hrun (fun _=>ho)⟩
 | .seq x y,hl,s,k,r,hk=>by
  simp only [exK] at hk
  obtain ⟨e,s1,hk,h1⟩:=exK_goes hm hK hnt hrec x (fun b hb=>hl b (by simp [loopsOf,hb])) hk
  cases e with
  | normal =>
   obtain ⟨e2,s2,hk,h2⟩:=exK_goes hm hK hnt hrec y (fun b hb=>hl b (by simp [loopsOf,hb])) hk
   exact ⟨e2,s2,hk,fun ro n hro g a w hs Q hn=>wpIn_seq (h1 ro n (fun h=>hro (by simp [hasRange,h])) g a w hs _ fun a1 w1 g1 hs1 hf1 hd1=>h2 ro n (fun h=>hro (by simp [hasRange,h])) g1 a1 w1 hs1 Q fun a2 w2 g2 hs2 hf2 hd2=>hn a2 w2 g2 hs2 (hf1.trans hf2) fun h=>by simp only [hasRange,Bool.or_eq_false_iff] at h; exact (hd2 h.2).trans (hd1 h.1))⟩
  | exit i=>exact ⟨_,_,hk,fun ro n hro g a w hs Q hn=>wpIn_seq (h1 ro n (fun h=>hro (by simp [hasRange,h])) g a w hs _ fun a1 w1 g1 hs1 hf1 hd1=>hn a1 w1 g1 hs1 hf1 fun h=>by simp only [hasRange,Bool.or_eq_false_iff] at h; exact hd1 h.1)⟩
  | ret=>exact ⟨_,_,hk,fun ro n hro g a w hs Q hn=>wpIn_seq (h1 ro n (fun h=>hro (by simp [hasRange,h])) g a w hs _ fun a1 w1 g1 hs1 hf1 hd1=>hn a1 w1 g1 hs1 hf1 fun h=>by simp only [hasRange,Bool.or_eq_false_iff] at h; exact hd1 h.1)⟩
 | .cond c x y,hl,s,k,r,hk=>by
  simp only [exK] at hk
  cases hc:Ab.ev Gl prom s c with
  | bool t =>
   rw [hc] at hk
   have hev:∀ (g:Gh) (a:Act) (w:World),SR Gl prom nt g s a w->a.eval c = .bool t:=fun g a w hs=>by
    have:=hs.ev c
    rw [hc] at this
    exact this.bool
   cases t with
   | true =>
    obtain ⟨e,s1,hk,h1⟩:=exK_goes hm hK hnt hrec x (fun b hb=>hl b (by simp [loopsOf,hb])) hk
    exact ⟨e,s1,hk,fun ro n hro g a w hs Q hn=>wpIn_cond_true (hev g a w hs) (h1 ro n (fun h=>hro (by simp [hasRange,h])) g a w hs Q fun a1 w1 g1 hs1 hf1 hd1=>hn a1 w1 g1 hs1 hf1 fun h=>by simp only [hasRange,Bool.or_eq_false_iff] at h; exact hd1 h.1)⟩
   | false =>
    obtain ⟨e,s1,hk,h1⟩:=exK_goes hm hK hnt hrec y (fun b hb=>hl b (by simp [loopsOf,hb])) hk
    exact ⟨e,s1,hk,fun ro n hro g a w hs Q hn=>wpIn_cond_false (hev g a w hs) (h1 ro n (fun h=>hro (by simp [hasRange,h])) g a w hs Q fun a1 w1 g1 hs1 hf1 hd1=>hn a1 w1 g1 hs1 hf1 fun h=>by simp only [hasRange,Bool.or_eq_false_iff] at h; exact hd1 h.2)⟩
  | _=>rw [hc] at hk; cases hk
 | .block id b,hl,s,k,r,hk=>by
  simp only [exK] at hk
  obtain ⟨e,s1,hk,h1⟩:=exK_goes hm hK hnt hrec b (fun b' hb=>hl b' (by simp [loopsOf,hb])) hk
  cases e with
  | normal=>exact ⟨_,_,hk,fun ro n hro g a w hs Q hn=>wpIn_block (h1 ro n (fun h=>hro (by simp [hasRange,h])) g a w hs _ fun a1 w1 g1 hs1 hf1 hd1=>hn a1 w1 g1 hs1 hf1 fun h=>hd1 (by simpa only [hasRange] using h))⟩
  | ret=>exact ⟨_,_,hk,fun ro n hro g a w hs Q hn=>wpIn_block (h1 ro n (fun h=>hro (by simp [hasRange,h])) g a w hs _ fun a1 w1 g1 hs1 hf1 hd1=>hn a1 w1 g1 hs1 hf1 fun h=>hd1 (by simpa only [hasRange] using h))⟩
  | exit i =>
   dsimp only at hk
   rcases bif_some hk with ⟨hi,hk⟩ | ⟨hi,hk⟩
   ·refine ⟨_,_,hk,fun ro n hro g a w hs Q hn=>wpIn_block (h1 ro n (fun h=>hro (by simp [hasRange,h])) g a w hs _ fun a1 w1 g1 hs1 hf1 hd1=>?_)⟩
    have hi:i = id:=by simpa using hi
    simp only [Ex.out,Exit.inBlock,if_pos hi]
    exact hn a1 w1 g1 hs1 hf1 fun h=>hd1 (by simpa only [hasRange] using h)
   ·refine ⟨_,_,hk,fun ro n hro g a w hs Q hn=>wpIn_block (h1 ro n (fun h=>hro (by simp [hasRange,h])) g a w hs _ fun a1 w1 g1 hs1 hf1 hd1=>?_)⟩
    have hi:i ≠ id:=by simpa using hi
    simp only [Ex.out,Exit.inBlock,if_neg hi]
    exact hn a1 w1 g1 hs1 hf1 fun h=>hd1 (by simpa only [hasRange] using h)
 | .loop b,hl,s,k,r,hk=>by
  simp only [exK] at hk
  rcases bif_some hk with ⟨_,hk⟩ | ⟨hrg,hk⟩
  ·cases hk
  obtain ⟨⟨e,vs,h⟩,hk,hr⟩:=det_some (hrec.1 b (getL s (live (firstReg b) false)) s.h) (k:=fun p=>k p.1 (mkSt (live (firstReg b) true) p.2.1 p.2.2)) hk
  have hgo:=hrec.2 b _ _ e vs h (hl b (by simp [loopsOf])) (hr _ some)
  rw [show asLoop b = .loop b by simp [asLoop,hrg]] at hgo
  exact ⟨e,_,hk,fun ro n hro g a w hs Q hn=>hgo ro n hro g a w (hs.only _) Q hn⟩
 | .exit id,_,s,k,r,hk=>⟨_,_,hk,fun ro n _ g a w hs Q hn=>wpIn_exit (hn _ _ _ hs (FrC.refl _ _ _) fun _=>rfl)⟩
 | .ret,_,s,k,r,hk=>⟨_,_,hk,fun ro n _ g a w hs Q hn=>wpIn_ret (hn _ _ _ hs (FrC.refl _ _ _) fun _=>rfl)⟩
 | .scope b,hl,s,k,r,hk=>by
  simp only [exK] at hk
  obtain ⟨e,s1,hk,h1⟩:=exK_goes hm hK hnt hrec b (fun b' hb=>hl b' (by simpa [loopsOf] using hb)) hk
  refine ⟨e,s1,hk,fun ro n hro g a w hs Q hn=>wpIn_scope (h1 ro n (fun h=>hro (by simpa [hasRange] using h)) g a w hs _ fun a1 w1 g1 hs1 hf1 hd1=>?_)⟩
  have:=hn a1 w1 g1 hs1 hf1 fun h=>hd1 (by simpa only [hasRange] using h)
  cases e <;> exact this
 | .goto _,_,s,k,r,hk=>by simp only [exK] at hk; cases hk
 | .refuse _,_,s,k,r,hk=>by simp only [exK] at hk; cases hk
 | .rangeFunc f ps x y,hl,s,k,r,hk=>by
  simp only [exK] at hk
  obtain ⟨⟨e,vs,h⟩,hk,hr⟩:=det_some (hrec.1 (.rangeFunc f ps x y) (getL s (live (firstReg (.rangeFunc f ps x y)) false)) s.h) (k:=fun p=>k p.1 (mkSt (live (firstReg (.rangeFunc f ps x y)) true) p.2.1 p.2.2)) hk
  have hgo:=hrec.2 _ _ _ e vs h (hl (.rangeFunc f ps x y) (by simp [loopsOf])) (hr _ some)
  rw [show asLoop (.rangeFunc f ps x y) = .rangeFunc f ps x y by rfl] at hgo
  exact ⟨e,_,hk,fun ro n hro g a w hs Q hn=>hgo ro n hro g a w (hs.only _) Q hn⟩
theorem loop_rule (hm:P.follows .mixedOrders = true) (hK:OrcOk P Gl K) (hnt:nt<=1024) {live:Nat->Bool->List Nat} {b:Code} (I:Nat->List T->Heap->Prop) {e1:Ex} {vs1:List T} {h1:Heap}
 (round:∀ n vs h,I n vs h->∃ (rec:Rec) (S:Code->Prop),RecOk P Gl prom nt live S rec/\(∀ b' ∈ loopsOf b,S b')/\∃ e s',exK (R:=Ex × St) P K Gl prom nt live rec b (mkSt (live (firstReg b) false) vs h) (fun e s=>some (e,s)) = some (e,s') ∧
  ((e = .normal/\∃ m,m<n/\I m (getL s' (live (firstReg b) false)) s'.h) ∨ (e ≠ .normal/\e = e1/\getL s' (live (firstReg b) true) = vs1/\s'.h = h1))) :
 ∀ n vs h,I n vs h->CodeGoes P Gl prom nt (.loop b) (mkSt (live (firstReg b) false) vs h) e1 (mkSt (live (firstReg b) true) vs1 h1):=by
 intro n vs h hI ro nn hro g0 a0 w0 hs0 Q hn
 refine wpIn_loop_num (fun m a w=>∃ vs' h' g,I m vs' h'/\SR Gl prom nt g (mkSt (live (firstReg b) false) vs' h') a w/\FrC g0 h w0 g h' w/\(hasRange b = false->a.defers = a0.defers)) (fun m a w hJ=>?_) n a0 w0 ⟨vs,h,g0,hI,hs0,FrC.refl _ _ _,fun _=>rfl⟩
 obtain ⟨vs',h',g,hI,hs,hf,hdf⟩:=hJ
 obtain ⟨rec,S,hrec,hS,e,s',hk,hcase⟩:=round m vs' h' hI
 obtain ⟨e',s2,hk2,hgo⟩:=exK_goes hm hK hnt hrec b hS hk
 simp only [Option.some.injEq,Prod.mk.injEq] at hk2
 obtain ⟨rfl,rfl⟩:=hk2
 refine hgo ro nn (fun h=>hro (by simpa [hasRange] using h)) g a w hs _ fun a' w' g' hs' hf' hd'=>?_
 rcases hcase with ⟨rfl,j,hj,hI'⟩ | ⟨hne,rfl,rfl,rfl⟩
 ·exact ⟨j,hj,_,_,g',hI',hs'.only _,hf.trans hf',fun h=>(hd' h).trans (hdf h)⟩
 ·have:=hn a' w' g' (hs'.only _) (hf.trans hf') (fun h=>by simp only [hasRange] at h; exact (hd' h).trans (hdf h))
  cases e' with
  | normal=>exact absurd rfl hne
  | exit i=>exact this
  | ret=>exact this
theorem loopN_ok (hm:P.follows .mixedOrders = true) (hK:OrcOk P Gl K) (hnt:nt<=1024) {live:Nat->Bool->List Nat}:∀ n,RecOk P Gl prom nt live (fun _=>True) (loopN P K Gl prom nt live n):=by
 intro n
 induction n using Nat.strongRecOn with
 | _ n ih =>
  refine ⟨loopN_det P K Gl prom nt live n,fun b vs h e1 vs1 h1 _ hl=>?_⟩
  have hrg:isRange b = false:=by
   cases n with
   | zero=>cases hl
   | succ j =>
    simp only [loopN] at hl
    rcases bif_some hl with ⟨_,hl⟩ | ⟨h,_⟩
    ·cases hl
    ·exact h
  rw [show asLoop b = .loop b by simp [asLoop,hrg]]
  refine loop_rule hm hK hnt (fun m vs h=>m<=n/\loopN P K Gl prom nt live m _ b vs h (fun e vs h=>some (e,vs,h)) = some (e1,vs1,h1)) (fun m vs h hI=>?_) n vs h ⟨Nat.le_refl _,hl⟩
  obtain ⟨hmn,hl⟩:=hI
  cases m with
  | zero=>cases hl
  | succ j =>
   refine ⟨_,_,ih j (by omega),fun _ _=>trivial,?_⟩
   simp only [loopN,hrg,cond_false] at hl
   obtain ⟨⟨e,s'⟩,hk,hall⟩:=det_some (exK_det P K Gl prom nt live (loopN_det P K Gl prom nt live j) b (mkSt (live (firstReg b) false) vs h)) (k:=fun p=>match p.1 with
    | .normal=>loopN P K Gl prom nt live j _ b (getL p.2 (live (firstReg b) false)) p.2.h fun e vs h=>some (e,vs,h)
    | e=>some (e,getL p.2 (live (firstReg b) true),p.2.h)) hl
   refine ⟨e,s',hall _ some,?_⟩
   cases e with
   | normal=>exact .inl ⟨rfl,j,by omega,by omega,hk⟩
   | exit i =>
    simp only [Option.some.injEq,Prod.mk.injEq] at hk
    exact .inr ⟨by simp,hk.1,hk.2.1,hk.2.2⟩
   | ret =>
    simp only [Option.some.injEq,Prod.mk.injEq] at hk
    exact .inr ⟨by simp,hk.1,hk.2.1,hk.2.2⟩
end
def readRes (tmps:Array Value):ResultVar->Sem Value
 | .tmp t=>pure (tmps.getD t undef)
 | .cell a t=>do loadVar t (← asAddr (tmps.getD a undef))
theorem results_eq (fn:Func) (tmps:Array Value):results fn tmps = (do let vs ← fn.results.mapM (readRes tmps); pure (if h:vs.size = 1 then vs[0] else .tuple vs)):=by
 unfold results
 first | rfl | (congr 1; done) | (congr 1; congr 1; done) | (congr 1; congr 1; funext r; cases r <;> rfl)
section
variable {P:Program} {K:Orc} {Gl:Nat->Option (List T)} {prom:List Nat} {nt:Nat} {R:Type} {g:Gh} {s:St} {a:Act} {w:World}
theorem run_asAddr {ty:TypeId} {v u:Value} (h:(Instr.loadAt ty v).run P w = .ok u w):(do loadVar ty (← asAddr v):Sem Value).run P w = .ok u w:=by
 cases v with
 | pointer p =>
  cases p with
  | some ad=>simpa [Instr.loadAt,Instr.sureAddr,asAddr] using h
  | none=>simp [Instr.loadAt,Instr.sureAddr,stuck] at h
 | _=>simp [Instr.loadAt,Instr.sureAddr,stuck] at h
theorem resOf_sound (hs:SR Gl prom nt g s a w) {rv:ResultVar} {k:T->Option R} {r:R} (hk:resOf P Gl prom s rv k = some r) :
 ∃ x,k x = some r/\∃ v,(readRes a.tmps rv).run P w = .ok v w/\g.VR s.h w x v:=by
 cases rv with
 | tmp t =>
  refine ⟨_,hk,_,rfl,?_⟩
  have:=hs.ev (.tmp t)
  simpa [Act.eval] using this
 | cell c ty =>
  simp only [resOf] at hk
  cases hb:base prom s (.tmp c) with
  | some p =>
   obtain ⟨t,off⟩:=p
   rw [hb] at hk
   dsimp only at hk
   cases hc:s.at t with
   | reg cells =>
    rw [hc] at hk
    obtain ⟨hm,cb,arr,e,hreg,hev⟩:=base_sound hb hs hc
    obtain ⟨y,hk,u,hrun,hyr⟩:=ld_sound hk (hreg.cellsAt.drop off)
    rw [Nat.zero_add] at hrun
    have hev':a.tmps.getD c undef = .pointer (some ⟨cb,off,none⟩):=by simpa [Act.eval] using hev
    refine ⟨y,hk,u,?_,hyr⟩
    simp [readRes,hev',asAddr,hrun]
   | _=>rw [hc] at hk; cases hk
  | none =>
   rw [hb] at hk
   dsimp only at hk
   have hp:c ∉ prom:=by
    intro hp
    have:prom.contains c = true:=by simpa using hp
    simp only [base,this,cond_true] at hb
    cases hb
   obtain ⟨y,hk,u,hrun,hyr⟩:=semLoad_sound (k:=fun v _ _=>k v) hk hs.hr (hs.tmps c hp)
   exact ⟨y,hk,u,run_asAddr hrun,hyr⟩
theorem resAll_sound (hs:SR Gl prom nt g s a w):∀ (l:List ResultVar) {k:List T->Option R} {r:R},resAll P Gl prom s l k = some r →
 ∃ xs,k xs = some r/\∃ vs:List Value,(l.mapM (readRes a.tmps)).run P w = .ok vs w/\xs.length = vs.length/\∀ (i:Nat) (x:T),xs[i]? = some x->∃ v,vs[i]? = some v/\g.VR s.h w x v
 | [],k,r,hk=>⟨[],hk,[],rfl,rfl,fun i x hi=>by simp at hi⟩
 | rv :: l,k,r,hk=>by
  simp only [resAll] at hk
  obtain ⟨x,hk,v,h1,h2⟩:=resOf_sound hs hk
  obtain ⟨xs,hk,vs,h3,h4,h5⟩:=resAll_sound hs l hk
  refine ⟨x :: xs,hk,v :: vs,?_,by simp [h4],fun i y hi=>?_⟩
  ·simp [List.mapM_cons,h1,h3]
  ·cases i with
   | zero =>
    simp only [List.getElem?_cons_zero,Option.some.injEq] at hi
    subst hi
    exact ⟨v,rfl,h2⟩
   | succ i=>exact h5 i y (by simpa using hi)
theorem resK_sound (hs:SR Gl prom nt g s a w) {fn:Func} {k:T->Option R} {r:R} (hk:resK P Gl prom fn s k = some r) :
 ∃ x,k x = some r/\∃ v,(results fn a.tmps).run P w = .ok v w/\g.VR s.h w x v:=by
 unfold resK at hk
 obtain ⟨xs,hk,vs,h1,h2,h3⟩:=resAll_sound hs _ hk
 have hrun:(fn.results.mapM (readRes a.tmps)).run P w = .ok vs.toArray w:=by
  rw [Array.mapM_eq_mapM_toList]
  rw [map_eq_pure_bind]
  simp only [Sem.run_bind,h1,Result.andThen_ok,Sem.run_pure]
 rw [results_eq]
 have hres:(do let vs ← fn.results.mapM (readRes a.tmps); pure (if h:vs.size = 1 then vs[0] else .tuple vs):Sem Value).run P w = .ok (if h:vs.toArray.size = 1 then vs.toArray[0] else .tuple vs.toArray) w:=by
  simp only [Sem.run_bind,hrun,Result.andThen_ok,Sem.run_pure]
 have tup:vs.length ≠ 1->k (.tup xs) = some r->∃ x,k x = some r/\∃ v,(do let vs ← fn.results.mapM (readRes a.tmps); pure (if h:vs.size = 1 then vs[0] else .tuple vs):Sem Value).run P w = .ok v w/\g.VR s.h w x v:=by
  intro hl hk
  refine ⟨_,hk,_,hres,?_⟩
  rw [dif_neg (by simpa using hl)]
  exact VR.mk_tup (by simpa using h2) (fun i c hi=>by
   obtain ⟨v,q1,q2⟩:=h3 i c hi
   exact ⟨v,by simpa using q1,q2⟩)
 match xs,h2,h3,hk,tup with
 | [x],h2,h3,hk,_ =>
  obtain ⟨v,q1,q2⟩:=h3 0 x rfl
  refine ⟨x,hk,v,?_,q2⟩
  rw [hres]
  have hl:vs.length = 1:=by simpa using h2.symm
  rw [dif_pos (by simpa using hl)]
  congr 1
  rw [List.getElem?_eq_getElem (by omega)] at q1
  simpa using Option.some.inj q1
 | [],h2,h3,hk,tup=>exact tup (by simp at h2; omega) hk
 | x :: y :: l,h2,h3,hk,tup=>exact tup (by simp at h2; omega) hk
theorem enterEnv_get (t:Nat) (ht:t<1024):∀ (l:List T) (i:Nat) (e:Tr),i+l.length<=1024->Tr.get deep (enterEnv i l e) t = if i<=t/\t<i+l.length then l.getD (t - i) .undef else Tr.get deep e t
 | [],i,e,_=>by
  rw [if_neg (by simp)]
  rfl
 | x :: l,i,e,hl=>by
  simp only [List.length_cons] at hl
  simp only [enterEnv]
  rw [enterEnv_get t ht l (i+1) _ (by omega)]
  have hset:Tr.get deep (Tr.set deep e i x) t = if t = i then x else Tr.get deep e t:=Tr.get_set 10 e i t x (by omega) ht
  rw [hset]
  simp only [List.length_cons]
  by_cases h1:t = i
  ·subst h1
   rw [if_neg (by omega),if_pos rfl,if_pos (by omega),Nat.sub_self]
   rfl
  ·rw [if_neg h1]
   by_cases h2:i<=t/\t<i+(l.length+1)
   ·rw [if_pos (by omega),if_pos h2,show t - i = (t - (i+1))+1 by omega]
    rfl
   ·rw [if_neg (by omega),if_neg h2]
theorem enter_at (args:List T) (h:Heap) (hl:args.length<=1024) (t:Nat):(enter args h).at t = args.getD t .undef:=by
 rcases Nat.lt_or_ge t 1024 with ht | ht
 ·rw [at_lt ht]
  have:=enterEnv_get t ht args 0 .nil (by omega)
  simp only [Nat.zero_add,Nat.zero_le,true_and,Nat.sub_zero] at this
  rw [show (enter args h).env = enterEnv 0 args .nil from rfl,this]
  split
  ·rfl
  ·rename_i hx
   rw [List.getD_eq_getElem?_getD,List.getElem?_eq_none (by omega)]
   rfl
 ·rw [at_ge (by omega),List.getD_eq_getElem?_getD,List.getElem?_eq_none (by omega)]
  rfl
theorem SR.enter {args:List T} {h:Heap} {cargs:Array Value} (hlow:g.low<=w.heap.size) (hr:HR g h w) (hgl:GlobOk Gl w g.U) (ha:ArgsVR g h w args cargs) (hnt:nt<=1024) (hle:args.length<=nt) :
 SR Gl prom nt g (enter args h) { tmps:=cargs ++ Array.replicate (nt - cargs.size) undef,defers:=[] } w:=by
 have hsz:cargs.size = args.length:=ha.1.symm
 have hat:=enter_at args h (by omega)
 have hv:∀ t,g.VR h w ((Ab.enter args h).at t) ((cargs ++ Array.replicate (nt - cargs.size) undef).getD t undef):=by
  intro t
  rw [hat]
  rcases Nat.lt_or_ge t args.length with ht | ht
  ·obtain ⟨v,q1,q2⟩:=ha.2 t args[t] (by simp [ht])
   rw [List.getD_eq_getElem?_getD,List.getElem?_eq_getElem ht,Array.getD_eq_getD_getElem?,Array.getElem?_append_left (by omega),q1]
   exact q2
  ·rw [List.getD_eq_getElem?_getD,List.getElem?_eq_none ht]
   exact .imm _ _ (.undef _)
 refine ⟨hr,Marks.nil hlow,by simp [hsz]; omega,hnt,fun t _=>hv t,fun t _ cells hc=>?_,fun d t o hl=>(by cases hl),hgl,fun d t o hl=>(by cases hl)⟩
 have:=hv t
 rw [hc] at this
 exact absurd this VR.not_reg
variable {A:FuncId->Ann}
theorem resK_det (fn:Func) (s:St):Det fun R k=>resK (R:=R) P Gl prom fn s k:=by
 unfold resK
 refine det_bind (g:=fun vs R k=>match vs with | [v]=>k v | vs=>k (T.tup vs)) (resAll_det P Gl prom s _) fun vs=>?_
 match vs with
 | [v]=>exact det_ret v
 | []=>exact det_ret (T.tup [])
 | x :: y :: l=>exact det_ret (T.tup (x :: y :: l))
theorem resE_det (fn:Func) (e:Ex) (s:St):Det (A:=T × Heap) fun R k=>resE (R:=R) P Gl prom fn e s fun v h=>k (v,h):=by
 cases e with
 | exit i=>exact det_none
 | normal=>exact det_bind (g:=fun v _ k=>k (v,s.h)) (resK_det fn s) fun v=>det_ret (v,s.h)
 | ret=>exact det_bind (g:=fun v _ k=>k (v,s.h)) (resK_det fn s) fun v=>det_ret (v,s.h)
theorem bodyR_det {rec:Rec} (hrec:RecDet rec) (f:FuncId) (fn:Func) (c:Code) (args:List T) (h:Heap):Det (A:=T × Heap) fun _R k=>bodyR P Gl A K rec f fn c args h fun v h=>k (v,h):=by
 unfold bodyR
 refine det_if _ (det_bind2 (exK_det P K Gl (A f).prom fn.ntmps (A f).live hrec c (enter args h)) fun e s=>resE_det fn e s)
theorem runR_det {rec:Func->Rec} (hrec:∀ fn,RecDet (rec fn)) (f:FuncId) (args:List T) (h:Heap):Det (A:=T × Heap) fun _R k=>runR P Gl A K rec f args h fun v h=>k (v,h):=by
 unfold runR
 cases P.funcs[f]? with
 | none=>exact det_none
 | some fn =>
  dsimp only
  cases fn.body with
  | none=>exact det_none
  | some c=>exact bodyR_det (hrec fn) _ _ _ _ _
theorem runR_some {rec:Func->Rec} (hrec:∀ fn,RecDet (rec fn)) {f:FuncId} {args:List T} {h:Heap} {k:T->Heap->Option R} {r:R} (hk:runR P Gl A K rec f args h k = some r):∃ v h',k v h' = some r/\runR P Gl A K rec f args h (fun v h=>some (v,h)) = some (v,h'):=by
 obtain ⟨⟨v,h'⟩,h1,h2⟩:=det_some (runR_det (P:=P) (K:=K) (Gl:=Gl) (A:=A) hrec f args h) (k:=fun p=>k p.1 p.2) hk
 exact ⟨v,h',h1,h2 _ some⟩
theorem SR.world (hs:SR Gl prom nt g s a w) {w':World} {ds:List Deferred} (hsize:w.heap.size<=w'.heap.size) (hsame:∀ b,g.U b ∨ g.own b ≠ none->w'.heap[b]? = w.heap[b]?) (hrm:∀ b n,room w b n->room w' b n)
 (hds:Marks g w' ds):SR Gl prom nt g s { a with defers:=ds } w':=by
 have hk:Keep g s.h w g s.h w':=⟨fun b hb=>⟨hb,hsame b (.inl hb)⟩,fun i b hb=>⟨b,hb,Nat.le_refl _,fun _=>⟨rfl,rfl,rfl⟩⟩,hrm⟩
 refine ⟨⟨fun i b hb hmp=>?_,fun b hb=>⟨Nat.lt_of_lt_of_le (hs.hr.u b hb).1 hsize,(hs.hr.u b hb).2⟩,fun b o ho=>⟨(hs.hr.own b o ho).1,Nat.lt_of_lt_of_le (hs.hr.own b o ho).2 hsize⟩,Nat.le_trans hs.hr.base hsize,fun b o ho=>hs.hr.cells_of ho (hsame b (.inr (by rw [ho]; simp))),hs.hr.lt,fun i b m hb hm=>hs.hr.mp_of hb hm rfl (fun _ hc=>hc) fun c _ hc=>hsame c (.inr (by rw [hc]; simp))⟩,
  hds,hs.size,hs.nt,fun t ht=>(hs.tmps t ht).keep hk,fun t ht cells hc=>?_,hs.loc,fun gl cells hg=>(hs.glob gl cells hg).keep hk.u,hs.used⟩
 ·rcases hs.hr.blk0 i b hb hmp with ⟨cb,sh,arr,e,hok⟩ | q
  rotate_left
  ·exact .inr q
  exact .inl ⟨cb,sh,arr,e,hok.φ,hok.own,(hsame cb (.inr (by rw [hok.own]; simp))).trans hok.heap,hok.room,hok.len,fun j o c hj ho=>by
   obtain ⟨v,q1,q2,q3⟩:=hok.cell j o c hj ho
   exact ⟨v,q1,q2,q3.keep hk⟩,hok.flat⟩
 ·obtain ⟨cb,arr,e,hreg⟩:=hs.regs t ht cells hc
  exact ⟨cb,arr,e,hreg.keep hk rfl (hsame cb (.inr (by rw [hreg.own]; simp)))⟩
theorem HR.setLow {h:Heap} (hr:HR g h w) (n:Nat):HR { g with low:=n } h w :=
 ⟨fun i b hb hmp=>by
  rcases hr.blk0 i b hb hmp with ⟨cb,sh,arr,e,hok⟩ | q
  ·exact .inl ⟨cb,sh,arr,e,hok.φ,hok.own,hok.heap,hok.room,hok.len,hok.cell,hok.flat⟩
  ·exact .inr q,hr.u,hr.own,hr.base,hr.cells,hr.lt,hr.mp⟩
def turn:List Nat->World->World
 | [],w=>w
 | D :: l,w=>turn l (w.putObj D (.deferred none))
theorem turn_is:∀ (l:List Nat) (w:World),(turn l w).heap.size = w.heap.size/\(turn l w).os = w.os/\(turn l w).tape = w.tape/\OutOk (turn l w) w/\∀ b,b ∉ l->(turn l w).heap[b]? = w.heap[b]?
 | [],w=>⟨rfl,rfl,rfl,.refl _,fun _ _=>rfl⟩
 | D :: l,w=>by
  obtain ⟨h1,h2,h3,h4,h5⟩:=turn_is l (w.putObj D (.deferred none))
  refine ⟨by simp only [turn]; rw [h1,World.putObj_size],by simp only [turn]; rw [h2]; rfl,by simp only [turn]; rw [h3]; rfl,by simp only [turn]; exact h4.trans ⟨rfl,Nat.le_refl _⟩,fun b hb=>?_⟩
  simp only [List.mem_cons,not_or] at hb
  simp only [turn]
  rw [h5 b hb.2,World.putObj_heap_other hb.1]
theorem leaves_marks {F:Fence} {n:Nat} {fn:Func} {tmps:Array Value} {R:Ending->World->Prop}:∀ (l:List Nat) (w:World),l.Nodup->(∀ D ∈ l,w.heap[D]? = some (.deferred (some []))) →
 (∃ v,(results fn tmps).run P (turn l w) = .ok v (turn l w)/\R (.returned v) (turn l w))->LeavesInM F n P fn tmps R (l.map mark) .returning w
 | [],w,_,_,h=>by simpa [LeavesInM,LeavesIn,turn] using h
 | D :: l,w,hn,hD,h=>by
  rw [List.nodup_cons] at hn
  refine ⟨by simp,.inl ⟨D,_,rfl,run_takeDeferred (hD D (by simp)),leaves_marks l _ hn.2 (fun E hE=>?_) h⟩⟩
  rw [World.putObj_heap_other (by rintro rfl; exact hn.1 hE)]
  exact hD E (by simp [hE])
def RecsOk (P:Program) (Gl:Nat->Option (List T)) (A:FuncId->Ann) (f:FuncId) (rec:Func->Rec):Prop :=
 ∀ fn c,P.funcs[f]? = some fn->fn.body = some c->fn.ntmps<=1024->RecOk P Gl (A f).prom fn.ntmps (A f).live (fun b=>b ∈ loopsOf c) (rec fn)
theorem runR_calls (hm:P.follows .mixedOrders = true) (hK:OrcOk P Gl K) {f:FuncId} {rec:Func->Rec} (hrec:RecsOk P Gl A f rec) {args:List T} {h h':Heap} {r:T} (hk:runR P Gl A K rec f args h (fun v h=>some (v,h)) = some (r,h'))
 {cargs:Array Value} (hr:HR g h w) (hno:NoRegs g) (hgl:GlobOk Gl w g.U) (ha:ArgsVR g h w args cargs) :
 Calls P f cargs w fun e w'=>∃ v,e = .returned v/\Res g h w r h' v w':=by
 unfold runR at hk
 cases hf:P.funcs[f]? with
 | none=>rw [hf] at hk; cases hk
 | some fn =>
  rw [hf] at hk
  dsimp only at hk
  cases hb:fn.body with
  | none=>rw [hb] at hk; cases hk
  | some c =>
   rw [hb] at hk
   dsimp only [bodyR] at hk
   obtain ⟨hc,hk⟩:=bif_none hk
   simp only [Bool.and_eq_true] at hc
   have hnt:=ble_le hc.1
   have hle:=ble_le hc.2
   obtain ⟨e,s',hk,hgo⟩:=exK_goes hm hK hnt (hrec fn c hf hb hnt) c (fun _ hb=>hb) hk
   have hs0:=SR.enter (Gl:=Gl) (prom:=(A f).prom) (Nat.le_refl _) (hr.setLow w.heap.size) hgl ha hnt hle
   rw [← callsIn_wide (n:=0)]
   refine callsIn_of_wp_marks hf hb trivial (hgo none 0 (fun _=>rfl) _ _ w hs0 _ fun a' w' g' hs' hf' _=>?_) rfl
   have fin:resK P Gl (A f).prom fn s' (fun v=>some (v,s'.h)) = some (r,h')->LeavesInM Fence.wide 0 P fn a'.tmps (fun e w'=>∃ v,e = .returned v/\Res g h w r h' v w') a'.defers .returning w':=by
    intro hk
    obtain ⟨hlo,l,hl1,hl2,hl3⟩:=hs'.defers
    obtain ⟨t1,t2,t3,t4,t5⟩:=turn_is l w'
    have hlow:g'.low = w.heap.size:=hf'.low
    have hoff:∀ b,g'.U b ∨ g'.own b ≠ none->b ∉ l:=by
     rintro b hb hbl
     obtain ⟨q1,q2,q3,q4⟩:=hl3 b hbl
     rcases hb with hb | hb
     ·exact q3 hb
     ·exact hb q2
    have hrm:∀ b n,room w' b n->room (turn l w') b n:=by
     rintro b n ⟨arr,e,h1,h2⟩
     refine ⟨arr,e,?_,h2⟩
     rw [t5 b fun hbl=>?_]
     ·exact h1
     ·have:=(hl3 b hbl).2.2.2
      rw [h1] at this; cases this
    have hs2:=hs'.world (w':=turn l w') (ds:=[]) (by omega) (fun b hb=>t5 b (hoff b hb)) hrm (Marks.nil (by omega))
    obtain ⟨x,hk,v,h1,h2⟩:=resK_sound hs2 hk
    simp only [Option.some.injEq,Prod.mk.injEq] at hk
    obtain ⟨rfl,rfl⟩:=hk
    rw [hl1]
    refine leaves_marks l w' hl2 (fun D hD=>(hl3 D hD).2.2.2) ⟨v,h1,v,rfl,{ g' with own:=fun b=>match g'.own b with | some (.inl i)=>some (.inl i) | _=>none,low:=g.low },(hs2.hr.strip).setLow g.low,h2,?_,?_⟩
    ·exact hf'.keep.trans ⟨fun b hb=>⟨hb,t5 b (hoff b (.inl hb))⟩,fun i b hb=>⟨b,hb,Nat.le_refl _,fun _=>⟨rfl,rfl,rfl⟩⟩,hrm⟩
    ·refine ⟨by have:=hf'.size; omega,fun b hb=>?_,t2.trans hf'.os,t3.trans hf'.tape,t4.trans hf'.output,fun b hb hn=>?_,?_,hf'.u,fun b hb t=>by dsimp only; split <;> simp⟩
     ·dsimp only
      rw [hf'.own b hb]
      dsimp only
      cases ho:g.own b with
      | none=>rfl
      | some q =>
       cases q with
       | inl i=>rfl
       | inr t=>exact absurd ho (hno b t)
     ·rw [t5 b fun hbl=>by have:=(hl3 b hbl).1; omega]
      refine hf'.same b hb ?_
      dsimp only
      cases ho:g.own b with
      | none=>rfl
      | some q =>
       cases q with
       | inl i=>exact absurd ho (hn i)
       | inr t=>exact absurd ho (hno b t)
     ·have:=hf'.base
      simp only [Gh.bs,this]
   cases e with
   | normal=>exact fin hk
   | ret=>exact fin hk
   | exit i=>cases hk
theorem runR_val (hm:P.follows .mixedOrders = true) (hK:OrcOk P Gl K) {f:FuncId} {rec:Func->Rec} (hdet:∀ fn,RecDet (rec fn)) (hrec:RecsOk P Gl A f rec) {args:List T} {r:T} (hk:runR P Gl A K rec f args [] (fun v h=>some (give h v)) = some r)
 {cargs:Array Value} {U:Nat->Prop} (hU:∀ b,U b->b<w.heap.size) (hgl:GlobOk Gl w U) (ha:ArgsVI w U args cargs) :
 Calls P f cargs w fun e w'=>∃ v,e = .returned v/\RV w U r v w':=by
 obtain ⟨rv,h',hgive,hk2⟩:=runR_some hdet hk
 obtain rfl:=Option.some.inj hgive
 let g0:Gh:={ U:=U,φ:=fun _=>none,own:=fun _=>none,base:=w.heap.size,low:=0 }
 have hr:HR g0 [] w:=⟨fun i b hb=>by simp at hb,fun b hb=>⟨hU b hb,rfl⟩,fun b o ho=>(by cases ho),Nat.le_refl _,fun b o ho=>(by cases ho),fun b i ho=>(by cases ho),fun i b m hb=>by simp at hb⟩
 refine (runR_calls (g:=g0) hm hK hrec hk2 hr (fun b t=>by simp [g0]) hgl ⟨ha.1,fun i x hi=>?_⟩).mono fun e w' ⟨v,he,hres⟩=>⟨v,he,?_⟩
 ·obtain ⟨v,q1,q2⟩:=ha.2 i x hi
  exact ⟨v,q1,.imm _ _ q2⟩
 ·obtain ⟨g',hr',hx,hkp,hf⟩:=hres
  have hbase:g'.base = w.heap.size:=hf.base
  obtain ⟨X,q1,q2,q3⟩:=give_sound hr' (B:=w.heap.size) (by omega) hx
  refine ⟨⟨⟨hf.os,hf.tape,hf.output.1,hf.size,fun b hb=>hf.same b hb (fun i=>by simp [g0])⟩,hf.output.2⟩,Given g' w' w.heap.size (tops rv),X,fun b hb=>.inl (hkp.u b hb).1,fun b hb=>?_,q2,q3,q1⟩
  rcases hb with hb | hb
  ·exact ⟨hf.u b hb,(hr'.u b hb).1⟩
  ·exact ⟨.inr hb.1,hb.2.1⟩
def namesOk (P:Program):Bool:=P.funcs.all fun fn=>fn.body.isNone || !(fn.name=="runtime.NumGoroutine")
theorem runR_enters (hn:namesOk P = true) {rec:Func->Rec} {f:FuncId} {args:List T} {h:Heap} {k:T->Heap->Option R} {r:R} (hk:runR P Gl A K rec f args h k = some r):∃ fn,P.funcs[f]? = some fn/\fn.body.isNone = false/\(fn.name=="runtime.NumGoroutine") = false:=by
 unfold runR at hk
 cases hf:P.funcs[f]? with
 | none=>rw [hf] at hk; cases hk
 | some fn =>
  rw [hf] at hk
  dsimp only at hk
  cases hb:fn.body with
  | none=>rw [hb] at hk; cases hk
  | some c =>
   refine ⟨fn,rfl,by rw [hb]; rfl,?_⟩
   have:=Array.all_eq_true'.1 hn fn (Array.mem_of_getElem? hf)
   rw [hb] at this
   simpa using this
theorem recN_det (P:Program) (Gl:Nat->Option (List T)) (A:FuncId->Ann) (K:Orc) (m:Nat) (f:FuncId):∀ fn,RecDet (recN P Gl A K m f fn):=fun _fn=>loopN_det P K Gl _ _ _ m
theorem recN_ok (hm:P.follows .mixedOrders = true) (hK:OrcOk P Gl K) (m:Nat) (f:FuncId):RecsOk P Gl A f (recN P Gl A K m f):=fun _ _ _ _ hnt=>(loopN_ok hm hK hnt m).mono
def noneO:Orc:=⟨fun _=>false,fun _ _ _ _=>none,fun _ _ _ _ _=>none,fun _ _=>det_none,fun _ _ _=>det_none,fun _=>false⟩
theorem none_ok:OrcOk P Gl noneO :=
 ⟨fun f hx=>(by rcases hx with ⟨args,r,hx⟩ | ⟨args,h,r,hx⟩ <;> cases hx),fun f args r hx=>(by cases hx),fun f args h r h' hx=>(by cases hx),fun f hf=>by cases hf⟩
inductive Tree where
 | none
 | ret (v:T)
 | ite (c:Bool) (x y:Tree)
def Tree.run {R:Type}:Tree->(T->Option R)->Option R
 | .none,_=>Option.none
 | .ret v,k=>k v
 | .ite c x y,k=>bif c then x.run k else y.run k
theorem Tree.det:∀ t:Tree,Det fun R k=>t.run (R:=R) k
 | .none=>det_none
 | .ret v=>det_ret v
 | .ite c x y=>det_bif c x.det y.det
def Orc.add (K:Orc) (f:FuncId) (spec:List T->Tree):Orc where
 byRef e:=bif e==f then false else K.byRef e
 ref:=K.ref
 val e args R k:=bif e==f then (spec args).run k else K.val e args R k
 valDet e args:=det_bif _ (spec args).det (K.valDet e args)
 refDet:=K.refDet
 ro:=K.ro
end
end Go.Ab

