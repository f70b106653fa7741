/- A part of the proof: nothing is assumed. -/
import Derived.Test.YtlaganadekpcjaaP1
import Derived.Orders
import Derived.OrdersIn
import Derived.TacticsIn
import Derived.RangeFuncLeaves
import Derived.RangeFuncRecord
set_option linter.all false
namespace Go.Ab
section
variable {P:Program} {R:Type} {g:Gh} {h:Heap} {w:World}
def flatE (gg:Nat->List T) (n:Nat):List T:=(List.range n).flatMap gg
theorem flatE_succ (gg:Nat->List T) (n:Nat):flatE gg (n+1) = flatE gg n ++ gg n:=by simp [flatE,List.range_succ]
theorem flatE_length {gg:Nat->List T} {sz:Nat}:∀ {n:Nat},(∀ j,j<n->(gg j).length = sz)->(flatE gg n).length = n * sz
 | 0,_=>by simp [flatE]
 | n+1,hl=>by rw [flatE_succ,List.length_append,flatE_length (fun j hj=>hl j (by omega)),hl n (by omega),Nat.add_mul,Nat.one_mul]
theorem flatE_get {gg:Nat->List T} {sz:Nat}:∀ {n:Nat},(∀ j,j<n->(gg j).length = sz)->∀ j o,j<n->o<sz->(flatE gg n)[j * sz+o]? = (gg j)[o]?
 | 0,_,j,o,hj,_=>by omega
 | n+1,hl,j,o,hj,ho=>by
  have hlen:=flatE_length (fun j hj=>hl j (by omega)) (n:=n) (gg:=gg) (sz:=sz)
  rw [flatE_succ]
  rcases Nat.lt_or_ge j n with hlt | hge
  ·have:(j+1) * sz<=n * sz:=Nat.mul_le_mul_right _ hlt
   rw [Nat.add_mul,Nat.one_mul] at this
   rw [List.getElem?_append_left (by omega)]
   exact flatE_get (fun j hj=>hl j (by omega)) j o hlt ho
  ·obtain rfl:j = n:=by omega
   rw [List.getElem?_append_right (by omega),hlen]
   congr 1
   omega
theorem flatE_inv {gg:Nat->List T} {sz:Nat}:∀ {n:Nat},(∀ j,j<n->(gg j).length = sz)->∀ p c,(flatE gg n)[p]? = some c->∃ j o,j<n/\o<sz/\p = j * sz+o/\(gg j)[o]? = some c
 | 0,_,p,c,hp=>by simp [flatE] at hp
 | n+1,hl,p,c,hp=>by
  have hlen:=flatE_length (fun j hj=>hl j (by omega)) (n:=n) (gg:=gg) (sz:=sz)
  rw [flatE_succ] at hp
  rcases Nat.lt_or_ge p (flatE gg n).length with hlt | hge
  ·rw [List.getElem?_append_left hlt] at hp
   obtain ⟨j,o,h1,h2⟩:=flatE_inv (fun j hj=>hl j (by omega)) p c hp
   exact ⟨j,o,by omega,h2⟩
  ·rw [List.getElem?_append_right hge] at hp
   refine ⟨n,p - n * sz,by omega,?_,by omega,by rw [← hlen]; exact hp⟩
   rcases Nat.lt_or_ge (p - (flatE gg n).length) (gg n).length with hq | hq
   ·rw [hl n (by omega),hlen] at hq; exact hq
   ·rw [List.getElem?_eq_none hq] at hp; cases hp
structure Src (P:Program) (g:Gh) (h:Heap) (w:World) (sz:Nat) (v:Value) (m:Nat) (gx:Nat->List T) (fl:Bool) (news:List Value):Prop where
 len:(Builtin.lenOf v).run P w = .ok m w
 run:∀ m',m'<=m->(Builtin.firstCells sz m' v).run P w = .ok (news.take (m' * sz)).toArray w
 runD:(Builtin.firstCells sz m v).run P w.drew = .ok news.toArray w.drew
 size:news.length = m * sz
 one:∀ u ∈ news,u.oneCell' = true
 lens:∀ j,j<m->(gx j).length = sz
 cell:∀ j o c,j<m->(gx j)[o]? = some c->∃ u,news[j * sz+o]? = some u/\g.VR h w c u
 flat:fl = true->∀ j,j<m->∀ c,c ∈ gx j->plain0 c = true
theorem src_of_cells {sz m cc b off:Nat} {gx:Nat->List T} {fl:Bool} {ad:Addr} (had:0<cc->ad = ⟨b,off,none⟩) (hmc:m<=cc) (hl:∀ j,j<m->(gx j).length = sz)
 (hc:∀ j,j<m->CellsAt g h w b (off+j * sz) (gx j)) (hf:fl = true->∀ j,j<m->∀ c,c ∈ gx j->plain0 c = true):∃ news,Src P g h w sz (.slice (some ad) m cc) m gx fl news:=by
 have hlen:=flatE_length hl
 have hat:CellsAt g h w b off (flatE gx m):=by
  intro p c hp
  obtain ⟨j,o,h1,h2,rfl,h4⟩:=flatE_inv hl p c hp
  obtain ⟨v,hv,hr⟩:=hc j h1 o c h4
  exact ⟨v,by rw [← Nat.add_assoc]; exact hv,hr⟩
 obtain ⟨vs,h1,h2,h3⟩:=cells_list hat _ (Nat.le_refl _)
 refine ⟨vs,by simp [Builtin.lenOf],fun m' hm'=>?_,?_,by rw [h1,hlen],fun u hu=>?_,hl,fun j o c hj ho=>?_,hf⟩
 ·simp only [Builtin.firstCells]
  by_cases h0:0<cc
  ·rw [had h0]
   have hle:m' * sz<=m * sz:=Nat.mul_le_mul_right _ hm'
   have e:(vs.take (m' * sz)).length = m' * sz:=by rw [List.length_take,h1,hlen]; omega
   have:=run_loadCells_list (P:=P) w ⟨b,off,none⟩ (vs.take (m' * sz)) (fun j v hj=>by
    rw [add_none]
    rw [List.getElem?_take] at hj
    split at hj
    ·exact (h2 j v hj).1
    ·cases hj)
   rw [e] at this
   exact this
  ·have e:m' = 0:=by omega
   subst e
   simp [loadCells,loadCellsFrom]
 ·simp only [Builtin.firstCells]
  by_cases h0:0<cc
  ·rw [had h0]
   have:=run_loadCells_list (P:=P) w.drew ⟨b,off,none⟩ vs (fun j v hj=>by rw [add_none]; exact (h2 j v hj).1)
   rw [h1,hlen] at this
   exact this
  ·have e:m = 0:=by omega
   subst e
   have e2:vs = []:=by simpa [flatE] using h1
   simp [loadCells,loadCellsFrom,e2]
 ·obtain ⟨p,hp⟩:=List.mem_iff_getElem?.1 hu
  exact (h2 p u hp).2
 ·have hos:o<sz:=by
   rcases Nat.lt_or_ge o (gx j).length with hq | hq
   ·rw [hl j hj] at hq; exact hq
   ·rw [List.getElem?_eq_none hq] at ho; cases ho
  have hlt:j * sz+o<m * sz:=by
   have:(j+1) * sz<=m * sz:=Nat.mul_le_mul_right _ hj
   rw [Nat.add_mul,Nat.one_mul] at this
   omega
  exact h3 _ c (by rw [hlen]; exact hlt) (by rw [flatE_get hl j o hj hos]; exact ho)
theorem source_sound {sz:Nat} {x:T} {v:Value} {k:Nat->(Nat->List T)->Bool->Option R} {r:R} (hk:source sz x h k = some r) (hr:HR g h w) (hx:g.VR h w x v) :
 ∃ m gx fl news,k m gx fl = some r/\Src P g h w sz v m gx fl news:=by
 unfold source at hk
 cases x with
 | nils =>
  obtain rfl:=hx.nils
  refine ⟨0,_,true,[],hk,⟨by simp [Builtin.lenOf],fun m' _=>by simp [Builtin.firstCells],by simp [Builtin.firstCells],by simp,by simp,fun j hj=>by omega,fun j o c hj=>by omega,fun _ j hj=>by omega⟩⟩
 | view sz' n gg cap =>
  obtain ⟨hs,hk'⟩:=bif_none hk
  clear hk
  have hs:sz' = sz:=by simpa using hs
  subst hs
  cases hx.view with
  | vnil _ _ _ _=>exact ⟨0,gg,false,[],hk',⟨by simp [Builtin.lenOf],fun m' _=>by simp [Builtin.firstCells],by simp [Builtin.firstCells],by simp,by simp,fun j hj=>by omega,fun j o c hj=>by omega,fun hf=>by cases hf⟩⟩
  | view _ _ _ _ a cc vs hsp hcap hn hU hl hcl hv =>
   obtain ⟨news,hsrc⟩:=src_of_cells (P:=P) (g:=g) (h:=h) (w:=w) (sz:=sz') (m:=n) (cc:=cc) (b:=a.block) (off:=a.off) (gx:=gg) (fl:=false) (ad:=a) (fun h0=>addr_eta (hsp h0)) hn hl
    (fun j hj o c ho=>⟨vs j o,hcl j o c hj ho,.imm _ _ (hv j o c hj ho)⟩) (fun hf=>by cases hf)
   exact ⟨n,gg,false,news,hk',hsrc⟩
 | own i ver off len cap =>
  obtain ⟨b,hb,hver,hk⟩:=blk_of hk
  obtain ⟨hc,hk'⟩:=bif_none hk
  clear hk
  simp only [Bool.and_eq_true,beq_iff_eq] at hc
  obtain ⟨hs,hle⟩:=hc
  have hle:=ble_le hle
  subst hs
  obtain ⟨cb,sh,cc,ad,e1,rfl,es,e2,e3,e4,e5,e6,e7⟩:=own_slice hb hver hx
  obtain ⟨cb',sh',arr,e',hok⟩:=hr.blk i b hb
  rw [hok.φ] at e1
  obtain ⟨rfl,rfl⟩:=Prod.mk.inj (Option.some.inj e1)
  obtain ⟨news,hsrc⟩:=src_of_cells (P:=P) (g:=g) (h:=h) (w:=w) (sz:=b.sz) (m:=len) (cc:=cc) (b:=cb') (off:=sh'+off * b.sz) (gx:=fun j=>b.get (off+j)) (fl:=b.flat) (ad:=ad) e2 e3
   (fun j hj=>hok.len _ (by omega)) (fun j hj=>by
    have:=hok.cellsAt (j:=off+j) (by omega)
    rw [Nat.add_mul,← Nat.add_assoc] at this
    exact this) (fun hf j hj=>hok.flat hf _ (by omega))
  exact ⟨len,_,b.flat,news,hk',hsrc⟩
 | str s =>
  obtain ⟨hs,hk⟩:=bif_none hk
  have hs:sz = 1:=by simpa using hs
  subst hs
  obtain ⟨b,rfl,hb⟩:=hx.str
  have hsz:=str_bytes hb
  refine ⟨s.length,_,true,s.map fun c=>.int .u8 c.toNat,hk,⟨by simp [Builtin.lenOf,hsz],fun m' hm'=>?_,?_,by simp,fun u hu=>?_,fun j hj=>rfl,fun j o c hj ho=>?_,fun _ j hj c hc=>?_⟩⟩
  ·simp only [Builtin.firstCells,Sem.run_pure]
   congr 1
   apply Array.ext'
   rw [Array.toList_map,extract_list,hb]
   simp
  ·simp only [Builtin.firstCells,Sem.run_pure]
   congr 1
   apply Array.ext'
   rw [Array.toList_map,extract_list,hb]
   simp
  ·obtain ⟨c,_,rfl⟩:=List.mem_map.1 hu; rfl
  ·cases o with
   | zero =>
    simp only [List.getElem?_cons_zero,Option.some.injEq] at ho
    subst ho
    refine ⟨.int .u8 ((s.getD j 0).toNat:Int),?_,.imm _ _ (.int _ _)⟩
    have:s[j]? = some s[j]:=List.getElem?_eq_getElem hj
    simp [List.getD,this]
   | succ o=>simp at ho
  ·simp at hc; subst hc; rfl
 | _=>simp at hk
theorem plainOr_plain (c:T):plain0 (plainOr c) = true:=by
 unfold plainOr
 cases hp:plain0 c with
 | true=>exact hp
 | false=>rfl
theorem plainOr_vr {c:T} {v:Value} (hv:g.VR h w c v):g.VR h w (plainOr c) v:=by
 unfold plainOr
 cases hp:plain0 c with
 | true=>exact hv
 | false=>exact .imm _ _ (.undef _)
theorem source2_sound {pl:Bool} {sz:Nat} {x:T} {v:Value} {k:Nat->(Nat->List T)->Bool->Option R} {r:R} (hk:source2 pl sz x h k = some r) (hr:HR g h w) (hx:g.VR h w x v) :
 ∃ m gx fl news,k m gx fl = some r/\Src P g h w sz v m gx fl news:=by
 unfold source2 at hk
 obtain ⟨m,gx,fl,news,hk,hs⟩:=source_sound (P:=P) hk hr hx
 cases fl with
 | true=>exact ⟨m,gx,true,news,hk,hs⟩
 | false =>
  cases pl with
  | false=>exact ⟨m,gx,false,news,hk,hs⟩
  | true =>
   refine ⟨m,_,true,news,hk,hs.len,hs.run,hs.runD,hs.size,hs.one,fun j hj=>by rw [List.length_map]; exact hs.lens j hj,fun j o c hj ho=>?_,fun _ j hj c hc=>?_⟩
   ·rw [List.getElem?_map] at ho
    obtain ⟨c0,h0,rfl⟩:=Option.map_eq_some_iff.1 ho
    obtain ⟨u,h1,h2⟩:=hs.cell j o c0 hj h0
    exact ⟨u,h1,plainOr_vr h2⟩
   ·obtain ⟨c0,h0,rfl⟩:=List.mem_map.1 hc
    exact plainOr_plain c0
theorem growBy_le (need:Nat) (hn:256<=need):∀ r c,c<=2 * need->Builtin.growBy need r c<=2 * need
 | 0,c,hc=>hc
 | r+1,c,hc=>by
  unfold Builtin.growBy
  split
  ·exact hc
  ·exact growBy_le need hn r _ (by omega)
theorem nextcap_le {need old:Nat} (ho:old<need):Builtin.nextslicecap need old<=2 * need:=by
 unfold Builtin.nextslicecap
 split
 ·omega
 ·split
  ·omega
  ·exact growBy_le need (by omega) 4 old (by omega)
theorem Src.all {sz m:Nat} {v:Value} {gx:Nat->List T} {fl:Bool} {news:List Value} (hs:Src P g h w sz v m gx fl news):(Builtin.firstCells sz m v).run P w = .ok news.toArray w:=by
 have:=hs.run m (Nat.le_refl _)
 rwa [← hs.size,List.take_length] at this
theorem run_append_in {t tx ty e:TypeId} {base:Option Addr} {len cc m:Nat} {v:Value} {gx:Nat->List T} {fl:Bool} {news:List Value} {w':World} (ht:P.underlying t = some (.slice e)) (hk:known P e = true)
 (hx:∃ d,P.underlying tx = some d/\∀ k,d ≠ .int k) (hs:Src P g h w (szTy P e) v m gx fl news) (hle:len+m<=cc)
 (hst:match base with | some a=>(storeCells (a.add (len * szTy P e)) news).run P w = .ok () w' | none=>w' = w) :
 (Builtin.append_ #[t,tx] ty #[.slice base len cc,v]).run P w = .ok (.slice base (len+m) cc) w':=by
 obtain ⟨d,hd,hni⟩:=hx
 have hz:(match d with | .int _=>true | _=>false) = false:=by
  cases d <;> first | rfl | exact absurd rfl (hni _)
 unfold Builtin.append_
 simp only [List.getElem?_toArray,List.getElem?_cons_zero,List.getElem?_cons_succ,Sem.run_bind,run_underlying' ht,Result.andThen_ok,run_size hk,run_underlying' hd,Sem.run_pure,hs.len,Bool.false_eq_true,if_false,Bool.not_false,if_true,hle,hs.all]
 cases base with
 | none=>subst hst; rfl
 | some a=>simp only [Sem.run_bind,hst,Result.andThen_ok]; rfl
theorem run_append_out {t tx ty e:TypeId} {base:Option Addr} {len cc m:Nat} {v:Value} {gx:Nat->List T} {fl:Bool} {news olds:List Value} {z:Value} (ht:P.underlying t = some (.slice e)) (hk:known P e = true)
 (hz:(zeroValue e).run P w.drew = .ok z w.drew) (hx:∃ d,P.underlying tx = some d/\∀ k,d ≠ .int k) (hs:Src P g h w (szTy P e) v m gx fl news)
 (ho':(Builtin.firstCells (szTy P e) len (.slice base len cc)).run P w.drew = .ok olds.toArray w.drew)
 (hgt:cc<len+m) (hle:(len+m) * (bytesTy P e+1)<=70368744177664) :
 ∃ nc,len+m<=nc/\(Builtin.append_ #[t,tx] ty #[.slice base len cc,v]).run P w =
  .ok (.slice (some ⟨w.heap.size,0,none⟩) (len+m) nc) (w.drew.alloc (.cells (olds.toArray ++ news.toArray ++ Builtin.zeroCells z.cells (nc - (len+m))) e)):=by
 obtain ⟨d,hd,hni⟩:=hx
 obtain ⟨i,hi⟩:=known_info hk
 have hb:bytesTy P e = i.bytes:=by simp [bytesTy,hi]
 rw [hb,Nat.mul_add,Nat.mul_one] at hle
 have hti:∀ w:World,(typeInfo e).run P w = .ok i w:=fun w=>by simp [typeInfo,hi]
 have hnc:=nextcap_le hgt
 have hcap:¬ (Builtin.nextslicecap (len+m) cc * i.bytes > 2 ^ 48):=by
  have h1:Builtin.nextslicecap (len+m) cc * i.bytes<=2 * (len+m) * i.bytes:=Nat.mul_le_mul_right _ hnc
  have h2:2 * (len+m) * i.bytes = 2 * ((len+m) * i.bytes):=Nat.mul_assoc _ _ _
  omega
 have hmax:¬ ((((len+m:Nat):Int) > IntKind.i64.max)/\(False ∨ i.bytes = 0)):=by
  have:IntKind.i64.max = 9223372036854775807:=by decide
  rw [this]
  omega
 have hf:(Question.appendCap (len+m) cc e).forced = false:=rfl
 refine ⟨(Question.appendCap (len+m) cc e).cut (w.tape w.drawn (.appendCap (len+m) cc e)),by simp only [Question.cut]; omega,?_⟩
 unfold Builtin.append_
 simp only [List.getElem?_toArray,List.getElem?_cons_zero,List.getElem?_cons_succ,Sem.run_bind,run_underlying' ht,Result.andThen_ok,run_size hk,run_underlying' hd,Sem.run_pure,hs.len,Bool.false_eq_true,if_false,Bool.not_false,if_true]
 rw [if_neg (by omega)]
 simp only [Sem.run_bind,hti,Result.andThen_ok]
 rw [if_neg hmax]
 simp only [Sem.run_bind,hti,Result.andThen_ok]
 rw [if_neg hcap]
 simp only [Sem.run_bind,run_choose,hf,Bool.false_eq_true,if_false,Result.andThen_ok,run_askRoom,hti]
 change ((Builtin.firstCells (szTy P e) len (.slice base len cc)).run P w.drew).andThen _ = _
 simp only [ho',hs.runD,Result.andThen_ok,hz]
 rfl
end
section
variable {P:Program} {R:Type} {g:Gh} {h:Heap} {w:World}
theorem plainUpTo_all {m:Nat} {gx:Nat->List T} {fl:Bool} (hf:plainUpTo m gx fl = true) (hfl:fl = true->∀ j,j<m->∀ c,c ∈ gx j->plain0 c = true):∀ j,j<m->∀ c,c ∈ gx j->plain0 c = true:=by
 unfold plainUpTo at hf
 cases fl with
 | true=>exact hfl rfl
 | false =>
  simp only [Bool.false_or,Bool.and_eq_true] at hf
  intro j hj c hc
  exact (List.all_eq_true.1 ((List.all_eq_true.1 hf.2) j (List.mem_range.2 hj))) c hc
theorem cat_cells {sz len m nc:Nat} {gs gx:Nat->List T} {olds news:List Value} {z:Array Value} (hol:olds.length = len * sz)
 (hos:∀ j o c,j<len->(gs j)[o]? = some c->∃ u,olds[j * sz+o]? = some u/\u.oneCell' = true/\g.VR h w c u)
 {v:Value} {fl:Bool} (hs:Src P g h w sz v m gx fl news) (ver:Nat) (fl':Bool) {j o:Nat} {c:T} (hj:j<len+m) (hc:((catBlk ver sz len m gs gx fl').get j)[o]? = some c) :
 ∃ u,(olds.toArray ++ news.toArray ++ Builtin.zeroCells z (nc - (len+m)))[0+j * sz+o]? = some u/\u.oneCell' = true/\g.VR h w c u:=by
 simp only [catBlk,Bool.cond_eq_ite] at hc
 have key:∀ (l:List Value) (i:Nat) (u:Value) (A:Array Value),l[i]? = some u->(l.toArray ++ A)[i]? = some u:=by
  intro l i u A hl
  have hi:i<l.length:=by
   rcases Nat.lt_or_ge i l.length with hq | hq
   ·exact hq
   ·rw [List.getElem?_eq_none hq] at hl; cases hl
  rw [Array.getElem?_append_left (by simpa using hi)]
  simpa using hl
 rw [Array.append_assoc]
 split at hc
 ·rename_i hlt
  have hlt:=blt_lt hlt
  obtain ⟨u,h1,h2,h3⟩:=hos j o c hlt hc
  exact ⟨u,by rw [Nat.zero_add]; exact key _ _ _ _ h1,h2,h3⟩
 ·rename_i hge
  have hge:len<=j:=by
   rcases Nat.lt_or_ge j len with hq | hq
   ·exact absurd (Nat.ble_eq_true_of_le hq) hge
   ·exact hq
  obtain ⟨u,h1,h3⟩:=hs.cell (j - len) o c (by omega) hc
  refine ⟨u,?_,hs.one u (List.mem_of_getElem? h1),h3⟩
  rw [Nat.zero_add]
  have e:j * sz+o = olds.length+((j - len) * sz+o):=by
   rw [hol,← Nat.add_assoc,← Nat.add_mul]
   congr 2
   omega
  rw [Array.getElem?_append_right (by simp [e])]
  simp only [List.size_toArray]
  rw [show j * sz+o - olds.length = (j - len) * sz+o by omega]
  exact key _ _ _ _ h1
theorem cat_lens {sz len m:Nat} {gs gx:Nat->List T} {news:List Value} (hls:∀ j,j<len->(gs j).length = sz) {v:Value} {fl:Bool} (hs:Src P g h w sz v m gx fl news) (ver:Nat) (fl':Bool) :
 ∀ j,j<len+m->((catBlk ver sz len m gs gx fl').get j).length = sz:=by
 intro j hj
 simp only [catBlk,Bool.cond_eq_ite]
 split
 ·rename_i hlt; exact hls j (blt_lt hlt)
 ·rename_i hge
  have hge:len<=j:=by
   rcases Nat.lt_or_ge j len with hq | hq
   ·exact absurd (Nat.ble_eq_true_of_le hq) hge
   ·exact hq
  exact hs.lens _ (by omega)
theorem cat_flat {sz len m:Nat} {gs gx:Nat->List T} (ver:Nat) (fl':Bool) (h1:∀ j,j<len->∀ c,c ∈ gs j->plain0 c = true) (h2:∀ j,j<m->∀ c,c ∈ gx j->plain0 c = true) :
 ∀ j,j<len+m->∀ c,c ∈ (catBlk ver sz len m gs gx fl').get j->plain0 c = true:=by
 intro j hj c hc
 simp only [catBlk,Bool.cond_eq_ite] at hc
 split at hc
 ·rename_i hlt; exact h1 j (blt_lt hlt) c hc
 ·rename_i hge
  have hge:len<=j:=by
   rcases Nat.lt_or_ge j len with hq | hq
   ·exact absurd (Nat.ble_eq_true_of_le hq) hge
   ·exact hq
  exact h2 (j - len) (by omega) c hc
theorem cat_size {sz len m nc:Nat} {olds news:List Value} {z:Array Value} (hol:olds.length = len * sz) (hn:news.length = m * sz) (hz:z.size = sz) (hnc:len+m<=nc) :
 (olds.toArray ++ news.toArray ++ Builtin.zeroCells z (nc - (len+m))).size = nc * sz:=by
 simp only [Array.size_append,List.size_toArray,hol,hn,size_zeroCells,hz]
 rw [← Nat.add_mul,← Nat.add_mul]
 congr 1
 omega
theorem grow_res (hr:HR g h w) {sz len m nc:Nat} {gs gx:Nat->List T} {olds news:List Value} {z:Array Value} {e:TypeId} (hol:olds.length = len * sz)
 (hls:∀ j,j<len->(gs j).length = sz) (hos:∀ j o c,j<len->(gs j)[o]? = some c->∃ u,olds[j * sz+o]? = some u/\u.oneCell' = true/\g.VR h w c u)
 {v:Value} {fl:Bool} (hs:Src P g h w sz v m gx fl news) (fl':Bool) (hfl:fl' = true->(∀ j,j<len->∀ c,c ∈ gs j->plain0 c = true)/\∀ j,j<m->∀ c,c ∈ gx j->plain0 c = true)
 (hz:z.size = sz) (hnc:len+m<=nc) :
 Res g h w (.own h.length 0 0 (len+m) none) (h ++ [catBlk 0 sz len m gs gx fl']) (.slice (some ⟨w.heap.size,0,none⟩) (len+m) nc)
  (w.drew.alloc (.cells (olds.toArray ++ news.toArray ++ Builtin.zeroCells z (nc - (len+m))) e)):=by
 have hsz:=cat_size hol hs.size hz hnc
 obtain ⟨g',e1,_,hr',hkeep,hfr⟩:=hr.alloc (w':=w.drew.alloc (.cells (olds.toArray ++ news.toArray ++ Builtin.zeroCells z (nc - (len+m))) e)) (cb:=w.heap.size) (sh:=0) (e:=e)
  (b':=catBlk 0 sz len m gs gx fl') (by simp) (fun k hk=>RowKit.Below.heap_alloc w.drew _ _ hk) (heap_new w.drew _) (Nat.le_refl _)
  (by rw [hsz,Nat.zero_add]; exact Nat.mul_le_mul_right _ hnc) (cat_lens hls hs 0 fl') (fun j o c hj ho=>cat_cells hol hos hs 0 fl' hj ho) (fun hf=>cat_flat 0 fl' (hfl hf).1 (hfl hf).2) rfl rfl ⟨rfl,Nat.le_succ _⟩
 exact ⟨g',hr',.own _ _ _ _ _ _ _ (at_end h _) (Nat.le_refl _) rfl fun _=>⟨_,_,nc,_,e1,rfl,rfl,fun _=>by simp,hnc,fun _ hm=>(by cases hm),by simp [catBlk],⟨_,e,heap_new w.drew _,by rw [hsz]; simp [catBlk]⟩,fun _=>by simpa [catBlk] using hnc⟩,hkeep,hfr⟩
theorem Src.one_cell {sz m:Nat} {v:Value} {gx:Nat->List T} {fl:Bool} {news:List Value} (hs:Src P g h w sz v m gx fl news) :
 ∀ j o c,j<m->(gx j)[o]? = some c->∃ u,news[j * sz+o]? = some u/\u.oneCell' = true/\g.VR h w c u:=by
 intro j o c hj ho
 obtain ⟨u,h1,h2⟩:=hs.cell j o c hj ho
 exact ⟨u,h1,hs.one u (List.mem_of_getElem? h1),h2⟩
theorem xTy_ok {tx:TypeId} (hx:((elemTy P tx).isSome || strTy P tx) = true):∃ d,P.underlying tx = some d/\∀ k,d ≠ .int k:=by
 rcases Bool.or_eq_true _ _ ▸ hx with h1 | h1
 ·obtain ⟨e,he⟩:=Option.isSome_iff_exists.1 h1
  exact ⟨_,elemTy_eq he,fun k hk=>by cases hk⟩
 ·exact ⟨_,strTy_eq h1,fun k hk=>by cases hk⟩
theorem lt_of_get {α:Type} {l:List α} {i:Nat} {x:α} (hb:l[i]? = some x):i<l.length:=by
 rcases Nat.lt_or_ge i l.length with hq | hq
 ·exact hq
 ·rw [List.getElem?_eq_none hq] at hb; cases hb
theorem room_is {cb n:Nat} {arr:Array Value} {e:TypeId} (hh:w.heap[cb]? = some (.cells arr e (0,0))) (hn:room w cb n):n<=arr.size:=by
 obtain ⟨a',e'',q1,q2⟩:=hn
 rw [hh] at q1
 simp only [Option.some.injEq,Obj.cells.injEq] at q1
 rw [q1.1]; exact q2
theorem put_res (hr:HR g h w) {i:Nat} {b:Blk} (hb:h[i]? = some b) {cb sh:Nat} {arr:Array Value} {e:TypeId} (hok:BlkOk w g h i b cb sh arr e) {p m:Nat} {gx:Nat->List T} {news:List Value}
 (hl:∀ j,j<m->(gx j).length = b.sz) (hn:news.length = m * b.sz) (hc:∀ j o c,j<m->(gx j)[o]? = some c->∃ u,news[j * b.sz+o]? = some u/\u.oneCell' = true/\g.VR h w c u)
 (fl':Bool) (hfl:fl' = true->b.flat = true/\∀ j,j<m->∀ c,c ∈ gx j->plain0 c = true) (hfits:sh+p * b.sz+news.length<=arr.size) :
 ∃ g',g'.φ i = some (cb,sh)/\HR g' (h.set i { b with get:=fun j=>bif Nat.ble p j&&Nat.blt j (p+m) then gx (j - p) else b.get j,flat:=fl' }) (w.setRow cb (arr.toList.take (sh+p * b.sz) ++ news ++ arr.toList.drop (sh+p * b.sz+news.length)).toArray) ∧
  Keep g h w g' (h.set i { b with get:=fun j=>bif Nat.ble p j&&Nat.blt j (p+m) then gx (j - p) else b.get j,flat:=fl' }) (w.setRow cb (arr.toList.take (sh+p * b.sz) ++ news ++ arr.toList.drop (sh+p * b.sz+news.length)).toArray) ∧
  FrO g w g' (w.setRow cb (arr.toList.take (sh+p * b.sz) ++ news ++ arr.toList.drop (sh+p * b.sz+news.length)).toArray):=by
 have hws:=written_size arr news _ hfits
 have inr:∀ j,(Nat.ble p j&&Nat.blt j (p+m)) = true ↔ p<=j/\j<p+m:=by
  intro j
  simp only [Bool.and_eq_true]
  exact ⟨fun ⟨q1,q2⟩=>⟨ble_le q1,blt_lt q2⟩,fun ⟨q1,q2⟩=>⟨Nat.ble_eq_true_of_le q1,Nat.ble_eq_true_of_le q2⟩⟩
 obtain ⟨g',f1,f2,_,hr',hkeep,hfr⟩:=hr.change hb (w':=w.setRow cb (arr.toList.take (sh+p * b.sz) ++ news ++ arr.toList.drop (sh+p * b.sz+news.length)).toArray) (cb:=cb) (sh:=sh) (e:=e)
  (b':={ b with get:=fun j=>bif Nat.ble p j&&Nat.blt j (p+m) then gx (j - p) else b.get j,flat:=fl' })
  (by simp [World.setRow]) (fun k _ hne=>setRow_other w cb k _ hne) (setRow_at w cb arr _ e hok.heap) (.inl hok.own) (fun n hn=>by rw [hws]; exact room_is hok.heap hn) (Nat.le_refl _) (fun _=>⟨rfl,rfl,hok.φ⟩) (by rw [hws]; exact hok.room)
  (fun j hj=>by
   simp only [Bool.cond_eq_ite]
   split
   ·rename_i hin
    have:=(inr j).1 hin
    exact hl _ (by omega)
   ·exact hok.len j hj)
  (fun j o c hj hc'=>by
   simp only [Bool.cond_eq_ite] at hc' hj ⊢
   rw [written arr _ _ _ hfits]
   have ho:o<b.sz:=by
    have hlt:=lt_of_get hc'
    split at hlt
    ·rename_i hin
     rw [hl (j - p) (by have:=(inr j).1 hin; omega)] at hlt; exact hlt
    ·rw [hok.len j hj] at hlt; exact hlt
   split at hc'
   ·rename_i hin
    have hin:=(inr j).1 hin
    obtain ⟨u,u1,u2,u3⟩:=hc (j - p) o c (by omega) hc'
    have hj1:p * b.sz<=j * b.sz:=Nat.mul_le_mul_right _ hin.1
    have hj2:(j+1) * b.sz<=(p+m) * b.sz:=Nat.mul_le_mul_right _ hin.2
    rw [Nat.add_mul,Nat.one_mul,Nat.add_mul p] at hj2
    have hj3:(j - p) * b.sz = j * b.sz - p * b.sz:=Nat.sub_mul _ _ _
    rw [if_pos ⟨by omega,by rw [hn]; omega⟩]
    refine ⟨u,?_,u2,u3⟩
    rw [← u1,hj3]
    congr 1
    omega
   ·rename_i hout
    have hout:=fun q=>hout ((inr j).2 q)
    rw [if_neg ?_]
    ·exact hok.cell j o c hj hc'
    ·rw [hn]
     rintro ⟨q1,q2⟩
     apply hout
     constructor
     ·rcases Nat.lt_or_ge j p with hq | hq
      ·have:(j+1) * b.sz<=p * b.sz:=Nat.mul_le_mul_right _ hq
       rw [Nat.add_mul,Nat.one_mul] at this
       omega
      ·exact hq
     ·rcases Nat.lt_or_ge j (p+m) with hq | hq
      ·exact hq
      ·have:(p+m) * b.sz<=j * b.sz:=Nat.mul_le_mul_right _ hq
       rw [Nat.add_mul p] at this
       omega)
  (fun hf j hj c hc'=>by
   simp only [Bool.cond_eq_ite] at hc'
   split at hc'
   ·rename_i hin
    exact (hfl hf).2 _ (by have:=(inr j).1 hin; omega) c hc'
   ·exact hok.flat (hfl hf).1 j hj c hc') rfl rfl ⟨rfl,Nat.le_refl _⟩
 exact ⟨g',f1,hr',hkeep,hfr⟩
theorem rehome_res (hr:HR g h w) {i:Nat} {b:Blk} (hb:h[i]? = some b) {len m:Nat} {gs gx:Nat->List T} {w':World} {cb sh:Nat} {arr:Array Value} {e:TypeId} (fl':Bool) (hsize:w.heap.size<=w'.heap.size)
 (hheap:∀ k,k<w.heap.size->k ≠ cb->w'.heap[k]? = w.heap[k]?) (hcb:w'.heap[cb]? = some (.cells arr e (0,0))) (hplace:g.own cb = some (.inl i) ∨ w.heap.size<=cb) (hrm:∀ n,room w cb n->n<=arr.size)
 (hroom:sh+(len+m) * b.sz<=arr.size) (hlen:∀ j,j<len+m->((catBlk (b.ver+1) b.sz len m gs gx fl').get j).length = b.sz)
 (hcell:∀ j o c,j<len+m->((catBlk (b.ver+1) b.sz len m gs gx fl').get j)[o]? = some c->∃ v,arr[sh+j * b.sz+o]? = some v/\v.oneCell' = true/\g.VR h w c v)
 (hflat:fl' = true->∀ j,j<len+m->∀ c,c ∈ (catBlk (b.ver+1) b.sz len m gs gx fl').get j->plain0 c = true) (hos:w'.os = w.os) (htape:w'.tape = w.tape) (hout:OutOk w' w)
 {nc:Nat} {ad:Addr} (hads:ad.spot = none) (had:0<nc->ad = ⟨cb,sh,none⟩) (hnc:len+m<=nc) (hroom2:sh+nc * b.sz<=arr.size) :
 Res g h w (.own i (b.ver+1) 0 (len+m) none) (h.set i (catBlk (b.ver+1) b.sz len m gs gx fl')) (.slice (some ad) (len+m) nc) w':=by
 obtain ⟨g',f1,f2,_,hr',hkeep,hfr⟩:=hr.change hb (w':=w') (cb:=cb) (sh:=sh) (e:=e) (b':=catBlk (b.ver+1) b.sz len m gs gx fl') hsize hheap hcb hplace hrm
  (Nat.le_succ _) (fun q=>by simp [catBlk] at q) hroom hlen hcell hflat hos htape hout
 exact ⟨g',hr',.own _ _ _ _ _ _ _ (List.getElem?_set_self (lt_of_get hb)) (Nat.le_refl _) rfl fun _=>⟨cb,sh,nc,ad,f1,rfl,hads,fun hp=>by simpa using had hp,hnc,fun _ hm=>(by cases hm),by simp [catBlk],⟨arr,e,hcb,by simpa [catBlk] using hroom2⟩,fun _=>by simpa [catBlk] using hnc⟩,hkeep,hfr⟩
theorem semAppend_sound {t tx ty:TypeId} {s x:T} {cs cx:Value} {k:Kont R} {r:R} (hk:semAppend P t s x h k = some r) (hx':((elemTy P tx).isSome || strTy P tx) = true) (hr:HR g h w) (hs:g.VR h w s cs) (hx:g.VR h w x cx) :
 ∃ y h' wr,k y h' wr = some r/\(wr = false->h' = h)/\∃ v w',(Builtin.append_ #[t,tx] ty #[cs,cx]).run P w = .ok v w'/\Res g h w y h' v w':=by
 unfold semAppend at hk
 have hxt:=xTy_ok hx'
 cases he:elemTy P t with
 | none=>simp [he] at hk
 | some e =>
  rw [he] at hk
  obtain ⟨hz,hk⟩:=bif_none hk
  obtain ⟨z,hzr,hkn,hz1,hz2,hz3,hz4⟩:=zero_run (P:=P) (g:=g) (h:=h) (w:=w) hz
  obtain ⟨z',hzr',_⟩:=zero_run (P:=P) (g:=g) (h:=h) (w:=w.drew) hz
  have hzz:z' = z:=by
   obtain ⟨i,hi⟩:=known_info hkn
   cases hiz:i.zero with
   | none=>simp [zeroValue,typeInfo,hi,hiz] at hzr
   | some q =>
    simp only [zeroValue,typeInfo,Sem.run_bind,run_program,Result.andThen_ok,hi,Sem.run_pure,hiz,Result.ok.injEq] at hzr hzr'
    exact hzr'.1.symm.trans hzr.1
  subst hzz
  obtain ⟨m,gx,fl,news,hk,hsrc⟩:=source2_sound (P:=P) hk hr hx
  have ht:=elemTy_eq he
  have roomle:∀ n,appRoom P e n = true->n * (bytesTy P e+1)<=70368744177664:=fun n hn=>ble_le hn
  cases s with
  | nils =>
   dsimp only at hk
   obtain rfl:=hs.nils
   rcases bif_some hk with ⟨hm,hk⟩ | ⟨hm,hk⟩
   ·have hm:m = 0:=by simpa using hm
    subst hm
    exact ⟨_,_,_,hk,fun _=>rfl,_,w,run_append_in (P:=P) ht hkn hxt hsrc (Nat.le_refl _) rfl,.pure hr (.imm _ _ .nils)⟩
   ·have hm:m ≠ 0:=by simpa using hm
    obtain ⟨hroom,hk⟩:=bif_none hk
    obtain ⟨nc,hnc,hrun⟩:=run_append_out (P:=P) (w:=w) (ty:=ty) (base:=none) (len:=0) (cc:=0) (olds:=[]) ht hkn hzr' hxt hsrc (by simp [Builtin.firstCells]) (by omega) (by simpa using roomle _ hroom)
    refine ⟨_,_,_,hk,(fun hh=>by cases hh),_,_,hrun,?_⟩
    have:=grow_res (P:=P) (e:=e) hr (sz:=szTy P e) (len:=0) (gs:=fun _=>[]) (olds:=[]) (by simp) (fun j hj=>by omega) (fun j o c hj=>by omega) hsrc (plainUpTo m gx fl)
     (fun hf=>⟨fun j hj=>by omega,plainUpTo_all hf hsrc.flat⟩) hz2 hnc
    have eb:catBlk 0 (szTy P e) 0 m (fun _=>[]) gx (plainUpTo m gx fl) = ⟨0,szTy P e,m,gx,plainUpTo m gx fl,false⟩:=by
     simp only [catBlk,Nat.zero_add,Nat.sub_zero]
     rfl
    rw [eb] at this
    simpa using this
  | view sz n gs cap =>
   dsimp only at hk
   obtain ⟨hsz,hk⟩:=bif_none hk
   have hsz:sz = szTy P e:=by simpa using hsz
   subst hsz
   obtain ⟨n',gs',fl0,olds,e0,hold⟩:=source_sound (P:=P) (R:=Nat × (Nat->List T) × Bool) (sz:=szTy P e) (x:=.view (szTy P e) n gs cap) (k:=fun a b c=>some (a,b,c)) (r:=(n,gs,false)) (by simp [source]) hr hs
   simp only [Option.some.injEq,Prod.mk.injEq] at e0
   obtain ⟨rfl,rfl,rfl⟩:=e0
   cases hs.view with
   | vnil _ gs0 _ hcn =>
    rcases bif_some hk with ⟨hm,hk⟩ | ⟨hm,hk⟩
    ·have hm:m = 0:=by simpa using hm
     subst hm
     exact ⟨_,_,_,hk,fun _=>rfl,_,w,run_append_in (P:=P) ht hkn hxt hsrc (Nat.le_refl _) rfl,.pure hr hs⟩
    ·have hm:m ≠ 0:=by simpa using hm
     cases cap with
     | none=>cases hk
     | some c =>
      obtain ⟨hc,hk⟩:=bif_none hk
      simp only [Bool.and_eq_true] at hc
      obtain ⟨hgt,hroom⟩:=hc
      obtain ⟨nc,hnc,hrun⟩:=run_append_out (P:=P) (w:=w) (ty:=ty) (base:=none) (len:=0) (cc:=0) (olds:=[]) ht hkn hzr' hxt hsrc (by simp [Builtin.firstCells]) (by omega) (by simpa using roomle _ hroom)
      refine ⟨_,_,_,hk,(fun hh=>by cases hh),_,_,hrun,?_⟩
      exact grow_res (P:=P) (e:=e) hr (sz:=szTy P e) (len:=0) (gs:=_) (olds:=[]) (by simp) (fun j hj=>by omega) (fun j o c hj=>by omega) hsrc _
       (fun hf=>⟨fun j hj=>by omega,plainUpTo_all (by simp only [Bool.and_eq_true] at hf; exact hf.2) hsrc.flat⟩) hz2 hnc
   | view _ _ _ _ a cc vs hsp hcap hn hU hl hcl hv =>
    rcases bif_some hk with ⟨hm,hk⟩ | ⟨hm,hk⟩
    ·have hm:m = 0:=by simpa using hm
     subst hm
     refine ⟨_,_,_,hk,fun _=>rfl,_,w,run_append_in (P:=P) ht hkn hxt hsrc (by omega) ?_,.pure hr hs⟩
     have:news = []:=by have:=hsrc.size; simp at this; exact this
     subst this
     simp [storeCells]
    ·cases cap with
     | none=>cases hk
     | some c =>
      obtain rfl:=hcap c rfl
      obtain ⟨hc,hk⟩:=bif_none hk
      simp only [Bool.and_eq_true] at hc
      obtain ⟨hgt,hroom⟩:=hc
      have hgt:=blt_lt hgt
      obtain ⟨nc,hnc,hrun⟩:=run_append_out (P:=P) (w:=w) (ty:=ty) (olds:=olds) ht hkn hzr' hxt hsrc hold.runD hgt (roomle _ hroom)
      exact ⟨_,_,_,hk,(fun hh=>by cases hh),_,_,hrun,grow_res hr hold.size hold.lens hold.one_cell hsrc _ (fun hf=>by
       simp only [Bool.and_eq_true] at hf
       exact ⟨plainUpTo_all hf.1 hold.flat,plainUpTo_all hf.2 hsrc.flat⟩) hz2 hnc⟩
  | own i ver off len cap =>
   dsimp only at hk
   obtain ⟨b,hb,hver,hk⟩:=blk_of hk
   obtain ⟨hc,hk⟩:=bif_none hk
   simp only [Bool.and_eq_true,beq_iff_eq] at hc
   obtain ⟨hsz,hle⟩:=hc
   have hle:=ble_le hle
   obtain ⟨n',gs',fl0,olds,e0,hold⟩:=source_sound (P:=P) (R:=Nat × (Nat->List T) × Bool) (sz:=szTy P e) (x:=.own i ver off len cap) (k:=fun a b c=>some (a,b,c)) (r:=(len,(fun j=>b.get (off+j)),b.flat))
    (by simp [source,withBlk,hb,hver,hsz,Nat.ble_eq_true_of_le hle]) hr hs
   have e0:=e0.symm
   simp only [Option.some.injEq,Prod.mk.injEq] at e0
   obtain ⟨rfl,rfl,rfl⟩:=e0
   obtain ⟨cb,sh,cc,ad,e1,rfl,es,e2,e3,e4,e5,e6,e7⟩:=own_slice hb hver hs
   obtain ⟨cb',sh',arr,e',hok⟩:=hr.blk i b hb
   rw [hok.φ] at e1
   obtain ⟨rfl,rfl⟩:=Prod.mk.inj (Option.some.inj e1)
   rcases bif_some hk with ⟨hm,hk⟩ | ⟨hm,hk⟩
   ·have hm:m = 0:=by simpa using hm
    subst hm
    refine ⟨_,_,_,hk,fun _=>rfl,_,w,run_append_in (P:=P) ht hkn hxt hsrc (by omega) ?_,.pure hr hs⟩
    have:news = []:=by have:=hsrc.size; simp at this; exact this
    subst this
    simp [storeCells]
   ·have hm:m ≠ 0:=by simpa using hm
    obtain ⟨hroom,hk⟩:=bif_none hk
    have hroom2:=room_is hok.heap e6
    rw [← hsz] at hsrc hold hz2
    have inplace:len+m<=cc->(Builtin.append_ #[t,tx] ty #[.slice (some ad) len cc,cx]).run P w =
     .ok (.slice (some ad) (len+m) cc) (w.setRow cb' (arr.toList.take (sh'+(off+len) * b.sz) ++ news ++ arr.toList.drop (sh'+(off+len) * b.sz+news.length)).toArray)/\sh'+(off+len) * b.sz+news.length<=arr.size:=by
     intro hfit
     have hfits:sh'+(off+len) * b.sz+news.length<=arr.size:=by
      rw [hsrc.size]
      refine Nat.le_trans ?_ hroom2
      have:(off+len) * b.sz+m * b.sz<=(off+cc) * b.sz:=by rw [← Nat.add_mul]; exact Nat.mul_le_mul_right _ (by omega)
      omega
     refine ⟨run_append_in (P:=P) ht hkn hxt (hsz ▸ hsrc) hfit ?_,hfits⟩
     rw [e2 (by omega)]
     dsimp only
     rw [add_none,← hsz,Nat.add_assoc,← Nat.add_mul]
     have:=run_storeCells_at P cb' (sh'+(off+len) * b.sz) e' news 0 arr w hok.heap (by simpa using hfits) hsrc.one
     simpa using this
    have grows:cc<len+m →
     ∃ nc,len+m<=nc/\(Builtin.append_ #[t,tx] ty #[.slice (some ad) len cc,cx]).run P w = .ok (.slice (some ⟨w.heap.size,0,none⟩) (len+m) nc) (w.drew.alloc (.cells (olds.toArray ++ news.toArray ++ Builtin.zeroCells z'.cells (nc - (len+m))) e)) :=
     fun hgt=>run_append_out (P:=P) (w:=w) (ty:=ty) (olds:=olds) ht hkn hzr' hxt (hsz ▸ hsrc) (hsz ▸ hold).runD hgt (roomle _ hroom)
    have hfl:(b.flat&&plainUpTo m gx fl) = true->(∀ j,j<len->∀ c,c ∈ b.get (off+j)->plain0 c = true)/\∀ j,j<m->∀ c,c ∈ gx j->plain0 c = true:=by
     intro hf
     simp only [Bool.and_eq_true] at hf
     exact ⟨hold.flat hf.1,plainUpTo_all hf.2 hsrc.flat⟩
    cases cap with
    | some c =>
     obtain ⟨rfl,hcn⟩:=e4 c rfl
     dsimp only at hk
     rcases bif_some hk with ⟨hfit,hk⟩ | ⟨hfit,hk⟩
     ·have hfit:=ble_le hfit
      obtain ⟨_,hk⟩:=bif_none hk
      obtain ⟨hrun,hfits⟩:=inplace hfit
      obtain ⟨g',f1,hr',hkeep,hfr⟩:=put_res hr hb hok (p:=off+len) (m:=m) hsrc.lens hsrc.size hsrc.one_cell (b.flat&&plainUpTo m gx fl) (fun hf=>by
       simp only [Bool.and_eq_true] at hf
       exact ⟨hf.1,plainUpTo_all hf.2 hsrc.flat⟩) hfits
      refine ⟨_,_,_,hk,(fun hh=>by cases hh),_,_,hrun,g',hr',.own _ _ _ _ _ _ _ (List.getElem?_set_self (lt_of_get hb)) (Nat.le_of_eq hver.symm) rfl fun _=>⟨cb',sh',cc,ad,f1,rfl,es,e2,hfit,fun m' hm'=>?_,?_,⟨_,e',setRow_at w cb' arr _ e' hok.heap,by rw [written_size arr news _ hfits]; exact hroom2⟩,fun hc=>(by cases hc)⟩,hkeep,hfr⟩
      ·simp only [Option.some.injEq] at hm'; subst hm'; exact ⟨rfl,hcn⟩
      ·dsimp only; omega
     ·have hgt:cc<len+m:=by
       rcases Nat.lt_or_ge cc (len+m) with hq | hq
       ·exact hq
       ·rw [Nat.ble_eq_true_of_le hq] at hfit; cases hfit
      obtain ⟨nc,hnc,hrun⟩:=grows hgt
      exact ⟨_,_,_,hk,(fun hh=>by cases hh),_,_,hrun,grow_res (P:=P) (e:=e) hr hold.size hold.lens hold.one_cell hsrc _ hfl hz2 hnc⟩
    | none =>
     dsimp only at hk
     rw [← hver] at hk
     rcases bif_some hk with ⟨hin,hk⟩ | ⟨_,hk⟩
     ·have hin:=ble_le hin
      have hcb:=e7 rfl
      obtain ⟨hrun,hfits⟩:=inplace (by omega)
      obtain ⟨g',f1,hr',hkeep,hfr⟩:=put_res hr hb hok (p:=off+len) (m:=m) hsrc.lens hsrc.size hsrc.one_cell (b.flat&&plainUpTo m gx fl) (fun hf=>by
       simp only [Bool.and_eq_true] at hf
       exact ⟨hf.1,plainUpTo_all hf.2 hsrc.flat⟩) hfits
      exact ⟨_,_,_,hk,(fun hh=>by cases hh),_,_,hrun,g',hr',.own _ _ _ _ _ _ _ (List.getElem?_set_self (lt_of_get hb)) (Nat.le_refl _) rfl fun _=>⟨cb',sh',cc,ad,f1,rfl,es,e2,by omega,fun m' hm'=>(by cases hm'),by dsimp only; omega,⟨_,e',setRow_at w cb' arr _ e' hok.heap,by rw [written_size arr news _ hfits]; exact hroom2⟩,fun _=>hcb⟩,hkeep,hfr⟩
     refine ⟨_,_,_,hk,(fun hh=>by cases hh),?_⟩
     rcases Nat.lt_or_ge cc (len+m) with hgt | hfit
     ·obtain ⟨nc,hnc,hrun⟩:=grows hgt
      refine ⟨_,_,hrun,?_⟩
      have hsz':=cat_size (nc:=nc) hold.size hsrc.size hz2 hnc
      exact rehome_res hr hb (cb:=w.heap.size) (sh:=0) (arr:=olds.toArray ++ news.toArray ++ Builtin.zeroCells z'.cells (nc - (len+m))) (e:=e) _ (by simp) (fun k hk _=>RowKit.Below.heap_alloc w.drew _ _ hk) (heap_new w.drew _) (.inr (Nat.le_refl _))
       (fun n hn=>by obtain ⟨a',e'',q1,_⟩:=hn; have:=lt_of_heap q1; omega) (by rw [hsz',Nat.zero_add]; exact Nat.mul_le_mul_right _ hnc)
       (cat_lens hold.lens hsrc _ _) (fun j o c hj ho=>cat_cells hold.size hold.one_cell hsrc _ _ hj ho) (fun hf=>cat_flat _ _ (hfl hf).1 (hfl hf).2) rfl rfl ⟨rfl,Nat.le_succ _⟩ rfl (fun _=>rfl) hnc (by rw [hsz',Nat.zero_add]; exact Nat.le_refl _)
     ·obtain ⟨hrun,hfits⟩:=inplace hfit
      refine ⟨_,_,hrun,?_⟩
      have hws:=written_size arr news _ hfits
      refine rehome_res hr hb (cb:=cb') (sh:=sh'+off * b.sz) (arr:=(arr.toList.take (sh'+(off+len) * b.sz) ++ news ++ arr.toList.drop (sh'+(off+len) * b.sz+news.length)).toArray) (e:=e') _ (by simp [World.setRow]) (fun k _ hne=>setRow_other w cb' k _ hne) (setRow_at w cb' arr _ e' hok.heap) (.inl hok.own)
       (fun n hn=>by rw [hws]; exact room_is hok.heap hn) ?_ (cat_lens hold.lens hsrc _ _) (fun j o c hj ho=>?_) (fun hf=>cat_flat _ _ (hfl hf).1 (hfl hf).2) rfl rfl ⟨rfl,Nat.le_refl _⟩ es e2 hfit ?_
      ·rw [hws]
       refine Nat.le_trans ?_ hroom2
       have:off * b.sz+(len+m) * b.sz<=(off+cc) * b.sz:=by rw [← Nat.add_mul]; exact Nat.mul_le_mul_right _ (by omega)
       omega
      ·rw [written arr _ _ _ hfits]
       have hos:o<b.sz:=by
        have hlt:=lt_of_get ho
        rw [cat_lens hold.lens hsrc _ _ j hj] at hlt
        exact hlt
       simp only [catBlk,Bool.cond_eq_ite] at ho
       rw [Nat.add_mul off len] at *
       split at ho
       ·rename_i hlt
        have hlt:=blt_lt hlt
        have hj2:(j+1) * b.sz<=len * b.sz:=Nat.mul_le_mul_right _ hlt
        rw [Nat.add_mul,Nat.one_mul] at hj2
        rw [if_neg (by omega)]
        have:=hok.cell (off+j) o c (by omega) ho
        rw [Nat.add_mul,← Nat.add_assoc] at this
        exact this
       ·rename_i hge
        have hge:len<=j:=by
         rcases Nat.lt_or_ge j len with hq | hq
         ·exact absurd (Nat.ble_eq_true_of_le hq) hge
         ·exact hq
        obtain ⟨u,u1,u2,u3⟩:=hsrc.one_cell (j - len) o c (by omega) ho
        have hj1:len * b.sz<=j * b.sz:=Nat.mul_le_mul_right _ hge
        have hj2:(j+1) * b.sz<=(len+m) * b.sz:=Nat.mul_le_mul_right _ hj
        rw [Nat.add_mul,Nat.one_mul,Nat.add_mul len] at hj2
        have hj3:(j - len) * b.sz = j * b.sz - len * b.sz:=Nat.sub_mul _ _ _
        rw [if_pos ⟨by omega,by rw [hsrc.size]; omega⟩]
        refine ⟨u,?_,u2,u3⟩
        rw [← u1,hj3]
        congr 1
        omega
      ·rw [hws]
       refine Nat.le_trans ?_ hroom2
       rw [Nat.add_mul]
       omega
  | _=>simp at hk
theorem semCopy_sound {t tx ty:TypeId} {d x:T} {cd cx:Value} {k:Kont R} {r:R} (hk:semCopy P t d x h k = some r) (hr:HR g h w) (hd:g.VR h w d cd) (hx:g.VR h w x cx) :
 ∃ y h' wr,k y h' wr = some r/\(wr = false->h' = h)/\∃ v w',(Builtin.copy_ #[t,tx] ty #[cd,cx]).run P w = .ok v w'/\Res g h w y h' v w':=by
 unfold semCopy at hk
 cases he:elemTy P t with
 | none=>simp [he] at hk
 | some e =>
  rw [he] at hk
  obtain ⟨hkn,hk⟩:=bif_none hk
  have ht:=elemTy_eq he
  obtain ⟨m,gx,fl,news,hk,hsrc⟩:=source2_sound (P:=P) hk hr hx
  cases d with
  | nils =>
   dsimp only at hk
   obtain rfl:=hd.nils
   refine ⟨_,_,_,hk,fun _=>rfl,goInt 0,w,?_,.pure hr (.imm _ _ (.int _ _))⟩
   have h0:=hsrc.run 0 (Nat.zero_le _)
   simp only [Nat.zero_mul,List.take_zero] at h0
   unfold Builtin.copy_
   simp only [List.getElem?_toArray,List.getElem?_cons_zero,List.getElem?_cons_succ,Sem.run_bind,run_underlying' ht,Result.andThen_ok,hsrc.len,run_size hkn]
   rw [show Nat.min m 0 = 0 from Nat.min_zero m,h0]
   rfl
  | own i ver off len cap =>
   dsimp only at hk
   obtain ⟨b,hb,hver,hk⟩:=blk_of hk
   obtain ⟨hc,hk⟩:=bif_none hk
   simp only [Bool.and_eq_true,beq_iff_eq] at hc
   obtain ⟨hsz,hle⟩:=hc
   have hle:=ble_le hle
   obtain ⟨cb,sh,cc,ad,e1,rfl,es,e2,e3,e4,e5,e6,e7⟩:=own_slice hb hver hd
   obtain ⟨cb',sh',arr,e',hok⟩:=hr.blk i b hb
   rw [hok.φ] at e1
   obtain ⟨rfl,rfl⟩:=Prod.mk.inj (Option.some.inj e1)
   have hroom2:=room_is hok.heap e6
   rw [← hsz] at hsrc
   have hmin:Nat.min m len<=m:=Nat.min_le_left _ _
   have hmin2:Nat.min m len<=len:=Nat.min_le_right _ _
   have hnl:(news.take (Nat.min m len * b.sz)).length = Nat.min m len * b.sz:=by
    rw [List.length_take,hsrc.size]
    exact Nat.min_eq_left (Nat.mul_le_mul_right _ hmin)
   have hfits:sh'+off * b.sz+(news.take (Nat.min m len * b.sz)).length<=arr.size:=by
    rw [hnl]
    refine Nat.le_trans ?_ hroom2
    have:off * b.sz+Nat.min m len * b.sz<=(off+cc) * b.sz:=by rw [← Nat.add_mul]; exact Nat.mul_le_mul_right _ (by omega)
    omega
   obtain ⟨g',f1,hr',hkeep,hfr⟩:=put_res hr hb hok (p:=off) (m:=Nat.min m len) (gx:=gx) (news:=news.take (Nat.min m len * b.sz)) (fun j hj=>hsrc.lens j (by omega)) hnl (fun j o c hj ho=>by
    obtain ⟨u,u1,u2,u3⟩:=hsrc.one_cell j o c (by omega) ho
    refine ⟨u,?_,u2,u3⟩
    rw [List.getElem?_take,if_pos ?_]
    ·exact u1
    ·have ho':=lt_of_get ho
     rw [hsrc.lens j (by omega)] at ho'
     have:(j+1) * b.sz<=Nat.min m len * b.sz:=Nat.mul_le_mul_right _ hj
     rw [Nat.add_mul,Nat.one_mul] at this
     omega) (b.flat&&plainUpTo m gx fl) (fun hf=>by
    simp only [Bool.and_eq_true] at hf
    exact ⟨hf.1,fun j hj=>plainUpTo_all hf.2 hsrc.flat j (by omega)⟩) hfits
   refine ⟨_,_,_,hk,(fun hh=>by cases hh),goInt (Nat.min m len:Nat),_,?_,g',hr',.imm _ _ (.int _ _),hkeep,hfr⟩
   have hst:(storeCells ad (news.take (Nat.min m len * b.sz))).run P w = .ok () (w.setRow cb' (arr.toList.take (sh'+off * b.sz) ++ news.take (Nat.min m len * b.sz) ++ arr.toList.drop (sh'+off * b.sz+(news.take (Nat.min m len * b.sz)).length)).toArray):=by
    by_cases h0:0<cc
    ·rw [e2 h0]
     have:=run_storeCells_at P cb' (sh'+off * b.sz) e' (news.take (Nat.min m len * b.sz)) 0 arr w hok.heap (by simpa using hfits) (fun v hv=>hsrc.one v (List.mem_of_mem_take hv))
     simpa using this
    ·have e0:Nat.min m len = 0:=by omega
     rw [e0]
     simp only [Nat.zero_mul,List.take_zero,storeCells,List.append_nil,List.length_nil,Nat.add_zero,List.take_append_drop,Array.toArray_toList]
     rw [setRow_self w cb' arr e' (0,0) hok.heap]
     rfl
   unfold Builtin.copy_
   simp only [List.getElem?_toArray,List.getElem?_cons_zero,List.getElem?_cons_succ,Sem.run_bind,run_underlying' ht,Result.andThen_ok,hsrc.len,run_size hkn]
   rw [← hsz,hsrc.run _ hmin]
   simp only [Result.andThen_ok,hst]
   rfl
  | _=>simp at hk
theorem semClear_sound {t ty:TypeId} {d:T} {cd:Value} {k:Kont R} {r:R} (hk:semClear P t d h k = some r) (hr:HR g h w) (hd:g.VR h w d cd) :
 ∃ y h' wr,k y h' wr = some r/\(wr = false->h' = h)/\∃ v w',(Builtin.clear_ #[t] ty #[cd]).run P w = .ok v w'/\Res g h w y h' v w':=by
 unfold semClear at hk
 cases he:elemTy P t with
 | none=>simp [he] at hk
 | some e =>
  rw [he] at hk
  obtain ⟨hz,hk⟩:=bif_none hk
  obtain ⟨z,hzr,hkn,hz1,hz2,hz3,hz4⟩:=zero_run (P:=P) (g:=g) (h:=h) (w:=w) hz
  have ht:=elemTy_eq he
  have tup0:∀ {g':Gh} {h':Heap} {w':World},g'.VR h' w' (.tup []) (.tuple #[]):=fun {_ _ _}=>VR.mk_tup rfl (fun i c hi=>by simp at hi)
  cases d with
  | nils =>
   dsimp only at hk
   obtain rfl:=hd.nils
   refine ⟨_,_,_,hk,fun _=>rfl,.tuple #[],w,?_,.pure hr tup0⟩
   unfold Builtin.clear_
   simp [run_underlying' ht]
  | own i ver off len cap =>
   dsimp only at hk
   obtain ⟨b,hb,hver,hk⟩:=blk_of hk
   obtain ⟨hc,hk⟩:=bif_none hk
   simp only [Bool.and_eq_true,beq_iff_eq] at hc
   obtain ⟨hsz,hle⟩:=hc
   have hle:=ble_le hle
   obtain ⟨cb,sh,cc,ad,e1,rfl,es,e2,e3,e4,e5,e6,e7⟩:=own_slice hb hver hd
   obtain ⟨cb',sh',arr,e',hok⟩:=hr.blk i b hb
   rw [hok.φ] at e1
   obtain ⟨rfl,rfl⟩:=Prod.mk.inj (Option.some.inj e1)
   have hroom2:=room_is hok.heap e6
   rw [← hsz] at hz2
   have hnl:(Builtin.zeroCells z.cells len).toList.length = len * b.sz:=by rw [Array.length_toList,size_zeroCells,hz2]
   have hfits:sh'+off * b.sz+(Builtin.zeroCells z.cells len).toList.length<=arr.size:=by
    rw [hnl]
    refine Nat.le_trans ?_ hroom2
    have:off * b.sz+len * b.sz<=(off+cc) * b.sz:=by rw [← Nat.add_mul]; exact Nat.mul_le_mul_right _ (by omega)
    omega
   have hcell:∀ j o c,j<len->(zeroTy P e)[o]? = some c->∃ u,(Builtin.zeroCells z.cells len).toList[j * b.sz+o]? = some u/\u.oneCell' = true/\g.VR h w c u:=by
    intro j o c hj ho
    obtain ⟨u,u1,u2⟩:=hz4 o c ho
    refine ⟨u,?_,hz3 o u u1,u2⟩
    have:=replicate_cells hz1 hz2 len j o c hj ho
    rw [Array.getElem?_toList]
    unfold Builtin.zeroCells
    rw [hz2]
    rw [hz2] at this
    rw [this,u1]
   obtain ⟨g',f1,hr',hkeep,hfr⟩:=put_res hr hb hok (p:=off) (m:=len) (gx:=fun _=>zeroTy P e) (news:=(Builtin.zeroCells z.cells len).toList) (fun j hj=>by rw [hz1,hz2]) hnl hcell
    (b.flat&&(zeroTy P e).all plain0) (fun hf=>by
     simp only [Bool.and_eq_true] at hf
     exact ⟨hf.1,fun j hj c hc=>List.all_eq_true.1 hf.2 c hc⟩) hfits
   refine ⟨_,_,_,hk,(fun hh=>by cases hh),.tuple #[],_,?_,g',hr',tup0,hkeep,hfr⟩
   have hone:∀ v,v ∈ (Builtin.zeroCells z.cells len).toList->v.oneCell' = true:=by
    intro v hv
    simp only [Builtin.zeroCells,Array.toList_map,List.mem_map] at hv
    obtain ⟨q,hq,rfl⟩:=hv
    have hql:q<len * z.cells.size:=by simpa using hq
    have hzpos:0<z.cells.size:=by
     rcases Nat.eq_zero_or_pos z.cells.size with h0 | h0
     ·rw [h0] at hql; omega
     ·exact h0
    have hqm:=Nat.mod_lt q hzpos
    rw [Array.getElem!_eq_getD,Array.getD_eq_getD_getElem?,Array.getElem?_eq_getElem hqm]
    exact hz3 _ _ (Array.getElem?_eq_getElem hqm)
   have hst:0<len->(storeCells ad (Builtin.zeroCells z.cells len).toList).run P w = .ok () (w.setRow cb' (arr.toList.take (sh'+off * b.sz) ++ (Builtin.zeroCells z.cells len).toList ++ arr.toList.drop (sh'+off * b.sz+(Builtin.zeroCells z.cells len).toList.length)).toArray):=by
    intro h0
    rw [e2 (by omega)]
    have:=run_storeCells_at P cb' (sh'+off * b.sz) e' (Builtin.zeroCells z.cells len).toList 0 arr w hok.heap (by simpa using hfits) hone
    simpa using this
   unfold Builtin.clear_
   simp only [List.getElem?_toArray,List.getElem?_cons_zero,Sem.run_bind,run_underlying' ht,Result.andThen_ok]
   rcases Nat.eq_zero_or_pos len with h0 | h0
   ·subst h0
    have e0:(Builtin.zeroCells z.cells 0).toList = []:=by simp [Builtin.zeroCells]
    rw [e0]
    simp only [List.append_nil,List.length_nil,Nat.add_zero,List.take_append_drop,Array.toArray_toList]
    rw [setRow_self w cb' arr e' (0,0) hok.heap]
    simp
   ·cases len with
    | zero=>omega
    | succ n =>
     simp only [Sem.run_bind,hzr,Result.andThen_ok,hst h0]
     rfl
  | _=>simp at hk
end
section
variable {P:Program} {R:Type} {g:Gh} {h:Heap} {w:World}
theorem plain0_vi {c:T} {v:Value} {U U':Nat->Prop} (hp:plain0 c = true) (hv:VI w U c v):VI w U' c v:=by
 cases hv <;> first
  | exact .undef _ | exact .bool _ | exact .int _ _ | exact .str _ _ ‹_›
  | (simp [plain0] at hp; done)
theorem plain0_vr {c:T} {v:Value} {U':Nat->Prop} (hp:plain0 c = true) (hv:g.VR h w c v):VI w U' c v:=by
 cases hv with
 | imm _ _ hv=>exact plain0_vi hp hv
 | _=>simp [plain0] at hp
theorem imm0_vi {c:T} {v:Value} (hp:imm0 c = true) (hv:g.VR h w c v):VI w g.U c v:=by
 cases hv with
 | imm _ _ hv=>exact hv
 | fn f caps cs vs hl hc hv =>
  have:caps = []:=by simpa [imm0] using hp
  subst this
  exact .fn f [] cs vs hl (fun i c hi=>by simp at hi) (fun i c hi=>by simp at hi)
 | _=>simp [imm0] at hp
theorem imm_vi {c:T} {v:Value} (hp:imm c = true) (hv:g.VR h w c v):VI w g.U c v:=by
 cases hv with
 | imm _ _ hv=>exact hv
 | fn f caps cs vs hl hc hv =>
  have:=List.all_eq_true.1 (show caps.all imm0 = true from hp)
  exact .fn f caps cs vs hl hc (fun i c hi=>imm0_vi (this c (List.mem_of_getElem? hi)) (hv i c hi))
 | agg l cs vs hl h1 hc hv =>
  have:=List.all_eq_true.1 (show l.all imm0 = true from hp)
  exact .agg l cs vs hl h1 hc (fun i c hi=>imm0_vi (this c (List.mem_of_getElem? hi)) (hv i c hi))
 | tup l cs vs hl hc hv =>
  have:=List.all_eq_true.1 (show l.all imm0 = true from hp)
  exact .tup l cs vs hl hc (fun i c hi=>imm0_vi (this c (List.mem_of_getElem? hi)) (hv i c hi))
 | iface t x v hv=>exact .iface t x v (imm0_vi (show imm0 x = true from hp) hv)
 | _=>simp [imm,imm0] at hp
structure Reads (g:Gh) (h:Heap) (w:World) (ex:List Nat) (V:Nat->Prop):Prop where
 u:∀ b,g.U b->V b
 own:∀ i b cb sh,h[i]? = some b->i ∉ ex->g.φ i = some (cb,sh)->V cb
theorem keepU_of {V:Nat->Prop} (hV:∀ b,g.U b->V b):KeepU w g.U w V:=fun b hb=>⟨hV b hb,rfl⟩
theorem map_get {f:T->T} {l:List T} {o:Nat} {c:T} (hc:(l.map f)[o]? = some c):∃ c0,l[o]? = some c0/\c = f c0:=by
 rw [List.getElem?_map] at hc
 cases hl:l[o]? with
 | none=>simp [hl] at hc
 | some c0=>rw [hl] at hc; exact ⟨c0,rfl,(Option.some.inj hc).symm⟩
theorem view_of (hr:HR g h w) {V:Nat->Prop} {i ver off len:Nat} {cap:Option Nat} {b:Blk} {v:Value} (hb:h[i]? = some b) (hver:b.ver = ver) (hx:g.VR h w (.own i ver off len cap) v) (hle:off+len<=b.n)
 (hV:∀ cb sh,g.φ i = some (cb,sh)->V cb) (gg:Nat->List T) (hl:∀ j,j<len->(gg j).length = b.sz)
 (hg:∀ (j o:Nat) (c:T) (u:Value),j<len->(gg j)[o]? = some c->∀ c0:T,(b.get (off+j))[o]? = some c0->g.VR h w c0 u->(b.flat = true->plain0 c0 = true)->VI w V c u) :
 VI w V (.view b.sz len gg cap) v:=by
 obtain ⟨cb,sh,cc,ad,e1,rfl,es,e2,e3,e4,e5,e6,e7⟩:=own_slice hb hver hx
 obtain ⟨cb',sh',arr,e',hok⟩:=hr.blk i b hb
 rw [hok.φ] at e1
 obtain ⟨rfl,rfl⟩:=Prod.mk.inj (Option.some.inj e1)
 have key:∀ j o c,j<len->(gg j)[o]? = some c->∃ u,cellAt w ad.block (ad.off+j * b.sz+o) u/\VI w V c u:=by
  intro j o c hj ho
  have had:=e2 (by omega)
  subst had
  have ho':=lt_of_get ho
  rw [hl j hj] at ho'
  have hlen:=hok.len (off+j) (by omega)
  have hc0:(b.get (off+j))[o]? = some (b.get (off+j))[o]:=List.getElem?_eq_getElem (by omega)
  obtain ⟨u,hu,hur⟩:=hok.cellsAt (j:=off+j) (by omega) o _ hc0
  refine ⟨u,?_,hg j o c u hj ho _ hc0 hur (fun hf=>hok.flat hf _ (by omega) _ (List.mem_of_getElem? hc0))⟩
  dsimp only
  rw [Nat.add_mul] at hu
  have e:sh'+off * b.sz+j * b.sz+o = sh'+(off * b.sz+j * b.sz)+o:=by omega
  rw [e]; exact hu
 let vs:Nat->Nat->Value:=fun j o=>(w.cell? ⟨ad.block,ad.off+j * b.sz+o,none⟩).getD Go.undef
 have hvs:∀ j o c,j<len->(gg j)[o]? = some c->cellAt w ad.block (ad.off+j * b.sz+o) (vs j o)/\VI w V c (vs j o):=by
  intro j o c hj ho
  obtain ⟨u,hu,hur⟩:=key j o c hj ho
  have:vs j o = u:=by simp [vs,hu.1]
  rw [this]; exact ⟨hu,hur⟩
 refine .view b.sz len gg cap ad cc vs (fun _=>es) (fun m hm=>(e4 m hm).1) e3 (fun hp=>?_) hl (fun j o c hj ho=>(hvs j o c hj ho).1) (fun j o c hj ho=>(hvs j o c hj ho).2)
 have had:=e2 (by omega)
 subst had
 exact hV _ _ hok.φ
theorem vp_of (hr:HR g h w) {V:Nat->Prop} {i ver j o:Nat} {b:Blk} {v:Value} (hb:h[i]? = some b) (hver:b.ver = ver) (hx:g.VR h w (.ptr i ver j o) v) (hj:j<b.n)
 (hV:∀ cb sh,g.φ i = some (cb,sh)->V cb) (cells:List T)
 (hg:∀ (n:Nat) (c:T),cells[n]? = some c->∃ c0:T,(b.get j)[o+n]? = some c0/\∀ u:Value,g.VR h w c0 u->(b.flat = true->plain0 c0 = true)->VI w V c u) :
 VI w V (.vp cells) v:=by
 obtain ⟨b',hb',_,_,hp⟩:=hx.ptr_inv
 rw [hb] at hb'
 obtain rfl:=Option.some.inj hb'
 obtain ⟨cb,sh,e1,rfl⟩:=hp hver
 obtain ⟨cb',sh',arr,e',hok⟩:=hr.blk i b hb
 rw [hok.φ] at e1
 obtain ⟨rfl,rfl⟩:=Prod.mk.inj (Option.some.inj e1)
 have key:∀ n c,cells[n]? = some c->∃ u,cellAt w cb' (sh'+j * b.sz+o+n) u/\VI w V c u:=by
  intro n c hn
  obtain ⟨c0,h0,hv⟩:=hg n c hn
  obtain ⟨u,hu,hur⟩:=hok.cellsAt hj (o+n) c0 h0
  exact ⟨u,by rw [Nat.add_assoc]; exact hu,hv u hur (fun hf=>hok.flat hf _ hj _ (List.mem_of_getElem? h0))⟩
 let vs:Nat->Value:=fun n=>(w.cell? ⟨cb',sh'+j * b.sz+o+n,none⟩).getD Go.undef
 have hvs:∀ n c,cells[n]? = some c->cellAt w cb' (sh'+j * b.sz+o+n) (vs n)/\VI w V c (vs n):=by
  intro n c hn
  obtain ⟨u,hu,hur⟩:=key n c hn
  have:vs n = u:=by simp [vs,hu.1]
  rw [this]; exact ⟨hu,hur⟩
 exact .vp cells _ vs rfl (fun _=>hV _ _ hok.φ) (fun n c hn=>(hvs n c hn).1) (fun n c hn=>(hvs n c hn).2)
theorem bif_imm0 {x:T} {v:Value} {V:Nat->Prop} (hV:∀ b,g.U b->V b) (hx:g.VR h w x v):VI w V (bif imm0 x then x else .undef) v:=by
 cases hi:imm0 x with
 | true=>exact (imm0_vi hi hx).keep (keepU_of hV)
 | false=>exact .undef _
theorem resolve_vi (hr:HR g h w) {ex:List Nat} {V:Nat->Prop} (hV:Reads g h w ex V):∀ (d:Nat) (x:T) (v:Value),g.VR h w x v->VI w V (resolve d ex h x) v
 | 0,x,v,hx=>bif_imm0 hV.u hx
 | d+1,x,v,hx=>by
  have ih:=resolve_vi hr hV d
  cases x with
  | own i ver off len cap =>
   simp only [resolve]
   cases hex:ex.contains i with
   | true=>exact .undef _
   | false =>
    have hni:i ∉ ex:=by simpa using hex
    simp only [cond_false]
    cases hb:h[i]? with
    | none=>exact .undef _
    | some b =>
     dsimp only
     cases hc:(b.ver==ver&&Nat.ble (off+len) b.n) with
     | false=>exact .undef _
     | true =>
      simp only [Bool.and_eq_true,beq_iff_eq] at hc
      have hle:=ble_le hc.2
      obtain ⟨cb,sh,arr,e',hok⟩:=hr.blk i b hb
      refine view_of hr hb hc.1 hx hle (fun cb sh hφ=>hV.own i b cb sh hb hni hφ) _ (fun j hj=>?_) (fun j o c u hj ho c0 h0 hv hpl=>?_)
      ·cases b.flat with
       | true=>exact hok.len _ (by omega)
       | false=>simp only [cond_false,List.length_map]; exact hok.len _ (by omega)
      ·cases hfl:b.flat with
       | true =>
        rw [hfl] at ho hpl
        simp only [cond_true] at ho
        rw [ho] at h0
        obtain rfl:=Option.some.inj h0
        exact plain0_vr (hpl rfl) hv
       | false =>
        rw [hfl] at ho
        simp only [cond_false] at ho
        obtain ⟨c1,h1,rfl⟩:=map_get ho
        rw [h1] at h0
        obtain rfl:=Option.some.inj h0
        exact ih _ _ hv
  | ptr i ver j o =>
   simp only [resolve]
   cases hex:ex.contains i with
   | true=>exact .undef _
   | false =>
    have hni:i ∉ ex:=by simpa using hex
    simp only [cond_false]
    cases hb:h[i]? with
    | none=>exact .undef _
    | some b =>
     dsimp only
     cases hc:(b.ver==ver&&Nat.blt j b.n) with
     | false=>exact .undef _
     | true =>
      simp only [Bool.and_eq_true,beq_iff_eq] at hc
      have hlt:=blt_lt hc.2
      refine vp_of hr hb hc.1 hx hlt (fun cb sh hφ=>hV.own i b cb sh hb hni hφ) _ (fun n c hn=>?_)
      cases hfl:b.flat with
      | true =>
       rw [hfl] at hn
       simp only [cond_true,List.getElem?_drop] at hn
       exact ⟨c,hn,fun u hu hpl=>plain0_vr (hpl rfl) hu⟩
      | false =>
       rw [hfl] at hn
       simp only [cond_false] at hn
       obtain ⟨c1,h1,rfl⟩:=map_get hn
       rw [List.getElem?_drop] at h1
       exact ⟨c1,h1,fun u hu _=>ih _ _ hu⟩
  | agg l =>
   obtain ⟨cs,rfl,hl,h1,hc⟩:=hx.agg_inv
   simp only [resolve]
   refine VI.mk_agg (by simpa using hl) h1 (fun i c hi=>?_)
   obtain ⟨c0,h0,rfl⟩:=map_get hi
   obtain ⟨u,hu,hr'⟩:=hc i c0 h0
   exact ⟨u,hu,ih _ _ hr'⟩
  | tup l =>
   obtain ⟨cs,rfl,hl,hc⟩:=hx.tup_inv
   simp only [resolve]
   refine VI.mk_tup (by simpa using hl) (fun i c hi=>?_)
   obtain ⟨c0,h0,rfl⟩:=map_get hi
   obtain ⟨u,hu,hr'⟩:=hc i c0 h0
   exact ⟨u,hu,ih _ _ hr'⟩
  | fn f l =>
   obtain ⟨cs,rfl,hl,hc⟩:=hx.fn_inv
   simp only [resolve]
   refine VI.mk_fn (by simpa using hl) (fun i c hi=>?_)
   obtain ⟨c0,h0,rfl⟩:=map_get hi
   obtain ⟨u,hu,hr'⟩:=hc i c0 h0
   exact ⟨u,hu,ih _ _ hr'⟩
  | iface t x =>
   simp only [resolve]
   cases hx with
   | imm _ _ hv=>cases hv with | iface _ _ u hu=>exact .iface _ _ _ (ih _ _ (.imm _ _ hu))
   | iface _ _ u hu=>exact .iface _ _ _ (ih _ _ hu)
  | _=>exact bif_imm0 hV.u hx
theorem reads_all (hr:HR g h w):Reads g h w [] (fun b=>b<w.heap.size) :=
 ⟨fun b hb=>(hr.u b hb).1,fun i b cb sh hb _ hφ=>by
  obtain ⟨cb',sh',arr,e',hok⟩:=hr.blk i b hb
  rw [hok.φ] at hφ
  obtain ⟨rfl,rfl⟩:=Prod.mk.inj (Option.some.inj hφ)
  exact lt_of_heap hok.heap⟩
theorem resolveArg_vi (hr:HR g h w) {x:T} {v:Value} (hx:g.VR h w x v):VI w (fun b=>b<w.heap.size) (resolveArg h x) v:=by
 unfold resolveArg
 cases hi:imm x with
 | true=>exact (imm_vi hi hx).keep (keepU_of (reads_all hr).u)
 | false=>exact resolve_vi hr (reads_all hr) 4 x v hx
inductive RT0 (w:World) (B:Nat) (U:Nat->Prop):T->Value->List Nat->Prop
 | vi (x:T) (v:Value) (hv:VI w U x v):RT0 w B U x v []
 | nw (x:T) (v:Value) (hv:VI w (fun b=>U b/\B<=b) x v):RT0 w B U (.new x) v []
 | fresh (flat:Bool) (sz n:Nat) (gg:Nat->List T) (len:Nat) (cap:Option Nat) (cb sh cc:Nat) (ad:Addr) (arr:Array Value) (e:TypeId)
  (es:ad.spot = none) (e2:0<cc->ad = ⟨cb,sh,none⟩) (e3:len<=cc) (e4:∀ m,cap = some m->cc = m/\m<=n) (e5:len<=n) (e7:cap = none->n<=cc) (hh:w.heap[cb]? = some (.cells arr e (0,0)))
  (r1:sh+n * sz<=arr.size) (r2:sh+cc * sz<=arr.size) (hl:∀ j,j<n->(gg j).length = sz)
  (hc:∀ j o c,j<n->(gg j)[o]? = some c->∃ u,arr[sh+j * sz+o]? = some u/\u.oneCell' = true/\VI w U c u) (hf:flat = true->∀ j,j<n->∀ c,c ∈ gg j->plain0 c = true) :
  RT0 w B U (.fresh flat sz n gg len cap) (.slice (some ad) len cc) [cb]
inductive RTL (Q:T->Value->List Nat->Prop):List T->List Value->List Nat->Prop
 | nil:RTL Q [] [] []
 | cons (x:T) (v:Value) (X:List Nat) (l:List T) (vs:List Value) (Y:List Nat) (hx:Q x v X) (hl:RTL Q l vs Y):RTL Q (x :: l) (v :: vs) (X ++ Y)
def RT1 (w:World) (B:Nat) (U:Nat->Prop) (x:T) (v:Value) (X:List Nat):Prop :=
 match x with
 | .agg l=>∃ cs:Array Value,v = .agg cs/\(∀ (i:Nat) (u:Value),cs[i]? = some u->u.oneCell' = true)/\RTL (RT0 w B U) l cs.toList X
 | x=>RT0 w B U x v X
def RT2 (w:World) (B:Nat) (U:Nat->Prop) (x:T) (v:Value) (X:List Nat):Prop :=
 match x with
 | .tup l=>∃ cs:Array Value,v = .tuple cs/\RTL (RT1 w B U) l cs.toList X
 | x=>RT1 w B U x v X
def RV (w:World) (U:Nat->Prop) (r:T) (v:Value) (w':World):Prop :=
 (RowKit.Below w.heap.size w w'/\w.drawn<=w'.drawn)/\∃ (U':Nat->Prop) (X:List Nat),(∀ b,U b->U' b)/\(∀ b,U' b->(U b ∨ w.heap.size<=b)/\b<w'.heap.size)/\X.Nodup ∧
  (∀ b,b ∈ X->w.heap.size<=b/\b<w'.heap.size/\¬ U' b)/\RT2 w' w.heap.size U' r v X
theorem HR.adopt (hr:HR g h w) {cb sh:Nat} {arr:Array Value} {e:TypeId} {b':Blk} (hcb:w.heap[cb]? = some (.cells arr e (0,0))) (hown:g.own cb = none) (hU:¬ g.U cb) (hbase:g.base<=cb)
 (hroom:sh+b'.n * b'.sz<=arr.size) (hlen:∀ j,j<b'.n->(b'.get j).length = b'.sz)
 (hcell:∀ j o c,j<b'.n->(b'.get j)[o]? = some c->∃ v,arr[sh+j * b'.sz+o]? = some v/\v.oneCell' = true/\g.VR h w c v)
 (hflat:b'.flat = true->∀ j,j<b'.n->∀ c,c ∈ b'.get j->plain0 c = true) :
 ∃ g',g'.φ h.length = some (cb,sh)/\g'.U = g.U/\g'.bs = g.bs/\(∀ k,g'.own k = if k = cb then some (.inl h.length) else g.own k)/\HR g' (h ++ [b']) w/\Keep g h w g' (h ++ [b']) w:=by
 have hcbl:cb<w.heap.size:=lt_of_heap hcb
 let g':Gh:={ g with φ:=fun k=>if k = h.length then some (cb,sh) else g.φ k,own:=fun k=>if k = cb then some (.inl h.length) else g.own k }
 have hkeep:Keep g h w g' (h ++ [b']) w:=by
  refine ⟨fun k hk=>⟨hk,rfl⟩,fun k x hx=>?_,fun k n hkn=>hkn⟩
  have hk:=lt_of_get hx
  exact ⟨x,by rw [List.getElem?_append_left hk]; exact hx,Nat.le_refl _,fun _=>⟨rfl,rfl,by simp [g',Nat.ne_of_lt hk]⟩⟩
 refine ⟨g',by simp [g'],rfl,rfl,fun k=>rfl,?_,hkeep⟩
 refine ⟨fun k x hx=>?_,fun k hk=>?_,fun k o ho=>?_,hr.base,fun k o ho=>?_,fun k j ho=>?_⟩
 ·rcases Nat.lt_or_ge k h.length with hk | hk
  ·rw [List.getElem?_append_left hk] at hx
   obtain ⟨cb2,sh2,arr2,e2,hok⟩:=hr.blk k x hx
   have hne:cb2 ≠ cb:=by rintro rfl; rw [hok.own] at hown; cases hown
   refine ⟨cb2,sh2,arr2,e2,by simp [g',Nat.ne_of_lt hk,hok.φ],by simp [g',hne,hok.own],hok.heap,hok.room,hok.len,fun j o c hj hc=>?_,hok.flat⟩
   obtain ⟨v,h1,h2,h3⟩:=hok.cell j o c hj hc
   exact ⟨v,h1,h2,h3.keep hkeep⟩
  ·have hk':k = h.length:=by
    have:=lt_of_get hx
    simp at this
    omega
   subst hk'
   simp only [List.getElem?_append_right (Nat.le_refl _),Nat.sub_self,List.getElem?_cons_zero,Option.some.injEq] at hx
   subst hx
   refine ⟨cb,sh,arr,e,by simp [g'],by simp [g'],hcb,hroom,hlen,fun j o c hj hc=>?_,hflat⟩
   obtain ⟨v,h1,h2,h3⟩:=hcell j o c hj hc
   exact ⟨v,h1,h2,h3.keep hkeep⟩
 ·obtain ⟨h1,h2⟩:=hr.u k hk
  have hne:k ≠ cb:=by rintro rfl; exact hU hk
  exact ⟨h1,by simp [g',hne,h2]⟩
 ·by_cases hk:k = cb
  ·subst hk; exact ⟨hbase,hcbl⟩
  ·simp only [g',hk,if_false] at ho
   exact hr.own k o ho
 ·by_cases hk:k = cb
  ·subst hk; exact ⟨arr,e,hcb⟩
  ·simp only [g',hk,if_false] at ho
   exact hr.cells k o ho
 ·rw [List.length_append,List.length_singleton]
  by_cases hk:k = cb
  ·subst hk
   simp only [g',if_true,Option.some.injEq,Sum.inl.injEq] at ho
   omega
  ·simp only [g',hk,if_false] at ho
   have:=hr.lt k j ho
   omega
end
section
variable {P:Program} {R:Type} {g:Gh} {h:Heap} {w:World}
structure Took (g0:Gh) (w0:World) (g:Gh) (h:Heap) (w:World) (g':Gh) (h':Heap) (X:List Nat):Prop where
 hr:HR g' h' w
 keep:Keep g h w g' h' w
 fr:FrO g0 w0 g' w
 u:g'.U = g.U
 own:∀ b,b ∉ X->g'.own b = g.own b
theorem Took.refl {g0:Gh} {w0:World} (hr:HR g h w) (hf:FrO g0 w0 g w):Took g0 w0 g h w g h []:=⟨hr,.refl _ _ _ _,hf,rfl,fun _ _=>rfl⟩
def Free (g0:Gh) (w0:World) (g:Gh) (b:Nat):Prop:=g.own b = none/\¬ g.U b/\w0.heap.size<=b/\g0.base<=w0.heap.size
theorem scal_vi {x:T} {v:Value} {U U':Nat->Prop} (hv:VI w U x v) :
 VI w U' (scal x) v:=by
 cases hv <;> first | exact .bool _ | exact .int _ _ | exact .str _ _ ‹_› | exact .nilp | exact .nils | exact .nilf | exact .nili | exact .nilm | exact .undef _
theorem take0_sound {g0:Gh} {w0:World} {safe:Bool} {B:Nat} {U':Nat->Prop} {x:T} {v:Value} {X:List Nat} (hx:RT0 w B U' x v X) (hr:HR g h w) (hfr:FrO g0 w0 g w) (hfree:∀ b,b ∈ X->Free g0 w0 g b)
 (hsafe:safe = true->∀ b,U' b->g.U b) (hnew:∀ b,U' b->B<=b->g.U b):∃ g',Took g0 w0 g h w g' (take0 safe h x).2 X/\g'.VR (take0 safe h x).2 w (take0 safe h x).1 v:=by
 cases hx with
 | vi x v hv =>
  have e:(take0 safe h x).2 = h:=by cases hv <;> rfl
  rw [e]
  refine ⟨g,.refl hr hfr,.imm _ _ ?_⟩
  cases safe with
  | true =>
   have e1:(take0 true h x).1 = x:=by cases hv <;> rfl
   rw [e1]
   exact hv.keep (fun b hb=>⟨hsafe rfl b hb,rfl⟩)
  | false =>
   have e1:(take0 false h x).1 = scal x:=by cases hv <;> rfl
   rw [e1]
   exact scal_vi hv
 | nw x v hv =>
  refine ⟨g,.refl hr hfr,.imm _ _ ?_⟩
  exact hv.keep (fun b hb=>⟨hnew b hb.1 hb.2,rfl⟩)
 | fresh flat sz n gg len cap cb sh cc ad arr e es e2 e3 e4 e5 e7 hh r1 r2 hl hc hf =>
  simp only [take0]
  cases hsf:(safe || flat) with
  | false =>
   simp only [cond_false]
   exact ⟨g,⟨hr,.refl _ _ _ _,hfr,rfl,fun _ _=>rfl⟩,.imm _ _ (.undef _)⟩
  | true =>
   simp only [cond_true]
   obtain ⟨f1,f2,f3,f4⟩:=hfree cb (by simp)
   have hbase:g.base<=cb:=by rw [hfr.base]; omega
   obtain ⟨g',q1,q2,q3,q4,q5,q6⟩:=hr.adopt (b':=⟨0,sz,n,gg,flat,false⟩) hh f1 f2 hbase r1 hl (fun j o c hj ho=>by
    obtain ⟨u,u1,u2,u3⟩:=hc j o c hj ho
    refine ⟨u,u1,u2,.imm _ _ ?_⟩
    cases hfl:flat with
    | true=>exact plain0_vi (hf hfl j hj c (List.mem_of_getElem? ho)) u3
    | false =>
     rw [hfl] at hsf
     exact u3.keep (fun b hb=>⟨hsafe (by simpa using hsf) b hb,rfl⟩)) hf
   refine ⟨g',⟨q5,q6,?_,q2,fun b hb=>by rw [q4,if_neg (by simpa using hb)]⟩,?_⟩
   ·refine ⟨hfr.size,fun b hb=>?_,hfr.os,hfr.tape,hfr.output,hfr.same,q3.trans hfr.bs,fun b hb=>hfr.u b (q2 ▸ hb),fun b hb t=>?_⟩
    ·rw [q4,if_neg (by omega)]; exact hfr.own b hb
    ·rw [q4]
     split
     ·simp
     ·exact hfr.new b hb t
   ·exact .own _ _ _ _ _ _ _ (at_end h _) (Nat.le_refl _) rfl fun _=>⟨cb,sh,cc,ad,q1,rfl,es,fun hp=>by simpa using e2 hp,e3,fun m hm=>⟨(e4 m hm).1,by simpa using (e4 m hm).2⟩,by simpa using e5,⟨arr,e,hh,by simpa using r2⟩,fun hc=>by simpa using e7 hc⟩
theorem Took.trans {g0:Gh} {w0:World} {g1 g2:Gh} {h1 h2:Heap} {X Y:List Nat} (a:Took g0 w0 g h w g1 h1 X) (b:Took g0 w0 g1 h1 w g2 h2 Y):Took g0 w0 g h w g2 h2 (X ++ Y) :=
 ⟨b.hr,a.keep.trans b.keep,b.fr,b.u.trans a.u,fun k hk=>by
  simp only [List.mem_append,not_or] at hk
  rw [b.own k hk.2,a.own k hk.1]⟩
theorem Free.after {g0:Gh} {w0:World} {g':Gh} {h':Heap} {X:List Nat} {b:Nat} (hf:Free g0 w0 g b) (t:Took g0 w0 g h w g' h' X) (hb:b ∉ X):Free g0 w0 g' b :=
 ⟨by rw [t.own b hb]; exact hf.1,by rw [t.u]; exact hf.2.1,hf.2.2⟩
theorem takeL_sound {g0:Gh} {w0:World} {safe:Bool} {B:Nat} {U':Nat->Prop}:∀ {l:List T} {vs:List Value} {X:List Nat},RTL (RT0 w B U') l vs X->∀ {g:Gh} {h:Heap},HR g h w->FrO g0 w0 g w->(∀ b,b ∈ X->Free g0 w0 g b)->X.Nodup →
 (safe = true->∀ b,U' b->g.U b)->(∀ b,U' b->B<=b->g.U b)->∃ g',Took g0 w0 g h w g' (takeL safe h l).2 X/\(takeL safe h l).1.length = vs.length/\∀ (i:Nat) (c:T),(takeL safe h l).1[i]? = some c->∃ u,vs[i]? = some u/\g'.VR (takeL safe h l).2 w c u:=by
 intro l vs X hl
 induction hl with
 | nil =>
  intro g h hr hfr _ _ _ _
  exact ⟨g,.refl hr hfr,rfl,fun i c hi=>by simp [takeL] at hi⟩
 | cons x v X l vs Y hx hl ih =>
  intro g h hr hfr hfree hnd hsafe hnew
  obtain ⟨g1,t1,r1⟩:=take0_sound hx hr hfr (fun b hb=>hfree b (by simp [hb])) hsafe hnew
  have hnd':=List.nodup_append.1 hnd
  obtain ⟨g2,t2,l2,r2⟩:=ih (g:=g1) (h:=(take0 safe h x).2) t1.hr t1.fr (fun b hb=>(hfree b (by simp [hb])).after t1 (fun hbx=>hnd'.2.2 b hbx b hb rfl)) hnd'.2.1 (fun hs b hb=>by rw [t1.u]; exact hsafe hs b hb) (fun b hb hB=>by rw [t1.u]; exact hnew b hb hB)
  refine ⟨g2,t1.trans t2,by simp [takeL,l2],fun i c hi=>?_⟩
  cases i with
  | zero =>
   simp only [takeL,List.getElem?_cons_zero,Option.some.injEq] at hi
   subst hi
   exact ⟨v,rfl,r1.keep t2.keep⟩
  | succ i=>exact r2 i c (by simpa [takeL] using hi)
theorem take1_sound {g0:Gh} {w0:World} {safe:Bool} {B:Nat} {U':Nat->Prop} {x:T} {v:Value} {X:List Nat} (hx:RT1 w B U' x v X) (hr:HR g h w) (hfr:FrO g0 w0 g w) (hfree:∀ b,b ∈ X->Free g0 w0 g b) (hnd:X.Nodup)
 (hsafe:safe = true->∀ b,U' b->g.U b) (hnew:∀ b,U' b->B<=b->g.U b):∃ g',Took g0 w0 g h w g' (take1 safe h x).2 X/\g'.VR (take1 safe h x).2 w (take1 safe h x).1 v:=by
 cases x with
 | agg l =>
  obtain ⟨cs,rfl,h1,hl⟩:=hx
  obtain ⟨g',t,hlen,hc⟩:=takeL_sound hl hr hfr hfree hnd hsafe hnew
  refine ⟨g',t,VR.mk_agg (by simpa [take1] using hlen) h1 (fun i c hi=>?_)⟩
  obtain ⟨u,hu,hur⟩:=hc i c hi
  exact ⟨u,by simpa using hu,hur⟩
 | _=>exact take0_sound hx hr hfr hfree hsafe hnew
theorem takeLL_sound {g0:Gh} {w0:World} {safe:Bool} {B:Nat} {U':Nat->Prop}:∀ {l:List T} {vs:List Value} {X:List Nat},RTL (RT1 w B U') l vs X->∀ {g:Gh} {h:Heap},HR g h w->FrO g0 w0 g w->(∀ b,b ∈ X->Free g0 w0 g b)->X.Nodup →
 (safe = true->∀ b,U' b->g.U b)->(∀ b,U' b->B<=b->g.U b)->∃ g',Took g0 w0 g h w g' (takeLL safe h l).2 X/\(takeLL safe h l).1.length = vs.length/\∀ (i:Nat) (c:T),(takeLL safe h l).1[i]? = some c->∃ u,vs[i]? = some u/\g'.VR (takeLL safe h l).2 w c u:=by
 intro l vs X hl
 induction hl with
 | nil =>
  intro g h hr hfr _ _ _ _
  exact ⟨g,.refl hr hfr,rfl,fun i c hi=>by simp [takeLL] at hi⟩
 | cons x v X l vs Y hx hl ih =>
  intro g h hr hfr hfree hnd hsafe hnew
  have hnd':=List.nodup_append.1 hnd
  obtain ⟨g1,t1,r1⟩:=take1_sound hx hr hfr (fun b hb=>hfree b (by simp [hb])) hnd'.1 hsafe hnew
  obtain ⟨g2,t2,l2,r2⟩:=ih (g:=g1) (h:=(take1 safe h x).2) t1.hr t1.fr (fun b hb=>(hfree b (by simp [hb])).after t1 (fun hbx=>hnd'.2.2 b hbx b hb rfl)) hnd'.2.1 (fun hs b hb=>by rw [t1.u]; exact hsafe hs b hb) (fun b hb hB=>by rw [t1.u]; exact hnew b hb hB)
  refine ⟨g2,t1.trans t2,by simp [takeLL,l2],fun i c hi=>?_⟩
  cases i with
  | zero =>
   simp only [takeLL,List.getElem?_cons_zero,Option.some.injEq] at hi
   subst hi
   exact ⟨v,rfl,r1.keep t2.keep⟩
  | succ i=>exact r2 i c (by simpa [takeLL] using hi)
theorem taken_sound {g0:Gh} {w0:World} {safe:Bool} {B:Nat} {U':Nat->Prop} {x:T} {v:Value} {X:List Nat} (hx:RT2 w B U' x v X) (hr:HR g h w) (hfr:FrO g0 w0 g w) (hfree:∀ b,b ∈ X->Free g0 w0 g b) (hnd:X.Nodup)
 (hsafe:safe = true->∀ b,U' b->g.U b) (hnew:∀ b,U' b->B<=b->g.U b):∃ g',Took g0 w0 g h w g' (taken safe h x).2 X/\g'.VR (taken safe h x).2 w (taken safe h x).1 v:=by
 cases x with
 | tup l =>
  obtain ⟨cs,rfl,hl⟩:=hx
  obtain ⟨g',t,hlen,hc⟩:=takeLL_sound hl hr hfr hfree hnd hsafe hnew
  refine ⟨g',t,VR.mk_tup (by simpa [taken] using hlen) (fun i c hi=>?_)⟩
  obtain ⟨u,hu,hur⟩:=hc i c hi
  exact ⟨u,by simpa using hu,hur⟩
 | _=>exact take1_sound hx hr hfr hfree hnd hsafe hnew
theorem taken_res {safe:Bool} {U:Nat->Prop} {r:T} {v:Value} {w':World} (hr:HR g h w) (hrv:RV w U r v w') (hsafe:safe = true->U = g.U):Res g h w (taken safe h r).1 (taken safe h r).2 v w':=by
 obtain ⟨⟨hb,hdr⟩,U',X,h1,h2,h3,h4,h5⟩:=hrv
 let g1:Gh:=if safe = true then { g with U:=U' } else { g with U:=fun b=>g.U b ∨ (U' b/\w.heap.size<=b) }
 have hU1:∀ b,g.U b->g1.U b:=by
  intro b hbU
  by_cases hs:safe = true
  ·simp only [g1,hs,if_true]; exact h1 b (by rw [hsafe hs]; exact hbU)
  ·simp only [g1,hs]; exact .inl hbU
 have hU2:∀ b,g1.U b->(g.U b ∨ w.heap.size<=b)/\b<w'.heap.size:=by
  intro b hbU
  by_cases hs:safe = true
  ·simp only [g1,hs,if_true] at hbU
   have:=h2 b hbU
   rw [hsafe hs] at this
   exact this
  ·simp only [g1,hs] at hbU
   rcases hbU with hbU | hbU
   ·exact ⟨.inl hbU,by have:=(hr.u b hbU).1; have:=hb.size; omega⟩
   ·exact ⟨.inr hbU.2,(h2 b hbU.1).2⟩
 have hown1:g1.own = g.own:=by by_cases hs:safe = true <;> simp [g1,hs]
 have hφ1:g1.φ = g.φ:=by by_cases hs:safe = true <;> simp [g1,hs]
 have hbs1:g1.bs = g.bs:=by by_cases hs:safe = true <;> simp [g1,hs,Gh.bs]
 have hbase1:g1.base = g.base:=congrArg Prod.fst hbs1
 have hkeep:Keep g h w g1 h w':=by
  refine ⟨fun b hbU=>⟨hU1 b hbU,hb.block b (hr.u b hbU).1⟩,fun i b hib=>⟨b,hib,Nat.le_refl _,fun _=>⟨rfl,rfl,by rw [hφ1]⟩⟩,fun k n hkn=>?_⟩
  obtain ⟨arr,e,q1,q2⟩:=hkn
  exact ⟨arr,e,by rw [hb.block k (lt_of_heap q1)]; exact q1,q2⟩
 have hr1:HR g1 h w':=by
  refine ⟨fun i b hib=>?_,fun b hbU=>⟨(hU2 b hbU).2,?_⟩,fun b o ho=>?_,by rw [hbase1]; exact Nat.le_trans hr.base hb.size,fun b o ho=>?_,fun b j ho=>hr.lt b j (by rw [hown1] at ho; exact ho)⟩
  ·obtain ⟨cb,sh,arr,e,hok⟩:=hr.blk i b hib
   exact ⟨cb,sh,arr,e,by rw [hφ1]; exact hok.φ,by rw [hown1]; exact hok.own,by rw [hb.block cb (lt_of_heap hok.heap)]; exact hok.heap,hok.room,hok.len,fun j o c hj hc=>by
    obtain ⟨u,u1,u2,u3⟩:=hok.cell j o c hj hc
    exact ⟨u,u1,u2,u3.keep hkeep⟩,hok.flat⟩
  ·rw [hown1]
   rcases (hU2 b hbU).1 with q | q
   ·exact (hr.u b q).2
   ·cases ho:g.own b with
    | none=>rfl
    | some o=>have:=(hr.own b o ho).2; omega
  ·rw [hown1] at ho
   have:=hr.own b o ho
   rw [hbase1]
   exact ⟨this.1,by have:=hb.size; omega⟩
  ·rw [hown1] at ho
   obtain ⟨arr,e,q⟩:=hr.cells b o ho
   exact ⟨arr,e,by rw [hb.block b (lt_of_heap q)]; exact q⟩
 have hfr1:FrO g w g1 w':=by
  refine ⟨hb.size,fun b _=>by rw [hown1],hb.os,hb.tape,⟨hb.output,hdr⟩,fun b hbs _=>hb.block b hbs,hbs1,fun b hbU=>(hU2 b hbU).1,fun b hbs t ho=>?_⟩
  rw [hown1] at ho
  have:=(hr.own b _ ho).2
  omega
 obtain ⟨g',t,hvr⟩:=taken_sound (g0:=g) (w0:=w) (safe:=safe) h5 hr1 hfr1 (fun b hbX=>by
  obtain ⟨q1,q2,q3⟩:=h4 b hbX
  refine ⟨?_,fun hU=>?_,q1,hr.base⟩
  ·rw [hown1]
   cases ho:g.own b with
   | none=>rfl
   | some o=>have:=(hr.own b o ho).2; omega
  ·by_cases hs:safe = true
   ·simp only [g1,hs,if_true] at hU; exact q3 hU
   ·simp only [g1,hs] at hU
    rcases hU with hU | hU
    ·have:=(hr.u b hU).1
     omega
    ·exact q3 hU.1) h3 (fun hs b hbU=>by simp only [g1,hs,if_true]; exact hbU) (fun b hbU hB=>by
  by_cases hs:safe = true
  ·simp only [g1,hs,if_true]; exact hbU
  ·simp only [g1,hs]; exact .inr ⟨hbU,hB⟩)
 exact ⟨g',t.hr,hvr,hkeep.trans t.keep,t.fr⟩
end
section
variable {P:Program} {R:Type} {g:Gh} {h:Heap} {w:World}
theorem nodupB_nodup:∀ {l:List Nat},nodupB l = true->l.Nodup
 | [],_=>List.nodup_nil
 | a :: l,hn=>by
  simp only [nodupB,Bool.and_eq_true,Bool.not_eq_true'] at hn
  exact List.nodup_cons.2 ⟨by simpa using hn.1,nodupB_nodup hn.2⟩
def placeOf' (g:Gh) (i:Nat):Option Nat:=(g.φ i).map (·.1)
def Given (g:Gh) (w:World) (B:Nat) (all:List Nat) (b:Nat):Prop:=g.U b ∨ (B<=b/\b<w.heap.size/\b ∉ all.filterMap (placeOf' g))
theorem given_reads (hr:HR g h w) (B:Nat) (hB:B<=g.base) (all:List Nat) (hall:∀ j,j ∈ all->∃ b,h[j]? = some b):Reads g h w all (Given g w B all):=by
 refine ⟨fun b hb=>.inl hb,fun i b cb sh hb hni hφ=>.inr ?_⟩
 obtain ⟨cb',sh',arr,e,hok⟩:=hr.blk i b hb
 rw [hok.φ] at hφ
 obtain ⟨rfl,rfl⟩:=Prod.mk.inj (Option.some.inj hφ)
 have:=hr.own _ _ hok.own
 refine ⟨by omega,this.2,fun hm=>?_⟩
 obtain ⟨j,hj,hjp⟩:=List.mem_filterMap.1 hm
 obtain ⟨bj,hbj⟩:=hall j hj
 obtain ⟨cbj,shj,arrj,ej,hokj⟩:=hr.blk j bj hbj
 simp only [placeOf',hokj.φ,Option.map_some,Option.some.injEq] at hjp
 subst hjp
 have:=hokj.own
 rw [hok.own] at this
 have:i = j:=by simpa using this
 subst this
 exact hni hj
theorem give0_sound (hr:HR g h w) {B:Nat} (hB:B<=g.base) {all:List Nat} (hall:∀ j,j ∈ all->∃ b,h[j]? = some b) {ok:Bool} {x:T} {v:Value} (hx:g.VR h w x v) :
 ∃ X,RT0 w B (Given g w B all) (give0 ok all h x) v X/\X.Sublist ((tops0 x).filterMap (placeOf' g))/\(ok = false->X = []):=by
 have hreads:=given_reads hr B hB all hall
 have other:(∀ i ver off len cap,x ≠ .own i ver off len cap)->∃ X,RT0 w B (Given g w B all) (give0 ok all h x) v X/\X.Sublist ((tops0 x).filterMap (placeOf' g))/\(ok = false->X = []):=by
  intro hno
  have e:give0 ok all h x = bif imm x then x else resolve 4 all h x:=by
   cases x <;> first | rfl | exact absurd rfl (hno _ _ _ _ _)
  rw [e]
  refine ⟨[],.vi _ _ ?_,List.nil_sublist _,fun _=>rfl⟩
  cases hi:imm x with
  | true=>exact (imm_vi hi hx).keep (keepU_of hreads.u)
  | false=>exact resolve_vi hr hreads 4 x v hx
 cases x with
 | own i ver off len cap =>
  simp only [give0]
  cases ok with
  | false=>exact ⟨[],.vi _ _ (.undef _),List.nil_sublist _,fun _=>rfl⟩
  | true =>
   simp only [cond_true]
   cases hb:h[i]? with
   | none=>exact ⟨[],.vi _ _ (.undef _),List.nil_sublist _,fun _=>rfl⟩
   | some b =>
    dsimp only
    cases hc:(b.ver==ver&&Nat.ble (off+len) b.n) with
    | false=>exact ⟨[],.vi _ _ (.undef _),List.nil_sublist _,fun _=>rfl⟩
    | true =>
     simp only [Bool.and_eq_true,beq_iff_eq] at hc
     have hle:=ble_le hc.2
     obtain ⟨cb,sh,cc,ad,e1,rfl,es,e2,e3,e4,e5,e6,e7⟩:=own_slice hb hc.1 hx
     obtain ⟨cb',sh',arr,e',hok⟩:=hr.blk i b hb
     rw [hok.φ] at e1
     obtain ⟨rfl,rfl⟩:=Prod.mk.inj (Option.some.inj e1)
     have hroom:=room_is hok.heap e6
     simp only [cond_true]
     refine ⟨[cb'],.fresh _ _ _ _ _ _ cb' (sh'+off * b.sz) cc ad arr e' es e2 e3 (fun m hm=>⟨(e4 m hm).1,by have:=(e4 m hm).2; omega⟩) (by omega) (fun hc=>by have:=e7 hc; omega) hok.heap ?_ ?_ ?_ ?_ ?_,?_,fun hh=>by cases hh⟩
     ·have h1:=hok.room
      have h2:(b.n - off) * b.sz = b.n * b.sz - off * b.sz:=Nat.sub_mul _ _ _
      have h3:off * b.sz<=b.n * b.sz:=Nat.mul_le_mul_right _ (by omega)
      omega
     ·rw [Nat.add_mul] at hroom; omega
     ·intro j hj
      cases b.flat with
      | true=>exact hok.len _ (by omega)
      | false=>simp only [cond_false,List.length_map]; exact hok.len _ (by omega)
     ·intro j o c hj ho
      cases hfl:b.flat with
      | true =>
       rw [hfl] at ho
       simp only [cond_true] at ho
       obtain ⟨u,u1,u2,u3⟩:=hok.cell (off+j) o c (by omega) ho
       rw [Nat.add_mul,← Nat.add_assoc] at u1
       exact ⟨u,u1,u2,plain0_vr (hok.flat hfl _ (by omega) _ (List.mem_of_getElem? ho)) u3⟩
      | false =>
       rw [hfl] at ho
       simp only [cond_false] at ho
       obtain ⟨c0,h0,rfl⟩:=map_get ho
       obtain ⟨u,u1,u2,u3⟩:=hok.cell (off+j) o c0 (by omega) h0
       rw [Nat.add_mul,← Nat.add_assoc] at u1
       exact ⟨u,u1,u2,resolve_vi hr hreads 3 _ _ u3⟩
     ·intro hf j hj c hcm
      rw [hf] at hcm
      simp only [cond_true] at hcm
      exact hok.flat hf _ (by omega) c hcm
     ·simp [tops0,placeOf',hok.φ]
 | _=>exact other (fun _ _ _ _ _ hh=>by cases hh)
theorem RTL.map {Q:T->Value->List Nat->Prop} {ok:Bool} {f:T->T} {pl:T->List Nat}:∀ {l:List T} {vs:List Value},l.length = vs.length →
 (∀ (i:Nat) (x:T),l[i]? = some x->∃ v,vs[i]? = some v/\∃ X,(Q (f x) v X/\(ok = false->X = []))/\X.Sublist (pl x))->∃ X,RTL Q (l.map f) vs X/\X.Sublist (l.flatMap pl)/\(ok = false->X = [])
 | [],[],_,_=>⟨[],.nil,by simp,fun _=>rfl⟩
 | x :: l,v :: vs,hl,hx=>by
  obtain ⟨v',hv',X,⟨hX,h0⟩,hs⟩:=hx 0 x rfl
  obtain rfl:v = v':=by simpa using hv'
  obtain ⟨Y,hY,hs2,h1⟩:=RTL.map (Q:=Q) (ok:=ok) (f:=f) (pl:=pl) (l:=l) (vs:=vs) (by simpa using hl) (fun i x hi=>hx (i+1) x hi)
  exact ⟨X ++ Y,.cons _ _ _ _ _ _ hX hY,by simpa using List.Sublist.append hs hs2,fun hh=>by rw [h0 hh,h1 hh]; rfl⟩
 | [],_ :: _,hl,_=>by simp at hl
 | _ :: _,[],hl,_=>by simp at hl
theorem flatMap_filterMap {α β γ:Type} (l:List α) (f:α->List β) (p:β->Option γ):(l.flatMap fun x=>(f x).filterMap p) = (l.flatMap f).filterMap p:=by
 induction l with
 | nil=>rfl
 | cons x l ih=>simp [List.filterMap_append,ih]
theorem rtl_vi {U:Nat->Prop} {Q:T->Value->List Nat->Prop} (hQ:∀ c u,VI w U c u->Q c u []):∀ (l:List T) (us:List Value),l.length = us.length->(∀ (i:Nat) (c:T),l[i]? = some c->∃ u,us[i]? = some u/\VI w U c u)->RTL Q l us []
 | [],[],_,_=>.nil
 | c :: l,u :: us,hus,hc=>by
  obtain ⟨u',hu',hur⟩:=hc 0 c rfl
  obtain rfl:u = u':=by simpa using hu'
  exact .cons _ _ [] _ _ [] (hQ _ _ hur) (rtl_vi hQ l us (by simpa using hus) (fun i c hi=>hc (i+1) c hi))
 | [],_ :: _,hl,_=>by simp at hl
 | _ :: _,[],hl,_=>by simp at hl
theorem RT0.to1 {B:Nat} {U:Nat->Prop} {y:T} {v:Value} {X:List Nat} (hy:RT0 w B U y v X):RT1 w B U y v X:=by
 cases y with
 | agg l =>
  cases hy with | vi _ _ hv =>
  cases hv with | agg _ cs vs hl h1 hc hv =>
  exact ⟨cs,rfl,h1,rtl_vi (fun c u hu=>.vi c u hu) l cs.toList (by simpa using hl) (fun i c hi=>⟨vs i,by simpa using hc i c hi,hv i c hi⟩)⟩
 | _=>exact hy
theorem RT1.to2 {B:Nat} {U:Nat->Prop} {y:T} {v:Value} {X:List Nat} (hy:RT1 w B U y v X):RT2 w B U y v X:=by
 cases y with
 | tup l =>
  cases (show RT0 w B U (.tup l) v X from hy) with | vi _ _ hv =>
  cases hv with | tup _ cs vs hl hc hv =>
  exact ⟨cs,rfl,rtl_vi (fun c u hu=>(RT0.vi c u hu).to1) l cs.toList (by simpa using hl) (fun i c hi=>⟨vs i,by simpa using hc i c hi,hv i c hi⟩)⟩
 | _=>exact hy
theorem give1_sound (hr:HR g h w) {B:Nat} (hB:B<=g.base) {all:List Nat} (hall:∀ j,j ∈ all->∃ b,h[j]? = some b) {ok:Bool} {x:T} {v:Value} (hx:g.VR h w x v) :
 ∃ X,RT1 w B (Given g w B all) (give1 ok all h x) v X/\X.Sublist ((tops1 x).filterMap (placeOf' g))/\(ok = false->X = []):=by
 cases x with
 | agg l =>
  obtain ⟨cs,rfl,hl,h1,hc⟩:=hx.agg_inv
  have each:∀ (i:Nat) (x:T),l[i]? = some x->∃ v,cs.toList[i]? = some v/\∃ X,(RT0 w B (Given g w B all) (give0 ok all h x) v X/\(ok = false->X = []))/\X.Sublist ((tops0 x).filterMap (placeOf' g)):=by
   intro i x hi
   obtain ⟨u,hu,hur⟩:=hc i x hi
   obtain ⟨X,q1,q2,q3⟩:=give0_sound hr hB hall (ok:=ok) hur
   exact ⟨u,by simpa using hu,X,⟨q1,q3⟩,q2⟩
  obtain ⟨X,hX,hs,h0⟩:=RTL.map (Q:=RT0 w B (Given g w B all)) (ok:=ok) (f:=give0 ok all h) (pl:=fun x=>(tops0 x).filterMap (placeOf' g)) (l:=l) (vs:=cs.toList) (by simpa using hl) each
  exact ⟨X,⟨cs,rfl,h1,hX⟩,by rw [flatMap_filterMap] at hs; exact hs,h0⟩
 | _ =>
  obtain ⟨X,q1,q2,q3⟩:=give0_sound hr hB hall (ok:=ok) hx
  exact ⟨X,q1.to1,q2,q3⟩
theorem tops0_blk {x:T} {v:Value} (hx:g.VR h w x v):∀ j,j ∈ tops0 x->∃ b,h[j]? = some b:=by
 intro j hj
 cases x with
 | own i ver off len cap =>
  obtain rfl:j = i:=by simpa [tops0] using hj
  obtain ⟨b,hb,_⟩:=hx.own_inv
  exact ⟨b,hb⟩
 | _=>simp [tops0] at hj
theorem tops1_blk {x:T} {v:Value} (hx:g.VR h w x v):∀ j,j ∈ tops1 x->∃ b,h[j]? = some b:=by
 intro j hj
 cases x with
 | agg l =>
  obtain ⟨x,hxm,hxj⟩:=List.mem_flatMap.1 (show j ∈ l.flatMap tops0 from hj)
  obtain ⟨i,hi⟩:=List.mem_iff_getElem?.1 hxm
  obtain ⟨cs,rfl,hl,h1,hc⟩:=hx.agg_inv
  obtain ⟨u,hu,hur⟩:=hc i x hi
  exact tops0_blk hur j hxj
 | _=>exact tops0_blk hx j hj
theorem tops_blk {x:T} {v:Value} (hx:g.VR h w x v):∀ j,j ∈ tops x->∃ b,h[j]? = some b:=by
 intro j hj
 cases x with
 | tup l =>
  obtain ⟨x,hxm,hxj⟩:=List.mem_flatMap.1 (show j ∈ l.flatMap tops1 from hj)
  obtain ⟨i,hi⟩:=List.mem_iff_getElem?.1 hxm
  obtain ⟨cs,rfl,hl,hc⟩:=hx.tup_inv
  obtain ⟨u,hu,hur⟩:=hc i x hi
  exact tops1_blk hur j hxj
 | _=>exact tops1_blk hx j hj
theorem nodup_filterMap (p:Nat->Option Nat):∀ {l:List Nat},l.Nodup->(∀ i,i ∈ l->∀ j,j ∈ l->∀ b,p i = some b->p j = some b->i = j)->(l.filterMap p).Nodup
 | [],_,_=>List.nodup_nil
 | a :: l,hn,hinj=>by
  have hn:=List.nodup_cons.1 hn
  have ih:=nodup_filterMap p hn.2 (fun i hi j hj=>hinj i (by simp [hi]) j (by simp [hj]))
  rw [List.filterMap_cons]
  cases ha:p a with
  | none=>exact ih
  | some b =>
   refine List.nodup_cons.2 ⟨fun hm=>?_,ih⟩
   obtain ⟨j,hj,hjb⟩:=List.mem_filterMap.1 hm
   have:=hinj a (by simp) j (by simp [hj]) b ha hjb
   subst this
   exact hn.1 hj
theorem give_sound (hr:HR g h w) {B:Nat} (hB:B<=g.base) {x:T} {v:Value} (hx:g.VR h w x v) :
 ∃ X,RT2 w B (Given g w B (tops x)) (give h x) v X/\X.Nodup/\∀ b,b ∈ X->B<=b/\b<w.heap.size/\¬ Given g w B (tops x) b:=by
 have hall:=tops_blk hx
 have gen:(∀ l,x ≠ .tup l)->∃ X,RT2 w B (Given g w B (tops x)) (give h x) v X/\X.Sublist ((tops x).filterMap (placeOf' g))/\(nodupB (tops x) = false->X = []):=by
  intro hno
  have e1:give h x = give1 (nodupB (tops x)) (tops x) h x:=by cases x <;> first | rfl | exact absurd rfl (hno _)
  have e2:tops1 x = tops x:=by cases x <;> first | rfl | exact absurd rfl (hno _)
  obtain ⟨X,q1,q2,q3⟩:=give1_sound hr hB hall (ok:=nodupB (tops x)) hx
  rw [e1]
  exact ⟨X,q1.to2,by rw [← e2]; exact q2,q3⟩
 have main:∃ X,RT2 w B (Given g w B (tops x)) (give h x) v X/\X.Sublist ((tops x).filterMap (placeOf' g))/\(nodupB (tops x) = false->X = []):=by
  cases x with
  | tup l =>
   obtain ⟨cs,rfl,hl,hc⟩:=hx.tup_inv
   have each:∀ (i:Nat) (y:T),l[i]? = some y->∃ v,cs.toList[i]? = some v/\∃ X,(RT1 w B (Given g w B (tops (.tup l))) (give1 (nodupB (tops (.tup l))) (tops (.tup l)) h y) v X/\(nodupB (tops (.tup l)) = false->X = []))/\X.Sublist ((tops1 y).filterMap (placeOf' g)):=by
    intro i y hi
    obtain ⟨u,hu,hur⟩:=hc i y hi
    obtain ⟨X,q1,q2,q3⟩:=give1_sound hr hB hall (ok:=nodupB (tops (.tup l))) hur
    exact ⟨u,by simpa using hu,X,⟨q1,q3⟩,q2⟩
   obtain ⟨X,hX,hs,h0⟩:=RTL.map (Q:=RT1 w B (Given g w B (tops (.tup l)))) (ok:=nodupB (tops (.tup l))) (f:=give1 (nodupB (tops (.tup l))) (tops (.tup l)) h) (pl:=fun x=>(tops1 x).filterMap (placeOf' g)) (l:=l) (vs:=cs.toList) (by simpa using hl) each
   exact ⟨X,⟨cs,rfl,hX⟩,by rw [flatMap_filterMap] at hs; exact hs,h0⟩
  | _=>exact gen (fun l hh=>by cases hh)
 obtain ⟨X,hX,hs,h0⟩:=main
 refine ⟨X,hX,?_,fun b hb=>?_⟩
 ·cases hn:nodupB (tops x) with
  | false=>rw [h0 hn]; exact List.nodup_nil
  | true =>
   refine hs.nodup (nodup_filterMap _ (nodupB_nodup hn) fun i hi j hj b hbi hbj=>?_)
   obtain ⟨x1,hx1⟩:=hall i hi
   obtain ⟨x2,hx2⟩:=hall j hj
   obtain ⟨cb,sh,arr,e,hok⟩:=hr.blk i x1 hx1
   obtain ⟨cb',sh',arr',e',hok'⟩:=hr.blk j x2 hx2
   simp only [placeOf',hok.φ,hok'.φ,Option.map_some,Option.some.injEq] at hbi hbj
   have:=hok.own
   rw [hbi,← hbj,hok'.own] at this
   simpa using this.symm
 ·have hm:=hs.subset hb
  obtain ⟨j,hj,hjp⟩:=List.mem_filterMap.1 hm
  obtain ⟨bj,hbj⟩:=hall j hj
  obtain ⟨cb,sh,arr,e,hok⟩:=hr.blk j bj hbj
  simp only [placeOf',hok.φ,Option.map_some,Option.some.injEq] at hjp
  subst hjp
  have ho:=hr.own _ _ hok.own
  refine ⟨by omega,ho.2,fun hg=>?_⟩
  rcases hg with hg | ⟨_,_,hg⟩
  ·have:=(hr.u _ hg).2
   rw [hok.own] at this
   cases this
  ·exact hg hm
theorem take0_noFresh {safe:Bool} {x:T} (hx:noFresh0 x = true):(take0 safe h x).2 = h:=by
 cases x <;> first | rfl | (simp [noFresh0] at hx; done)
theorem takeL_noFresh {safe:Bool}:∀ {l:List T} {h:Heap},l.all noFresh0 = true->(takeL safe h l).2 = h
 | [],_,_=>rfl
 | x :: l,h,hl=>by
  simp only [List.all_cons,Bool.and_eq_true] at hl
  have h1:=take0_noFresh (h:=h) (safe:=safe) hl.1
  simp only [takeL]
  rw [h1]
  exact takeL_noFresh hl.2
theorem take1_noFresh {safe:Bool} {x:T} {h:Heap} (hx:noFresh1 x = true):(take1 safe h x).2 = h:=by
 cases x with
 | agg l=>exact takeL_noFresh (show l.all noFresh0 = true from hx)
 | _=>exact take0_noFresh hx
theorem takeLL_noFresh {safe:Bool}:∀ {l:List T} {h:Heap},l.all noFresh1 = true->(takeLL safe h l).2 = h
 | [],_,_=>rfl
 | x :: l,h,hl=>by
  simp only [List.all_cons,Bool.and_eq_true] at hl
  have h1:=take1_noFresh (h:=h) (safe:=safe) hl.1
  simp only [takeLL]
  rw [h1]
  exact takeLL_noFresh hl.2
theorem taken_noFresh {safe:Bool} {x:T} {h:Heap} (hx:noFresh x = true):(taken safe h x).2 = h:=by
 cases x with
 | tup l=>exact takeLL_noFresh (show l.all noFresh1 = true from hx)
 | _=>exact take1_noFresh hx
end
theorem Tr.get_set:∀ (d:Nat) (t:Tr) (i j:Nat) (v:T),i<2 ^ d->j<2 ^ d->Tr.get d (Tr.set d t i v) j = if j = i then v else Tr.get d t j
 | 0,t,i,j,v,hi,hj=>by
  have h1:i = 0:=by simpa using hi
  have h2:j = 0:=by simpa using hj
  subst h1; subst h2
  cases t <;> rfl
 | d+1,t,i,j,v,hi,hj=>by
  have hp:2 ^ (d+1) = 2 * 2 ^ d:=by rw [Nat.pow_succ]; omega
  have ih:=fun t=>Tr.get_set d t (i / 2) (j / 2) v (by omega) (by omega)
  have nilget:∀ (d k:Nat),Tr.get d .nil k = .undef:=by intro d k; cases d <;> rfl
  have leafget:∀ (x:T) (k:Nat),Tr.get (d+1) (.leaf x) k = .undef:=fun _ _=>rfl
  cases hi2:(i % 2==0) <;> cases hj2:(j % 2==0)
  all_goals
   have e1:i % 2 = 0 ∨ i % 2 = 1:=by omega
   have e2:j % 2 = 0 ∨ j % 2 = 1:=by omega
   simp only [beq_iff_eq,beq_eq_false_iff_ne,ne_eq] at hi2 hj2
   cases t with
   | node l r =>
    simp only [Tr.set,Tr.get,beq_iff_eq,Bool.cond_eq_ite,hi2,hj2,if_true,if_false,ih]
    try (by_cases hij:j / 2 = i / 2
         ·rw [if_pos hij,if_pos (by omega)]
         ·rw [if_neg hij,if_neg (by omega)])
    try rw [if_neg (by omega)]
   | nil =>
    simp only [Tr.set,Tr.get,beq_iff_eq,Bool.cond_eq_ite,hi2,hj2,if_true,if_false,ih,nilget]
    try (by_cases hij:j / 2 = i / 2
         ·rw [if_pos hij,if_pos (by omega)]
         ·rw [if_neg hij,if_neg (by omega)])
    try rw [if_neg (by omega)]
   | leaf x =>
    simp only [Tr.set,Tr.get,beq_iff_eq,Bool.cond_eq_ite,hi2,hj2,if_true,if_false,ih,nilget]
    try (by_cases hij:j / 2 = i / 2
         ·rw [if_pos hij,if_pos (by omega)]
         ·rw [if_neg hij,if_neg (by omega)])
    try rw [if_neg (by omega)]
theorem at_lt {s:St} {t:Nat} (h:t<1024):s.at t = s.env.get deep t:=by
 unfold St.at
 rw [show Nat.blt t 1024 = true from Nat.ble_eq_true_of_le h]
 rfl
theorem at_ge {s:St} {t:Nat} (h:¬ t<1024):s.at t = .undef:=by
 unfold St.at
 cases hb:Nat.blt t 1024 with
 | true=>exact absurd (blt_lt hb) h
 | false=>rfl
theorem at_set {s s':St} {d:Nat} {v:T} (he:s'.env = s.env.set deep d v) (hd:d<1024) (t:Nat):s'.at t = if t = d then v else s.at t:=by
 by_cases ht:t<1024
 ·rw [at_lt ht,at_lt ht,he]
  exact Tr.get_set 10 s.env d t v hd ht
 ·rw [at_ge ht,at_ge ht,if_neg (by omega)]
structure RegOk (g:Gh) (h:Heap) (w:World) (t:Nat) (v:Value) (cells:List T) (cb:Nat) (arr:Array Value) (e:TypeId):Prop where
 ptr:v = .pointer (some ⟨cb,0,none⟩)
 own:g.own cb = some (.inr t)
 heap:w.heap[cb]? = some (.cells arr e (0,0))
 len:cells.length<=arr.size
 cell:∀ (o:Nat) (c:T),cells[o]? = some c->∃ u:Value,arr[o]? = some u/\u.oneCell' = true/\g.VR h w c u
def mark (D:Nat):Deferred:={ target:=.collected D,args:=#[] }
def Marks (g:Gh) (w:World) (ds:List Deferred):Prop:=g.low<=w.heap.size/\∃ l:List Nat,ds = l.map mark/\l.Nodup/\∀ D ∈ l,g.low<=D/\g.own D = none/\¬ g.U D/\w.heap[D]? = some (.deferred (some []))
theorem lt_of_obj {w:World} {b:Nat} {o:Obj} (h:w.heap[b]? = some o):b<w.heap.size:=(Array.getElem?_eq_some_iff.1 h).1
theorem Marks.nil {g:Gh} {w:World} (h:g.low<=w.heap.size):Marks g w []:=⟨h,[],rfl,.nil,fun D h=>by cases h⟩
theorem Marks.to {g g':Gh} {w w':World} {ds:List Deferred} (h:Marks g w ds) (hsize:w.heap.size<=w'.heap.size) (hown:∀ b,b<w.heap.size->g'.own b = g.own b) (hsame:∀ b,b<w.heap.size->g.own b = none->w'.heap[b]? = w.heap[b]?)
 (hbase:g'.bs = g.bs) (hu:∀ b,g'.U b->g.U b ∨ w.heap.size<=b):Marks g' w' ds:=by
 obtain ⟨h0,l,h1,h2,h3⟩:=h
 refine ⟨by rw [show g'.low = g.low from congrArg Prod.snd hbase]; omega,l,h1,h2,fun D hD=>?_⟩
 obtain ⟨q1,q2,q3,q4⟩:=h3 D hD
 have hlt:=lt_of_obj q4
 refine ⟨by rw [show g'.low = g.low from congrArg Prod.snd hbase]; exact q1,(hown D hlt).trans q2,fun hU=>?_,(hsame D hlt q2).trans q4⟩
 rcases hu D hU with h | h
 ·exact q3 h
 ·omega
structure SR (Gl:Nat->Option (List T)) (prom:List Nat) (nt:Nat) (g:Gh) (s:St) (a:Act) (w:World):Prop where
 hr:HR g s.h w
 defers:Marks g w a.defers
 size:a.tmps.size = nt
 nt:nt<=1024
 tmps:∀ t,t ∉ prom->g.VR s.h w (s.at t) (a.tmps.getD t undef)
 regs:∀ t,t ∈ prom->∀ cells,s.at t = .reg cells->∃ cb arr e,RegOk g s.h w t (a.tmps.getD t undef) cells cb arr e
 loc:∀ d t o,s.loc d = some (t,o)->t ∈ prom/\d ∉ prom/\∃ cb,a.tmps.getD t undef = .pointer (some ⟨cb,0,none⟩)/\a.tmps.getD d undef = .pointer (some ⟨cb,o,none⟩)
 glob:∀ gl cells,Gl gl = some cells->VI w g.U (.vp cells) (.pointer (some ⟨gl,0,none⟩))
 used:∀ d t o,s.loc d = some (t,o)->s.used t = true
structure FrC (g:Gh) (h:Heap) (w:World) (g':Gh) (h':Heap) (w':World):Prop where
 keep:Keep g h w g' h' w'
 size:w.heap.size<=w'.heap.size
 own:∀ b,b<w.heap.size->g'.own b = g.own b
 os:w'.os = w.os
 tape:w'.tape = w.tape
 output:OutOk w' w
 same:∀ b,b<w.heap.size->g.own b = none->w'.heap[b]? = w.heap[b]?
 bs:g'.bs = g.bs
 u:∀ b,g'.U b->g.U b ∨ w.heap.size<=b
 u':∀ b,g.U b->g'.U b
theorem FrC.base {g g':Gh} {h h':Heap} {w w':World} (f:FrC g h w g' h' w'):g'.base = g.base:=congrArg Prod.fst f.bs
theorem FrC.low {g g':Gh} {h h':Heap} {w w':World} (f:FrC g h w g' h' w'):g'.low = g.low:=congrArg Prod.snd f.bs
theorem FrC.marks {g g':Gh} {h h':Heap} {w w':World} {ds:List Deferred} (f:FrC g h w g' h' w') (m:Marks g w ds):Marks g' w' ds:=m.to f.size f.own f.same f.bs f.u
theorem FrO.marks {g g':Gh} {w w':World} {ds:List Deferred} (f:FrO g w g' w') (m:Marks g w ds):Marks g' w' ds:=m.to f.size f.own (fun b hb hn=>f.same b hb (fun i hi=>by rw [hn] at hi; cases hi)) f.bs f.u
theorem FrC.refl (g:Gh) (h:Heap) (w:World):FrC g h w g h w:=⟨.refl _ _ _ _,Nat.le_refl _,fun _ _=>rfl,rfl,rfl,.refl _,fun _ _ _=>rfl,rfl,fun _ h=>.inl h,fun _ h=>h⟩
theorem FrC.trans {g g1 g2:Gh} {h h1 h2:Heap} {w w1 w2:World} (a:FrC g h w g1 h1 w1) (b:FrC g1 h1 w1 g2 h2 w2):FrC g h w g2 h2 w2:=by
 refine ⟨a.keep.trans b.keep,Nat.le_trans a.size b.size,fun k hk=>(b.own k (by have:=a.size; omega)).trans (a.own k hk),b.os.trans a.os,b.tape.trans a.tape,b.output.trans a.output,fun k hk hn=>?_,b.bs.trans a.bs,fun k hk=>?_,fun k hk=>b.u' k (a.u' k hk)⟩
 ·rw [b.same k (by have:=a.size; omega) (by rw [a.own k hk]; exact hn),a.same k hk hn]
 ·rcases b.u k hk with h1 | h1
  ·exact a.u k h1
  ·exact .inr (Nat.le_trans a.size h1)
theorem FrO.toC {g g':Gh} {h h':Heap} {w w':World} (f:FrO g w g' w') (k:Keep g h w g' h' w'):FrC g h w g' h' w' :=
 ⟨k,f.size,f.own,f.os,f.tape,f.output,fun b hb hn=>f.same b hb (fun i hi=>by rw [hn] at hi; cases hi),f.bs,f.u,fun b hb=>(k.u b hb).1⟩
section
variable {P:Program} {Gl:Nat->Option (List T)} {prom:List Nat} {nt:Nat} {g:Gh} {s:St} {a:Act} {w:World}
theorem SR.ev (hs:SR Gl prom nt g s a w) (x:Operand):g.VR s.h w (ev Gl prom s x) (a.eval x):=by
 cases x with
 | tmp t =>
  simp only [Ab.ev,Act.eval]
  cases hp:prom.contains t with
  | true=>exact .imm _ _ (.undef _)
  | false=>exact hs.tmps t (by simpa using hp)
 | const v =>
  simp only [Ab.ev,Act.eval]
  cases hf:flatVal v with
  | true=>exact .imm _ _ (ofVal_rel v hf)
  | false=>exact .imm _ _ (.undef _)
 | func f=>exact .imm _ _ (.fn f [] #[] (fun _=>undef) rfl (fun i c hi=>by simp at hi) (fun i c hi=>by simp at hi))
 | global gl =>
  simp only [Ab.ev,Act.eval]
  cases hg:Gl gl with
  | none=>exact .imm _ _ (.undef _)
  | some cells=>exact .imm _ _ (hs.glob gl cells hg)
theorem put_tmps (a:Act) (d:Nat) (v:Value) (hd:d<a.tmps.size) (t:Nat):(a.put (some d) v).tmps.getD t undef = if t = d then v else a.tmps.getD t undef:=by
 simp only [Act.put,Array.getD_eq_getD_getElem?]
 by_cases ht:t = d
 ·subst ht; simp [hd]
 ·rw [Array.getElem?_setIfInBounds_ne (fun e=>ht e.symm),if_neg ht]
theorem put_size (a:Act) (d:Option Nat) (v:Value):(a.put d v).tmps.size = a.tmps.size:=by cases d <;> simp [Act.put]
theorem put_defers (a:Act) (d:Option Nat) (v:Value):(a.put d v).defers = a.defers:=by cases d <;> rfl
theorem RegOk.keep {h h':Heap} {g':Gh} {w':World} {t:Nat} {v:Value} {cells:List T} {cb:Nat} {arr:Array Value} {e:TypeId} (hreg:RegOk g h w t v cells cb arr e) (hk:Keep g h w g' h' w')
 (ho:g'.own cb = g.own cb) (hh:w'.heap[cb]? = w.heap[cb]?):RegOk g' h' w' t v cells cb arr e :=
 ⟨hreg.ptr,ho.trans hreg.own,hh.trans hreg.heap,hreg.len,fun o c hoc=>by
  obtain ⟨u,h1,h2,h3⟩:=hreg.cell o c hoc
  exact ⟨u,h1,h2,h3.keep hk⟩⟩
abbrev St.lay (s:St) (d:Nat) (v:T) (h:Option Heap):St:=(⟨some (d,v),some (d,none),h⟩:Eff).app s
theorem put_loc {s:St} {d:Nat} {v:T} {h:Option Heap} {e t o:Nat} (hl:(s.lay d v h).loc e = some (t,o)):s.loc e = some (t,o)/\e ≠ d:=by
 simp only [Eff.app,putPlace,Bool.cond_eq_ite] at hl
 split at hl
 ·cases hl
 ·rename_i he
  exact ⟨hl,by simpa using he⟩
theorem SR.done (hs:SR Gl prom nt g s a w) {d:Nat} (hd:d<nt) {x:T} {h':Heap} {v:Value} {w':World} {g':Gh} (hr:HR g' h' w') (hx:g'.VR h' w' x v) (hk:Keep g s.h w g' h' w') (hf:FrO g w g' w') {hp:Option Heap} (he:hp.getD s.h = h') (hu:s.used d = false) :
 SR Gl prom nt g' (s.lay d x hp) (a.put (some d) v) w':=by
 subst he
 have hdl:d<1024:=by have:=hs.nt; omega
 have hds:d<a.tmps.size:=by rw [hs.size]; exact hd
 have hat:=at_set (s:=s) (s':=s.lay d x hp) (d:=d) (v:=x) rfl hdl
 refine ⟨hr,by rw [put_defers]; exact hf.marks hs.defers,by rw [put_size]; exact hs.size,hs.nt,fun t ht=>?_,fun t ht cells hc=>?_,fun e t o hl=>?_,fun gl cells hg=>(hs.glob gl cells hg).keep hk.u,fun e t o hl=>hs.used e t o (put_loc hl).1⟩
 ·rw [hat,put_tmps a d v hds]
  split
  ·exact hx
  ·exact (hs.tmps t ht).keep hk
 ·rw [hat] at hc
  rw [put_tmps a d v hds]
  split at hc
  ·subst hc; exact absurd hx VR.not_reg
  ·rename_i htd
   rw [if_neg htd]
   obtain ⟨cb,arr,e,hreg⟩:=hs.regs t ht cells hc
   have hlt:=lt_of_heap hreg.heap
   exact ⟨cb,arr,e,hreg.keep hk (hf.own cb hlt) (hf.same cb hlt (fun i hi=>by rw [hreg.own] at hi; cases hi))⟩
 ·obtain ⟨h1,h2⟩:=put_loc hl
  have h3:t ≠ d:=by rintro rfl; rw [hs.used e t o h1] at hu; cases hu
  obtain ⟨q1,q2,cb,q3,q4⟩:=hs.loc e t o h1
  refine ⟨q1,q2,cb,?_,?_⟩
  ·rw [put_tmps a d v hds,if_neg h3]; exact q3
  ·rw [put_tmps a d v hds,if_neg h2]; exact q4
theorem SR.done0 (hs:SR Gl prom nt g s a w) {h':Heap} {v:Value} {w':World} {g':Gh} (hr:HR g' h' w') (hk:Keep g s.h w g' h' w') (hf:FrO g w g' w') {hp:Option Heap} (he:hp.getD s.h = h') :
 SR Gl prom nt g' ((⟨none,none,hp⟩:Eff).app s) (a.put none v) w':=by
 subst he
 refine ⟨hr,hf.marks hs.defers,hs.size,hs.nt,fun t ht=>(hs.tmps t ht).keep hk,fun t ht cells hc=>?_,hs.loc,fun gl cells hg=>(hs.glob gl cells hg).keep hk.u,hs.used⟩
 obtain ⟨cb,arr,e,hreg⟩:=hs.regs t ht cells hc
 have hlt:=lt_of_heap hreg.heap
 exact ⟨cb,arr,e,hreg.keep hk (hf.own cb hlt) (hf.same cb hlt (fun i hi=>by rw [hreg.own] at hi; cases hi))⟩
theorem HR.other {h:Heap} (hr:HR g h w) {w':World} {cb t:Nat} {arr:Array Value} {e:TypeId} (hsize:w.heap.size<=w'.heap.size) (hheap:∀ k,k<w.heap.size->k ≠ cb->w'.heap[k]? = w.heap[k]?)
 (hcb:w'.heap[cb]? = some (.cells arr e (0,0))) (hplace:g.own cb = some (.inr t) ∨ w.heap.size<=cb) (hrm:∀ n,room w cb n->n<=arr.size) (hos:w'.os = w.os) (htape:w'.tape = w.tape) (hout:OutOk w' w) :
 ∃ g':Gh,g'.own cb = some (.inr t)/\(∀ k,k ≠ cb->g'.own k = g.own k)/\HR g' h w'/\Keep g h w g' h w'/\FrC g h w g' h w':=by
 let g':Gh:={ g with own:=fun k=>if k = cb then some (.inr t) else g.own k }
 have hU:KeepU w g.U w' g.U:=by
  intro k hk
  obtain ⟨h1,h2⟩:=hr.u k hk
  refine ⟨hk,hheap k h1 ?_⟩
  rintro rfl
  rcases hplace with hp | hp
  ·rw [h2] at hp; cases hp
  ·omega
 have hkeep:Keep g h w g' h w':=by
  refine ⟨hU,fun k x hx=>⟨x,hx,Nat.le_refl _,fun _=>⟨rfl,rfl,rfl⟩⟩,fun k n hkn=>?_⟩
  by_cases hk:k = cb
  ·subst hk; exact ⟨arr,e,hcb,hrm n hkn⟩
  ·obtain ⟨a',e',h1,h2⟩:=hkn
   exact ⟨a',e',by rw [hheap k (lt_of_heap h1) hk]; exact h1,h2⟩
 refine ⟨g',by simp [g'],fun k hk=>by simp [g',hk],?_,hkeep,?_⟩
 ·refine ⟨fun k x hx=>?_,fun k hk=>?_,fun k o ho=>?_,Nat.le_trans hr.base hsize,fun k o ho=>?_,fun k j ho=>?_⟩
  ·obtain ⟨cb2,sh2,arr2,e2,hok⟩:=hr.blk k x hx
   have hne:cb2 ≠ cb:=by
    rintro rfl
    rcases hplace with hp | hp
    ·rw [hok.own] at hp; cases hp
    ·have:=lt_of_heap hok.heap; omega
   refine ⟨cb2,sh2,arr2,e2,hok.φ,by simp [g',hne,hok.own],by rw [hheap cb2 (lt_of_heap hok.heap) hne]; exact hok.heap,hok.room,hok.len,fun j o c hj hc=>?_,hok.flat⟩
   obtain ⟨v,h1,h2,h3⟩:=hok.cell j o c hj hc
   exact ⟨v,h1,h2,h3.keep hkeep⟩
  ·obtain ⟨h1,h2⟩:=hr.u k hk
   refine ⟨by omega,?_⟩
   have hne:k ≠ cb:=by
    rintro rfl
    rcases hplace with hp | hp
    ·rw [h2] at hp; cases hp
    ·omega
   simp [g',hne,h2]
  ·by_cases hk:k = cb
   ·subst hk
    refine ⟨?_,lt_of_heap hcb⟩
    rcases hplace with hp | hp
    ·exact (hr.own k _ hp).1
    ·exact Nat.le_trans hr.base hp
   ·simp only [g',hk,if_false] at ho
    exact ⟨(hr.own k o ho).1,by have:=(hr.own k o ho).2; omega⟩
  ·by_cases hk:k = cb
   ·subst hk; exact ⟨arr,e,hcb⟩
   ·simp only [g',hk,if_false] at ho
    obtain ⟨a2,e2,h2⟩:=hr.cells k o ho
    exact ⟨a2,e2,by rw [hheap k (lt_of_heap h2) hk]; exact h2⟩
  ·by_cases hk:k = cb
   ·subst hk
    simp only [g',if_true,Option.some.injEq] at ho
    cases ho
   ·simp only [g',hk,if_false] at ho
    exact hr.lt k j ho
 ·refine ⟨hkeep,hsize,fun k hk=>?_,hos,htape,hout,fun k hk hn=>?_,rfl,fun _ hk=>.inl hk,fun _ hk=>hk⟩
  ·by_cases hkc:k = cb
   ·subst hkc
    rcases hplace with hp | hp
    ·simp [g',hp]
    ·omega
   ·simp [g',hkc]
  ·refine hheap k hk ?_
   rintro rfl
   rcases hplace with hp | hp
   ·rw [hn] at hp; cases hp
   ·omega
theorem SR.box (hs:SR Gl prom nt g s a w) {d:Nat} (hd:d<nt) (hp:d ∈ prom) (hu:s.used d = false) {cells:List T} {vs:Array Value} {e:TypeId} (hl:cells.length = vs.size)
 (h1:∀ (i:Nat) (u:Value),vs[i]? = some u->u.oneCell' = true) (hc:∀ (i:Nat) (c:T),cells[i]? = some c->∃ u,vs[i]? = some u/\g.VR s.h w c u) :
 ∃ g',SR Gl prom nt g' (s.lay d (.reg cells) none) (a.put (some d) (.pointer (some ⟨w.heap.size,0,none⟩))) (w.alloc (.cells vs e))/\FrC g s.h w g' s.h (w.alloc (.cells vs e)):=by
 obtain ⟨g',o1,o2,hr',hk,hf⟩:=hs.hr.other (w':=w.alloc (.cells vs e)) (cb:=w.heap.size) (t:=d) (by simp) (fun k hk _=>RowKit.Below.heap_alloc _ _ _ hk) (heap_new w _) (.inr (Nat.le_refl _))
  (fun n hn=>by obtain ⟨a',e',q1,_⟩:=hn; have:=lt_of_heap q1; omega) rfl rfl ⟨rfl,Nat.le_refl _⟩
 refine ⟨g',?_,hf⟩
 have hdl:d<1024:=by have:=hs.nt; omega
 have hds:d<a.tmps.size:=by rw [hs.size]; exact hd
 have hat:=at_set (s:=s) (s':=s.lay d (.reg cells) none) (d:=d) (v:=.reg cells) rfl hdl
 refine ⟨hr',by rw [put_defers]; exact hf.marks hs.defers,by rw [put_size]; exact hs.size,hs.nt,fun t ht=>?_,fun t ht cells' hc'=>?_,fun e t o hl=>?_,fun gl cells hg=>(hs.glob gl cells hg).keep hk.u,fun e t o hl=>hs.used e t o (put_loc hl).1⟩
 ·have hne:t ≠ d:=by rintro rfl; exact ht hp
  rw [hat,put_tmps a d _ hds,if_neg hne,if_neg hne]
  exact (hs.tmps t ht).keep hk
 ·rw [hat] at hc'
  rw [put_tmps a d _ hds]
  split at hc'
  ·rename_i htd
   subst htd
   obtain rfl:=T.reg.inj hc'
   rw [if_pos rfl]
   exact ⟨w.heap.size,vs,e,rfl,o1,heap_new w _,by omega,fun o c ho=>by
    obtain ⟨u,hu,hur⟩:=hc o c ho
    exact ⟨u,hu,h1 o u hu,hur.keep hk⟩⟩
  ·rename_i htd
   rw [if_neg htd]
   obtain ⟨cb,arr,e',hreg⟩:=hs.regs t ht cells' hc'
   have hlt:=lt_of_heap hreg.heap
   exact ⟨cb,arr,e',hreg.keep hk (o2 cb (by omega)) (RowKit.Below.heap_alloc _ _ _ hlt)⟩
 ·obtain ⟨q1,q2⟩:=put_loc hl
  have q3:t ≠ d:=by rintro rfl; rw [hs.used e t o q1] at hu; cases hu
  obtain ⟨q4,q5,cb,q6,q7⟩:=hs.loc e t o q1
  refine ⟨q4,q5,cb,?_,?_⟩
  ·rw [put_tmps a d _ hds,if_neg q3]; exact q6
  ·rw [put_tmps a d _ hds,if_neg q2]; exact q7
theorem SR.setReg (hs:SR Gl prom nt g s a w) {t:Nat} (hp:t ∈ prom) {cells cells':List T} (hc:s.at t = .reg cells) {cb:Nat} {arr arr':Array Value} {e:TypeId} (hreg:RegOk g s.h w t (a.tmps.getD t undef) cells cb arr e)
 (hsz:arr'.size = arr.size) (hlen:cells'.length<=arr.size) (hcell:∀ (o:Nat) (c:T),cells'[o]? = some c->∃ u:Value,arr'[o]? = some u/\u.oneCell' = true/\g.VR s.h w c u) :
 ∃ g',SR Gl prom nt g' ((⟨some (t,.reg cells'),none,none⟩:Eff).app s) (a.put none undef) (w.setRow cb arr')/\FrC g s.h w g' s.h (w.setRow cb arr'):=by
 have hh:=setRow_at w cb arr arr' e hreg.heap
 obtain ⟨g',o1,o2,hr',hk,hf⟩:=hs.hr.other (w':=w.setRow cb arr') (cb:=cb) (t:=t) (by simp [World.setRow]) (fun k _ hne=>setRow_other w cb k _ hne) hh (.inl hreg.own)
  (fun n hn=>by rw [hsz]; exact room_is hreg.heap hn) rfl rfl ⟨rfl,Nat.le_refl _⟩
 refine ⟨g',?_,hf⟩
 have htl:t<1024:=by
  rcases Nat.lt_or_ge t 1024 with hq | hq
  ·exact hq
  ·rw [at_ge (by omega)] at hc; cases hc
 have hat:=at_set (s:=s) (s':=(⟨some (t,.reg cells'),none,none⟩:Eff).app s) (d:=t) (v:=.reg cells') rfl htl
 refine ⟨hr',hf.marks hs.defers,hs.size,hs.nt,fun t' ht=>?_,fun t' ht cells2 hc'=>?_,hs.loc,fun gl cells hg=>(hs.glob gl cells hg).keep hk.u,hs.used⟩
 ·have hne:t' ≠ t:=by rintro rfl; exact ht hp
  rw [hat,if_neg hne]
  exact (hs.tmps t' ht).keep hk
 ·rw [hat] at hc'
  split at hc'
  ·rename_i htd
   subst htd
   obtain rfl:=T.reg.inj hc'
   exact ⟨cb,arr',e,hreg.ptr,o1,hh,by omega,fun o c ho=>by
    obtain ⟨u,u1,u2,u3⟩:=hcell o c ho
    exact ⟨u,u1,u2,u3.keep hk⟩⟩
  ·rename_i htd
   obtain ⟨cb2,arr2,e2,hreg2⟩:=hs.regs t' ht cells2 hc'
   have hne:cb2 ≠ cb:=by
    rintro rfl
    have:=hreg.own
    rw [hreg2.own] at this
    exact htd (by simpa using this)
   exact ⟨cb2,arr2,e2,hreg2.keep hk (o2 cb2 hne) (setRow_other w cb cb2 _ hne)⟩
theorem SR.putLoc (hs:SR Gl prom nt g s a w) {d t o cb:Nat} (hd:d<nt) (hp:t ∈ prom) (hdp:d ∉ prom) (ht:a.tmps.getD t undef = .pointer (some ⟨cb,0,none⟩)) :
 SR Gl prom nt g ((⟨some (d,.undef),some (d,some (t,o)),none⟩:Eff).app s) (a.put (some d) (.pointer (some ⟨cb,o,none⟩))) w:=by
 have hdl:d<1024:=by have:=hs.nt; omega
 have hds:d<a.tmps.size:=by rw [hs.size]; exact hd
 have hne:t ≠ d:=by rintro rfl; exact hdp hp
 have hat:=at_set (s:=s) (s':=(⟨some (d,.undef),some (d,some (t,o)),none⟩:Eff).app s) (d:=d) (v:=.undef) rfl hdl
 have hloc:∀ e t' o',((⟨some (d,.undef),some (d,some (t,o)),none⟩:Eff).app s).loc e = some (t',o')->(e = d/\t' = t/\o' = o) ∨ (e ≠ d/\s.loc e = some (t',o')):=by
  intro e t' o' hl
  simp only [Eff.app,putPlace,Bool.cond_eq_ite] at hl
  split at hl
  ·rename_i he
   have he:e = d:=by simpa using he
   simp only [Option.some.injEq,Prod.mk.injEq] at hl
   exact .inl ⟨he,hl.1.symm,hl.2.symm⟩
  ·rename_i he
   exact .inr ⟨by simpa using he,hl⟩
 refine ⟨hs.hr,by rw [put_defers]; exact hs.defers,by rw [put_size]; exact hs.size,hs.nt,fun t' ht'=>?_,fun t' ht' cells hc=>?_,fun e t' o' hl=>?_,hs.glob,fun e t' o' hl=>?_⟩
 ·rw [hat,put_tmps a d _ hds]
  split
  ·exact .imm _ _ (.undef _)
  ·exact hs.tmps t' ht'
 ·have hnd:t' ≠ d:=by rintro rfl; exact hdp ht'
  rw [hat,if_neg hnd] at hc
  rw [put_tmps a d _ hds,if_neg hnd]
  exact hs.regs t' ht' cells hc
 ·rcases hloc e t' o' hl with ⟨rfl,rfl,rfl⟩ | ⟨he,hl⟩
  ·refine ⟨hp,hdp,cb,?_,?_⟩
   ·rw [put_tmps a e _ hds,if_neg hne]; exact ht
   ·rw [put_tmps a e _ hds,if_pos rfl]
  ·obtain ⟨q1,q2,cb',q3,q4⟩:=hs.loc e t' o' hl
   refine ⟨q1,q2,cb',?_,?_⟩
   ·rw [put_tmps a d _ hds,if_neg (by rintro rfl; exact hdp q1)]; exact q3
   ·rw [put_tmps a d _ hds,if_neg he]; exact q4
 ·simp only [Eff.app,putUsed,Bool.cond_eq_ite]
  split
  ·rfl
  ·rename_i hx
   rcases hloc e t' o' hl with ⟨rfl,rfl,rfl⟩ | ⟨he,hl⟩
   ·exact absurd (beq_self_eq_true _) hx
   ·exact hs.used e t' o' hl
end
def GlobOk (Gl:Nat->Option (List T)) (w:World) (U:Nat->Prop):Prop:=∀ gl cells,Gl gl = some cells->VI w U (.vp cells) (.pointer (some ⟨gl,0,none⟩))
def ArgsVI (w:World) (U:Nat->Prop) (args:List T) (cargs:Array Value):Prop:=args.length = cargs.size/\∀ (i:Nat) (x:T),args[i]? = some x->∃ v,cargs[i]? = some v/\VI w U x v
def ArgsVR (g:Gh) (h:Heap) (w:World) (args:List T) (cargs:Array Value):Prop:=args.length = cargs.size/\∀ (i:Nat) (x:T),args[i]? = some x->∃ v,cargs[i]? = some v/\g.VR h w x v
def NoRegs (g:Gh):Prop:=∀ b t,g.own b ≠ some (.inr t)
structure OrcOk (P:Program) (Gl:Nat->Option (List T)) (K:Orc):Prop where
 enters:∀ f,(∃ args r,K.val f args T some = some r) ∨ (∃ args h r,K.ref f args h (T × Heap) (fun v h=>some (v,h)) = some r)->∃ fn,P.funcs[f]? = some fn/\fn.body.isNone = false/\(fn.name=="runtime.NumGoroutine") = false
 val:∀ f args r,K.val f args T some = some r->∀ (w:World) (U:Nat->Prop) (cargs:Array Value),(∀ b,U b->b<w.heap.size)->GlobOk Gl w U->ArgsVI w U args cargs →
  Calls P f cargs w fun e w'=>∃ v,e = .returned v/\RV w U r v w'
 ref:∀ f args h r h',K.ref f args h (T × Heap) (fun v h=>some (v,h)) = some (r,h')->∀ (g:Gh) (w:World) (cargs:Array Value),HR g h w->NoRegs g->GlobOk Gl w g.U->ArgsVR g h w args cargs →
  Calls P f cargs w fun e w'=>∃ v,e = .returned v/\Res g h w r h' v w'
section
variable {P:Program} {Gl:Nat->Option (List T)} {K:Orc} {R:Type} {g:Gh} {h:Heap} {w:World}
theorem ArgsVR.append {args caps:List T} {cargs ccaps:Array Value} (ha:ArgsVR g h w args cargs) (hc:ArgsVR g h w caps ccaps):ArgsVR g h w (args ++ caps) (cargs ++ ccaps):=by
 refine ⟨by simp [ha.1,hc.1],fun i x hi=>?_⟩
 rw [List.getElem?_append] at hi
 split at hi
 ·rename_i hlt
  obtain ⟨v,hv,hr⟩:=ha.2 i x hi
  exact ⟨v,by rw [Array.getElem?_append_left (by rw [← ha.1]; exact hlt)]; exact hv,hr⟩
 ·rename_i hge
  obtain ⟨v,hv,hr⟩:=hc.2 _ x hi
  exact ⟨v,by rw [Array.getElem?_append_right (by rw [← ha.1]; omega),← ha.1]; exact hv,hr⟩
theorem res_strip {x:T} {h':Heap} {v:Value} {w':World} (hr:HR g h w) (hres:Res { g with own:=fun b=>match g.own b with | some (.inl i)=>some (.inl i) | _=>none } h w x h' v w'):Res g h w x h' v w':=by
 obtain ⟨g',hr',hx,hk,hf⟩:=hres
 let g2:Gh:={ g' with own:=fun b=>if b<w.heap.size then g.own b else g'.own b }
 have old:∀ b i,b<w.heap.size->g'.own b = some (.inl i)->g.own b = some (.inl i):=by
  intro b i hb ho
  rw [hf.own b hb] at ho
  dsimp only at ho
  split at ho
  ·rename_i j hj; rw [hj]; exact ho
  ·cases ho
 refine ⟨g2,⟨fun i b hib=>?_,fun b hb=>?_,fun b o ho=>?_,?_,fun b o ho=>?_,fun b j ho=>?_⟩,hx,hk,⟨hf.size,fun b hb=>by simp [g2,hb],hf.os,hf.tape,hf.output,fun b hb hn=>hf.same b hb (fun i hi=>?_),hf.bs,hf.u,fun b hb t=>?_⟩⟩
 ·obtain ⟨cb,sh,arr,e,hok⟩:=hr'.blk i b hib
  refine ⟨cb,sh,arr,e,hok.φ,?_,hok.heap,hok.room,hok.len,hok.cell,hok.flat⟩
  by_cases hlt:cb<w.heap.size
  ·simp only [g2,hlt,if_true]; exact old cb i hlt hok.own
  ·simp only [g2,hlt,if_false]; exact hok.own
 ·obtain ⟨h1,h2⟩:=hr'.u b hb
  refine ⟨h1,?_⟩
  by_cases hlt:b<w.heap.size
  ·simp only [g2,hlt,if_true]
   rcases hf.u b hb with hq | hq
   ·exact (hr.u b hq).2
   ·omega
  ·simp only [g2,hlt,if_false]; exact h2
 ·by_cases hlt:b<w.heap.size
  ·simp only [g2,hlt,if_true] at ho
   exact ⟨by show g'.base<=b; rw [hf.base]; exact (hr.own b o ho).1,by have:=hf.size; omega⟩
  ·simp only [g2,hlt,if_false] at ho
   exact hr'.own b o ho
 ·exact hr'.base
 ·by_cases hlt:b<w.heap.size
  ·simp only [g2,hlt,if_true] at ho
   cases o with
   | inl i=>exact hr'.cells b (.inl i) (by rw [hf.own b hlt]; simp [ho])
   | inr t =>
    obtain ⟨arr,e,q⟩:=hr.cells b _ ho
    refine ⟨arr,e,(hf.same b hlt fun i hi=>?_).trans q⟩
    dsimp only at hi
    rw [ho] at hi
    cases hi
  ·simp only [g2,hlt,if_false] at ho
   exact hr'.cells b o ho
 ·by_cases hlt:b<w.heap.size
  ·simp only [g2,hlt,if_true] at ho
   exact hr'.lt b j (by rw [hf.own b hlt]; simp [ho])
  ·simp only [g2,hlt,if_false] at ho
   exact hr'.lt b j ho
 ·dsimp only at hi
  split at hi
  ·rename_i j hj; exact hn j hj
  ·cases hi
 ·simp only [g2,Nat.not_lt.2 hb,if_false]; exact hf.new b hb t
theorem HR.strip (hr:HR g h w):HR { g with own:=fun b=>match g.own b with | some (.inl i)=>some (.inl i) | _=>none } h w:=by
 refine ⟨fun i b hib=>?_,fun b hb=>?_,fun b o ho=>?_,hr.base,fun b o ho=>?_,fun b i ho=>?_⟩
 ·obtain ⟨cb,sh,arr,e,hok⟩:=hr.blk i b hib
  exact ⟨cb,sh,arr,e,hok.φ,by simp [hok.own],hok.heap,hok.room,hok.len,hok.cell,hok.flat⟩
 ·obtain ⟨h1,h2⟩:=hr.u b hb
  exact ⟨h1,by simp [h2]⟩
 ·dsimp only at ho
  split at ho
  ·rename_i j hj; exact hr.own b _ hj
  ·cases ho
 ·dsimp only at ho
  split at ho
  ·rename_i j hj; exact hr.cells b _ hj
  ·cases ho
 ·dsimp only at ho
  split at ho
  ·rename_i j hj
   obtain rfl:j = i:=by simpa using ho
   exact hr.lt b j hj
  ·cases ho
theorem calls_yields {o:Oper} {a:Act} {f:FuncId} {cargs:Array Value} {Φ:Value->World->Prop} (hrun:(execOp a.eval o).run P w = .ok (.enter f cargs) w)
 (hc:Calls P f cargs w fun e w'=>∃ v,e = .returned v/\Φ v w'):Yields P o a w Φ:=by
 intro ro n next Q hn
 refine ⟨fun _ _=>trivial,?_⟩
 rw [semAt_run hrun (by simp),Oper.uponIn_enter]
 refine ⟨(fun hd=>by simp [wideR] at hd),?_⟩
 have hc':CallsIn (wideR ro) (n - 1) P f cargs w fun e w'=>∃ v,e = .returned v/\Φ v w':=callsIn_wide.2 hc
 refine hc'.mono fun e w' hv=>?_
 obtain ⟨v,rfl,hΦ⟩:=hv
 exact hn v w' hΦ
theorem semCall_sound (hK:OrcOk P Gl K) {o:Oper} {a:Act} {of:Operand} {oargs:Array Operand} {ts:Array TypeId} (ho:o.op = .call { callee:=.value of,args:=oargs,argTypes:=ts })
 {f:T} {args:List T} {k:Kont R} {r:R} (hk:semCall K f args h k = some r) (hr:HR g h w) (hgl:GlobOk Gl w g.U) (hf:g.VR h w f (a.eval of)) (ha:ArgsVR g h w args (oargs.map a.eval)) :
 ∃ y h' wr,k y h' wr = some r/\(wr = false->h' = h)/\Yields P o a w (Res g h w y h'):=by
 cases f with
 | fn f caps =>
  obtain ⟨cs,hev,hcl,hcc⟩:=hf.fn_inv
  have hargs:ArgsVR g h w (args ++ caps) (oargs.map a.eval ++ cs):=ha.append ⟨hcl,hcc⟩
  have hrun:(∃ fn,P.funcs[f]? = some fn/\fn.body.isNone = false/\(fn.name=="runtime.NumGoroutine") = false)->(execOp a.eval o).run P w = .ok (.enter f (oargs.map a.eval ++ cs)) w:=by
   rintro ⟨fn,h1,h2,h3⟩
   unfold execOp
   rw [ho]
   have h3':¬ fn.name = "runtime.NumGoroutine":=by simpa using h3
   have h2':¬ fn.body = none:=by intro hh; rw [hh] at h2; cases h2
   simp [Go.resolve,hev,Deferred.ofValue,invoke,callFunc,h1,h2',h3']
  simp only [semCall] at hk
  rcases bif_some hk with ⟨hb,hk⟩ | ⟨hb,hk⟩
  ·obtain ⟨⟨v,h'⟩,hk,hall⟩:=det_some (K.refDet f (args ++ caps) h) (k:=fun p=>k p.1 p.2 true) hk
   ·have hK':=hall (T × Heap) some
    refine ⟨_,_,_,hk,(fun hh=>by cases hh),?_⟩
    have hc:=hK.ref f _ h v h' hK' _ w (oargs.map a.eval ++ cs) hr.strip (fun b t=>by dsimp only; split <;> simp) hgl hargs
    exact calls_yields (hrun (hK.enters f (.inr ⟨_,_,_,hK'⟩))) (hc.mono fun e w' ⟨v',e1,e2⟩=>⟨v',e1,res_strip hr e2⟩)
  ·obtain ⟨rr,hk,hall⟩:=det_some (K.valDet f ((args ++ caps).map (resolveArg h))) hk
   ·have hK':=hall T some
    refine ⟨_,_,_,hk,fun hh=>?_,?_⟩
    ·have:noFresh rr = true:=by simpa using hh
     exact taken_noFresh this
    ·have hent:=hrun (hK.enters f (.inl ⟨_,_,hK'⟩))
     cases hs:(args ++ caps).all imm with
     | true =>
      have hall:=List.all_eq_true.1 hs
      have hc:=hK.val f _ rr hK' w g.U (oargs.map a.eval ++ cs) (fun b hb=>(hr.u b hb).1) hgl ⟨by simpa using hargs.1,fun i x hi=>by
       obtain ⟨x0,h0,rfl⟩:=map_get hi
       obtain ⟨v,hv,hvr⟩:=hargs.2 i x0 h0
       have hi0:=hall x0 (List.mem_of_getElem? h0)
       refine ⟨v,hv,?_⟩
       simp only [resolveArg,hi0,cond_true]
       exact imm_vi hi0 hvr⟩
      exact calls_yields hent (hc.mono fun e w' ⟨v',e1,e2⟩=>⟨v',e1,taken_res hr e2 (fun _=>rfl)⟩)
     | false =>
      have hc:=hK.val f _ rr hK' w (fun b=>b<w.heap.size) (oargs.map a.eval ++ cs) (fun b hb=>hb) (fun gl cells hg=>(hgl gl cells hg).keep (keepU_of (reads_all hr).u)) ⟨by simpa using hargs.1,fun i x hi=>by
       obtain ⟨x0,h0,rfl⟩:=map_get hi
       obtain ⟨v,hv,hvr⟩:=hargs.2 i x0 h0
       exact ⟨v,hv,resolveArg_vi hr hvr⟩⟩
      exact calls_yields hent (hc.mono fun e w' ⟨v',e1,e2⟩=>⟨v',e1,taken_res hr e2 (fun hh=>by cases hh)⟩)
 | _=>simp [semCall] at hk
theorem yields_res {o:Oper} {a:Act} {s:Sem Value} {v:Value} {w':World} {y:T} {h':Heap} (he:execOp a.eval o = (do pure (.value (← s)))) (hrun:s.run P w = .ok v w') (hres:Res g h w y h' v w'):Yields P o a w (Res g h w y h') :=
 yields_value (by rw [he]; simp [hrun]) hres
theorem args_rel {ops:List Operand} {e:Operand->T} {ce:Operand->Value} (he:∀ x,g.VR h w (e x) (ce x)):∀ (i:Nat) (x:T),(ops.map e)[i]? = some x->∃ v,(ops.map ce)[i]? = some v/\g.VR h w x v:=by
 intro i x hi
 rw [List.getElem?_map] at hi
 cases ho:ops[i]? with
 | none=>simp [ho] at hi
 | some o =>
  rw [ho] at hi
  obtain rfl:=Option.some.inj hi
  exact ⟨ce o,by simp [ho],he o⟩
theorem args_arr {ops:Array Operand} {e:Operand->T} {ce:Operand->Value} (he:∀ x,g.VR h w (e x) (ce x)):ArgsVR g h w (ops.toList.map e) (ops.map ce):=by
 refine ⟨by simp,fun i x hi=>?_⟩
 obtain ⟨v,hv,hr⟩:=args_rel (ops:=ops.toList) he i x hi
 exact ⟨v,by rw [← hv]; simp,hr⟩
theorem parts_rel {ps:Array (Nat × Operand)} {e:Operand->T} {ce:Operand->Value} (he:∀ x,g.VR h w (e x) (ce x)) :
 ∀ (n:Nat) (p:Nat × T),(ps.toList.map fun p=>(p.1,e p.2))[n]? = some p->∃ q:Nat × Value,(ps.map fun p=>(p.1,ce p.2)).toList[n]? = some q/\q.1 = p.1/\g.VR h w p.2 q.2:=by
 intro n p hn
 rw [List.getElem?_map] at hn
 cases ho:ps.toList[n]? with
 | none=>simp [ho] at hn
 | some o =>
  rw [ho] at hn
  obtain rfl:=Option.some.inj hn
  refine ⟨(o.1,ce o.2),?_,rfl,he o.2⟩
  rw [Array.toList_map,List.getElem?_map,ho]
  rfl
theorem opt_rel {x:Option Operand} {e:Operand->T} {ce:Operand->Value} (he:∀ x,g.VR h w (e x) (ce x)):OptR g h w (x.map e) (x.map ce):=by
 cases x with
 | none=>exact .inl ⟨rfl,rfl⟩
 | some x=>exact .inr ⟨_,_,rfl,rfl,he x⟩
theorem semBuiltin_sound {o:Oper} {a:Act} {b:Builtin} {oargs:Array Operand} {ts:Array TypeId} (ho:o.op = .call { callee:=.builtin b,args:=oargs,argTypes:=ts })
 {args:List T} {k:Kont R} {r:R} (hk:semBuiltin P b ts.toList args h k = some r) (hr:HR g h w) (ha:ArgsVR g h w args (oargs.map a.eval)) :
 ∃ y h' wr,k y h' wr = some r/\(wr = false->h' = h)/\Yields P o a w (Res g h w y h'):=by
 have one:∀ {x:T},args = [x]->∃ u,oargs.map a.eval = #[u]/\g.VR h w x u:=by
  rintro x rfl
  obtain ⟨v,hv,hvr⟩:=ha.2 0 x rfl
  refine ⟨v,?_,hvr⟩
  have h1:(oargs.map a.eval).size = 1:=ha.1.symm
  apply Array.ext (by simp [h1])
  intro i hi _
  have:i = 0:=by omega
  subst this
  rw [Array.getElem?_eq_getElem hi] at hv
  simpa using Option.some.inj hv
 have two:∀ {x y:T},args = [x,y]->∃ u v,oargs.map a.eval = #[u,v]/\g.VR h w x u/\g.VR h w y v:=by
  rintro x y rfl
  obtain ⟨u,hu,hur⟩:=ha.2 0 x rfl
  obtain ⟨v,hv,hvr⟩:=ha.2 1 y rfl
  refine ⟨u,v,?_,hur,hvr⟩
  have h1:(oargs.map a.eval).size = 2:=ha.1.symm
  apply Array.ext (by simp [h1])
  intro i hi _
  have:i = 0 ∨ i = 1:=by omega
  rcases this with rfl | rfl
  ·rw [Array.getElem?_eq_getElem hi] at hu
   simpa using Option.some.inj hu
  ·rw [Array.getElem?_eq_getElem hi] at hv
   simpa using Option.some.inj hv
 have hex:∀ (s:Sem Value),builtin b ts o.type (oargs.map fun | .const _=>true | _=>false) (oargs.map a.eval) = (do pure (.value (← s)))->execOp a.eval o = (do pure (.value (← s))):=by
  intro s hs
  unfold execOp
  rw [ho]
  show (do let d ← Go.resolve a.eval { callee:=.builtin b,args:=oargs,argTypes:=ts } o.type; invoke d.target d.args) = _
  exact hs
 have fin:∀ {s:Sem Value} {y:T} {h':Heap} {v:Value} {w':World},builtin b ts o.type (oargs.map fun | .const _=>true | _=>false) (oargs.map a.eval) = (do pure (.value (← s)))->s.run P w = .ok v w'->Res g h w y h' v w'->Yields P o a w (Res g h w y h') :=
  fun hs hrun hres=>yields_res (hex _ hs) hrun hres
 have tl:∀ {t:TypeId} {l:List TypeId},ts.toList = t :: l->ts[0]? = some t:=by
  intro t l he
  rw [← Array.getElem?_toList,he]; rfl
 unfold semBuiltin at hk
 split at hk
 ·rename_i t l x hts
  obtain ⟨u,hu,hur⟩:=one rfl
  obtain ⟨z,hz,c,hrun,hzr⟩:=semLen_sound (ty:=o.type) hk hur (tl hts)
  exact ⟨z,h,false,hz,fun _=>rfl,fin (s:=Builtin.len_ ts o.type (oargs.map a.eval)) rfl (by rw [hu]; exact hrun) (.pure hr hzr)⟩
 ·rename_i t l x hts
  obtain ⟨u,hu,hur⟩:=one rfl
  obtain ⟨z,hz,c,hrun,hzr⟩:=semCap_sound (ty:=o.type) hk hur (tl hts)
  exact ⟨z,h,false,hz,fun _=>rfl,fin (s:=Builtin.cap_ ts o.type (oargs.map a.eval)) rfl (by rw [hu]; exact hrun) (.pure hr hzr)⟩
 ·rename_i t tx l s x hts
  obtain ⟨u,v,hu,hur,hvr⟩:=two rfl
  obtain ⟨hx,hk⟩:=bif_none hk
  obtain ⟨z,h',wr,hz,hwr,c,w',hrun,hres⟩:=semAppend_sound (tx:=tx) (ty:=o.type) hk hx hr hur hvr
  refine ⟨z,h',wr,hz,hwr,fin (s:=Builtin.append_ ts o.type (oargs.map a.eval)) rfl ?_ hres⟩
  rw [hu]
  have e:Builtin.append_ ts o.type #[u,v] = Builtin.append_ #[t,tx] o.type #[u,v]:=by
   unfold Builtin.append_
   have e0:ts[0]? = (#[t,tx]:Array TypeId)[0]?:=tl hts
   have e1:ts[1]? = (#[t,tx]:Array TypeId)[1]?:=by rw [← Array.getElem?_toList,hts]; rfl
   rw [e0,e1]
  rw [e]; exact hrun
 ·rename_i t l d x hts
  obtain ⟨u,v,hu,hur,hvr⟩:=two rfl
  obtain ⟨z,h',wr,hz,hwr,c,w',hrun,hres⟩:=semCopy_sound (tx:=t) (ty:=o.type) hk hr hur hvr
  refine ⟨z,h',wr,hz,hwr,fin (s:=Builtin.copy_ ts o.type (oargs.map a.eval)) rfl ?_ hres⟩
  rw [hu]
  have e:Builtin.copy_ ts o.type #[u,v] = Builtin.copy_ #[t,t] o.type #[u,v]:=by
   unfold Builtin.copy_
   have e0:ts[0]? = (#[t,t]:Array TypeId)[0]?:=tl hts
   rw [e0]
  rw [e]; exact hrun
 ·rename_i t l d hts
  obtain ⟨u,hu,hur⟩:=one rfl
  obtain ⟨z,h',wr,hz,hwr,c,w',hrun,hres⟩:=semClear_sound (ty:=o.type) hk hr hur
  refine ⟨z,h',wr,hz,hwr,fin (s:=Builtin.clear_ ts o.type (oargs.map a.eval)) rfl ?_ hres⟩
  rw [hu]
  have e:Builtin.clear_ ts o.type #[u] = Builtin.clear_ #[t] o.type #[u]:=by
   unfold Builtin.clear_
   have e0:ts[0]? = (#[t]:Array TypeId)[0]?:=tl hts
   rw [e0]
  rw [e]; exact hrun
 ·rename_i x y
  obtain ⟨u,v,hu,hur,hvr⟩:=two rfl
  obtain ⟨z,hz,c,hrun,hzr⟩:=semMin2_sound (ty:=o.type) (ts:=ts) hk hur hvr
  exact ⟨z,h,false,hz,fun _=>rfl,fin (s:=Builtin.min_ ts o.type (oargs.map a.eval)) rfl (by rw [hu]; exact hrun) (.pure hr hzr)⟩
 ·rename_i x y
  obtain ⟨u,v,hu,hur,hvr⟩:=two rfl
  obtain ⟨z,hz,c,hrun,hzr⟩:=semMin2_sound (ty:=o.type) (ts:=ts) hk hur hvr
  exact ⟨z,h,false,hz,fun _=>rfl,fin (s:=Builtin.max_ ts o.type (oargs.map a.eval)) rfl (by rw [hu]; exact hrun) (.pure hr hzr)⟩
 ·cases hk
theorem exec_build {o:Oper} {ρ:Operand->Value} {t:TypeId} {ps:Array (Nat × Operand)} (ho:o.op = .build t ps):execOp ρ o = (do pure (.value (← Instr.build t (ps.map fun p=>(p.1,ρ p.2))))):=by
 unfold execOp
 rw [ho]
theorem exec_buildSlice {o:Oper} {ρ:Operand->Value} {t:TypeId} {len:Nat} {ps:Array (Nat × Operand)} (ho:o.op = .buildSlice t len ps):execOp ρ o = (do pure (.value (← Instr.buildSlice t len (ps.map fun p=>(p.1,ρ p.2))))):=by
 unfold execOp
 rw [ho]
set_option maxHeartbeats 1000000 in
theorem semOp_sound (hK:OrcOk P Gl K) {o:Oper} {a:Act} {e:Operand->T} {k:Kont R} {r:R} (hk:semOp P K o.op e h k = some r) (hr:HR g h w) (hgl:GlobOk Gl w g.U) (he:∀ x,g.VR h w (e x) (a.eval x)) :
 ∃ y h' wr,k y h' wr = some r/\(wr = false->h' = h)/\Yields P o a w (Res g h w y h'):=by
 have ofRun:∀ {s:Sem Value},execOp a.eval o = (do pure (.value (← s)))->(∃ y,k y h false = some r/\∃ u,s.run P w = .ok u w/\g.VR h w y u)->∃ y h' wr,k y h' wr = some r/\(wr = false->h' = h)/\Yields P o a w (Res g h w y h'):=by
  rintro s hs ⟨y,hy,u,hrun,hyr⟩
  exact ⟨y,h,false,hy,fun _=>rfl,yields_res hs hrun (.pure hr hyr)⟩
 have ofVal:∀ (x:Operand),execOp a.eval o = pure (.value (a.eval x))->k (e x) h false = some r->∃ y h' wr,k y h' wr = some r/\(wr = false->h' = h)/\Yields P o a w (Res g h w y h') :=
  fun x hs hk=>⟨e x,h,false,hk,fun _=>rfl,yields_value (by rw [hs]; rfl) (.pure hr (he x))⟩
 unfold semOp at hk
 split at hk
 ·rename_i x ho; exact ofVal x (by unfold execOp; rw [ho]) hk
 ·rename_i x ho; exact ofVal x (by unfold execOp; rw [ho]) hk
 ·rename_i c x y ho
  cases hc:e c with
  | bool t =>
   rw [hc] at hk
   have hce:=he c
   rw [hc] at hce
   have hce:=hce.bool
   rcases bif_some hk with ⟨rfl,hk⟩ | ⟨rfl,hk⟩
   ·exact ⟨e x,h,false,hk,fun _=>rfl,yields_value (v:=a.eval x) (by unfold execOp; rw [ho]; simp [hce,asBool]) (.pure hr (he x))⟩
   ·exact ⟨e y,h,false,hk,fun _=>rfl,yields_value (v:=a.eval y) (by unfold execOp; rw [ho]; simp [hce,asBool]) (.pure hr (he y))⟩
  | _=>simp [hc] at hk
 ·rename_i ty ho
  obtain ⟨hz,hk⟩:=bif_none hk
  obtain ⟨z,hz,hkn,hz1,hz2,hz3,hz4⟩:=zero_run (P:=P) (g:=g) (h:=h) (w:=w) hz
  obtain ⟨y,h',hy,hres⟩:=semAllocT_sound (e:=ty) hk hr hz1 hz3 hz4
  exact ⟨y,h',true,hy,(fun hh=>by cases hh),yields_res (s:=Instr.alloc ty true (.tuple #[])) (by unfold execOp; rw [ho]) (by simp [Instr.alloc,hz,newVar,newRow]) hres⟩
 ·rename_i ty x ho
  obtain ⟨hc,hk⟩:=bif_none hk
  obtain ⟨c1,c2,c3⟩:=(he x).cells_rel hc
  obtain ⟨y,h',hy,hres⟩:=semAlloc_sound (e:=ty) hk hr c1 c2 c3
  exact ⟨y,h',true,hy,(fun hh=>by cases hh),yields_res (s:=Instr.box ty (a.eval x)) (by unfold execOp; rw [ho]) (by simp [Instr.box,newVar,newRow]) hres⟩
 ·rename_i t ps ho
  exact ofRun (exec_build ho) (semBuild_sound hk (by simp) (parts_rel he))
 ·rename_i t len ps ho
  obtain ⟨y,h',hy,v,w',hrun,hres⟩:=semBuildSlice_sound (cparts:=ps.map fun p=>(p.1,a.eval p.2)) hk hr (by simp) (parts_rel he)
  exact ⟨y,h',true,hy,(fun hh=>by cases hh),yields_res (exec_buildSlice ho) hrun hres⟩
 ·rename_i t x ho
  exact ofRun (s:=Instr.loadAt t (a.eval x)) (by unfold execOp; rw [ho]) (semLoad_sound hk hr (he x))
 ·rename_i t x v ho
  obtain ⟨h',hy,w',hrun,hres⟩:=semStore_sound hk hr (he x) (he v)
  refine ⟨_,h',true,hy,(fun hh=>by cases hh),yields_skip ?_ hres⟩
  unfold execOp
  rw [ho]
  simp [hrun]
 ·rename_i x ho
  obtain ⟨hy,hu⟩:=semNil_sound hk (he x)
  refine ⟨_,h,false,hy,fun _=>rfl,yields_value (v:=a.eval x) ?_ (.pure hr (he x))⟩
  unfold execOp
  rw [ho]
  rcases hu with ⟨ad,hu⟩ | ⟨f,cs,hu⟩ <;> simp [hu]
 ·rename_i op t x y ty ho
  exact ofRun (s:=do eqGuard op t x y (a.eval x) (a.eval y); binOp op t (a.eval x) (a.eval y)) (by unfold execOp; rw [ho]) (semBin_sound hk (he x) (he y))
 ·rename_i op t x ho
  exact ofRun (s:=Op.unary op (a.eval x)) (by unfold execOp; rw [ho]) (semUn_sound hk (he x))
 ·rename_i src dst x ho
  cases hs:P.underlying src with
  | none=>simp [hs] at hk
  | some d =>
   simp only [hs,Option.isSome_some,cond_true] at hk
   exact ofRun (s:=convert src dst (a.eval x)) (by unfold execOp; rw [ho]) (semConvert_sound hk hr (he x) ⟨d,hs⟩)
 ·rename_i f first cap ho
  obtain ⟨hf,hk⟩:=bif_none hk
  have hf:first = #[]:=by simpa using hf
  subst hf
  obtain ⟨q1,q2⟩:=args_arr (ops:=cap) he
  exact ⟨_,h,false,hk,fun _=>rfl,yields_res (s:=Instr.makeFunc (.func f) ((#[]:Array Operand).map a.eval) (cap.map a.eval)) (by unfold execOp; rw [ho]) (by simp [Instr.makeFunc]) (.pure hr (VR.mk_fn q1 q2))⟩
 ·rename_i t l c ho
  obtain ⟨y,h',hy,v,w',hrun,hres⟩:=semMake_sound hk hr (he l) (he c)
  exact ⟨y,h',true,hy,(fun hh=>by cases hh),yields_res (s:=Instr.makeSlice t (a.eval l) (a.eval c)) (by unfold execOp; rw [ho]) hrun hres⟩
 ·rename_i t x lo hi mx ho
  exact ofRun (s:=Instr.sliceAt t (a.eval x) (lo.map a.eval) (hi.map a.eval) (mx.map a.eval)) (by unfold execOp; rw [ho]) (semSlice_sound hk (he x) (opt_rel he) (opt_rel he) (opt_rel he))
 ·rename_i t x f ho
  exact ofRun (s:=Instr.fieldAt t (a.eval x) f) (by unfold execOp; rw [ho]) (semFieldAddr_sound hk (he x))
 ·rename_i t x f ho
  exact ofRun (s:=Instr.field t (a.eval x) f) (by unfold execOp; rw [ho]) (semField_sound hk (he x))
 ·rename_i t x i ho
  exact ofRun (s:=Instr.indexAt t (a.eval x) (a.eval i)) (by unfold execOp; rw [ho]) (semIndexAddr_sound hk (he x) (he i))
 ·rename_i t x i ho
  exact ofRun (s:=Instr.index t (a.eval x) (a.eval i)) (by unfold execOp; rw [ho]) (semIndex_sound hk (he x) (he i))
 ·rename_i x i ho
  exact ofRun (s:=Instr.extract (a.eval x) i) (by unfold execOp; rw [ho]) (semExtract_sound hk (he x))
 ·rename_i f args ts ho
  exact semCall_sound hK ho hk hr hgl (he f) (args_arr he)
 ·rename_i b args ts ho
  exact semBuiltin_sound ho hk hr (args_arr he)
 ·cases hk
theorem vr_nil {U:Nat->Prop} {φ:Nat->Option (Nat × Nat)} {x:T} {v:Value} (hx:VR w U φ [] x v):VI w U x v:=by
 generalize hh:([]:Heap) = h0 at hx
 induction hx with
 | imm x v hv=>exact hv
 | own i ver off len cap b v hb hver h1 hok=>subst hh; simp at hb
 | ptr i ver j o b v hb hver h1 hok=>subst hh; simp at hb
 | fn f caps cs vs hl hc hv ih=>exact .fn f caps cs vs hl hc (fun i c hi=>ih i c hi)
 | agg l cs vs hl h1 hc hv ih=>exact .agg l cs vs hl h1 hc (fun i c hi=>ih i c hi)
 | tup l cs vs hl hc hv ih=>exact .tup l cs vs hl hc (fun i c hi=>ih i c hi)
 | iface t x v hv ih=>exact .iface t x v ih
theorem HR.empty (hr:HR g h w):HR { g with own:=fun _=>none } [] w:=⟨fun i b hb=>by simp at hb,fun b hb=>⟨(hr.u b hb).1,rfl⟩,fun b o ho=>(by cases ho),hr.base,fun b o ho=>(by cases ho),fun b i ho=>(by cases ho)⟩
theorem semMem_sound {o:Oper} {a:Act} {e:Operand->T} {k:Kont R} {r:R} (hb:onMem o.op = true) (hi:(o.op.operands.toList.all fun x=>imm (e x)) = true) (hk:semOp P K o.op e [] k = some r) (hr:HR g h w) (he:∀ x,g.VR h w (e x) (a.eval x)) :
 ∃ y wr,k y [] wr = some r/\∃ v,(execOp a.eval o).run P w = .ok (.value v) w/\g.VR h w y v:=by
 have hall:=List.all_eq_true.1 hi
 have hev:∀ x,x ∈ o.op.operands.toList->g.VR [] w (e x) (a.eval x):=fun x hx=>.imm _ _ (imm_vi (hall x hx) (he x))
 have ofRun:∀ {s:Sem Value},execOp a.eval o = (do pure (.value (← s)))->(∃ y,k y [] false = some r/\∃ u,s.run P w = .ok u w/\g.VR [] w y u)->∃ y wr,k y [] wr = some r/\∃ v,(execOp a.eval o).run P w = .ok (.value v) w/\g.VR h w y v:=by
  rintro s hs ⟨y,hy,u,hrun,hyr⟩
  exact ⟨y,false,hy,u,by rw [hs]; simp [hrun],.imm _ _ (vr_nil hyr)⟩
 have opt:∀ {x:Option Operand},(∀ y,x = some y->y ∈ o.op.operands.toList)->OptR g [] w (x.map e) (x.map a.eval):=by
  intro x hx
  cases x with
  | none=>exact .inl ⟨rfl,rfl⟩
  | some x=>exact .inr ⟨_,_,rfl,rfl,hev x (hx x rfl)⟩
 unfold semOp at hk
 split at hk
 all_goals first | (cases hk; done) | (rename_i ho; rw [ho] at hb; simp [onMem] at hb; done) | skip
 ·rename_i t x ho
  exact ofRun (s:=Instr.loadAt t (a.eval x)) (by unfold execOp; rw [ho]) (semLoad_sound (g:={ g with own:=fun _=>none }) hk hr.empty (hev x (by rw [ho]; simp [Op.operands])))
 ·rename_i x ho
  obtain ⟨hy,hu⟩:=semNil_sound hk (hev x (by rw [ho]; simp [Op.operands]))
  refine ⟨_,false,hy,a.eval x,?_,he x⟩
  unfold execOp
  rw [ho]
  rcases hu with ⟨ad,hu⟩ | ⟨f,cs,hu⟩ <;> simp [hu]
 ·rename_i op t x y ty ho
  exact ofRun (s:=do eqGuard op t x y (a.eval x) (a.eval y); binOp op t (a.eval x) (a.eval y)) (by unfold execOp; rw [ho]) (semBin_sound hk (hev x (by rw [ho]; simp [Op.operands])) (hev y (by rw [ho]; simp [Op.operands])))
 ·rename_i src dst x ho
  cases hs:P.underlying src with
  | none=>simp [hs] at hk
  | some d =>
   simp only [hs,Option.isSome_some,cond_true] at hk
   exact ofRun (s:=convert src dst (a.eval x)) (by unfold execOp; rw [ho]) (semConvert_sound (g:={ g with own:=fun _=>none }) hk hr.empty (hev x (by rw [ho]; simp [Op.operands])) ⟨d,hs⟩)
 ·rename_i t x lo hi mx ho
  exact ofRun (s:=Instr.sliceAt t (a.eval x) (lo.map a.eval) (hi.map a.eval) (mx.map a.eval)) (by unfold execOp; rw [ho]) (semSlice_sound hk (hev x (by rw [ho]; simp [Op.operands]))
   (opt (fun y hy=>by rw [ho,hy]; simp [Op.operands])) (opt (fun y hy=>by rw [ho,hy]; simp [Op.operands])) (opt (fun y hy=>by rw [ho,hy]; simp [Op.operands])))
 ·rename_i t x f ho
  exact ofRun (s:=Instr.fieldAt t (a.eval x) f) (by unfold execOp; rw [ho]) (semFieldAddr_sound hk (hev x (by rw [ho]; simp [Op.operands])))
 ·rename_i t x i ho
  exact ofRun (s:=Instr.indexAt t (a.eval x) (a.eval i)) (by unfold execOp; rw [ho]) (semIndexAddr_sound hk (hev x (by rw [ho]; simp [Op.operands])) (hev i (by rw [ho]; simp [Op.operands])))
 ·rename_i b oargs ts ho
  have ha:ArgsVR g [] w (oargs.toList.map e) (oargs.map a.eval):=by
   refine ⟨by simp,fun i x hi=>?_⟩
   rw [List.getElem?_map] at hi
   cases hoi:oargs.toList[i]? with
   | none=>simp [hoi] at hi
   | some y =>
    rw [hoi] at hi
    obtain rfl:=Option.some.inj hi
    refine ⟨a.eval y,by rw [Array.getElem?_map,← Array.getElem?_toList,hoi]; rfl,hev y ?_⟩
    rw [ho]
    have:=List.mem_of_getElem? hoi
    simpa [Op.operands,Call.operands] using this
  have hex:∀ (s:Sem Value),builtin b ts o.type (oargs.map fun | .const _=>true | _=>false) (oargs.map a.eval) = (do pure (.value (← s)))->execOp a.eval o = (do pure (.value (← s))):=by
   intro s hs
   unfold execOp
   rw [ho]
   show (do let d ← Go.resolve a.eval { callee:=.builtin b,args:=oargs,argTypes:=ts } o.type; invoke d.target d.args) = _
   exact hs
  have arr1:∀ {x:T},oargs.toList.map e = [x]->∃ u,oargs.map a.eval = #[u]/\g.VR [] w x u:=by
   intro x hx
   rw [hx] at ha
   obtain ⟨v,hv,hvr⟩:=ha.2 0 x rfl
   refine ⟨v,?_,hvr⟩
   have h1:(oargs.map a.eval).size = 1:=ha.1.symm
   apply Array.ext (by simp [h1])
   intro i hi _
   have:i = 0:=by omega
   subst this
   rw [Array.getElem?_eq_getElem hi] at hv
   simpa using Option.some.inj hv
  have arr2:∀ {x y:T},oargs.toList.map e = [x,y]->∃ u v,oargs.map a.eval = #[u,v]/\g.VR [] w x u/\g.VR [] w y v:=by
   intro x y hx
   rw [hx] at ha
   obtain ⟨u,hu,hur⟩:=ha.2 0 x rfl
   obtain ⟨v,hv,hvr⟩:=ha.2 1 y rfl
   refine ⟨u,v,?_,hur,hvr⟩
   have h1:(oargs.map a.eval).size = 2:=ha.1.symm
   apply Array.ext (by simp [h1])
   intro i hi _
   have:i = 0 ∨ i = 1:=by omega
   rcases this with rfl | rfl
   ·rw [Array.getElem?_eq_getElem hi] at hu
    simpa using Option.some.inj hu
   ·rw [Array.getElem?_eq_getElem hi] at hv
    simpa using Option.some.inj hv
  have tl:∀ {t:TypeId} {l:List TypeId},ts.toList = t :: l->ts[0]? = some t:=by
   intro t l he
   rw [← Array.getElem?_toList,he]; rfl
  unfold semBuiltin at hk
  split at hk
  ·rename_i t l x hts hargs
   obtain ⟨u,hu,hur⟩:=arr1 hargs
   exact ofRun (hex (Builtin.len_ ts o.type (oargs.map a.eval)) rfl) (by rw [hu]; exact semLen_sound (ty:=o.type) hk hur (tl hts))
  ·rename_i t l x hts hargs
   obtain ⟨u,hu,hur⟩:=arr1 hargs
   exact ofRun (hex (Builtin.cap_ ts o.type (oargs.map a.eval)) rfl) (by rw [hu]; exact semCap_sound (ty:=o.type) hk hur (tl hts))
  ·rw [ho] at hb; simp [onMem] at hb
  ·rw [ho] at hb; simp [onMem] at hb
  ·rw [ho] at hb; simp [onMem] at hb
  ·rename_i x y hargs
   obtain ⟨u,v,hu,hur,hvr⟩:=arr2 hargs
   exact ofRun (hex (Builtin.min_ ts o.type (oargs.map a.eval)) rfl) (by rw [hu]; exact semMin2_sound (ty:=o.type) (ts:=ts) hk hur hvr)
  ·rename_i x y hargs
   obtain ⟨u,v,hu,hur,hvr⟩:=arr2 hargs
   exact ofRun (hex (Builtin.max_ ts o.type (oargs.map a.eval)) rfl) (by rw [hu]; exact semMin2_sound (ty:=o.type) (ts:=ts) hk hur hvr)
  ·cases hk
theorem semVals_any {op:Op} (hv:onVals op = true) (e:Operand->T) (h h':Heap) (k:Bool->T->Option R):semOp P K op e h (fun y _ wr=>k wr y) = semOp P K op e h' (fun y _ wr=>k wr y):=by
 cases op <;> first | rfl | (simp [onVals] at hv; done) | skip
 case makeFunc fn first cap=>cases fn <;> rfl
end
def Goes (P:Program) (Gl:Nat->Option (List T)) (prom:List Nat) (nt:Nat) (o:Oper) (a:Act) (w:World) (g:Gh) (h:Heap) (s':St):Prop :=
 ∀ (ro:Option Nat) (n:Nat) (next:Act->World->Prop) (Q:Exit->Act->World->Prop),(∀ a' w' g',SR Gl prom nt g' s' a' w'->FrC g h w g' s'.h w'->a'.defers = a.defers->next a' w')->o.wpIn (wideR ro) n P a w next Q
section
variable {P:Program} {Gl:Nat->Option (List T)} {K:Orc} {R:Type} {prom:List Nat} {nt:Nat} {g:Gh} {s:St} {a:Act} {w:World}
theorem goes_value {h0:Heap} {o:Oper} {v:Value} {w':World} {s':St} {g':Gh} (h:(execOp a.eval o).run P w = .ok (.value v) w') (hs:SR Gl prom nt g' s' (a.put o.dst v) w') (hf:FrC g h0 w g' s'.h w'):Goes P Gl prom nt o a w g h0 s':=by
 intro ro n next Q hn
 refine ⟨fun _ _=>trivial,?_⟩
 rw [semAt_run h (by simp)]
 exact hn _ _ g' hs hf (put_defers _ _ _)
theorem goes_skip {h0:Heap} {o:Oper} {w':World} {s':St} {g':Gh} (h:(execOp a.eval o).run P w = .ok .skip w') (hs:SR Gl prom nt g' s' (a.put o.dst undef) w') (hf:FrC g h0 w g' s'.h w'):Goes P Gl prom nt o a w g h0 s':=by
 intro ro n next Q hn
 refine ⟨fun _ _=>trivial,?_⟩
 rw [semAt_run h (by simp)]
 exact hn _ _ g' hs hf (put_defers _ _ _)
theorem parted_eq {A:Type} {v:T} {k:T->Option A} {r:A} (h:parted v k = some r):k v = some r:=by
 cases v with
 | bool b=>cases b <;> exact h
 | _=>exact h
theorem done_goes {o:Oper} {v:T} {h':Heap} {hp:Option Heap} {rs:List Nat} {rd wr:Bool} {k:Eff->FP->Option R} {r:R} (hk:done nt o s v hp rs rd wr k = some r) (hs:SR Gl prom nt g s a w) (he:hp.getD s.h = h') (hy:Yields P o a w (Res g s.h w v h')) :
 ∃ f fp,k f fp = some r/\Goes P Gl prom nt o a w g s.h (f.app s):=by
 unfold done at hk
 cases hd:o.dst with
 | none =>
  rw [hd] at hk
  refine ⟨_,_,hk,fun ro n next Q hn=>hy ro n next Q fun cv w' hres=>?_⟩
  obtain ⟨g',hr',hx,hkp,hf⟩:=hres
  rw [hd]
  subst he; exact hn _ _ g' (hs.done0 hr' hkp hf rfl) (hf.toC hkp) rfl
 | some d =>
  rw [hd] at hk
  obtain ⟨hlt,hk⟩:=bif_none hk
  simp only [Bool.and_eq_true,Bool.not_eq_true'] at hlt
  refine ⟨_,_,parted_eq hk,fun ro n next Q hn=>hy ro n next Q fun cv w' hres=>?_⟩
  obtain ⟨g',hr',hx,hkp,hf⟩:=hres
  rw [hd]
  subst he; exact hn _ _ g' (hs.done (blt_lt hlt.1) hr' hx hkp hf rfl hlt.2) (hf.toC hkp) (put_defers _ _ _)
theorem plainStep_goes (hK:OrcOk P Gl K) {o:Oper} {k:Eff->FP->Option R} {r:R} (hk:plainStep P K Gl prom nt o s k = some r) (hs:SR Gl prom nt g s a w) :
 ∃ f fp,k f fp = some r/\Goes P Gl prom nt o a w g s.h (f.app s):=by
 unfold plainStep at hk
 rcases bif_some hk with ⟨hn,hk⟩ | ⟨_,hk⟩
 ·rcases Bool.or_eq_true _ _ ▸ hn with hv | hm
  ·rw [semVals_any (P:=P) (K:=K) hv (Ab.ev Gl prom s) [] s.h (fun wr v=>bif wr then none else done nt o s v none (opSlots o.op) false false k)] at hk
   obtain ⟨y,h',wr,hk,hwr,hy⟩:=semOp_sound hK hk hs.hr hs.glob hs.ev
   rcases bif_some hk with ⟨_,hk⟩ | ⟨hw,hk⟩
   ·cases hk
   obtain rfl:=hwr hw
   exact done_goes hk hs rfl hy
  ·simp only [Bool.and_eq_true] at hm
   obtain ⟨y,wr,hk,v,hrun,hyr⟩:=semMem_sound hm.1 hm.2 hk hs.hr hs.ev
   rcases bif_some hk with ⟨_,hk⟩ | ⟨_,hk⟩
   ·cases hk
   exact done_goes hk hs rfl (yields_value hrun (.pure hs.hr hyr))
 ·obtain ⟨y,h',wr,hk,hwr,hy⟩:=semOp_sound hK hk hs.hr hs.glob hs.ev
  obtain ⟨f,fp,h1,h2⟩:=done_goes hk hs (by
   cases wr with
   | true=>rfl
   | false=>exact (hwr rfl).symm) hy
  exact ⟨f,_,h1,h2⟩
theorem base_sound {x:Operand} {t off:Nat} (hb:base prom s x = some (t,off)) (hs:SR Gl prom nt g s a w) {cells:List T} (hc:s.at t = .reg cells) :
 t ∈ prom/\∃ cb arr e,RegOk g s.h w t (a.tmps.getD t undef) cells cb arr e/\a.eval x = .pointer (some ⟨cb,off,none⟩):=by
 cases x with
 | tmp d =>
  simp only [base] at hb
  cases hp:prom.contains d with
  | true =>
   rw [hp] at hb
   simp only [cond_true,Option.some.injEq,Prod.mk.injEq] at hb
   obtain ⟨rfl,rfl⟩:=hb
   have hm:d ∈ prom:=by simpa using hp
   obtain ⟨cb,arr,e,hreg⟩:=hs.regs d hm cells hc
   exact ⟨hm,cb,arr,e,hreg,hreg.ptr⟩
  | false =>
   rw [hp] at hb
   simp only [cond_false] at hb
   obtain ⟨hm,_,cb,h1,h2⟩:=hs.loc d t off hb
   obtain ⟨cb',arr,e,hreg⟩:=hs.regs t hm cells hc
   have:=hreg.ptr
   rw [h1] at this
   simp only [Value.pointer.injEq,Option.some.injEq,Addr.mk.injEq,and_true] at this
   subst this
   exact ⟨hm,cb,arr,e,hreg,h2⟩
 | _=>cases hb
theorem base_place {x:Operand} {t off:Nat} (hb:base prom s x = some (t,off)) (hs:SR Gl prom nt g s a w) {cells:List T} (hc:s.at t = .reg cells) :
 t ∈ prom/\∃ cb,a.tmps.getD t undef = .pointer (some ⟨cb,0,none⟩)/\a.eval x = .pointer (some ⟨cb,off,none⟩):=by
 obtain ⟨hm,cb,arr,e,hreg,hev⟩:=base_sound hb hs hc
 exact ⟨hm,cb,hreg.ptr,hev⟩
theorem RegOk.cellsAt {h:Heap} {t:Nat} {v:Value} {cells:List T} {cb:Nat} {arr:Array Value} {e:TypeId} (hreg:RegOk g h w t v cells cb arr e):CellsAt g h w cb 0 cells:=by
 intro o c ho
 obtain ⟨u,h1,h2,h3⟩:=hreg.cell o c ho
 exact ⟨u,⟨by simp [World.cell?,hreg.heap,h1],h2⟩,h3⟩
theorem doneLoc_goes {o:Oper} {x:Operand} {t off off':Nat} {rs:List Nat} {k:Eff->FP->Option R} {r:R} {cells:List T} (hc:s.at t = .reg cells) (hk:doneLoc prom nt o t off' rs k = some r) (hb:base prom s x = some (t,off)) (hs:SR Gl prom nt g s a w)
 (hrun:∀ cb,a.eval x = .pointer (some ⟨cb,off,none⟩)->(execOp a.eval o).run P w = .ok (.value (.pointer (some ⟨cb,off',none⟩))) w):∃ f fp,k f fp = some r/\Goes P Gl prom nt o a w g s.h (f.app s):=by
 unfold doneLoc at hk
 cases hd:o.dst with
 | none=>rw [hd] at hk; cases hk
 | some d =>
  rw [hd] at hk
  obtain ⟨hc',hk⟩:=bif_none hk
  simp only [Bool.and_eq_true,Bool.not_eq_true'] at hc'
  obtain ⟨hm,cb,h1,h2⟩:=base_place hb hs hc
  refine ⟨_,_,hk,goes_value (g':=g) (hrun cb h2) ?_ (FrC.refl _ _ _)⟩
  rw [hd]
  exact hs.putLoc (blt_lt hc'.1) hm (by simpa using hc'.2) h1
theorem opStep_goes (hK:OrcOk P Gl K) {o:Oper} {k:Eff->FP->Option R} {r:R} (hk:opStep P K Gl prom nt o s k = some r) (hs:SR Gl prom nt g s a w) :
 ∃ f fp,k f fp = some r/\Goes P Gl prom nt o a w g s.h (f.app s):=by
 unfold opStep at hk
 split at hk
 ·rename_i ty x ho
  cases hd:o.dst with
  | none=>rw [hd] at hk; cases hk
  | some d =>
   rw [hd] at hk
   rcases bif_some hk with ⟨hp,hk⟩ | ⟨hp,hk⟩
   ·obtain ⟨hc,hk⟩:=bif_none hk
    obtain ⟨c1,c2,c3⟩:=(hs.ev x).cells_rel hc
    unfold done at hk
    rw [hd] at hk
    obtain ⟨hlt,hk⟩:=bif_none hk
    simp only [Bool.and_eq_true,Bool.not_eq_true'] at hlt
    obtain ⟨g',hs',hf⟩:=hs.box (e:=ty) (blt_lt hlt.1) (by simpa using hp) hlt.2 c1 c2 c3
    refine ⟨_,_,parted_eq hk,goes_value (g':=g') ?_ (by rw [hd]; exact hs') hf⟩
    unfold execOp
    rw [ho]
    simp [Instr.box,newVar,newRow]
   ·exact plainStep_goes hK hk hs
 ·rename_i ty ho
  cases hd:o.dst with
  | none=>rw [hd] at hk; cases hk
  | some d =>
   rw [hd] at hk
   rcases bif_some hk with ⟨hp,hk⟩ | ⟨hp,hk⟩
   ·obtain ⟨hz,hk⟩:=bif_none hk
    obtain ⟨z,hz,hkn,hz1,hz2,hz3,hz4⟩:=zero_run (P:=P) (g:=g) (h:=s.h) (w:=w) hz
    unfold done at hk
    rw [hd] at hk
    obtain ⟨hlt,hk⟩:=bif_none hk
    simp only [Bool.and_eq_true,Bool.not_eq_true'] at hlt
    obtain ⟨g',hs',hf⟩:=hs.box (e:=ty) (blt_lt hlt.1) (by simpa using hp) hlt.2 hz1 hz3 hz4
    refine ⟨_,_,parted_eq hk,goes_value (g':=g') ?_ (by rw [hd]; exact hs') hf⟩
    unfold execOp
    rw [ho]
    simp [Instr.alloc,hz,newVar,newRow]
   ·exact plainStep_goes hK hk hs
 ·rename_i ty x ho
  cases hb:base prom s x with
  | none=>rw [hb] at hk; exact plainStep_goes hK hk hs
  | some p =>
   obtain ⟨t,off⟩:=p
   rw [hb] at hk
   dsimp only at hk
   cases hc:s.at t with
   | reg cells =>
    rw [hc] at hk
    obtain ⟨hm,cb,arr,e,hreg,hev⟩:=base_sound hb hs hc
    obtain ⟨y,hk,u,hrun,hyr⟩:=ld_sound hk (hreg.cellsAt.drop off)
    rw [Nat.zero_add] at hrun
    refine done_goes hk hs rfl (yields_res (s:=Instr.loadAt ty (a.eval x)) (by unfold execOp; rw [ho]) ?_ (.pure hs.hr hyr))
    rw [hev]
    simp [Instr.loadAt,Instr.sureAddr,hrun]
   | _=>rw [hc] at hk; cases hk
 ·rename_i ty x v ho
  cases hb:base prom s x with
  | none=>rw [hb] at hk; exact plainStep_goes hK hk hs
  | some p =>
   obtain ⟨t,off⟩:=p
   rw [hb] at hk
   dsimp only at hk
   cases hc:s.at t with
   | reg cells =>
    rw [hc] at hk
    cases hd:o.dst with
    | some d=>rw [hd] at hk; cases hk
    | none =>
     rw [hd] at hk
     obtain ⟨hcd,hk⟩:=bif_none hk
     simp only [Bool.and_eq_true,beq_iff_eq] at hcd
     obtain ⟨⟨⟨hkn,hsz⟩,hok⟩,hle⟩:=hcd
     have hle:=ble_le hle
     obtain ⟨hm,cb,arr,e,hreg,hev⟩:=base_sound hb hs hc
     obtain ⟨c1,c2,c3⟩:=(hs.ev v).cells_rel hok
     have hlen:=hreg.len
     have hfit:off+(a.eval v).cells.size<=arr.size:=by rw [← c1,hsz]; omega
     have hfit':off+(a.eval v).cells.toList.length<=arr.size:=by simpa using hfit
     have hrun:=run_storeVar (P:=P) (w:=w) (v:=a.eval v) hkn (by rw [← c1,hsz]) hreg.heap hfit c2
     have hsp:off+(Ab.ev Gl prom s v).cells.length<=cells.length:=by rw [hsz]; exact hle
     obtain ⟨g',hs',hf⟩:=hs.setReg hm hc hreg (arr':=(arr.toList.take off ++ (a.eval v).cells.toList ++ arr.toList.drop (off+(a.eval v).cells.toList.length)).toArray) (cells':=splice cells off (Ab.ev Gl prom s v).cells)
      (written_size arr _ _ hfit') (by rw [splice_length _ _ _ hsp]; exact hlen) (fun i c hi=>by
       rw [splice_get _ _ _ _ hsp] at hi
       rw [written arr _ _ _ hfit']
       by_cases hin:off<=i/\i<off+(Ab.ev Gl prom s v).cells.length
       ·rw [if_pos hin] at hi
        rw [if_pos (by simp only [Array.length_toList,← c1]; exact hin)]
        obtain ⟨u,hu,hur⟩:=c3 _ c hi
        exact ⟨u,by simpa using hu,c2 _ _ hu,hur⟩
       ·rw [if_neg hin] at hi
        rw [if_neg (by simp only [Array.length_toList,← c1]; exact hin)]
        exact hreg.cell i c hi)
     refine ⟨_,_,hk,goes_skip (g':=g') ?_ (by rw [hd]; exact hs') hf⟩
     unfold execOp
     rw [ho]
     simp only [hev,Instr.storeAt,Instr.sureAddr,Sem.run_bind,Sem.run_pure,Result.andThen_ok,hrun]
   | _=>rw [hc] at hk; cases hk
 ·rename_i ty x f ho
  cases hb:base prom s x with
  | none=>rw [hb] at hk; exact plainStep_goes hK hk hs
  | some p =>
   obtain ⟨t,off⟩:=p
   rw [hb] at hk
   dsimp only at hk
   cases hc:s.at t with
   | reg cells =>
    rw [hc] at hk
    dsimp only at hk
    cases hf:fieldOf P ty f with
    | none=>rw [hf] at hk; cases hk
    | some q =>
     obtain ⟨fo,fty⟩:=q
     rw [hf] at hk
     obtain ⟨fs,x',hu,hx',rfl,rfl,hkn,hnz⟩:=fieldOf_eq hf
     refine doneLoc_goes hc hk hb hs (fun cb hev=>?_)
     unfold execOp
     rw [ho]
     have hrun:∀ ad:Addr,(fieldPlace ad x').run P w = .ok (ad.add x'.offset) w:=by
      intro ad
      simp [fieldPlace,run_size hkn,hnz]
     simp [hev,Instr.fieldAt,Instr.sureAddr,run_underlying' hu,hx',hrun,add_none]
   | _=>rw [hc] at hk; cases hk
 ·rename_i ty x i ho
  cases hb:base prom s x with
  | none=>rw [hb] at hk; exact plainStep_goes hK hk hs
  | some p =>
   obtain ⟨t,off⟩:=p
   rw [hb] at hk
   dsimp only at hk
   cases hc:s.at t with
   | reg cells =>
    rw [hc] at hk
    dsimp only at hk
    cases hi:Ab.ev Gl prom s i with
    | int ki i' =>
     rw [hi] at hk
     cases ha:arrayOf P ty with
     | none=>rw [ha] at hk; cases hk
     | some q =>
      obtain ⟨n,e⟩:=q
      rw [ha] at hk
      obtain ⟨hcd,hk⟩:=bif_none hk
      simp only [Bool.and_eq_true,decide_eq_true_eq] at hcd
      obtain ⟨⟨hkn,h0⟩,hlt⟩:=hcd
      have hie:=hs.ev i
      rw [hi] at hie
      have hie:=hie.int
      have hk:=pickAt_some (by omega) hk
      refine doneLoc_goes hc hk hb hs (fun cb hev=>?_)
      unfold execOp
      rw [ho]
      simp [hev,hie,Instr.indexAt,Instr.sureAddr,asIntOf,run_underlying' (arrayOf_eq ha),h0,hlt,run_size hkn,add_none]
    | _=>rw [hi] at hk; cases hk
   | _=>rw [hc] at hk; cases hk
 ·rename_i x ho
  cases hb:base prom s x with
  | none=>rw [hb] at hk; exact plainStep_goes hK hk hs
  | some p =>
   obtain ⟨t,off⟩:=p
   rw [hb] at hk
   dsimp only at hk
   cases hc:s.at t with
   | reg cells =>
    rw [hc] at hk
    refine doneLoc_goes hc hk hb hs (fun cb hev=>?_)
    unfold execOp
    rw [ho]
    simp [hev]
   | _=>rw [hc] at hk; cases hk
 ·exact plainStep_goes hK hk hs
end
section
variable {P:Program} {Gl:Nat->Option (List T)} {K:Orc} {R:Type} {prom:List Nat} {nt:Nat} {g:Gh} {s:St} {a:Act} {w:World}
def GoesIn (P:Program) (Gl:Nat->Option (List T)) (prom:List Nat) (nt:Nat) (ops:Array Oper) (o:Oper) (a:Act) (w:World) (g:Gh) (h:Heap) (s':St):Prop :=
 ∀ (ro:Option Nat) (n:Nat) (next:Act->World->Prop) (Q:Exit->Act->World->Prop),(∀ a' w' g',SR Gl prom nt g' s' a' w'->FrC g h w g' s'.h w'->a'.defers = a.defers->next a' w') →
  if Region.wanted o (yielded ops a.tmps) then o.wpIn (wideR ro) n P a w next Q else next (a.put o.dst undef) w
theorem frzStep_goes {o:Oper} {k:Eff->FP->Option R} {r:R} (hk:frzStep P Gl prom nt o s k = some r) (hs:SR Gl prom nt g s a w) :
 ∃ f fp,k f fp = some r/\Goes P Gl prom nt o a w g s.h (f.app s):=by
 unfold frzStep at hk
 split at hk
 ·rename_i t len ps ho
  obtain ⟨y,hy,v,w',hrun,hres⟩:=semBuildFrz_sound (cparts:=ps.map fun p=>(p.1,a.eval p.2)) hk hs.hr (by simp) (parts_rel hs.ev)
  exact done_goes hy hs rfl (yields_res (exec_buildSlice ho) hrun hres)
 ·cases hk
theorem guarded_goes (hK:OrcOk P Gl K) {ops:Array Oper} {o:Oper} {k:Eff->FP->Option R} {r:R} (hk:guarded P K Gl prom nt ops.toList o s k = some r) (hs:SR Gl prom nt g s a w) :
 ∃ f fp,k f fp = some r/\GoesIn P Gl prom nt ops o a w g s.h (f.app s):=by
 unfold guarded at hk
 cases hg:o.guard with
 | none =>
  rw [hg] at hk
  obtain ⟨s',fp,h1,h2⟩:∃ f fp,k f fp = some r/\Goes P Gl prom nt o a w g s.h (f.app s):=by
   rcases bif_some hk with ⟨_,hk⟩ | ⟨_,hk⟩
   ·exact frzStep_goes hk hs
   ·exact opStep_goes hK hk hs
  exact ⟨s',fp,h1,fun ro n next Q hn=>by rw [if_pos (by simp [Region.wanted,hg])]; exact h2 ro n next Q hn⟩
 | some p =>
  obtain ⟨j,want⟩:=p
  rw [hg] at hk
  dsimp only at hk
  cases hgs:guardSlot ops.toList j with
  | none=>rw [hgs] at hk; cases hk
  | some gd =>
   rw [hgs] at hk
   dsimp only at hk
   cases hat:s.at gd with
   | bool b =>
    rw [hat] at hk
    dsimp only at hk
    rcases bif_some hk with ⟨_,hk⟩ | ⟨hp,hk⟩
    ·cases hk
    have hv:=hs.tmps gd (by simpa using hp)
    rw [hat] at hv
    have hv:=hv.bool
    have hy:yielded ops a.tmps j = some b:=by
     have hd:(ops[j]?).bind (·.dst) = some gd:=by
      unfold guardSlot at hgs
      rw [Array.getElem?_toList] at hgs
      cases ho:ops[j]? with
      | none=>rw [ho] at hgs; cases hgs
      | some o'=>rw [ho] at hgs; exact hgs
     unfold yielded
     rw [hd]
     simp only [Option.bind_some]
     have hlt:gd<a.tmps.size:=by
      rcases Nat.lt_or_ge gd a.tmps.size with hq | hq
      ·exact hq
      ·rw [Array.getD_eq_getD_getElem?,Array.getElem?_eq_none hq] at hv; cases hv
     rw [Array.getD_eq_getD_getElem?,Array.getElem?_eq_getElem hlt] at hv
     rw [Array.getElem?_eq_getElem hlt]
     simp only [Option.getD_some] at hv
     rw [hv]
    have hw:Region.wanted o (yielded ops a.tmps) = (b==want):=by simp [Region.wanted,hg,hy]
    have hb:(bif b then want else !want) = (b==want):=beq_bool b want
    rw [hb] at hk
    rcases bif_some hk with ⟨hbw,hk⟩ | ⟨hbw,hk⟩
    ·obtain ⟨s',fp,h1,h2⟩:=opStep_goes hK hk hs
     exact ⟨s',_,h1,fun ro n next Q hn=>by rw [if_pos (by rw [hw]; exact hbw)]; exact h2 ro n next Q hn⟩
    ·unfold done at hk
     have hneg:¬ Region.wanted o (yielded ops a.tmps) = true:=by rw [hw,hbw]; simp
     cases hd:o.dst with
     | none =>
      rw [hd] at hk
      refine ⟨_,_,hk,fun _ _ next Q hn=>?_⟩
      rw [if_neg hneg]
      refine hn _ _ g ?_ (FrC.refl _ _ _) (put_defers _ _ _)
      rw [hd]
      exact hs.done0 hs.hr (.refl _ _ _ _) (.refl _ _ fun b o e=>(hs.hr.own b o e).2) rfl
     | some d =>
      rw [hd] at hk
      obtain ⟨hlt,hk⟩:=bif_none hk
      refine ⟨_,_,parted_eq hk,fun _ _ next Q hn=>?_⟩
      rw [if_neg hneg]
      refine hn _ _ g ?_ (FrC.refl _ _ _) (put_defers _ _ _)
      rw [hd]
      simp only [Bool.and_eq_true,Bool.not_eq_true'] at hlt
      exact hs.done (blt_lt hlt.1) hs.hr (.imm _ _ (.gone _ (fun b h=>by cases h))) (.refl _ _ _ _) (.refl _ _ fun b o e=>(hs.hr.own b o e).2) rfl hlt.2
   | gone =>
    rw [hat] at hk
    dsimp only at hk
    rcases bif_some hk with ⟨_,hk⟩ | ⟨hp,hk⟩
    ·cases hk
    have hv:=hs.tmps gd (by simpa using hp)
    rw [hat] at hv
    have hy:yielded ops a.tmps j = none:=by
     have hd:(ops[j]?).bind (·.dst) = some gd:=by
      unfold guardSlot at hgs
      rw [Array.getElem?_toList] at hgs
      cases ho:ops[j]? with
      | none=>rw [ho] at hgs; cases hgs
      | some o'=>rw [ho] at hgs; exact hgs
     unfold yielded
     rw [hd]
     simp only [Option.bind_some]
     rcases Nat.lt_or_ge gd a.tmps.size with hq | hq
     ·rw [Array.getD_eq_getD_getElem?,Array.getElem?_eq_getElem hq] at hv
      rw [Array.getElem?_eq_getElem hq]
      simp only [Option.getD_some] at hv
      have hnb:=hv.gone
      generalize a.tmps[gd] = x at hnb
      cases x <;> first | rfl | exact absurd rfl (hnb _)
     ·rw [Array.getElem?_eq_none hq]
    have hw:Region.wanted o (yielded ops a.tmps) = false:=by simp [Region.wanted,hg,hy]
    have hneg:¬ Region.wanted o (yielded ops a.tmps) = true:=by rw [hw]; simp
    unfold done at hk
    cases hd:o.dst with
    | none =>
     rw [hd] at hk
     refine ⟨_,_,hk,fun _ _ next Q hn=>?_⟩
     rw [if_neg hneg]
     refine hn _ _ g ?_ (FrC.refl _ _ _) (put_defers _ _ _)
     rw [hd]
     exact hs.done0 hs.hr (.refl _ _ _ _) (.refl _ _ fun b o e=>(hs.hr.own b o e).2) rfl
    | some d =>
     rw [hd] at hk
     obtain ⟨hlt,hk⟩:=bif_none hk
     refine ⟨_,_,parted_eq hk,fun _ _ next Q hn=>?_⟩
     rw [if_neg hneg]
     refine hn _ _ g ?_ (FrC.refl _ _ _) (put_defers _ _ _)
     rw [hd]
     simp only [Bool.and_eq_true,Bool.not_eq_true'] at hlt
     exact hs.done (blt_lt hlt.1) hs.hr (.imm _ _ (.gone _ (fun b h=>by cases h))) (.refl _ _ _ _) (.refl _ _ fun b o e=>(hs.hr.own b o e).2) rfl hlt.2
   | _=>rw [hat] at hk; cases hk
def StepIs (P:Program) (K:Orc) (Gl:Nat->Option (List T)) (prom:List Nat) (nt:Nat) (ops:List Oper) (o:Oper) (s:St) (f:Eff) (fp:FP):Prop :=
 ∀ (R:Type) (k:Eff->FP->Option R),guarded P K Gl prom nt ops o s k = k f fp
theorem guarded_is {ops:List Oper} {o:Oper} {k:Eff->FP->Option R} {r:R} (hk:guarded P K Gl prom nt ops o s k = some r):∃ f fp,k f fp = some r/\StepIs P K Gl prom nt ops o s f fp:=by
 obtain ⟨⟨f,fp⟩,h1,h2⟩:=det_some (guarded_det P K Gl prom nt ops o s) (k:=fun p=>k p.1 p.2) hk
 exact ⟨f,fp,h1,fun R k=>h2 R fun p=>k p.1 p.2⟩
theorem StepIs.goes (hK:OrcOk P Gl K) {ops:Array Oper} {o:Oper} {f:Eff} {fp:FP} (h:StepIs P K Gl prom nt ops.toList o s f fp) (hs:SR Gl prom nt g s a w):GoesIn P Gl prom nt ops o a w g s.h (f.app s):=by
 obtain ⟨f',fp',h1,h2⟩:=guarded_goes hK (h (Eff × FP) fun f fp=>some (f,fp)) hs
 simp only [Option.some.injEq,Prod.mk.injEq] at h1
 obtain ⟨rfl,rfl⟩:=h1
 exact h2
inductive RunIs (P:Program) (K:Orc) (Gl:Nat->Option (List T)) (prom:List Nat) (nt:Nat) (ops:List Oper):List Oper->St->St->List FP->Prop where
 | nil (s:St):RunIs P K Gl prom nt ops [] s s []
 | cons {o:Oper} {l:List Oper} {s s':St} {f:Eff} {fp:FP} {fps:List FP} (h:StepIs P K Gl prom nt ops o s f fp) (t:RunIs P K Gl prom nt ops l (f.app s) s' fps):RunIs P K Gl prom nt ops (o :: l) s s' (fp :: fps)
theorem runOps_is {ops:List Oper}:∀ (l:List Oper) {s:St} {k:St->List FP->Option R} {r:R},runOps P K Gl prom nt ops l s k = some r->∃ s' fps,k s' fps = some r/\RunIs P K Gl prom nt ops l s s' fps
 | [],s,k,r,hk=>⟨s,[],hk,.nil s⟩
 | o :: l,s,k,r,hk=>by
  simp only [runOps] at hk
  obtain ⟨f,fp,hk,h1⟩:=guarded_is hk
  obtain ⟨s',fps,hk,h2⟩:=runOps_is l hk
  exact ⟨s',fp :: fps,hk,.cons h1 h2⟩
theorem RunIs.goes (hK:OrcOk P Gl K) {ops:Array Oper} {l:List Oper} {s s':St} {fps:List FP} (h:RunIs P K Gl prom nt ops.toList l s s' fps):∀ {g:Gh} {a:Act} {w:World},SR Gl prom nt g s a w →
 ∀ (ro:Option Nat) (n:Nat) (Q:Exit->Act->World->Prop),(∀ a' w' g',SR Gl prom nt g' s' a' w'->FrC g s.h w g' s'.h w'->a'.defers = a.defers->Q .normal a' w')->wpListIn (wideR ro) n P ops Q l a w:=by
 induction h with
 | nil s=>exact fun hs ro n Q hn=>hn _ _ _ hs (FrC.refl _ _ _) rfl
 | cons h1 h2 ih =>
  intro g a w hs ro n Q hn
  unfold wpListIn
  have:=h1.goes hK hs ro n (wpListIn (wideR ro) n P ops Q _) Q (fun a' w' g' hs' hf' hd'=>ih hs' ro n Q fun a2 w2 g2 hs2 hf2 hd2=>hn a2 w2 g2 hs2 (hf'.trans hf2) (hd2.trans hd'))
  split at this
  ·rename_i hw; rw [if_pos hw]; exact this
  ·rename_i hw; rw [if_neg hw]; exact ⟨fun _ _=>trivial,this⟩
end
section
variable {P:Program} {K:Orc} {Gl:Nat->Option (List T)} {prom:List Nat} {nt:Nat} {s s1 s':St} {f:Eff} {fp:FP}
theorem frzStep_congr {o:Oper} (hk:frzStep P Gl prom nt o s two = some (f,fp)) (ha:Agree s s1 fp):frzStep P Gl prom nt o s1 two = some (f,fp):=by
 unfold frzStep at hk ⊢
 split at hk
 ·rename_i t len ps ho
  rw [ho]
  obtain ⟨y,hk1,hall⟩:=det_some (semBuildFrz_det P t len (ps.toList.map fun p=>(p.1,ev Gl prom s p.2))) (k:=fun v=>done nt o s v none (opSlots o.op) false false two) hk
  obtain ⟨h1,h2,h3,h4⟩:=done_congr (s1:=s1) hk1
  have he:(ps.toList.map fun p=>(p.1,ev Gl prom s1 p.2)) = ps.toList.map fun p=>(p.1,ev Gl prom s p.2):=List.map_congr_left fun p hp=>by
   rw [ev_congr fun t ht=>ha.at' t ?_]
   rw [h1]
   refine List.mem_flatMap.2 ⟨p.2,?_,ht⟩
   rw [ho]
   simp only [Op.operands]
   first
    | (simp only [Array.toList_map,List.mem_map]; exact ⟨p,hp,rfl⟩)
    | (simp; exact ⟨p.1,by simpa using hp⟩)
  rw [he]
  have:=hall _ fun v=>done nt o s1 v none (opSlots o.op) false false two
  rw [ho] at this h4
  rw [this]
  exact h4 ha.used
 ·cases hk
theorem guarded_congr {ops:List Oper} {o:Oper} (hk:guarded P K Gl prom nt ops o s two = some (f,fp)) (ha:Agree s s1 fp):guarded P K Gl prom nt ops o s1 two = some (f,fp):=by
 unfold guarded at hk ⊢
 cases hg:o.guard with
 | none =>
  rw [hg] at hk
  dsimp only at hk ⊢
  cases hz:frzOp ops o with
  | true=>rw [hz] at hk; exact frzStep_congr hk ha
  | false=>rw [hz] at hk; exact opStep_congr hk ha
 | some p =>
  obtain ⟨j,want⟩:=p
  rw [hg] at hk
  dsimp only at hk ⊢
  cases hgs:guardSlot ops j with
  | none=>rw [hgs] at hk; cases hk
  | some gd =>
   rw [hgs] at hk
   dsimp only at hk ⊢
   cases hat:s.at gd with
   | bool b =>
    rw [hat] at hk
    dsimp only at hk
    cases hp:prom.contains gd with
    | true=>rw [hp] at hk; cases hk
    | false =>
     rw [hp] at hk
     simp only [cond_false] at hk
     cases hw:(bif b then want else !want) with
     | true =>
      rw [hw] at hk
      simp only [cond_true] at hk
      obtain ⟨⟨f1,fp1⟩,h1,h2⟩:=det_some (opStep_det P K Gl prom nt o s) (k:=fun p=>two p.1 { p.2 with rs:=gd :: p.2.rs }) hk
      simp only [Option.some.injEq,Prod.mk.injEq] at h1
      obtain ⟨rfl,rfl⟩:=h1
      have ha1:Agree s s1 fp1:=⟨fun e he=>ha.at' e (List.mem_cons_of_mem _ he),fun e he=>ha.loc e (List.mem_cons_of_mem _ he),ha.used,ha.heap,ha.heapR⟩
      have h3:=opStep_congr (h2 _ fun p=>two p.1 p.2) ha1
      rw [ha.at' gd List.mem_cons_self,hat]
      simp only [cond_false,cond_true,hw]
      obtain ⟨q,q1,q2⟩:=det_some (opStep_det P K Gl prom nt o s1) (k:=fun p=>two p.1 p.2) h3
      obtain ⟨f2,fp2⟩:=q
      simp only [Option.some.injEq,Prod.mk.injEq] at q1
      obtain ⟨rfl,rfl⟩:=q1
      exact q2 _ fun p=>two p.1 { p.2 with rs:=gd :: p.2.rs }
     | false =>
      rw [hw] at hk
      simp only [cond_false] at hk
      obtain ⟨h1,_,_,h4⟩:=done_congr (s1:=s1) hk
      rw [ha.at' gd (h1 ▸ List.mem_cons_self),hat]
      simp only [cond_false,hw]
      exact h4 ha.used
   | gone =>
    rw [hat] at hk
    dsimp only at hk
    cases hp:prom.contains gd with
    | true=>rw [hp] at hk; cases hk
    | false =>
     rw [hp] at hk
     simp only [cond_false] at hk
     obtain ⟨h1,_,_,h4⟩:=done_congr (s1:=s1) hk
     rw [ha.at' gd (h1 ▸ List.mem_cons_self),hat]
     simp only [cond_false]
     exact h4 ha.used
   | _=>rw [hat] at hk; cases hk
theorem StepIs.congr {ops:List Oper} {o:Oper} (h:StepIs P K Gl prom nt ops o s f fp) (ha:Agree s s1 fp):StepIs P K Gl prom nt ops o s1 f fp:=by
 obtain ⟨f',fp',h1,h2⟩:=guarded_is (guarded_congr (h _ two) ha)
 simp only [Option.some.injEq,Prod.mk.injEq] at h1
 obtain ⟨rfl,rfl⟩:=h1
 exact h2
structure Fits (f:Eff) (fp:FP):Prop where
 slot:∀ d v,f.slot = some (d,v)->d ∈ fp.ws/\d<1024
 place:∀ d p,f.place = some (d,p)->d ∈ fp.ws/\∀ t o,p = some (t,o)->t ∈ fp.rs
 heap:∀ h,f.heap = some h->fp.wr = true
theorem done_fits (hnt:nt<=1024) {o:Oper} {v:T} {hp:Option Heap} {rs:List Nat} {rd wr:Bool} (hw:∀ h,hp = some h->wr = true) (hk:done nt o s v hp rs rd wr two = some (f,fp)):Fits f fp:=by
 unfold done at hk
 cases hd:o.dst with
 | none =>
  rw [hd] at hk
  simp only [Option.some.injEq,Prod.mk.injEq] at hk
  obtain ⟨rfl,rfl⟩:=hk
  exact ⟨fun d v h=>(by cases h),fun d v h=>(by cases h),hw⟩
 | some d =>
  rw [hd] at hk
  dsimp only at hk
  cases hb:(Nat.blt d nt&&!s.used d) with
  | false=>rw [hb] at hk; cases hk
  | true =>
   rw [hb] at hk
   simp only [cond_true,parted_some,Option.some.injEq,Prod.mk.injEq] at hk
   obtain ⟨rfl,rfl⟩:=hk
   simp only [Bool.and_eq_true] at hb
   have:=blt_lt hb.1
   refine ⟨fun d' v' h=>?_,fun d' p h=>?_,hw⟩
   ·simp only [Option.some.injEq,Prod.mk.injEq] at h
    obtain ⟨rfl,_⟩:=h
    exact ⟨by simp,by omega⟩
   ·simp only [Option.some.injEq,Prod.mk.injEq] at h
    obtain ⟨rfl,rfl⟩:=h
    exact ⟨by simp,fun t o h=>by cases h⟩
theorem done_fits2 (hnt:nt<=1024) {o:Oper} {v:T} {hp:Option Heap} {rs:List Nat} {rd wr:Bool} {rb wb:Option Nat} (hw:∀ h,hp = some h->wr = true) (hk:done nt o s v hp rs rd wr (fun f fp=>two f { fp with rb:=rb,wb:=wb }) = some (f,fp)) :
 Fits f fp/\f.heap = hp/\fp.wb = wb:=by
 obtain ⟨⟨f1,fp1⟩,h1,h2⟩:=det_some (done_det nt o s v hp rs rd wr) (k:=fun p=>two p.1 { p.2 with rb:=rb,wb:=wb }) hk
 simp only [Option.some.injEq,Prod.mk.injEq] at h1
 obtain ⟨rfl,rfl⟩:=h1
 have h3:=h2 _ fun p=>two p.1 p.2
 have hf:=done_fits hnt hw h3
 refine ⟨⟨hf.slot,hf.place,hf.heap⟩,?_,rfl⟩
 unfold done at h3
 cases hd:o.dst with
 | none =>
  rw [hd] at h3
  simp only [Option.some.injEq,Prod.mk.injEq] at h3
  rw [← h3.1]
 | some d =>
  rw [hd] at h3
  dsimp only at h3
  cases hb:(Nat.blt d nt&&!s.used d) with
  | false=>rw [hb] at h3; cases h3
  | true =>
   rw [hb] at h3
   simp only [cond_true,parted_some,Option.some.injEq,Prod.mk.injEq] at h3
   rw [← h3.1]
def WOnly (s:St) (f:Eff) (fp:FP):Prop:=∀ h i,f.heap = some h->fp.wb = some i->∀ j:Nat,j ≠ i->h[j]? = s.h[j]?
theorem app_ne {h:Heap} {b:Blk} {j:Nat} (hj:j ≠ h.length):(h ++ [b])[j]? = h[j]?:=by
 rcases Nat.lt_or_ge j h.length with q | q
 ·rw [List.getElem?_append_left q]
 ·rw [List.getElem?_eq_none (by simp; omega),List.getElem?_eq_none (by omega)]
theorem set_ne {h:Heap} {b:Blk} {i j:Nat} (hj:j ≠ i):(h.set i b)[j]? = h[j]?:=List.getElem?_set_ne (fun q=>hj q.symm)
theorem k3 {y y2:T} {h h2:Heap} {w w2:Bool} (h0:some (y,h,w) = some (y2,h2,w2)):y = y2/\h = h2:=by
 simp only [Option.some.injEq,Prod.mk.injEq] at h0
 exact ⟨h0.1,h0.2.1⟩
theorem semAppend_wonly {t:TypeId} {s0 x:T} {h:Heap} {y:T} {h':Heap} {wr:Bool} {i:Nat} (hk:semAppend P t s0 x h (fun y h w=>some (y,h,w)) = some (y,h',wr)) (ho:ownBlk y = some i):∀ j:Nat,j ≠ i->h'[j]? = h[j]?:=by
 intro j hj
 have own_i:∀ {i' v o l:Nat} {c:Option Nat},T.own i' v o l c = y->i' = i:=fun e=>by subst e; simpa [ownBlk] using ho
 unfold semAppend at hk
 cases he:elemTy P t with
 | none=>rw [he] at hk; cases hk
 | some e =>
  rw [he] at hk
  dsimp only at hk
  obtain ⟨_,hk⟩:=bif_none' hk
  obtain ⟨⟨m,gx,fl⟩,hk,_⟩:=det_some (f:=fun R k=>source2 (R:=R) ((zeroTy P e).all plain0) (szTy P e) x h fun a b c=>k (a,b,c)) (source2_det _ _ _ x) (k:=fun p=>match s0 with
  | .nils=>bif p.1==0 then some (T.nils,h,false)
   else bif appRoom P e p.1 then some (T.own h.length 0 0 p.1 none,h ++ [⟨0,szTy P e,p.1,p.2.1,plainUpTo p.1 p.2.1 p.2.2,false⟩],true) else none
  | .view sz n g cap=>bif sz==szTy P e then bif p.1==0 then some (s0,h,false) else match cap with
   | some c=>bif Nat.blt c (n+p.1)&&appRoom P e (n+p.1) then
    some (.own h.length 0 0 (n+p.1) none,h ++ [catBlk 0 sz n p.1 g p.2.1 (plainUpTo n g false&&plainUpTo p.1 p.2.1 p.2.2)],true) else none
   | none=>none
   else none
  | .own i ver off len cap=>withBlk h i ver fun b=>bif (b.sz==szTy P e)&&Nat.ble (off+len) b.n then
   bif p.1==0 then some (s0,h,false) else
   bif appRoom P e (len+p.1) then
    match cap with
    | some c=>bif Nat.ble (len+p.1) c then
     bif Nat.ble (off+len+p.1) b.n then
      some (.own i ver off (len+p.1) cap,h.set i { b with get:=fun j=>bif Nat.ble (off+len) j&&Nat.blt j (off+len+p.1) then p.2.1 (j - (off+len)) else b.get j,flat:=b.flat&&plainUpTo p.1 p.2.1 p.2.2 },true)
     else none
     else some (.own h.length 0 0 (len+p.1) none,h ++ [catBlk 0 b.sz len p.1 (fun j=>b.get (off+j)) p.2.1 (b.flat&&plainUpTo p.1 p.2.1 p.2.2)],true)
    | none=>bif Nat.ble (off+len+p.1) b.n then
     some (.own i ver off (len+p.1) none,h.set i { b with get:=fun j=>bif Nat.ble (off+len) j&&Nat.blt j (off+len+p.1) then p.2.1 (j - (off+len)) else b.get j,flat:=b.flat&&plainUpTo p.1 p.2.1 p.2.2 },true)
     else some (.own i (ver+1) 0 (len+p.1) none,h.set i (catBlk (ver+1) b.sz len p.1 (fun j=>b.get (off+j)) p.2.1 (b.flat&&plainUpTo p.1 p.2.1 p.2.2)),true)
   else none
   else none
  | _=>none) hk
  dsimp only at hk
  cases s0 with
  | nils =>
   dsimp only at hk
   rcases bif_some hk with ⟨_,hk⟩ | ⟨_,hk⟩
   ·obtain ⟨_,rfl⟩:=k3 hk; rfl
   ·obtain ⟨_,hk⟩:=bif_none' hk
    obtain ⟨q,rfl⟩:=k3 hk
    have:=own_i q
    exact app_ne (by omega)
  | view sz n g cap =>
   dsimp only at hk
   obtain ⟨_,hk⟩:=bif_none' hk
   rcases bif_some hk with ⟨_,hk⟩ | ⟨_,hk⟩
   ·obtain ⟨_,rfl⟩:=k3 hk; rfl
   ·cases cap with
    | none=>cases hk
    | some c =>
     obtain ⟨_,hk⟩:=bif_none' hk
     obtain ⟨q,rfl⟩:=k3 hk
     have:=own_i q
     exact app_ne (by omega)
  | own i' ver off len cap =>
   dsimp only at hk
   obtain ⟨b,hb,hver,hk⟩:=blk_of' hk
   obtain ⟨_,hk⟩:=bif_none' hk
   rcases bif_some hk with ⟨_,hk⟩ | ⟨_,hk⟩
   ·obtain ⟨_,rfl⟩:=k3 hk; rfl
   ·obtain ⟨_,hk⟩:=bif_none' hk
    cases cap with
    | some c =>
     dsimp only at hk
     rcases bif_some hk with ⟨_,hk⟩ | ⟨_,hk⟩
     ·obtain ⟨_,hk⟩:=bif_none' hk
      obtain ⟨q,rfl⟩:=k3 hk
      have:=own_i q
      exact set_ne (by omega)
     ·obtain ⟨q,rfl⟩:=k3 hk
      have:=own_i q
      exact app_ne (by omega)
    | none =>
     dsimp only at hk
     rcases bif_some hk with ⟨_,hk⟩ | ⟨_,hk⟩
     ·obtain ⟨q,rfl⟩:=k3 hk
      have:=own_i q
      exact set_ne (by omega)
     ·obtain ⟨q,rfl⟩:=k3 hk
      have:=own_i q
      exact set_ne (by omega)
  | _=>cases hk
theorem semOp_wonly {op:Op} {e:Operand->T} {h:Heap} {y:T} {h':Heap} {wr:Bool} {i:Nat} (hk:semOp P K op e h (fun y h w=>some (y,h,w)) = some (y,h',wr)) (ho:onlyW op e h y = some i):∀ j:Nat,j ≠ i->h'[j]? = h[j]?:=by
 intro j hj
 cases op with
 | store t a v =>
  simp only [onlyW] at ho
  cases hx:e a with
  | ptr i' ver jj o =>
   rw [hx] at ho
   obtain rfl:i' = i:=by simpa [ptrBlk] using ho
   simp only [semOp,semStore,hx] at hk
   obtain ⟨b,hb,hver,hk⟩:=blk_of hk
   obtain ⟨_,hk⟩:=bif_none hk
   obtain ⟨_,rfl⟩:=k3 hk
   exact set_ne hj
  | _=>rw [hx] at ho; cases ho
 | buildSlice t len parts =>
  obtain rfl:h.length = i:=by simpa [onlyW] using ho
  simp only [semOp,semBuildSlice] at hk
  cases he:elemTy P t with
  | none=>rw [he] at hk; cases hk
  | some ee =>
   rw [he] at hk
   dsimp only at hk
   obtain ⟨_,hk⟩:=bif_none' hk
   obtain ⟨els,hk,_⟩:=det_some (setElems_det _ _ _) (k:=fun els=>some (T.own h.length 0 0 len (some len),h ++ [⟨0,szTy P ee,len,fun j=>els.getD j [],els.all (·.all plain0),Nat.ble len 8⟩],true)) hk
   obtain ⟨_,rfl⟩:=k3 hk
   exact app_ne hj
 | alloc ty =>
  obtain rfl:h.length = i:=by simpa [onlyW] using ho
  simp only [semOp] at hk
  obtain ⟨_,hk⟩:=bif_none' hk
  unfold semAllocT at hk
  split at hk
  ·obtain ⟨_,rfl⟩:=k3 hk
   exact app_ne hj
  ·obtain ⟨_,rfl⟩:=k3 hk
   exact app_ne hj
 | box ty x =>
  obtain rfl:h.length = i:=by simpa [onlyW] using ho
  simp only [semOp] at hk
  obtain ⟨_,hk⟩:=bif_none' hk
  obtain ⟨_,rfl⟩:=k3 hk
  exact app_ne hj
 | call c =>
  obtain ⟨callee,args,types⟩:=c
  cases callee with
  | builtin b =>
   cases b with
   | append =>
    have ho:ownBlk y = some i:=ho
    simp only [semOp,semBuiltin] at hk
    split at hk
    all_goals first
     | contradiction
     | (cases hk; done)
     | (obtain ⟨_,hk⟩:=bif_none' hk; exact semAppend_wonly hk ho j hj)
   | _=>cases ho
  | _=>cases ho
 | _=>cases ho
theorem doneLoc_fits (hnt:nt<=1024) {o:Oper} {t off:Nat} {rs:List Nat} (hk:doneLoc prom nt o t off rs two = some (f,fp)):Fits f fp:=by
 unfold doneLoc at hk
 cases hd:o.dst with
 | none=>rw [hd] at hk; cases hk
 | some d =>
  rw [hd] at hk
  dsimp only at hk
  cases hb:(Nat.blt d nt&&!prom.contains d) with
  | false=>rw [hb] at hk; cases hk
  | true =>
   rw [hb] at hk
   simp only [cond_true,Option.some.injEq,Prod.mk.injEq] at hk
   obtain ⟨rfl,rfl⟩:=hk
   simp only [Bool.and_eq_true] at hb
   have:=blt_lt hb.1
   refine ⟨fun d' v' h=>?_,fun d' p h=>?_,fun h e=>by cases e⟩
   ·simp only [Option.some.injEq,Prod.mk.injEq] at h
    obtain ⟨rfl,_⟩:=h
    exact ⟨by simp,by omega⟩
   ·simp only [Option.some.injEq,Prod.mk.injEq] at h
    obtain ⟨rfl,rfl⟩:=h
    refine ⟨by simp,fun t' o' h=>?_⟩
    simp only [Option.some.injEq,Prod.mk.injEq] at h
    obtain ⟨rfl,_⟩:=h
    exact List.mem_cons_self
theorem plainStep_fits (hnt:nt<=1024) {o:Oper} (hk:plainStep P K Gl prom nt o s two = some (f,fp)):Fits f fp:=by
 unfold plainStep at hk
 cases hn:noHeap o.op (ev Gl prom s) with
 | true =>
  rw [hn] at hk
  simp only [cond_true] at hk
  obtain ⟨⟨y,h',wr⟩,hk1,_⟩:=det_some (semOp_det P K o.op (ev Gl prom s) []) (k:=fun p=>bif p.2.2 then none else done nt o s p.1 none (opSlots o.op) false false two) hk
  cases wr with
  | true=>cases hk1
  | false=>exact done_fits hnt (fun h e=>by cases e) hk1
 | false =>
  rw [hn] at hk
  simp only [cond_false] at hk
  obtain ⟨⟨y,h',wr⟩,hk1,_⟩:=det_some (semOp_det P K o.op (ev Gl prom s) s.h) (k:=fun p=>done nt o s p.1 (bif p.2.2 then some p.2.1 else none) (opSlots o.op) (callReads K o.op (ev Gl prom s)) p.2.2 fun f fp=>two f { fp with rb:=onlyR o.op (ev Gl prom s),wb:=onlyW o.op (ev Gl prom s) s.h p.1 }) hk
  refine (done_fits2 hnt (fun h e=>?_) hk1).1
  cases wr with
  | true=>rfl
  | false=>cases e
theorem done_wonly (hnt:nt<=1024) {o:Oper} {v:T} {hp:Option Heap} {rs:List Nat} {rd wr:Bool} (hk:done nt o s v hp rs rd wr two = some (f,fp)):fp.wb = none:=by
 unfold done at hk
 cases hd:o.dst with
 | none =>
  rw [hd] at hk
  simp only [Option.some.injEq,Prod.mk.injEq] at hk
  rw [← hk.2]
 | some d =>
  rw [hd] at hk
  dsimp only at hk
  cases hb:(Nat.blt d nt&&!s.used d) with
  | false=>rw [hb] at hk; cases hk
  | true =>
   rw [hb] at hk
   simp only [cond_true,parted_some,Option.some.injEq,Prod.mk.injEq] at hk
   rw [← hk.2]
theorem plainStep_wonly (hnt:nt<=1024) {o:Oper} (hk:plainStep P K Gl prom nt o s two = some (f,fp)):WOnly s f fp:=by
 unfold plainStep at hk
 cases hn:noHeap o.op (ev Gl prom s) with
 | true =>
  rw [hn] at hk
  simp only [cond_true] at hk
  obtain ⟨⟨y,h',wr⟩,hk1,_⟩:=det_some (semOp_det P K o.op (ev Gl prom s) []) (k:=fun p=>bif p.2.2 then none else done nt o s p.1 none (opSlots o.op) false false two) hk
  cases wr with
  | true=>cases hk1
  | false=>intro h i _ hw; rw [done_wonly hnt hk1] at hw; cases hw
 | false =>
  rw [hn] at hk
  simp only [cond_false] at hk
  intro h i hh hw j hj
  obtain ⟨⟨y,h',wr⟩,hk1,hall⟩:=det_some (semOp_det P K o.op (ev Gl prom s) s.h) (k:=fun p=>done nt o s p.1 (bif p.2.2 then some p.2.1 else none) (opSlots o.op) (callReads K o.op (ev Gl prom s)) p.2.2 fun f fp=>two f { fp with rb:=onlyR o.op (ev Gl prom s),wb:=onlyW o.op (ev Gl prom s) s.h p.1 }) hk
  obtain ⟨_,q1,q2⟩:=done_fits2 hnt (fun h e=>by cases wr with | true=>rfl | false=>cases e) hk1
  rw [q2] at hw
  have:=semOp_wonly (P:=P) (K:=K) (hall _ some) hw j hj
  rw [q1] at hh
  cases wr with
  | false=>cases hh
  | true =>
   obtain rfl:h' = h:=by simpa using hh
   exact this
theorem opStep_fits (hnt:nt<=1024) {o:Oper} (hk:opStep P K Gl prom nt o s two = some (f,fp)):Fits f fp:=by
 have noH:∀ h,(none:Option Heap) = some h->false = true:=fun h e=>by cases e
 unfold opStep at hk
 split at hk
 ·cases hd:o.dst with
  | none=>rw [hd] at hk; cases hk
  | some d =>
   rw [hd] at hk
   rcases bif_some hk with ⟨_,hk⟩ | ⟨_,hk⟩
   ·exact done_fits hnt noH (bif_none hk).2
   ·exact plainStep_fits hnt hk
 ·cases hd:o.dst with
  | none=>rw [hd] at hk; cases hk
  | some d =>
   rw [hd] at hk
   rcases bif_some hk with ⟨_,hk⟩ | ⟨_,hk⟩
   ·exact done_fits hnt noH (bif_none hk).2
   ·exact plainStep_fits hnt hk
 ·split at hk
  ·split at hk
   ·obtain ⟨v,hk1,_⟩:=det_some (ld_det P _ _) hk
    exact done_fits hnt noH hk1
   ·cases hk
  ·exact plainStep_fits hnt hk
 ·split at hk
  ·rename_i t off _
   split at hk
   ·rename_i cells hc hd
    have hk:=(bif_none hk).2
    simp only [Option.some.injEq,Prod.mk.injEq] at hk
    obtain ⟨rfl,rfl⟩:=hk
    refine ⟨fun d' v' h=>?_,fun d' p h=>(by cases h),fun h e=>by cases e⟩
    simp only [Option.some.injEq,Prod.mk.injEq] at h
    obtain ⟨rfl,_⟩:=h
    refine ⟨by simp,?_⟩
    rcases Nat.lt_or_ge t 1024 with hq | hq
    ·exact hq
    ·rw [at_ge (by omega)] at hc; cases hc
   ·cases hk
  ·exact plainStep_fits hnt hk
 ·split at hk
  ·split at hk
   ·split at hk
    ·exact doneLoc_fits hnt hk
    ·cases hk
   ·cases hk
  ·exact plainStep_fits hnt hk
 ·split at hk
  ·split at hk
   ·split at hk
    ·split at hk
     ·obtain ⟨hc,hk⟩:=bif_none hk
      simp only [Bool.and_eq_true,decide_eq_true_eq] at hc
      exact doneLoc_fits hnt (pickAt_some (by omega) hk)
     ·cases hk
    ·cases hk
   ·cases hk
  ·exact plainStep_fits hnt hk
 ·split at hk
  ·split at hk
   ·exact doneLoc_fits hnt hk
   ·cases hk
  ·exact plainStep_fits hnt hk
 ·exact plainStep_fits hnt hk
theorem opStep_wonly (hnt:nt<=1024) {o:Oper} (hk:opStep P K Gl prom nt o s two = some (f,fp)):WOnly s f fp:=by
 have loc:∀ {t off:Nat} {rs:List Nat},doneLoc prom nt o t off rs two = some (f,fp)->WOnly s f fp:=fun {t off rs} hk h i hh _=>by
  unfold doneLoc at hk
  cases hd:o.dst with
  | none=>rw [hd] at hk; cases hk
  | some d =>
   rw [hd] at hk
   obtain ⟨_,hk⟩:=bif_none hk
   simp only [Option.some.injEq,Prod.mk.injEq] at hk
   rw [← hk.1] at hh; cases hh
 have dn:∀ {v:T} {rs:List Nat},done nt o s v none rs false false two = some (f,fp)->WOnly s f fp:=fun {v rs} hk h i _ hw=>by rw [done_wonly hnt hk] at hw; cases hw
 unfold opStep at hk
 split at hk
 ·cases hd:o.dst with
  | none=>rw [hd] at hk; cases hk
  | some d =>
   rw [hd] at hk
   rcases bif_some hk with ⟨_,hk⟩ | ⟨_,hk⟩
   ·exact dn (bif_none hk).2
   ·exact plainStep_wonly hnt hk
 ·cases hd:o.dst with
  | none=>rw [hd] at hk; cases hk
  | some d =>
   rw [hd] at hk
   rcases bif_some hk with ⟨_,hk⟩ | ⟨_,hk⟩
   ·exact dn (bif_none hk).2
   ·exact plainStep_wonly hnt hk
 ·split at hk
  ·split at hk
   ·obtain ⟨v,hk1,_⟩:=det_some (ld_det P _ _) hk
    exact dn hk1
   ·cases hk
  ·exact plainStep_wonly hnt hk
 ·split at hk
  ·rename_i t off _
   split at hk
   ·rename_i cells hc hd
    have hk:=(bif_none hk).2
    simp only [Option.some.injEq,Prod.mk.injEq] at hk
    obtain ⟨rfl,rfl⟩:=hk
    intro h i hh; cases hh
   ·cases hk
  ·exact plainStep_wonly hnt hk
 ·split at hk
  ·split at hk
   ·split at hk
    ·exact loc hk
    ·cases hk
   ·cases hk
  ·exact plainStep_wonly hnt hk
 ·split at hk
  ·split at hk
   ·split at hk
    ·split at hk
     ·obtain ⟨hc,hk⟩:=bif_none hk
      simp only [Bool.and_eq_true,decide_eq_true_eq] at hc
      exact loc (pickAt_some (by omega) hk)
     ·cases hk
    ·cases hk
   ·cases hk
  ·exact plainStep_wonly hnt hk
 ·split at hk
  ·split at hk
   ·exact loc hk
   ·cases hk
  ·exact plainStep_wonly hnt hk
 ·exact plainStep_wonly hnt hk
theorem frzStep_fits (hnt:nt<=1024) {o:Oper} (hk:frzStep P Gl prom nt o s two = some (f,fp)):Fits f fp/\fp.wb = none:=by
 unfold frzStep at hk
 split at hk
 ·obtain ⟨y,hk1,_⟩:=det_some (semBuildFrz_det P _ _ _) (k:=fun v=>done nt o s v none (opSlots o.op) false false two) hk
  exact ⟨done_fits hnt (fun h e=>by cases e) hk1,done_wonly hnt hk1⟩
 ·cases hk
theorem StepIs.fits (hnt:nt<=1024) {ops:List Oper} {o:Oper} (h:StepIs P K Gl prom nt ops o s f fp):Fits f fp:=by
 have hk:=h _ two
 unfold guarded at hk
 split at hk
 ·rcases bif_some hk with ⟨_,hk⟩ | ⟨_,hk⟩
  ·exact (frzStep_fits hnt hk).1
  ·exact opStep_fits hnt hk
 ·split at hk
  ·cases hk
  ·split at hk
   ·rcases bif_some hk with ⟨_,hk⟩ | ⟨_,hk⟩
    ·cases hk
    ·rcases bif_some hk with ⟨_,hk⟩ | ⟨_,hk⟩
     ·obtain ⟨⟨f1,fp1⟩,h1,h2⟩:=det_some (opStep_det P K Gl prom nt o s) (k:=fun p=>two p.1 { p.2 with rs:=_ :: p.2.rs }) hk
      simp only [Option.some.injEq,Prod.mk.injEq] at h1
      obtain ⟨rfl,rfl⟩:=h1
      have hf:=opStep_fits hnt (h2 _ fun p=>two p.1 p.2)
      exact ⟨hf.slot,fun d p e=>⟨(hf.place d p e).1,fun t o ho=>List.mem_cons_of_mem _ ((hf.place d p e).2 t o ho)⟩,hf.heap⟩
     ·exact done_fits hnt (fun h e=>by cases e) hk
   ·rcases bif_some hk with ⟨_,hk⟩ | ⟨_,hk⟩
    ·cases hk
    ·exact done_fits hnt (fun h e=>by cases e) hk
   ·cases hk
theorem StepIs.wonly (hnt:nt<=1024) {ops:List Oper} {o:Oper} (h:StepIs P K Gl prom nt ops o s f fp):WOnly s f fp:=by
 have hk:=h _ two
 unfold guarded at hk
 split at hk
 ·rcases bif_some hk with ⟨_,hk⟩ | ⟨_,hk⟩
  ·exact fun h i _ hw=>by rw [(frzStep_fits hnt hk).2] at hw; cases hw
  ·exact opStep_wonly hnt hk
 ·split at hk
  ·cases hk
  ·split at hk
   ·rcases bif_some hk with ⟨_,hk⟩ | ⟨_,hk⟩
    ·cases hk
    ·rcases bif_some hk with ⟨_,hk⟩ | ⟨_,hk⟩
     ·obtain ⟨⟨f1,fp1⟩,h1,h2⟩:=det_some (opStep_det P K Gl prom nt o s) (k:=fun p=>two p.1 { p.2 with rs:=_ :: p.2.rs }) hk
      simp only [Option.some.injEq,Prod.mk.injEq] at h1
      obtain ⟨rfl,rfl⟩:=h1
      have hf:=opStep_wonly hnt (h2 _ fun p=>two p.1 p.2)
      exact hf
     ·exact fun h i _ hw=>by rw [done_wonly hnt hk] at hw; cases hw
   ·rcases bif_some hk with ⟨_,hk⟩ | ⟨_,hk⟩
    ·cases hk
    ·exact fun h i _ hw=>by rw [done_wonly hnt hk] at hw; cases hw
   ·cases hk
structure Same (s s1:St):Prop where
 at':∀ e,s1.at e = s.at e
 loc:∀ e,s1.loc e = s.loc e
 used:∀ e,s1.used e = s.used e
 h:s1.h = s.h
theorem Same.refl (s:St):Same s s:=⟨fun _=>rfl,fun _=>rfl,fun _=>rfl,rfl⟩
theorem Same.trans {a b c:St} (x:Same a b) (y:Same b c):Same a c:=⟨fun e=>(y.at' e).trans (x.at' e),fun e=>(y.loc e).trans (x.loc e),fun e=>(y.used e).trans (x.used e),y.h.trans x.h⟩
theorem Same.symm {a b:St} (x:Same a b):Same b a:=⟨fun e=>(x.at' e).symm,fun e=>(x.loc e).symm,fun e=>(x.used e).symm,x.h.symm⟩
theorem Same.agree {s s1:St} (x:Same s s1) (fp:FP):Agree s s1 fp:=⟨fun e _=>x.at' e,fun e _=>x.loc e,fun e _=>x.used e,fun _=>x.h,fun _=>.inl x.h⟩
theorem app_at (f:Eff) (s:St) (hf:∀ d v,f.slot = some (d,v)->d<1024) (t:Nat):(f.app s).at t = match f.slot with | some (d,v)=>if t = d then v else s.at t | none=>s.at t:=by
 cases hs:f.slot with
 | none=>simp [St.at,Eff.app,putEnv,hs]
 | some p =>
  obtain ⟨d,v⟩:=p
  exact at_set (s:=s) (s':=f.app s) (by simp [Eff.app,putEnv,hs]) (hf d v hs) t
theorem Same.app {s s1:St} (x:Same s s1) {f:Eff} (hf:∀ d v,f.slot = some (d,v)->d<1024):Same (f.app s) (f.app s1):=by
 refine ⟨fun e=>?_,fun e=>?_,fun e=>?_,?_⟩
 ·rw [app_at f s hf,app_at f s1 hf]
  cases f.slot with
  | none=>exact x.at' e
  | some p=>simp only [x.at' e]
 ·simp only [Eff.app]
  cases f.place with
  | none=>exact x.loc e
  | some p=>simp only [putPlace,x.loc e]
 ·simp only [Eff.app]
  cases f.place with
  | none=>exact x.used e
  | some p =>
   obtain ⟨d,q⟩:=p
   cases q with
   | none=>exact x.used e
   | some q=>simp only [putUsed,x.used e]
 ·simp only [Eff.app,x.h]
theorem meets_false {a b:List Nat} (h:meets a b = false):∀ x ∈ a,x ∉ b:=by
 intro x hx hb
 unfold meets at h
 rw [List.any_eq_false] at h
 exact h x hx (by simpa using hb)
theorem Fits.agree {f:Eff} {fp q:FP} (hf:Fits f fp) (h1:meets fp.ws q.rs = false) (h2:meets q.ws fp.rs = false) (h3:fp.wr = true->q.wr = false/\(q.rd = true->∃ i j:Nat,fp.wb = some i/\q.rb = some j/\i ≠ j)) (s:St) (hw:∀ h i,f.heap = some h->fp.wb = some i->∀ j:Nat,j ≠ i->h[j]? = s.h[j]?):Agree s (f.app s) q:=by
 have w:=meets_false h1
 have u:=meets_false h2
 refine ⟨fun e he=>?_,fun e he=>?_,fun d hd=>?_,fun hh=>?_,fun hh=>?_⟩
 ·rw [app_at f s fun d v h=>(hf.slot d v h).2]
  cases hs:f.slot with
  | none=>rfl
  | some p =>
   obtain ⟨d,v⟩:=p
   have:=(hf.slot d v hs).1
   have hne:e ≠ d:=by rintro rfl; exact w e this he
   simp only [if_neg hne]
 ·simp only [Eff.app]
  cases hp:f.place with
  | none=>rfl
  | some p =>
   obtain ⟨d,v⟩:=p
   have:=(hf.place d v hp).1
   have hne:e ≠ d:=by rintro rfl; exact w e this he
   simp only [putPlace,Bool.cond_eq_ite,beq_iff_eq,if_neg hne]
 ·simp only [Eff.app]
  cases hp:f.place with
  | none=>rfl
  | some p =>
   obtain ⟨d',v⟩:=p
   cases v with
   | none=>rfl
   | some v =>
    obtain ⟨t,o⟩:=v
    have:=(hf.place d' _ hp).2 t o rfl
    have hne:d ≠ t:=by rintro rfl; exact u d hd this
    simp only [putUsed,Bool.cond_eq_ite,beq_iff_eq,if_neg hne]
 ·simp only [Eff.app]
  cases hx:f.heap with
  | none=>rfl
  | some x =>
   rw [(h3 (hf.heap x hx)).1] at hh; cases hh
 ·cases hx:f.heap with
  | none=>left; simp only [Eff.app,hx]; rfl
  | some x =>
   obtain ⟨i,j,e1,e2,e3⟩:=(h3 (hf.heap x hx)).2 hh
   right
   refine ⟨j,e2,?_⟩
   simp only [Eff.app,hx]
   exact hw x i hx e1 j (fun q=>e3 q.symm)
theorem farB_some {w r:Option Nat} (h:farB w r = true):∃ i j:Nat,w = some i/\r = some j/\i ≠ j:=by
 unfold farB at h
 split at h
 ·rename_i i j
  exact ⟨i,j,rfl,rfl,by simpa using h⟩
 ·cases h
theorem clash_false {a b:FP} (h:clash a b = false):meets a.ws b.rs = false/\meets a.ws b.ws = false/\meets b.ws a.rs = false/\(a.wr = true->b.wr = false/\(b.rd = true->∃ i j:Nat,a.wb = some i/\b.rb = some j/\i ≠ j))/\(b.wr = true->a.wr = false/\(a.rd = true->∃ i j:Nat,b.wb = some i/\a.rb = some j/\i ≠ j)):=by
 simp only [clash,Bool.or_eq_false_iff] at h
 obtain ⟨⟨⟨⟨h1,h2⟩,h3⟩,h4⟩,h5⟩:=h
 refine ⟨h1,h2,h3,fun ha=>?_,fun hb=>?_⟩
 ·rw [ha] at h4
  simp only [Bool.true_and,Bool.or_eq_false_iff] at h4
  refine ⟨h4.1,fun hr=>?_⟩
  have:=h4.2
  rw [hr] at this
  exact farB_some (by simpa using this)
 ·rw [hb] at h5 h4
  simp only [Bool.true_and,Bool.true_or,Bool.and_true] at h5 h4
  refine ⟨h4,fun hr=>?_⟩
  rw [hr] at h5
  exact farB_some (by simpa using h5)
theorem app_comm {f1 f2:Eff} {p1 p2:FP} (h1:Fits f1 p1) (h2:Fits f2 p2) (hc:clash p1 p2 = false) (s:St):Same (f2.app (f1.app s)) (f1.app (f2.app s)):=by
 obtain ⟨c1,c2,c3,c4,c5⟩:=clash_false hc
 have w:=meets_false c2
 refine ⟨fun e=>?_,fun e=>?_,fun e=>?_,?_⟩
 ·rw [app_at f1 _ fun d v h=>(h1.slot d v h).2,app_at f2 _ fun d v h=>(h2.slot d v h).2,app_at f2 _ fun d v h=>(h2.slot d v h).2,app_at f1 _ fun d v h=>(h1.slot d v h).2]
  cases e1:f1.slot with
  | none=>rfl
  | some q1 =>
   cases e2:f2.slot with
   | none=>rfl
   | some q2 =>
    obtain ⟨d1,v1⟩:=q1
    obtain ⟨d2,v2⟩:=q2
    have a1:=(h1.slot d1 v1 e1).1
    have a2:=(h2.slot d2 v2 e2).1
    have hne:d1 ≠ d2:=by rintro rfl; exact w d1 a1 a2
    dsimp only
    by_cases x1:e = d1
    ·rw [if_pos x1,if_neg (by omega),if_pos x1]
    ·rw [if_neg x1]
     by_cases x2:e = d2
     ·rw [if_pos x2,if_pos x2]
     ·rw [if_neg x2,if_neg x2,if_neg x1]
 ·simp only [Eff.app]
  cases e1:f1.place with
  | none=>rfl
  | some q1 =>
   cases e2:f2.place with
   | none=>rfl
   | some q2 =>
    obtain ⟨d1,v1⟩:=q1
    obtain ⟨d2,v2⟩:=q2
    have a1:=(h1.place d1 v1 e1).1
    have a2:=(h2.place d2 v2 e2).1
    have hne:d1 ≠ d2:=by rintro rfl; exact w d1 a1 a2
    simp only [putPlace,Bool.cond_eq_ite,beq_iff_eq]
    by_cases x1:e = d1
    ·rw [if_pos x1,if_neg (by omega),if_pos x1]
    ·rw [if_neg x1]
     by_cases x2:e = d2
     ·rw [if_pos x2,if_pos x2]
     ·rw [if_neg x2,if_neg x2,if_neg x1]
 ·simp only [Eff.app]
  have key:∀ (u:Nat->Bool) (p q:Option (Nat × Option (Nat × Nat))),putUsed (putUsed u p) q e = putUsed (putUsed u q) p e:=by
   intro u p q
   rcases p with _ | ⟨d1,_ | ⟨t1,o1⟩⟩ <;> rcases q with _ | ⟨d2,_ | ⟨t2,o2⟩⟩ <;> simp only [putUsed]
   cases (e==t1) <;> cases (e==t2) <;> rfl
  exact (key _ _ _).symm
 ·simp only [Eff.app]
  cases e1:f1.heap with
  | none=>rfl
  | some x1 =>
   cases e2:f2.heap with
   | none=>rfl
   | some x2 =>
    have:=(c4 (h1.heap x1 e1)).1
    rw [h2.heap x2 e2] at this
    cases this
theorem RunIs.same (hnt:nt<=1024) {ops l:List Oper} {s s':St} {fps:List FP} (h:RunIs P K Gl prom nt ops l s s' fps):∀ {s1:St},Same s s1->∃ s1',RunIs P K Gl prom nt ops l s1 s1' fps/\Same s' s1':=by
 induction h with
 | nil s=>exact fun x=>⟨_,.nil _,x⟩
 | cons h1 h2 ih =>
  intro s1 x
  obtain ⟨s1',q1,q2⟩:=ih (x.app fun d v e=>((h1.fits hnt).slot d v e).2)
  exact ⟨s1',.cons (h1.congr (x.agree _)) q1,q2⟩
theorem RunIs.pull (hnt:nt<=1024) {ops:List Oper} {o:Oper} {post:List Oper} {fp:FP} {fpost:List FP}:∀ {pre:List Oper} {fpre:List FP} {s s':St},pre.length = fpre.length->(∀ q ∈ fpre,clash q fp = false) →
 RunIs P K Gl prom nt ops (pre ++ o :: post) s s' (fpre ++ fp :: fpost)->∃ f s1,StepIs P K Gl prom nt ops o s f fp/\RunIs P K Gl prom nt ops (pre ++ post) (f.app s) s1 (fpre ++ fpost)/\Same s' s1
 | [],[],s,s',_,_,h=>by
  cases h with
  | cons h1 h2=>exact ⟨_,_,h1,h2,.refl _⟩
 | p :: pre,q :: fpre,s,s',hl,hc,h=>by
  cases h with
  | @cons _ _ _ _ fq _ _ h1 h2 =>
   have hcq:=hc q (by simp)
   obtain ⟨c1,c2,c3,c4,c5⟩:=clash_false hcq
   obtain ⟨f,s1,g1,g2,g3⟩:=RunIs.pull hnt (by simpa using hl) (fun q hq=>hc q (by simp [hq])) h2
   have fitq:=h1.fits hnt
   have fitf:=g1.fits hnt
   have a1:=fitq.agree c1 c3 c4 s (h1.wonly hnt)
   have a1':Agree (fq.app s) s fp:=⟨fun e he=>(a1.at' e he).symm,fun e he=>(a1.loc e he).symm,fun e he=>(a1.used e he).symm,fun hh=>(a1.heap hh).symm,fun hh=>(a1.heapR hh).elim (fun h=>.inl h.symm) fun ⟨j,h1,h2⟩=>.inr ⟨j,h1,h2.symm⟩⟩
   have a2:=fitf.agree c3 c1 c5 s (fun h i hh hw j hj=>by
    have q:=g1.wonly hnt h i hh hw j hj
    rw [q]
    have hq0:fq.heap = none:=by
     cases hx:fq.heap with
     | none=>rfl
     | some x =>
      have:=(c5 (fitf.heap h hh)).1
      rw [fitq.heap x hx] at this; cases this
    simp only [Eff.app,hq0]; rfl)
   obtain ⟨s2,q1,q2⟩:=g2.same hnt (app_comm fitq fitf hcq s)
   exact ⟨f,s2,g1.congr a1',.cons (h1.congr a2) q1,g3.trans q2⟩
 | [],_ :: _,_,_,hl,_,_=>by cases hl
 | _ :: _,[],_,_,hl,_,_=>by cases hl
end
inductive Behind (ops:Array Oper):Nat->Nat->Prop where
 | one {j k:Nat} {o:Oper} {e:Edge} (ho:ops[j]? = some o) (he:e ∈ o.after) (hb:Region.binds .any e = true) (hk:e.on = k):Behind ops j k
 | more {j m k:Nat} {o:Oper} {e:Edge} (ho:ops[j]? = some o) (he:e ∈ o.after) (hb:Region.binds .any e = true) (hm:e.on = m) (h:Behind ops m k):Behind ops j k
theorem fold_bits {ops:Array Oper} {j:Nat} {o:Oper} {acc:Array Nat} (ho:ops[j]? = some o) (hacc:∀ m k,(acc.getD m 0).testBit k = true->Behind ops m k) :
 ∀ (l:List Edge) (s0:Nat),(∀ e ∈ l,e ∈ o.after)->(∀ k,s0.testBit k = true->Behind ops j k)->∀ k,(l.foldl (fun s e=>if Region.binds .any e then s ||| 2 ^ e.on ||| acc.getD e.on 0 else s) s0).testBit k = true->Behind ops j k
 | [],s0,_,h0,k,hk=>h0 k hk
 | e :: l,s0,hl,h0,k,hk=>by
  refine fold_bits ho hacc l _ (fun e he=>hl e (List.mem_cons_of_mem _ he)) (fun k hk=>?_) k hk
  dsimp only at hk
  split at hk
  ·rename_i hb
   simp only [Nat.testBit_or,Bool.or_eq_true] at hk
   rcases hk with (hk | hk) | hk
   ·exact h0 k hk
   ·rw [Nat.testBit_two_pow] at hk
    exact .one ho (hl e (by simp)) hb (by simpa using hk)
   ·exact .more ho (hl e (by simp)) hb rfl (hacc _ k hk)
  ·exact h0 k hk
theorem before_list {ops:Array Oper}:∀ (l:List Oper) (acc:Array Nat),(∀ i,l[i]? = ops[acc.size+i]?)->(∀ m k,(acc.getD m 0).testBit k = true->Behind ops m k) →
 ∀ m k,((l.foldl (fun (acc:Array Nat) o=>acc.push (o.after.foldl (fun s e=>if Region.binds .any e then s ||| 2 ^ e.on ||| acc.getD e.on 0 else s) 0)) acc).getD m 0).testBit k = true->Behind ops m k
 | [],acc,_,h,m,k,hk=>h m k hk
 | o :: l,acc,hl,h,m,k,hk=>by
  have ho:ops[acc.size]? = some o:=by have:=hl 0; simpa using this.symm
  refine before_list l _ (fun i=>?_) (fun m k hk=>?_) m k hk
  ·have:=hl (i+1)
   simp only [List.getElem?_cons_succ] at this
   rw [this,Array.size_push]
   congr 1
   omega
  ·rw [Array.getD_eq_getD_getElem?,Array.getElem?_push] at hk
   split at hk
   ·rename_i hm
    subst hm
    rw [← Array.foldl_toList] at hk
    exact fold_bits ho h o.after.toList 0 (fun e he=>by simpa using he) (fun k hk=>by simp at hk) k hk
   ·rw [← Array.getD_eq_getD_getElem?] at hk
    exact h m k hk
theorem before_behind {ops:Array Oper} {j k:Nat} (h:((Region.before ops).getD j 0).testBit k = true):Behind ops j k:=by
 unfold Region.before at h
 rw [← Array.foldl_toList] at h
 exact before_list ops.toList #[] (fun i=>by simp) (fun m k hk=>by simp at hk) j k h
theorem edgesOk_spec:∀ (l:List Oper) (j:Nat),edgesOk j l = true->∀ (i:Nat) (o:Oper),l[i]? = some o->∀ e ∈ o.after,Region.binds .any e = true->e.on<j+i
 | [],_,_,i,o,ho=>by simp at ho
 | o :: l,j,h,i,o',ho=>by
  simp only [edgesOk,Bool.and_eq_true] at h
  intro e he hb
  cases i with
  | zero =>
   simp only [List.getElem?_cons_zero,Option.some.injEq] at ho
   subst ho
   have:=List.all_eq_true.1 h.1 e (by simpa using he)
   rw [hb] at this
   simp only [Bool.not_true,Bool.false_or] at this
   exact blt_lt this
  | succ i =>
   have:=edgesOk_spec l (j+1) h.2 i o' (by simpa using ho) e he hb
   omega
theorem pairsOk_spec {before:List Nat}:∀ (l:List (Nat × FP)),pairsOk before l = true->List.Pairwise (fun a b=>(before.getD b.1 0).testBit a.1 = true ∨ clash a.2 b.2 = false) l
 | [],_=>.nil
 | (i,a) :: l,h=>by
  simp only [pairsOk,Bool.and_eq_true] at h
  refine List.pairwise_cons.2 ⟨fun b hb=>?_,pairsOk_spec l h.2⟩
  have:=List.all_eq_true.1 h.1 b hb
  simpa using this
section
variable {P:Program} {K:Orc} {Gl:Nat->Option (List T)} {prom:List Nat} {nt:Nat} {s s1 s':St}
theorem Same.sr (x:Same s s1) {g:Gh} {a:Act} {w:World} (h:SR Gl prom nt g s a w):SR Gl prom nt g s1 a w :=
 ⟨by rw [x.h]; exact h.hr,h.defers,h.size,h.nt,fun t ht=>by rw [x.h,x.at']; exact h.tmps t ht,fun t ht cells hc=>by rw [x.h]; exact h.regs t ht cells (by rw [← x.at']; exact hc),
  fun d t o hl=>h.loc d t o (by rw [← x.loc]; exact hl),h.glob,fun d t o hl=>by rw [x.used]; exact h.used d t o (by rw [← x.loc]; exact hl)⟩
structure Rest (ops:Array Oper) (listed:Array Bool) (rem:List Nat):Prop where
 size:listed.size = ops.size
 mem:∀ i,i ∈ rem ↔ listed.getD i true = false
 sorted:List.Pairwise (·<·) rem
 closed:∀ j o,ops[j]? = some o->listed.getD j false = true->∀ e ∈ o.after,Region.binds .any e = true->listed.getD e.on false = true
theorem Rest.behind {ops:Array Oper} {listed:Array Bool} {rem:List Nat} (r:Rest ops listed rem) {j k:Nat} (h:Behind ops j k):listed.getD j false = true->listed.getD k false = true:=by
 induction h with
 | one ho he hb hk=>exact fun hl=>hk ▸ r.closed _ _ ho hl _ he hb
 | more ho he hb hm h ih=>exact fun hl=>ih (hm ▸ r.closed _ _ ho hl _ he hb)
theorem Rest.ready {ops:Array Oper} {listed:Array Bool} {rem:List Nat} (r:Rest ops listed rem) {i k:Nat} (hi:i ∈ Region.ready .any ops listed) (h:Behind ops i k):listed.getD k false = true:=by
 obtain ⟨_,o,ho,hall⟩:=mem_ready.1 hi
 cases h with
 | one ho' he hb hk =>
  obtain rfl:=Option.some.inj (ho'.symm.trans ho)
  exact hk ▸ hall _ he hb
 | more ho' he hb hm h =>
  obtain rfl:=Option.some.inj (ho'.symm.trans ho)
  exact r.behind h (hm ▸ hall _ he hb)
theorem getD_false_of {listed:Array Bool} {i:Nat} (h:listed.getD i true = false):i<listed.size/\listed.getD i false = false:=by
 rw [Array.getD_eq_getD_getElem?] at h ⊢
 rcases Nat.lt_or_ge i listed.size with h' | h'
 ·rw [Array.getElem?_eq_getElem h'] at h ⊢
  exact ⟨h',h⟩
 ·rw [Array.getElem?_eq_none h'] at h
  cases h
theorem drawn_goes (hK:OrcOk P Gl K) (hnt:nt<=1024) {ops:Array Oper} (hedge:edgesOk 0 ops.toList = true) {O:Nat->Oper} (hO:∀ i,i<ops.size->ops[i]? = some (O i)) {F:Nat->FP}
 (hF:∀ i j,i<j->j<ops.size->((Region.before ops).getD j 0).testBit i = true ∨ clash (F i) (F j) = false) :
 ∀ (fuel:Nat) {rem:List Nat} {listed:Array Bool} {s s1:St} {g:Gh} {a:Act} {w:World},rem.length = fuel->Rest ops listed rem->RunIs P K Gl prom nt ops.toList (rem.map O) s s1 (rem.map F)->Same s1 s'->SR Gl prom nt g s a w →
  ∀ (ro:Option Nat) (n:Nat) (Q:Exit->Act->World->Prop),(∀ a' w' g',SR Gl prom nt g' s' a' w'->FrC g s.h w g' s'.h w'->a'.defers = a.defers->Q .normal a' w')->wpAnyIn (wideR ro) n P .any ops Q fuel listed a w
 | 0,rem,listed,s,s1,g,a,w,hl,hr,hrun,hsame,hs,ro,n,Q,hn=>by
  obtain rfl:=List.length_eq_zero_iff.1 hl
  cases hrun with
  | nil =>
   refine ⟨?_,hn _ _ _ (hsame.sr hs) (by rw [hsame.h]; exact FrC.refl _ _ _) rfl⟩
   apply List.eq_nil_iff_forall_not_mem.2
   intro i hi
   have:=(hr.mem i).2 (mem_ready.1 hi).1
   simp at this
 | fuel+1,rem,listed,s,s1,g,a,w,hl,hr,hrun,hsame,hs,ro,n,Q,hn=>by
  refine ⟨fun h0=>?_,fun i hi=>?_⟩
  ·
   exfalso
   cases rem with
   | nil=>cases hl
   | cons i0 rem =>
    have hun:=(hr.mem i0).1 (by simp)
    have hlt:=(getD_false_of hun).1
    rw [hr.size] at hlt
    have ho:=hO i0 hlt
    have:i0 ∈ Region.ready .any ops listed:=by
     refine mem_ready.2 ⟨hun,O i0,ho,fun e he hb=>?_⟩
     have h1:=edgesOk_spec ops.toList 0 hedge i0 (O i0) (by rw [Array.getElem?_toList]; exact ho) e he hb
     rw [Nat.zero_add] at h1
     cases hb2:listed.getD e.on false with
     | true=>rfl
     | false =>
      have hes:e.on<listed.size:=by rw [hr.size]; omega
      have:e.on ∈ i0 :: rem:=(hr.mem e.on).2 (by rw [Array.getD_eq_getD_getElem?] at hb2 ⊢; rw [Array.getElem?_eq_getElem hes] at hb2 ⊢; exact hb2)
      rcases List.mem_cons.1 this with h2 | h2
      ·omega
      ·have:=(List.pairwise_cons.1 hr.sorted).1 _ h2
       omega
    rw [h0] at this
    cases this
  ·have hun:=(mem_ready.1 hi).1
   have hlt:=(getD_false_of hun).1
   rw [hr.size] at hlt
   have ho:=hO i hlt
   obtain ⟨pre,post,rfl⟩:=List.append_of_mem ((hr.mem i).2 hun)
   have hsort:=List.pairwise_append.1 hr.sorted
   have hpre:∀ j ∈ pre,j<i:=fun j hj=>hsort.2.2 j hj i (by simp)
   have hcl:∀ q ∈ pre.map F,clash q (F i) = false:=by
    intro q hq
    obtain ⟨j,hj,rfl⟩:=List.mem_map.1 hq
    rcases hF j i (hpre j hj) hlt with h1 | h1
    ·have h2:=hr.ready hi (before_behind h1)
     have h3:=(hr.mem j).1 (List.mem_append_left _ hj)
     rw [(getD_false_of h3).2] at h2
     cases h2
    ·exact h1
   rw [List.map_append,List.map_cons,List.map_append,List.map_cons] at hrun
   obtain ⟨f,s2,g1,g2,g3⟩:=RunIs.pull hnt (by simp) hcl hrun
   have hgo:=g1.goes hK hs
   have hrest:Rest ops (listed.setIfInBounds i true) (pre ++ post):=by
    refine ⟨by simp [hr.size],fun j=>?_,?_,fun j o hj hl' e he hb=>?_⟩
    ·by_cases hji:j = i
     ·subst hji
      have hx:j<listed.size:=by rw [hr.size]; exact hlt
      have h4:(listed.setIfInBounds j true).getD j true = true:=by
       rw [Array.getD_eq_getD_getElem?,Array.getElem?_setIfInBounds_self_of_lt hx]; rfl
      rw [h4]
      have h6:=(List.pairwise_cons.1 hsort.2.1).1
      constructor
      ·intro hm
       rcases List.mem_append.1 hm with h5 | h5
       ·have:=hpre j h5; omega
       ·have:=h6 j h5; omega
      ·intro h5; cases h5
     ·rw [getD_set_ne true (Ne.symm hji),← hr.mem j]
      simp [hji]
    ·refine List.pairwise_append.2 ⟨hsort.1,(List.pairwise_cons.1 hsort.2.1).2,fun x hx y hy=>hsort.2.2 x hx y (by simp [hy])⟩
    ·by_cases hji:i = j
     ·subst hji
      obtain ⟨_,o2,ho2,hall⟩:=mem_ready.1 hi
      obtain rfl:=Option.some.inj (hj.symm.trans ho2)
      exact getD_set_true (hall e he hb)
     ·rw [getD_set_ne false hji] at hl'
      exact getD_set_true (hr.closed j o hj hl' e he hb)
   have hih:=fun a' w' g' (hs':SR Gl prom nt g' (f.app s) a' w') (hf':FrC g s.h w g' (f.app s).h w') (hd':a'.defers = a.defers) =>
    drawn_goes hK hnt hedge hO hF fuel (rem:=pre ++ post) (listed:=listed.setIfInBounds i true) (s1:=s2) (by simp at hl ⊢; omega) hrest (by rw [List.map_append,List.map_append]; exact g2) (g3.symm.trans hsame) hs' ro n Q
     fun a2 w2 g2' hs2 hf2 hd2=>hn a2 w2 g2' hs2 (hf'.trans hf2) (hd2.trans hd')
   have:=hgo ro n (wpAnyIn (wideR ro) n P .any ops Q fuel (listed.setIfInBounds i true)) Q hih
   unfold wpOpIn
   rw [ho]
   dsimp only
   split at this
   ·rename_i hw; rw [if_pos hw]; exact this
   ·rename_i hw; rw [if_neg hw]; exact ⟨fun _ _=>trivial,this⟩
end
theorem stepR_scope {P:Program} {b:Frame} {a:Act} {k:List Item} {cs:List Frame} {w:World} {c:Code}:step P (lone (b.atR a (.code (.scope c) :: k)) cs w) = .next (lone (b.atR a (.code c :: .inScope c :: k)) cs w) :=
 step_lone_go (by simp [stepG,stepG.exec,Frame.atR])
theorem stepR_inScope {P:Program} {b:Frame} {a:Act} {k:List Item} {cs:List Frame} {w:World} {c:Code}:step P (lone (b.atR a (.inScope c :: k)) cs w) = .next (lone (b.atR a k) cs w) :=
 step_lone_go (by simp [stepG,stepG.exec,Frame.atR])
theorem wpIn_scope {F:Fence} {n:Nat} {P:Program} {Q:Exit->Act->World->Prop} {a:Act} {w:World} {c:Code} (h:c.wpIn F n P (Exit.noGoto Q) a w):(Code.scope c).wpIn F n P Q a w:=by
 intro b k cs hro hb hr
 have h0:(lone (b.atR a (.code (.scope c) :: k)) cs w).fenced P F:=fenced_calm hb hr rfl
 obtain ⟨e,a₁,w₁,hq,harr⟩:=h b (.inScope c :: k) cs hro hb hr
 cases e with
 | normal=>exact ⟨.normal,a₁,w₁,hq,.head h0 stepR_scope (StepsIn.trans harr (.one (fenced_calm hb hr rfl) stepR_inScope))⟩
 | exit id =>
  have hx:exitTo id (.inScope c :: k) = exitTo id k:=by simp [exitTo]
  exact ⟨.exit id,a₁,w₁,hq,fun k' hk=>.head h0 stepR_scope (harr.1 k' (by rw [hx]; exact hk)),
   fun hr' hk=>let ⟨k₁,h1,h2⟩:=harr.2 hr' (by rw [hx]; exact hk); ⟨k₁,h1,.head h0 stepR_scope h2⟩⟩
 | goto l=>exact hq.elim
 | ret=>exact ⟨_,a₁,w₁,hq,.of_steps (.one h0 stepR_scope) harr⟩
 | panic ch=>exact ⟨_,a₁,w₁,hq,.of_steps (.one h0 stepR_scope) harr⟩
 | outgrown=>exact ⟨_,a₁,w₁,hq,.of_steps (.one h0 stepR_scope) harr⟩
def Ex.out:Ex->Exit
 | .normal=>.normal
 | .exit i=>.exit i
 | .ret=>.ret
theorem wpIn_loop_num {F:Fence} {n0:Nat} {P:Program} {Q:Exit->Act->World->Prop} {c:Code} (I:Nat->Act->World->Prop) (round:∀ n a w,I n a w->c.wpIn F n0 P (Exit.then (fun a' w'=>∃ m,m<n/\I m a' w') Q) a w) :
 ∀ n a w,I n a w->(Code.loop c).wpIn F n0 P Q a w:=by
 intro n a w h0 b k cs hro hb hr
 have key:∀ n a w,I n a w->∃ e a' w',Q e a' w'/\ArrivesIn (Machine.fenced P F) P (lone (b.atR a (.code c :: .inLoop c :: k)) cs w) b k cs e a' w':=by
  intro n
  induction n using Nat.strongRecOn with
  | _ n ih =>
   intro a w hI
   obtain ⟨e,a₁,w₁,hq,harr⟩:=round n a w hI b (.inLoop c :: k) cs hro hb hr
   cases e with
   | normal =>
    obtain ⟨m,hlt,hI₁⟩:=hq
    obtain ⟨e₂,a₂,w₂,hq₂,harr₂⟩:=ih m hlt a₁ w₁ hI₁
    exact ⟨e₂,a₂,w₂,hq₂,.of_steps (StepsIn.trans harr (.one (fenced_calm hb hr rfl) stepR_inLoop)) harr₂⟩
   | exit id=>exact ⟨_,a₁,w₁,hq,.pass (x:=.inLoop c) rfl (fun _ _=>.inl (by simp)) harr⟩
   | goto l=>exact ⟨_,a₁,w₁,hq,.pass (x:=.inLoop c) rfl (fun _ _=>.inl (by simp)) harr⟩
   | ret=>exact ⟨_,a₁,w₁,hq,.pass (x:=.inLoop c) rfl (fun _ _=>.inl (by simp)) harr⟩
   | panic ch=>exact ⟨_,a₁,w₁,hq,.pass (x:=.inLoop c) rfl (fun _ _=>.inl (by simp)) harr⟩
   | outgrown=>exact ⟨_,a₁,w₁,hq,.pass (x:=.inLoop c) rfl (fun _ _=>.inl (by simp)) harr⟩
 obtain ⟨e,a',w',hq,harr⟩:=key n a w h0
 exact ⟨e,a',w',hq,.of_steps (.one (fenced_calm hb hr rfl) stepR_loop) harr⟩
section
variable {P:Program} {K:Orc} {Gl:Nat->Option (List T)} {prom:List Nat} {nt:Nat} {R:Type}
def CodeGoes (P:Program) (Gl:Nat->Option (List T)) (prom:List Nat) (nt:Nat) (c:Code) (s:St) (e:Ex) (s':St):Prop :=
 ∀ (ro:Option Nat) (n:Nat),(hasRange c = true->ro = none)->∀ (g:Gh) (a:Act) (w:World),SR Gl prom nt g s a w->∀ Q:Exit->Act->World->Prop,(∀ a' w' g',SR Gl prom nt g' s' a' w'->FrC g s.h w g' s'.h w'->(hasRange c = false->a'.defers = a.defers)->Q e.out a' w')->c.wpIn (wideR ro) n P Q a w
theorem SR.bare {g:Gh} {s:St} {a:Act} {w:World} (h:SR Gl prom nt g s a w) (env:Tr) (he:∀ t,({ s with env:=env,loc:=fun _=>none,used:=fun _=>false }:St).at t = s.at t ∨ ({ s with env:=env,loc:=fun _=>none,used:=fun _=>false }:St).at t = .undef) :
 SR Gl prom nt g { s with env:=env,loc:=fun _=>none,used:=fun _=>false } a w:=by
 refine ⟨h.hr,h.defers,h.size,h.nt,fun t ht=>?_,fun t ht cells hc=>?_,fun d t o hl=>(by cases hl),h.glob,fun d t o hl=>(by cases hl)⟩
 ·rcases he t with h1 | h1
  ·rw [h1]; exact h.tmps t ht
  ·rw [h1]; exact .imm _ _ (.undef _)
 ·rcases he t with h1 | h1
  ·exact h.regs t ht cells (by rw [← h1]; exact hc)
  ·rw [h1] at hc; cases hc
theorem putL_at (s:St) (h:Heap) (l:List Nat) (t:Nat):(mkSt l (getL s l) h).at t = s.at t ∨ (mkSt l (getL s l) h).at t = .undef:=by
 rcases Nat.lt_or_ge t 1024 with ht | ht
 ·rw [at_lt ht]
  have key:∀ (l:List Nat) (e:Tr),(Tr.get deep e t = s.at t ∨ Tr.get deep e t = .undef)->(Tr.get deep (putL l (getL s l) e) t = s.at t ∨ Tr.get deep (putL l (getL s l) e) t = .undef):=by
   intro l
   induction l with
   | nil=>exact fun e he=>he
   | cons i l ih =>
    intro e he
    refine ih _ ?_
    cases hb:Nat.blt i 1024 with
    | false=>simp only [cond_false]; exact he
    | true =>
     have hi:=blt_lt hb
     simp only [cond_true]
     rw [show Tr.get deep (Tr.set deep e i (s.at i)) t = _ from Tr.get_set 10 e i t _ hi ht]
     by_cases hti:t = i
     ·subst hti; rw [if_pos rfl]; exact .inl rfl
     ·rw [if_neg hti]; exact he
  exact key l .nil (.inr rfl)
 ·rw [at_ge (by omega)]; exact .inr rfl
theorem SR.only {g:Gh} {s:St} {a:Act} {w:World} (h:SR Gl prom nt g s a w) (l:List Nat):SR Gl prom nt g (mkSt l (getL s l) s.h) a w:=by
 have:=putL_at s s.h l
 exact h.bare (putL l (getL s l) .nil) this
theorem SR.drawn {g:Gh} {s:St} {a:Act} {w:World} (h:SR Gl prom nt g s a w) (n:Nat):SR Gl prom nt g s a { w with drawn:=n }:=by
 have hk:Keep g s.h w g s.h { w with drawn:=n }:=⟨fun b hb=>⟨hb,rfl⟩,fun _ b hb=>⟨b,hb,Nat.le_refl _,fun _=>⟨rfl,rfl,rfl⟩⟩,fun _ _ h=>h⟩
 refine ⟨⟨fun i b hb=>?_,h.hr.u,h.hr.own,h.hr.base,h.hr.cells,h.hr.lt⟩,h.defers.to (Nat.le_refl _) (fun _ _=>rfl) (fun _ _ _=>rfl) rfl (fun _ h=>.inl h),h.size,h.nt,fun t ht=>(h.tmps t ht).keep hk,fun t ht cells hc=>?_,h.loc,fun gl cells hg=>(h.glob gl cells hg).keep hk.u,h.used⟩
 ·obtain ⟨cb,sh,arr,e,hok⟩:=h.hr.blk i b hb
  refine ⟨cb,sh,arr,e,hok.φ,hok.own,hok.heap,hok.room,hok.len,fun j o c hj hc=>?_,hok.flat⟩
  obtain ⟨v,h1,h2,h3⟩:=hok.cell j o c hj hc
  exact ⟨v,h1,h2,h3.keep hk⟩
 ·obtain ⟨cb,arr,e,hreg⟩:=h.regs t ht cells hc
  exact ⟨cb,arr,e,hreg.keep hk rfl rfl⟩
theorem region_goes (hm:P.follows .mixedOrders = true) (hK:OrcOk P Gl K) (hnt:nt<=1024) {id:Nat} {ops:Array Oper} {draw:Bool} {s s':St} {fps:List FP}
 (hrun:RunIs P K Gl prom nt ops.toList ops.toList { s with loc:=fun _=>none,used:=fun _=>false } s' fps) (hd:draw = true->orderOk ops fps = true):CodeGoes P Gl prom nt (.region id ops draw) s .normal s':=by
 intro ro n _ g a w hs Q hn
 have hs0:=hs.bare s.env (fun t=>.inl rfl)
 cases draw with
 | false=>exact wpIn_region_list (hrun.goes hK hs0 ro n Q fun a' w' g' h1 h2 h3=>hn a' w' g' h1 h2 fun _=>h3)
 | true =>
  have hok:=hd rfl
  simp only [orderOk,Bool.and_eq_true] at hok
  have hlen:fps.length = ops.size:=by
   have:∀ {l:List Oper} {s s':St} {fps:List FP},RunIs P K Gl prom nt ops.toList l s s' fps->fps.length = l.length:=by
    intro l s s' fps h
    induction h with
    | nil=>rfl
    | cons _ _ ih=>simp [ih]
   have:=this hrun
   simpa using this
  refine wpIn_region_any hm ?_
  have hO:∀ i,i<ops.size->ops[i]? = some (ops.getD i default):=fun i hi=>by
   rw [Array.getD_eq_getD_getElem?,Array.getElem?_eq_getElem hi]; rfl
  have hmapO:(List.range ops.size).map (fun i=>ops.getD i default) = ops.toList:=by
   apply List.ext_getElem (by simp)
   intro i h1 h2
   simp only [List.length_map,List.length_range] at h1
   simp [Array.getElem?_eq_getElem h1]
  have hmapF:(List.range ops.size).map (fun i=>fps.getD i ⟨[],[],false,false,none,none⟩) = fps:=by
   apply List.ext_getElem (by simp [hlen])
   intro i h1 h2
   simp [List.getElem?_eq_getElem h2]
  have hpair:∀ i j,i<j->j<ops.size->((Region.before ops).getD j 0).testBit i = true ∨ clash (fps.getD i ⟨[],[],false,false,none,none⟩) (fps.getD j ⟨[],[],false,false,none,none⟩) = false:=by
   intro i j hij hj
   have hp:=pairsOk_spec _ hok.2
   rw [List.pairwise_iff_getElem] at hp
   have hz:∀ m,m<ops.size->((List.range ops.size).zip fps)[m]? = some (m,fps.getD m ⟨[],[],false,false,none,none⟩):=by
    intro m hm
    rw [List.getElem?_zip_eq_some]
    refine ⟨by simp [hm],?_⟩
    rw [List.getD_eq_getElem?_getD,List.getElem?_eq_getElem (by omega)]
    rfl
   have hlz:((List.range ops.size).zip fps).length = ops.size:=by simp [hlen]
   have h1:=hp i j (by omega) (by omega) hij
   have e1:=hz i (by omega)
   have e2:=hz j hj
   rw [List.getElem?_eq_getElem (by omega)] at e1 e2
   rw [Option.some.inj e1,Option.some.inj e2] at h1
   dsimp only at h1
   have e3:(Region.before ops).toList.getD j 0 = (Region.before ops).getD j 0:=by
    simp [List.getD_eq_getElem?_getD,Array.getD_eq_getD_getElem?]
   rw [e3] at h1
   exact h1
  refine drawn_goes hK hnt (s':=s') hok.1 hO hpair ops.size (rem:=List.range ops.size) (listed:=Array.replicate ops.size false) (s:=_) (s1:=s') (by simp) ⟨by simp,fun i=>?_,?_,fun j o _ hl=>?_⟩ (by rw [hmapO,hmapF]; exact hrun) (.refl _) (hs0.drawn _) ro n Q ?_
  ·rw [List.mem_range,Array.getD_eq_getD_getElem?]
   rcases Nat.lt_or_ge i ops.size with h | h
   ·simp [h]
   ·rw [Array.getElem?_eq_none (by simpa using h)]; simp; omega
  ·exact List.pairwise_lt_range
  ·rw [Array.getD_eq_getD_getElem?] at hl
   rcases Nat.lt_or_ge j ops.size with h | h
   ·simp [h] at hl
   ·rw [Array.getElem?_eq_none (by simpa using h)] at hl; simp at hl
  ·intro a' w' g' hs' hf' hd'
   refine hn a' w' g' hs' ?_ (fun _=>hd')
   exact ⟨⟨hf'.keep.u,hf'.keep.blk,hf'.keep.rm⟩,hf'.size,hf'.own,hf'.os,hf'.tape,⟨hf'.output.1,Nat.le_trans (Nat.le_succ _) hf'.output.2⟩,hf'.same,hf'.bs,hf'.u,hf'.u'⟩
def RecOk (P:Program) (Gl:Nat->Option (List T)) (prom:List Nat) (nt:Nat) (live:Nat->Bool->List Nat) (S:Code->Prop) (rec:Rec):Prop :=
 RecDet rec/\∀ b vs h e vs' h',S b->rec _ b vs h (fun e vs h=>some (e,vs,h)) = some (e,vs',h')->CodeGoes P Gl prom nt (asLoop b) (mkSt (live (firstReg b) false) vs h) e (mkSt (live (firstReg b) true) vs' h')
theorem RecOk.mono {live:Nat->Bool->List Nat} {S:Code->Prop} {rec:Rec} (h:RecOk P Gl prom nt live (fun _=>True) rec):RecOk P Gl prom nt live S rec :=
 ⟨h.1,fun b vs h0 e vs' h' _ hk=>h.2 b vs h0 e vs' h' trivial hk⟩
theorem exK_goes (hm:P.follows .mixedOrders = true) (hK:OrcOk P Gl K) (hnt:nt<=1024) {live:Nat->Bool->List Nat} {S:Code->Prop} {rec:Rec} (hrec:RecOk P Gl prom nt live S rec) :
 ∀ (c:Code) (_:∀ b ∈ loopsOf c,S b) {s:St} {k:Ex->St->Option R} {r:R},exK P K Gl prom nt live rec c s k = some r->∃ e s',k e s' = some r/\CodeGoes P Gl prom nt c s e s'
 | .skip,_,s,k,r,hk=>⟨_,_,hk,fun ro n _ g a w hs Q hn=>wpIn_skip (hn _ _ _ hs (FrC.refl _ _ _) fun _=>rfl)⟩
 | .label _,_,s,k,r,hk=>⟨_,_,hk,fun ro n _ g a w hs Q hn=>wpIn_label (hn _ _ _ hs (FrC.refl _ _ _) fun _=>rfl)⟩
 | .region id ops draw,_,s,k,r,hk=>by
  simp only [exK] at hk
  obtain ⟨s',fps,hk,hrun⟩:=runOps_is _ hk
  replace hk:=(bif_none hk).2
  cases draw with
  | false=>exact ⟨_,_,hk,region_goes hm hK hnt hrun (fun h=>by cases h)⟩
  | true =>
   simp only [cond_true] at hk
   obtain ⟨ho,hk⟩:=bif_none hk
   exact ⟨_,_,hk,region_goes hm hK hnt hrun (fun _=>ho)⟩
 | .seq x y,hl,s,k,r,hk=>by
  simp only [exK] at hk
  obtain ⟨e,s1,hk,h1⟩:=exK_goes hm hK hnt hrec x (fun b hb=>hl b (by simp [loopsOf,hb])) hk
  cases e with
  | normal =>
   obtain ⟨e2,s2,hk,h2⟩:=exK_goes hm hK hnt hrec y (fun b hb=>hl b (by simp [loopsOf,hb])) hk
   exact ⟨e2,s2,hk,fun ro n hro g a w hs Q hn=>wpIn_seq (h1 ro n (fun h=>hro (by simp [hasRange,h])) g a w hs _ fun a1 w1 g1 hs1 hf1 hd1=>h2 ro n (fun h=>hro (by simp [hasRange,h])) g1 a1 w1 hs1 Q fun a2 w2 g2 hs2 hf2 hd2=>hn a2 w2 g2 hs2 (hf1.trans hf2) fun h=>by simp only [hasRange,Bool.or_eq_false_iff] at h; exact (hd2 h.2).trans (hd1 h.1))⟩
  | exit i=>exact ⟨_,_,hk,fun ro n hro g a w hs Q hn=>wpIn_seq (h1 ro n (fun h=>hro (by simp [hasRange,h])) g a w hs _ fun a1 w1 g1 hs1 hf1 hd1=>hn a1 w1 g1 hs1 hf1 fun h=>by simp only [hasRange,Bool.or_eq_false_iff] at h; exact hd1 h.1)⟩
  | ret=>exact ⟨_,_,hk,fun ro n hro g a w hs Q hn=>wpIn_seq (h1 ro n (fun h=>hro (by simp [hasRange,h])) g a w hs _ fun a1 w1 g1 hs1 hf1 hd1=>hn a1 w1 g1 hs1 hf1 fun h=>by simp only [hasRange,Bool.or_eq_false_iff] at h; exact hd1 h.1)⟩
 | .cond c x y,hl,s,k,r,hk=>by
  simp only [exK] at hk
  cases hc:Ab.ev Gl prom s c with
  | bool t =>
   rw [hc] at hk
   have hev:∀ (g:Gh) (a:Act) (w:World),SR Gl prom nt g s a w->a.eval c = .bool t:=fun g a w hs=>by
    have:=hs.ev c
    rw [hc] at this
    exact this.bool
   cases t with
   | true =>
    obtain ⟨e,s1,hk,h1⟩:=exK_goes hm hK hnt hrec x (fun b hb=>hl b (by simp [loopsOf,hb])) hk
    exact ⟨e,s1,hk,fun ro n hro g a w hs Q hn=>wpIn_cond_true (hev g a w hs) (h1 ro n (fun h=>hro (by simp [hasRange,h])) g a w hs Q fun a1 w1 g1 hs1 hf1 hd1=>hn a1 w1 g1 hs1 hf1 fun h=>by simp only [hasRange,Bool.or_eq_false_iff] at h; exact hd1 h.1)⟩
   | false =>
    obtain ⟨e,s1,hk,h1⟩:=exK_goes hm hK hnt hrec y (fun b hb=>hl b (by simp [loopsOf,hb])) hk
    exact ⟨e,s1,hk,fun ro n hro g a w hs Q hn=>wpIn_cond_false (hev g a w hs) (h1 ro n (fun h=>hro (by simp [hasRange,h])) g a w hs Q fun a1 w1 g1 hs1 hf1 hd1=>hn a1 w1 g1 hs1 hf1 fun h=>by simp only [hasRange,Bool.or_eq_false_iff] at h; exact hd1 h.2)⟩
  | _=>rw [hc] at hk; cases hk
 | .block id b,hl,s,k,r,hk=>by
  simp only [exK] at hk
  obtain ⟨e,s1,hk,h1⟩:=exK_goes hm hK hnt hrec b (fun b' hb=>hl b' (by simp [loopsOf,hb])) hk
  cases e with
  | normal=>exact ⟨_,_,hk,fun ro n hro g a w hs Q hn=>wpIn_block (h1 ro n (fun h=>hro (by simp [hasRange,h])) g a w hs _ fun a1 w1 g1 hs1 hf1 hd1=>hn a1 w1 g1 hs1 hf1 fun h=>hd1 (by simpa only [hasRange] using h))⟩
  | ret=>exact ⟨_,_,hk,fun ro n hro g a w hs Q hn=>wpIn_block (h1 ro n (fun h=>hro (by simp [hasRange,h])) g a w hs _ fun a1 w1 g1 hs1 hf1 hd1=>hn a1 w1 g1 hs1 hf1 fun h=>hd1 (by simpa only [hasRange] using h))⟩
  | exit i =>
   dsimp only at hk
   rcases bif_some hk with ⟨hi,hk⟩ | ⟨hi,hk⟩
   ·refine ⟨_,_,hk,fun ro n hro g a w hs Q hn=>wpIn_block (h1 ro n (fun h=>hro (by simp [hasRange,h])) g a w hs _ fun a1 w1 g1 hs1 hf1 hd1=>?_)⟩
    have hi:i = id:=by simpa using hi
    simp only [Ex.out,Exit.inBlock,if_pos hi]
    exact hn a1 w1 g1 hs1 hf1 fun h=>hd1 (by simpa only [hasRange] using h)
   ·refine ⟨_,_,hk,fun ro n hro g a w hs Q hn=>wpIn_block (h1 ro n (fun h=>hro (by simp [hasRange,h])) g a w hs _ fun a1 w1 g1 hs1 hf1 hd1=>?_)⟩
    have hi:i ≠ id:=by simpa using hi
    simp only [Ex.out,Exit.inBlock,if_neg hi]
    exact hn a1 w1 g1 hs1 hf1 fun h=>hd1 (by simpa only [hasRange] using h)
 | .loop b,hl,s,k,r,hk=>by
  simp only [exK] at hk
  rcases bif_some hk with ⟨_,hk⟩ | ⟨hrg,hk⟩
  ·cases hk
  obtain ⟨⟨e,vs,h⟩,hk,hr⟩:=det_some (hrec.1 b (getL s (live (firstReg b) false)) s.h) (k:=fun p=>k p.1 (mkSt (live (firstReg b) true) p.2.1 p.2.2)) hk
  have hgo:=hrec.2 b _ _ e vs h (hl b (by simp [loopsOf])) (hr _ some)
  rw [show asLoop b = .loop b by simp [asLoop,hrg]] at hgo
  exact ⟨e,_,hk,fun ro n hro g a w hs Q hn=>hgo ro n hro g a w (hs.only _) Q hn⟩
 | .exit id,_,s,k,r,hk=>⟨_,_,hk,fun ro n _ g a w hs Q hn=>wpIn_exit (hn _ _ _ hs (FrC.refl _ _ _) fun _=>rfl)⟩
 | .ret,_,s,k,r,hk=>⟨_,_,hk,fun ro n _ g a w hs Q hn=>wpIn_ret (hn _ _ _ hs (FrC.refl _ _ _) fun _=>rfl)⟩
 | .scope b,hl,s,k,r,hk=>by
  simp only [exK] at hk
  obtain ⟨e,s1,hk,h1⟩:=exK_goes hm hK hnt hrec b (fun b' hb=>hl b' (by simpa [loopsOf] using hb)) hk
  refine ⟨e,s1,hk,fun ro n hro g a w hs Q hn=>wpIn_scope (h1 ro n (fun h=>hro (by simpa [hasRange] using h)) g a w hs _ fun a1 w1 g1 hs1 hf1 hd1=>?_)⟩
  have:=hn a1 w1 g1 hs1 hf1 fun h=>hd1 (by simpa only [hasRange] using h)
  cases e <;> exact this
 | .goto _,_,s,k,r,hk=>by simp only [exK] at hk; cases hk
 | .refuse _,_,s,k,r,hk=>by simp only [exK] at hk; cases hk
 | .rangeFunc f ps x y,hl,s,k,r,hk=>by
  simp only [exK] at hk
  obtain ⟨⟨e,vs,h⟩,hk,hr⟩:=det_some (hrec.1 (.rangeFunc f ps x y) (getL s (live (firstReg (.rangeFunc f ps x y)) false)) s.h) (k:=fun p=>k p.1 (mkSt (live (firstReg (.rangeFunc f ps x y)) true) p.2.1 p.2.2)) hk
  have hgo:=hrec.2 _ _ _ e vs h (hl (.rangeFunc f ps x y) (by simp [loopsOf])) (hr _ some)
  rw [show asLoop (.rangeFunc f ps x y) = .rangeFunc f ps x y by rfl] at hgo
  exact ⟨e,_,hk,fun ro n hro g a w hs Q hn=>hgo ro n hro g a w (hs.only _) Q hn⟩
theorem loop_rule (hm:P.follows .mixedOrders = true) (hK:OrcOk P Gl K) (hnt:nt<=1024) {live:Nat->Bool->List Nat} {b:Code} (I:Nat->List T->Heap->Prop) {e1:Ex} {vs1:List T} {h1:Heap}
 (round:∀ n vs h,I n vs h->∃ (rec:Rec) (S:Code->Prop),RecOk P Gl prom nt live S rec/\(∀ b' ∈ loopsOf b,S b')/\∃ e s',exK (R:=Ex × St) P K Gl prom nt live rec b (mkSt (live (firstReg b) false) vs h) (fun e s=>some (e,s)) = some (e,s') ∧
  ((e = .normal/\∃ m,m<n/\I m (getL s' (live (firstReg b) false)) s'.h) ∨ (e ≠ .normal/\e = e1/\getL s' (live (firstReg b) true) = vs1/\s'.h = h1))) :
 ∀ n vs h,I n vs h->CodeGoes P Gl prom nt (.loop b) (mkSt (live (firstReg b) false) vs h) e1 (mkSt (live (firstReg b) true) vs1 h1):=by
 intro n vs h hI ro nn hro g0 a0 w0 hs0 Q hn
 refine wpIn_loop_num (fun m a w=>∃ vs' h' g,I m vs' h'/\SR Gl prom nt g (mkSt (live (firstReg b) false) vs' h') a w/\FrC g0 h w0 g h' w/\(hasRange b = false->a.defers = a0.defers)) (fun m a w hJ=>?_) n a0 w0 ⟨vs,h,g0,hI,hs0,FrC.refl _ _ _,fun _=>rfl⟩
 obtain ⟨vs',h',g,hI,hs,hf,hdf⟩:=hJ
 obtain ⟨rec,S,hrec,hS,e,s',hk,hcase⟩:=round m vs' h' hI
 obtain ⟨e',s2,hk2,hgo⟩:=exK_goes hm hK hnt hrec b hS hk
 simp only [Option.some.injEq,Prod.mk.injEq] at hk2
 obtain ⟨rfl,rfl⟩:=hk2
 refine hgo ro nn (fun h=>hro (by simpa [hasRange] using h)) g a w hs _ fun a' w' g' hs' hf' hd'=>?_
 rcases hcase with ⟨rfl,j,hj,hI'⟩ | ⟨hne,rfl,rfl,rfl⟩
 ·exact ⟨j,hj,_,_,g',hI',hs'.only _,hf.trans hf',fun h=>(hd' h).trans (hdf h)⟩
 ·have:=hn a' w' g' (hs'.only _) (hf.trans hf') (fun h=>by simp only [hasRange] at h; exact (hd' h).trans (hdf h))
  cases e' with
  | normal=>exact absurd rfl hne
  | exit i=>exact this
  | ret=>exact this
theorem loopN_ok (hm:P.follows .mixedOrders = true) (hK:OrcOk P Gl K) (hnt:nt<=1024) {live:Nat->Bool->List Nat}:∀ n,RecOk P Gl prom nt live (fun _=>True) (loopN P K Gl prom nt live n):=by
 intro n
 induction n using Nat.strongRecOn with
 | _ n ih =>
  refine ⟨loopN_det P K Gl prom nt live n,fun b vs h e1 vs1 h1 _ hl=>?_⟩
  have hrg:isRange b = false:=by
   cases n with
   | zero=>cases hl
   | succ j =>
    simp only [loopN] at hl
    rcases bif_some hl with ⟨_,hl⟩ | ⟨h,_⟩
    ·cases hl
    ·exact h
  rw [show asLoop b = .loop b by simp [asLoop,hrg]]
  refine loop_rule hm hK hnt (fun m vs h=>m<=n/\loopN P K Gl prom nt live m _ b vs h (fun e vs h=>some (e,vs,h)) = some (e1,vs1,h1)) (fun m vs h hI=>?_) n vs h ⟨Nat.le_refl _,hl⟩
  obtain ⟨hmn,hl⟩:=hI
  cases m with
  | zero=>cases hl
  | succ j =>
   refine ⟨_,_,ih j (by omega),fun _ _=>trivial,?_⟩
   simp only [loopN,hrg,cond_false] at hl
   obtain ⟨⟨e,s'⟩,hk,hall⟩:=det_some (exK_det P K Gl prom nt live (loopN_det P K Gl prom nt live j) b (mkSt (live (firstReg b) false) vs h)) (k:=fun p=>match p.1 with
    | .normal=>loopN P K Gl prom nt live j _ b (getL p.2 (live (firstReg b) false)) p.2.h fun e vs h=>some (e,vs,h)
    | e=>some (e,getL p.2 (live (firstReg b) true),p.2.h)) hl
   refine ⟨e,s',hall _ some,?_⟩
   cases e with
   | normal=>exact .inl ⟨rfl,j,by omega,by omega,hk⟩
   | exit i =>
    simp only [Option.some.injEq,Prod.mk.injEq] at hk
    exact .inr ⟨by simp,hk.1,hk.2.1,hk.2.2⟩
   | ret =>
    simp only [Option.some.injEq,Prod.mk.injEq] at hk
    exact .inr ⟨by simp,hk.1,hk.2.1,hk.2.2⟩
end
def readRes (tmps:Array Value):ResultVar->Sem Value
 | .tmp t=>pure (tmps.getD t undef)
 | .cell a t=>do loadVar t (← asAddr (tmps.getD a undef))
theorem results_eq (fn:Func) (tmps:Array Value):results fn tmps = (do let vs ← fn.results.mapM (readRes tmps); pure (if h:vs.size = 1 then vs[0] else .tuple vs)):=by
 unfold results
 first | rfl | (congr 1; done) | (congr 1; congr 1; done) | (congr 1; congr 1; funext r; cases r <;> rfl)
section
variable {P:Program} {K:Orc} {Gl:Nat->Option (List T)} {prom:List Nat} {nt:Nat} {R:Type} {g:Gh} {s:St} {a:Act} {w:World}
theorem run_asAddr {ty:TypeId} {v u:Value} (h:(Instr.loadAt ty v).run P w = .ok u w):(do loadVar ty (← asAddr v):Sem Value).run P w = .ok u w:=by
 cases v with
 | pointer p =>
  cases p with
  | some ad=>simpa [Instr.loadAt,Instr.sureAddr,asAddr] using h
  | none=>simp [Instr.loadAt,Instr.sureAddr,stuck] at h
 | _=>simp [Instr.loadAt,Instr.sureAddr,stuck] at h
theorem resOf_sound (hs:SR Gl prom nt g s a w) {rv:ResultVar} {k:T->Option R} {r:R} (hk:resOf P Gl prom s rv k = some r) :
 ∃ x,k x = some r/\∃ v,(readRes a.tmps rv).run P w = .ok v w/\g.VR s.h w x v:=by
 cases rv with
 | tmp t =>
  refine ⟨_,hk,_,rfl,?_⟩
  have:=hs.ev (.tmp t)
  simpa [Act.eval] using this
 | cell c ty =>
  simp only [resOf] at hk
  cases hb:base prom s (.tmp c) with
  | some p =>
   obtain ⟨t,off⟩:=p
   rw [hb] at hk
   dsimp only at hk
   cases hc:s.at t with
   | reg cells =>
    rw [hc] at hk
    obtain ⟨hm,cb,arr,e,hreg,hev⟩:=base_sound hb hs hc
    obtain ⟨y,hk,u,hrun,hyr⟩:=ld_sound hk (hreg.cellsAt.drop off)
    rw [Nat.zero_add] at hrun
    have hev':a.tmps.getD c undef = .pointer (some ⟨cb,off,none⟩):=by simpa [Act.eval] using hev
    refine ⟨y,hk,u,?_,hyr⟩
    simp [readRes,hev',asAddr,hrun]
   | _=>rw [hc] at hk; cases hk
  | none =>
   rw [hb] at hk
   dsimp only at hk
   have hp:c ∉ prom:=by
    intro hp
    have:prom.contains c = true:=by simpa using hp
    simp only [base,this,cond_true] at hb
    cases hb
   obtain ⟨y,hk,u,hrun,hyr⟩:=semLoad_sound (k:=fun v _ _=>k v) hk hs.hr (hs.tmps c hp)
   exact ⟨y,hk,u,run_asAddr hrun,hyr⟩
theorem resAll_sound (hs:SR Gl prom nt g s a w):∀ (l:List ResultVar) {k:List T->Option R} {r:R},resAll P Gl prom s l k = some r →
 ∃ xs,k xs = some r/\∃ vs:List Value,(l.mapM (readRes a.tmps)).run P w = .ok vs w/\xs.length = vs.length/\∀ (i:Nat) (x:T),xs[i]? = some x->∃ v,vs[i]? = some v/\g.VR s.h w x v
 | [],k,r,hk=>⟨[],hk,[],rfl,rfl,fun i x hi=>by simp at hi⟩
 | rv :: l,k,r,hk=>by
  simp only [resAll] at hk
  obtain ⟨x,hk,v,h1,h2⟩:=resOf_sound hs hk
  obtain ⟨xs,hk,vs,h3,h4,h5⟩:=resAll_sound hs l hk
  refine ⟨x :: xs,hk,v :: vs,?_,by simp [h4],fun i y hi=>?_⟩
  ·simp [List.mapM_cons,h1,h3]
  ·cases i with
   | zero =>
    simp only [List.getElem?_cons_zero,Option.some.injEq] at hi
    subst hi
    exact ⟨v,rfl,h2⟩
   | succ i=>exact h5 i y (by simpa using hi)
theorem resK_sound (hs:SR Gl prom nt g s a w) {fn:Func} {k:T->Option R} {r:R} (hk:resK P Gl prom fn s k = some r) :
 ∃ x,k x = some r/\∃ v,(results fn a.tmps).run P w = .ok v w/\g.VR s.h w x v:=by
 unfold resK at hk
 obtain ⟨xs,hk,vs,h1,h2,h3⟩:=resAll_sound hs _ hk
 have hrun:(fn.results.mapM (readRes a.tmps)).run P w = .ok vs.toArray w:=by
  rw [Array.mapM_eq_mapM_toList]
  rw [map_eq_pure_bind]
  simp only [Sem.run_bind,h1,Result.andThen_ok,Sem.run_pure]
 rw [results_eq]
 have hres:(do let vs ← fn.results.mapM (readRes a.tmps); pure (if h:vs.size = 1 then vs[0] else .tuple vs):Sem Value).run P w = .ok (if h:vs.toArray.size = 1 then vs.toArray[0] else .tuple vs.toArray) w:=by
  simp only [Sem.run_bind,hrun,Result.andThen_ok,Sem.run_pure]
 have tup:vs.length ≠ 1->k (.tup xs) = some r->∃ x,k x = some r/\∃ v,(do let vs ← fn.results.mapM (readRes a.tmps); pure (if h:vs.size = 1 then vs[0] else .tuple vs):Sem Value).run P w = .ok v w/\g.VR s.h w x v:=by
  intro hl hk
  refine ⟨_,hk,_,hres,?_⟩
  rw [dif_neg (by simpa using hl)]
  exact VR.mk_tup (by simpa using h2) (fun i c hi=>by
   obtain ⟨v,q1,q2⟩:=h3 i c hi
   exact ⟨v,by simpa using q1,q2⟩)
 match xs,h2,h3,hk,tup with
 | [x],h2,h3,hk,_ =>
  obtain ⟨v,q1,q2⟩:=h3 0 x rfl
  refine ⟨x,hk,v,?_,q2⟩
  rw [hres]
  have hl:vs.length = 1:=by simpa using h2.symm
  rw [dif_pos (by simpa using hl)]
  congr 1
  rw [List.getElem?_eq_getElem (by omega)] at q1
  simpa using Option.some.inj q1
 | [],h2,h3,hk,tup=>exact tup (by simp at h2; omega) hk
 | x :: y :: l,h2,h3,hk,tup=>exact tup (by simp at h2; omega) hk
theorem enterEnv_get (t:Nat) (ht:t<1024):∀ (l:List T) (i:Nat) (e:Tr),i+l.length<=1024->Tr.get deep (enterEnv i l e) t = if i<=t/\t<i+l.length then l.getD (t - i) .undef else Tr.get deep e t
 | [],i,e,_=>by
  rw [if_neg (by simp)]
  rfl
 | x :: l,i,e,hl=>by
  simp only [List.length_cons] at hl
  simp only [enterEnv]
  rw [enterEnv_get t ht l (i+1) _ (by omega)]
  have hset:Tr.get deep (Tr.set deep e i x) t = if t = i then x else Tr.get deep e t:=Tr.get_set 10 e i t x (by omega) ht
  rw [hset]
  simp only [List.length_cons]
  by_cases h1:t = i
  ·subst h1
   rw [if_neg (by omega),if_pos rfl,if_pos (by omega),Nat.sub_self]
   rfl
  ·rw [if_neg h1]
   by_cases h2:i<=t/\t<i+(l.length+1)
   ·rw [if_pos (by omega),if_pos h2,show t - i = (t - (i+1))+1 by omega]
    rfl
   ·rw [if_neg (by omega),if_neg h2]
theorem enter_at (args:List T) (h:Heap) (hl:args.length<=1024) (t:Nat):(enter args h).at t = args.getD t .undef:=by
 rcases Nat.lt_or_ge t 1024 with ht | ht
 ·rw [at_lt ht]
  have:=enterEnv_get t ht args 0 .nil (by omega)
  simp only [Nat.zero_add,Nat.zero_le,true_and,Nat.sub_zero] at this
  rw [show (enter args h).env = enterEnv 0 args .nil from rfl,this]
  split
  ·rfl
  ·rename_i hx
   rw [List.getD_eq_getElem?_getD,List.getElem?_eq_none (by omega)]
   rfl
 ·rw [at_ge (by omega),List.getD_eq_getElem?_getD,List.getElem?_eq_none (by omega)]
  rfl
theorem SR.enter {args:List T} {h:Heap} {cargs:Array Value} (hlow:g.low<=w.heap.size) (hr:HR g h w) (hgl:GlobOk Gl w g.U) (ha:ArgsVR g h w args cargs) (hnt:nt<=1024) (hle:args.length<=nt) :
 SR Gl prom nt g (enter args h) { tmps:=cargs ++ Array.replicate (nt - cargs.size) undef,defers:=[] } w:=by
 have hsz:cargs.size = args.length:=ha.1.symm
 have hat:=enter_at args h (by omega)
 have hv:∀ t,g.VR h w ((Ab.enter args h).at t) ((cargs ++ Array.replicate (nt - cargs.size) undef).getD t undef):=by
  intro t
  rw [hat]
  rcases Nat.lt_or_ge t args.length with ht | ht
  ·obtain ⟨v,q1,q2⟩:=ha.2 t args[t] (by simp [ht])
   rw [List.getD_eq_getElem?_getD,List.getElem?_eq_getElem ht,Array.getD_eq_getD_getElem?,Array.getElem?_append_left (by omega),q1]
   exact q2
  ·rw [List.getD_eq_getElem?_getD,List.getElem?_eq_none ht]
   exact .imm _ _ (.undef _)
 refine ⟨hr,Marks.nil hlow,by simp [hsz]; omega,hnt,fun t _=>hv t,fun t _ cells hc=>?_,fun d t o hl=>(by cases hl),hgl,fun d t o hl=>(by cases hl)⟩
 have:=hv t
 rw [hc] at this
 exact absurd this VR.not_reg
variable {A:FuncId->Ann}
theorem resK_det (fn:Func) (s:St):Det fun R k=>resK (R:=R) P Gl prom fn s k:=by
 unfold resK
 refine det_bind (g:=fun vs R k=>match vs with | [v]=>k v | vs=>k (T.tup vs)) (resAll_det P Gl prom s _) fun vs=>?_
 match vs with
 | [v]=>exact det_ret v
 | []=>exact det_ret (T.tup [])
 | x :: y :: l=>exact det_ret (T.tup (x :: y :: l))
theorem resE_det (fn:Func) (e:Ex) (s:St):Det (A:=T × Heap) fun R k=>resE (R:=R) P Gl prom fn e s fun v h=>k (v,h):=by
 cases e with
 | exit i=>exact det_none
 | normal=>exact det_bind (g:=fun v _ k=>k (v,s.h)) (resK_det fn s) fun v=>det_ret (v,s.h)
 | ret=>exact det_bind (g:=fun v _ k=>k (v,s.h)) (resK_det fn s) fun v=>det_ret (v,s.h)
theorem bodyR_det {rec:Rec} (hrec:RecDet rec) (f:FuncId) (fn:Func) (c:Code) (args:List T) (h:Heap):Det (A:=T × Heap) fun _R k=>bodyR P Gl A K rec f fn c args h fun v h=>k (v,h):=by
 unfold bodyR
 refine det_if _ (det_bind2 (exK_det P K Gl (A f).prom fn.ntmps (A f).live hrec c (enter args h)) fun e s=>resE_det fn e s)
theorem runR_det {rec:Func->Rec} (hrec:∀ fn,RecDet (rec fn)) (f:FuncId) (args:List T) (h:Heap):Det (A:=T × Heap) fun _R k=>runR P Gl A K rec f args h fun v h=>k (v,h):=by
 unfold runR
 cases P.funcs[f]? with
 | none=>exact det_none
 | some fn =>
  dsimp only
  cases fn.body with
  | none=>exact det_none
  | some c=>exact bodyR_det (hrec fn) _ _ _ _ _
theorem runR_some {rec:Func->Rec} (hrec:∀ fn,RecDet (rec fn)) {f:FuncId} {args:List T} {h:Heap} {k:T->Heap->Option R} {r:R} (hk:runR P Gl A K rec f args h k = some r):∃ v h',k v h' = some r/\runR P Gl A K rec f args h (fun v h=>some (v,h)) = some (v,h'):=by
 obtain ⟨⟨v,h'⟩,h1,h2⟩:=det_some (runR_det (P:=P) (K:=K) (Gl:=Gl) (A:=A) hrec f args h) (k:=fun p=>k p.1 p.2) hk
 exact ⟨v,h',h1,h2 _ some⟩
theorem SR.world (hs:SR Gl prom nt g s a w) {w':World} {ds:List Deferred} (hsize:w.heap.size<=w'.heap.size) (hsame:∀ b,g.U b ∨ g.own b ≠ none->w'.heap[b]? = w.heap[b]?) (hrm:∀ b n,room w b n->room w' b n)
 (hds:Marks g w' ds):SR Gl prom nt g s { a with defers:=ds } w':=by
 have hk:Keep g s.h w g s.h w':=⟨fun b hb=>⟨hb,hsame b (.inl hb)⟩,fun i b hb=>⟨b,hb,Nat.le_refl _,fun _=>⟨rfl,rfl,rfl⟩⟩,hrm⟩
 refine ⟨⟨fun i b hb=>?_,fun b hb=>⟨Nat.lt_of_lt_of_le (hs.hr.u b hb).1 hsize,(hs.hr.u b hb).2⟩,fun b o ho=>⟨(hs.hr.own b o ho).1,Nat.lt_of_lt_of_le (hs.hr.own b o ho).2 hsize⟩,Nat.le_trans hs.hr.base hsize,fun b o ho=>by obtain ⟨arr,e,q⟩:=hs.hr.cells b o ho; exact ⟨arr,e,(hsame b (.inr (by rw [ho]; simp))).trans q⟩,hs.hr.lt⟩,
  hds,hs.size,hs.nt,fun t ht=>(hs.tmps t ht).keep hk,fun t ht cells hc=>?_,hs.loc,fun gl cells hg=>(hs.glob gl cells hg).keep hk.u,hs.used⟩
 ·obtain ⟨cb,sh,arr,e,hok⟩:=hs.hr.blk i b hb
  exact ⟨cb,sh,arr,e,hok.φ,hok.own,(hsame cb (.inr (by rw [hok.own]; simp))).trans hok.heap,hok.room,hok.len,fun j o c hj ho=>by
   obtain ⟨v,q1,q2,q3⟩:=hok.cell j o c hj ho
   exact ⟨v,q1,q2,q3.keep hk⟩,hok.flat⟩
 ·obtain ⟨cb,arr,e,hreg⟩:=hs.regs t ht cells hc
  exact ⟨cb,arr,e,hreg.keep hk rfl (hsame cb (.inr (by rw [hreg.own]; simp)))⟩
theorem HR.setLow {h:Heap} (hr:HR g h w) (n:Nat):HR { g with low:=n } h w :=
 ⟨fun i b hb=>by obtain ⟨cb,sh,arr,e,hok⟩:=hr.blk i b hb; exact ⟨cb,sh,arr,e,hok.φ,hok.own,hok.heap,hok.room,hok.len,hok.cell,hok.flat⟩,hr.u,hr.own,hr.base,hr.cells,hr.lt⟩
def turn:List Nat->World->World
 | [],w=>w
 | D :: l,w=>turn l (w.putObj D (.deferred none))
theorem turn_is:∀ (l:List Nat) (w:World),(turn l w).heap.size = w.heap.size/\(turn l w).os = w.os/\(turn l w).tape = w.tape/\OutOk (turn l w) w/\∀ b,b ∉ l->(turn l w).heap[b]? = w.heap[b]?
 | [],w=>⟨rfl,rfl,rfl,.refl _,fun _ _=>rfl⟩
 | D :: l,w=>by
  obtain ⟨h1,h2,h3,h4,h5⟩:=turn_is l (w.putObj D (.deferred none))
  refine ⟨by simp only [turn]; rw [h1,World.putObj_size],by simp only [turn]; rw [h2]; rfl,by simp only [turn]; rw [h3]; rfl,by simp only [turn]; exact h4.trans ⟨rfl,Nat.le_refl _⟩,fun b hb=>?_⟩
  simp only [List.mem_cons,not_or] at hb
  simp only [turn]
  rw [h5 b hb.2,World.putObj_heap_other hb.1]
theorem leaves_marks {F:Fence} {n:Nat} {fn:Func} {tmps:Array Value} {R:Ending->World->Prop}:∀ (l:List Nat) (w:World),l.Nodup->(∀ D ∈ l,w.heap[D]? = some (.deferred (some []))) →
 (∃ v,(results fn tmps).run P (turn l w) = .ok v (turn l w)/\R (.returned v) (turn l w))->LeavesInM F n P fn tmps R (l.map mark) .returning w
 | [],w,_,_,h=>by simpa [LeavesInM,LeavesIn,turn] using h
 | D :: l,w,hn,hD,h=>by
  rw [List.nodup_cons] at hn
  refine ⟨by simp,.inl ⟨D,_,rfl,run_takeDeferred (hD D (by simp)),leaves_marks l _ hn.2 (fun E hE=>?_) h⟩⟩
  rw [World.putObj_heap_other (by rintro rfl; exact hn.1 hE)]
  exact hD E (by simp [hE])
def RecsOk (P:Program) (Gl:Nat->Option (List T)) (A:FuncId->Ann) (f:FuncId) (rec:Func->Rec):Prop :=
 ∀ fn c,P.funcs[f]? = some fn->fn.body = some c->fn.ntmps<=1024->RecOk P Gl (A f).prom fn.ntmps (A f).live (fun b=>b ∈ loopsOf c) (rec fn)
theorem runR_calls (hm:P.follows .mixedOrders = true) (hK:OrcOk P Gl K) {f:FuncId} {rec:Func->Rec} (hrec:RecsOk P Gl A f rec) {args:List T} {h h':Heap} {r:T} (hk:runR P Gl A K rec f args h (fun v h=>some (v,h)) = some (r,h'))
 {cargs:Array Value} (hr:HR g h w) (hno:NoRegs g) (hgl:GlobOk Gl w g.U) (ha:ArgsVR g h w args cargs) :
 Calls P f cargs w fun e w'=>∃ v,e = .returned v/\Res g h w r h' v w':=by
 unfold runR at hk
 cases hf:P.funcs[f]? with
 | none=>rw [hf] at hk; cases hk
 | some fn =>
  rw [hf] at hk
  dsimp only at hk
  cases hb:fn.body with
  | none=>rw [hb] at hk; cases hk
  | some c =>
   rw [hb] at hk
   dsimp only [bodyR] at hk
   obtain ⟨hc,hk⟩:=bif_none hk
   simp only [Bool.and_eq_true] at hc
   have hnt:=ble_le hc.1
   have hle:=ble_le hc.2
   obtain ⟨e,s',hk,hgo⟩:=exK_goes hm hK hnt (hrec fn c hf hb hnt) c (fun _ hb=>hb) hk
   have hs0:=SR.enter (Gl:=Gl) (prom:=(A f).prom) (Nat.le_refl _) (hr.setLow w.heap.size) hgl ha hnt hle
   rw [← callsIn_wide (n:=0)]
   refine callsIn_of_wp_marks hf hb trivial (hgo none 0 (fun _=>rfl) _ _ w hs0 _ fun a' w' g' hs' hf' _=>?_) rfl
   have fin:resK P Gl (A f).prom fn s' (fun v=>some (v,s'.h)) = some (r,h')->LeavesInM Fence.wide 0 P fn a'.tmps (fun e w'=>∃ v,e = .returned v/\Res g h w r h' v w') a'.defers .returning w':=by
    intro hk
    obtain ⟨hlo,l,hl1,hl2,hl3⟩:=hs'.defers
    obtain ⟨t1,t2,t3,t4,t5⟩:=turn_is l w'
    have hlow:g'.low = w.heap.size:=hf'.low
    have hoff:∀ b,g'.U b ∨ g'.own b ≠ none->b ∉ l:=by
     rintro b hb hbl
     obtain ⟨q1,q2,q3,q4⟩:=hl3 b hbl
     rcases hb with hb | hb
     ·exact q3 hb
     ·exact hb q2
    have hrm:∀ b n,room w' b n->room (turn l w') b n:=by
     rintro b n ⟨arr,e,h1,h2⟩
     refine ⟨arr,e,?_,h2⟩
     rw [t5 b fun hbl=>?_]
     ·exact h1
     ·have:=(hl3 b hbl).2.2.2
      rw [h1] at this; cases this
    have hs2:=hs'.world (w':=turn l w') (ds:=[]) (by omega) (fun b hb=>t5 b (hoff b hb)) hrm (Marks.nil (by omega))
    obtain ⟨x,hk,v,h1,h2⟩:=resK_sound hs2 hk
    simp only [Option.some.injEq,Prod.mk.injEq] at hk
    obtain ⟨rfl,rfl⟩:=hk
    rw [hl1]
    refine leaves_marks l w' hl2 (fun D hD=>(hl3 D hD).2.2.2) ⟨v,h1,v,rfl,{ g' with own:=fun b=>match g'.own b with | some (.inl i)=>some (.inl i) | _=>none,low:=g.low },(hs2.hr.strip).setLow g.low,h2,?_,?_⟩
    ·exact hf'.keep.trans ⟨fun b hb=>⟨hb,t5 b (hoff b (.inl hb))⟩,fun i b hb=>⟨b,hb,Nat.le_refl _,fun _=>⟨rfl,rfl,rfl⟩⟩,hrm⟩
    ·refine ⟨by have:=hf'.size; omega,fun b hb=>?_,t2.trans hf'.os,t3.trans hf'.tape,t4.trans hf'.output,fun b hb hn=>?_,?_,hf'.u,fun b hb t=>by dsimp only; split <;> simp⟩
     ·dsimp only
      rw [hf'.own b hb]
      dsimp only
      cases ho:g.own b with
      | none=>rfl
      | some q =>
       cases q with
       | inl i=>rfl
       | inr t=>exact absurd ho (hno b t)
     ·rw [t5 b fun hbl=>by have:=(hl3 b hbl).1; omega]
      refine hf'.same b hb ?_
      dsimp only
      cases ho:g.own b with
      | none=>rfl
      | some q =>
       cases q with
       | inl i=>exact absurd ho (hn i)
       | inr t=>exact absurd ho (hno b t)
     ·have:=hf'.base
      simp only [Gh.bs,this]
   cases e with
   | normal=>exact fin hk
   | ret=>exact fin hk
   | exit i=>cases hk
theorem runR_val (hm:P.follows .mixedOrders = true) (hK:OrcOk P Gl K) {f:FuncId} {rec:Func->Rec} (hdet:∀ fn,RecDet (rec fn)) (hrec:RecsOk P Gl A f rec) {args:List T} {r:T} (hk:runR P Gl A K rec f args [] (fun v h=>some (give h v)) = some r)
 {cargs:Array Value} {U:Nat->Prop} (hU:∀ b,U b->b<w.heap.size) (hgl:GlobOk Gl w U) (ha:ArgsVI w U args cargs) :
 Calls P f cargs w fun e w'=>∃ v,e = .returned v/\RV w U r v w':=by
 obtain ⟨rv,h',hgive,hk2⟩:=runR_some hdet hk
 obtain rfl:=Option.some.inj hgive
 let g0:Gh:={ U:=U,φ:=fun _=>none,own:=fun _=>none,base:=w.heap.size,low:=0 }
 have hr:HR g0 [] w:=⟨fun i b hb=>by simp at hb,fun b hb=>⟨hU b hb,rfl⟩,fun b o ho=>(by cases ho),Nat.le_refl _,fun b o ho=>(by cases ho),fun b i ho=>(by cases ho)⟩
 refine (runR_calls (g:=g0) hm hK hrec hk2 hr (fun b t=>by simp [g0]) hgl ⟨ha.1,fun i x hi=>?_⟩).mono fun e w' ⟨v,he,hres⟩=>⟨v,he,?_⟩
 ·obtain ⟨v,q1,q2⟩:=ha.2 i x hi
  exact ⟨v,q1,.imm _ _ q2⟩
 ·obtain ⟨g',hr',hx,hkp,hf⟩:=hres
  have hbase:g'.base = w.heap.size:=hf.base
  obtain ⟨X,q1,q2,q3⟩:=give_sound hr' (B:=w.heap.size) (by omega) hx
  refine ⟨⟨⟨hf.os,hf.tape,hf.output.1,hf.size,fun b hb=>hf.same b hb (fun i=>by simp [g0])⟩,hf.output.2⟩,Given g' w' w.heap.size (tops rv),X,fun b hb=>.inl (hkp.u b hb).1,fun b hb=>?_,q2,q3,q1⟩
  rcases hb with hb | hb
  ·exact ⟨hf.u b hb,(hr'.u b hb).1⟩
  ·exact ⟨.inr hb.1,hb.2.1⟩
def namesOk (P:Program):Bool:=P.funcs.all fun fn=>fn.body.isNone || !(fn.name=="runtime.NumGoroutine")
theorem runR_enters (hn:namesOk P = true) {rec:Func->Rec} {f:FuncId} {args:List T} {h:Heap} {k:T->Heap->Option R} {r:R} (hk:runR P Gl A K rec f args h k = some r):∃ fn,P.funcs[f]? = some fn/\fn.body.isNone = false/\(fn.name=="runtime.NumGoroutine") = false:=by
 unfold runR at hk
 cases hf:P.funcs[f]? with
 | none=>rw [hf] at hk; cases hk
 | some fn =>
  rw [hf] at hk
  dsimp only at hk
  cases hb:fn.body with
  | none=>rw [hb] at hk; cases hk
  | some c =>
   refine ⟨fn,rfl,by rw [hb]; rfl,?_⟩
   have:=Array.all_eq_true'.1 hn fn (Array.mem_of_getElem? hf)
   rw [hb] at this
   simpa using this
theorem recN_det (P:Program) (Gl:Nat->Option (List T)) (A:FuncId->Ann) (K:Orc) (m:Nat) (f:FuncId):∀ fn,RecDet (recN P Gl A K m f fn):=fun _fn=>loopN_det P K Gl _ _ _ m
theorem recN_ok (hm:P.follows .mixedOrders = true) (hK:OrcOk P Gl K) (m:Nat) (f:FuncId):RecsOk P Gl A f (recN P Gl A K m f):=fun _ _ _ _ hnt=>(loopN_ok hm hK hnt m).mono
def noneO:Orc:=⟨fun _=>false,fun _ _ _ _=>none,fun _ _ _ _ _=>none,fun _ _=>det_none,fun _ _ _=>det_none⟩
theorem none_ok:OrcOk P Gl noneO :=
 ⟨fun f hx=>(by rcases hx with ⟨args,r,hx⟩ | ⟨args,h,r,hx⟩ <;> cases hx),fun f args r hx=>(by cases hx),fun f args h r h' hx=>(by cases hx)⟩
inductive Tree where
 | none
 | ret (v:T)
 | ite (c:Bool) (x y:Tree)
def Tree.run {R:Type}:Tree->(T->Option R)->Option R
 | .none,_=>Option.none
 | .ret v,k=>k v
 | .ite c x y,k=>bif c then x.run k else y.run k
theorem Tree.det:∀ t:Tree,Det fun R k=>t.run (R:=R) k
 | .none=>det_none
 | .ret v=>det_ret v
 | .ite c x y=>det_bif c x.det y.det
def Orc.add (K:Orc) (f:FuncId) (spec:List T->Tree):Orc where
 byRef e:=bif e==f then false else K.byRef e
 ref:=K.ref
 val e args R k:=bif e==f then (spec args).run k else K.val e args R k
 valDet e args:=det_bif _ (spec args).det (K.valDet e args)
 refDet:=K.refDet
end
end Go.Ab

