/- A part of the proof: nothing is assumed. -/
import Derived.Test.YtlaganadekpcjaaP3
import Derived.Shelf.SlSortCmp.Kit1
set_option linter.all false
namespace Go.Ab
open Go.Proofs Go.Shelf Go.RowKit Go.Sort
theorem world_grow {W w':World} (hb:RowKit.Below W.heap.size W w') (hd:W.drawn<=w'.drawn):∃ q os,w' = grow (W.drewN q) os:=by
 refine ⟨w'.drawn - W.drawn,w'.heap.extract W.heap.size w'.heap.size,?_⟩
 have hh:w'.heap = W.heap ++ w'.heap.extract W.heap.size w'.heap.size:=by
  have hs:=hb.size
  refine Array.ext (by simp; omega) fun i h1 h2=>?_
  by_cases q:i<W.heap.size
  ·have:=hb.block i q
   rw [Array.getElem?_eq_getElem h1,Array.getElem?_eq_getElem q] at this
   rw [Array.getElem_append_left q]
   exact Option.some.inj this
  ·rw [Array.getElem_append_right (by omega)]
   simp only [Array.getElem_extract]
   congr 1
   omega
 have e:W.drawn+(w'.drawn - W.drawn) = w'.drawn:=by omega
 have h1:=hb.os
 have h2:=hb.tape
 have h3:=hb.output
 cases w' with
 | mk heap tape drawn os output =>
  cases W with
  | mk heap0 tape0 drawn0 os0 output0 =>
   simp only [grow,World.drewN] at *
   subst h1; subst h2; subst h3
   rw [← hh,e]
theorem sortWorld_other {α:Type} [Inhabited α] (enc:α->Value) (w:World) (blk off m:Nat) (dk:Array α) (os:Array Obj) {b:Nat} (hne:b ≠ blk) (hlt:b<w.heap.size):(sortWorld enc w blk off m dk os).heap[b]? = w.heap[b]?:=by
 have hsz:((Sort.ahead w m).heap.modify blk (onCells (putCells enc off dk))).size = w.heap.size:=by simp [Sort.ahead]
 show ((Sort.ahead w m).heap.modify blk (onCells (putCells enc off dk)) ++ os)[b]? = _
 rw [Array.getElem?_append_left (by rw [hsz]; exact hlt),Array.getElem?_modify,if_neg (fun e=>hne e.symm)]
 rfl
theorem sortWorld_size {α:Type} [Inhabited α] (enc:α->Value) (w:World) (blk off m:Nat) (dk:Array α) (os:Array Obj):w.heap.size<=(sortWorld enc w blk off m dk os).heap.size:=by
 show w.heap.size<=((Sort.ahead w m).heap.modify blk (onCells (putCells enc off dk)) ++ os).size
 simp [Sort.ahead]
def ButRow (g:Gh) (h:Heap) (i:Nat) (c:Nat):Prop:=g.U c ∨ ∃ j b sh,h[j]? = some b/\j ≠ i/\g.φ j = some (c,sh)
section
variable {P:Program} {Gl:Nat->Option (List T)} {g:Gh} {h:Heap} {w:World}
theorem butRow_reads {i:Nat}:Reads g h w [i] (ButRow g h i) :=
 ⟨fun _ hb=>.inl hb,fun j b cb sh hb hn hφ=>.inr ⟨j,b,sh,hb,by simpa using hn,hφ⟩⟩
theorem butRow_off (hr:HR g h w) {i:Nat} {b:Blk} {cb sh:Nat} {arr:Array Value} {e:TypeId} (hok:BlkOk w g h i b cb sh arr e) {c:Nat} (hc:ButRow g h i c):c ≠ cb/\c<w.heap.size:=by
 rcases hc with hc | ⟨j,b2,sh2,hj,hne,hφ⟩
 ·have:=hr.u c hc
  exact ⟨fun q=>(by rw [q,hok.own] at this; exact absurd this.2 (by simp)),this.1⟩
 ·obtain ⟨cb2,sh3,arr2,e2,hok2⟩:=hr.blk j b2 hj
  rw [hok2.φ] at hφ
  obtain ⟨rfl,rfl⟩:=Prod.mk.inj (Option.some.inj hφ)
  have ho:=hok2.own
  exact ⟨fun q=>by
   rw [q,hok.own] at ho
   have:i = j:=by simpa using ho
   exact hne this.symm,(hr.own _ _ ho).2⟩
theorem sort_cmp {n:Nat} [Inhabited (Fin n)] (hr:HR g h w) (hgl:GlobOk Gl w g.U) {i:Nat} {b:Blk} {cb sh:Nat} {arr:Array Value} {e:TypeId} (hok:BlkOk w g h i b cb sh arr e) {f:FuncId} {caps:List T} {ccaps:Array Value}
 (hc:ArgsVR g h w caps ccaps) {cf:Fin n->Fin n->Int} (ht:∀ x y:Fin n,ToldOk P Gl f ([.int .i64 (x.val:Int),.int .i64 (y.val:Int)] ++ caps.map (resolve 4 [i] h)) (.int .i64 (cf x y))) (off size:Nat) :
 CmpLays1 P f ccaps (fun x:Fin n=>Value.int .i64 (x.val:Int)) cf cb off size w:=by
 intro m os dk _ x y
 have hk:KeepU w (ButRow g h i) (sortWorld (fun x:Fin n=>Value.int .i64 (x.val:Int)) w cb off m dk os) (ButRow g h i):=fun c hcU=>by
  have q:=butRow_off hr hok hcU
  exact ⟨hcU,sortWorld_other _ w cb off m dk os q.1 q.2⟩
 have hsz:=sortWorld_size (fun x:Fin n=>Value.int .i64 (x.val:Int)) w cb off m dk os
 generalize sortWorld (fun x:Fin n=>Value.int .i64 (x.val:Int)) w cb off m dk os = W at *
 refine ((ht x y).calls W (ButRow g h i) _ (fun c hcU=>Nat.lt_of_lt_of_le (butRow_off hr hok hcU).2 hsz) (fun gl cells hg=>((hgl gl cells hg).keep (fun c hcU=>⟨.inl hcU,rfl⟩)).keep hk) ⟨?_,fun j t hj=>?_⟩).mono fun e' w' ⟨v,he,hrv⟩=>?_
 ·have:=hc.1
  simp; omega
 ·rcases j with _ | _ | j
  ·simp only [List.cons_append,List.getElem?_cons_zero,Option.some.injEq] at hj
   subst hj
   exact ⟨_,by rw [Array.getElem?_append_left (by simp)]; rfl,.int _ _⟩
  ·simp only [List.cons_append,List.getElem?_cons_succ,List.getElem?_cons_zero,Option.some.injEq] at hj
   subst hj
   exact ⟨_,by rw [Array.getElem?_append_left (by simp)]; rfl,.int _ _⟩
  ·simp only [List.cons_append,List.nil_append,List.getElem?_cons_succ] at hj
   obtain ⟨t0,ht0,rfl⟩:=map_get hj
   obtain ⟨v,q1,q2⟩:=hc.2 j t0 ht0
   refine ⟨v,?_,(resolve_vi hr butRow_reads 4 t0 v q2).keep hk⟩
   rw [Array.getElem?_append_right (by simp)]
   simpa using q1
 ·obtain ⟨⟨hb,hd⟩,U',X,_,_,_,_,hrt⟩:=hrv
  obtain ⟨q,os',hw⟩:=world_grow hb hd
  refine ⟨?_,q,os',hw⟩
  rw [he]
  congr 1
  have hrt:RT0 w' _ U' (.int .i64 (cf x y)) v X:=hrt
  cases hrt with
  | vi _ _ hv=>cases hv; rfl
end
open Go.Proofs Go.Shelf Go.RowKit Go.Sort
def encF {n:Nat}:Fin n->Value:=fun x=>.int .i64 (x.val:Int)
def SortsAt (P:Program) (f:FuncId) {α:Type} [Inhabited α] (enc:α->Value) (cf:α->α->Int):Prop :=
 ∀ (g:Nat) (cb:Array Value) (blk off cap:Nat) (d:Array α) (w:World),(∀ args w,(callFunc g args).run P w = .ok (.enter g args) w)->CmpLays1 P g cb enc cf blk off d.size w->Holds enc w blk off d->blk<w.heap.size->d.size<4611686018427387904 →
  Calls P f #[.slice (some ⟨blk,off,none⟩) d.size cap,.func (.func g) #[] cb] w fun e w'=>e = .returned (.tuple #[])/\∃ k os,w' = sortWorld enc w blk off k (d.toList.mergeSort fun x y=>!(ltOf cf) y x).toArray os
noncomputable def srt {n:Nat} [Inhabited (Fin n)] (cf:Fin n->Fin n->Int) (x:Nat->Fin n) (m:Nat):Array (Fin n):=(((List.range m).map x).mergeSort fun a b=>!(ltOf cf) b a).toArray
theorem srt_size {n:Nat} [Inhabited (Fin n)] (cf:Fin n->Fin n->Int) (x:Nat->Fin n) (m:Nat):(srt cf x m).size = m:=by simp [srt]
section
variable {P:Program} {Gl:Nat->Option (List T)}
theorem row_holds {n m:Nat} [Inhabited (Fin n)] {g:Gh} {h:Heap} {w:World} {i:Nat} {b:Blk} {cb sh:Nat} {arr:Array Value} {e:TypeId} (hok:BlkOk w g h i b cb sh arr e) (hsz:b.sz = 1) (hn:m<=b.n) {x:Nat->Fin n}
 (hget:∀ j,j<m->b.get j = [.int .i64 ((x j).val:Int)]):Holds (encF (n:=n)) w cb sh ((List.range m).map x).toArray:=by
 intro j hj
 have hj':j<m:=by simpa using hj
 obtain ⟨v,q1,q2,q3⟩:=hok.cell j 0 (.int .i64 ((x j).val:Int)) (by omega) (by rw [hget j hj']; rfl)
 rw [hsz,Nat.mul_one,Nat.add_zero] at q1
 have hv:v = .int .i64 ((x j).val:Int):=by
  cases q3 with
  | imm _ _ hv=>cases hv; rfl
 refine ⟨?_,?_⟩
 ·simp only [World.cell?,hok.heap]
  rw [if_neg (by simp),q1,hv]
  simp [encF,hj']
 ·simp [World.frozen?,hok.heap]
end
open Go.Proofs Go.Shelf Go.RowKit Go.Sort
section
variable {P:Program} {Gl:Nat->Option (List T)}
theorem sort_ref {n m:Nat} [Inhabited (Fin n)] {f fc:FuncId} {cf:Fin n->Fin n->Int} (hS:SortsAt P f (encF (n:=n)) cf) (hf:∃ fn,P.funcs[f]? = some fn/\fn.body.isNone = false/\(fn.name=="runtime.NumGoroutine") = false)
 (hfc:∀ args w,(callFunc fc args).run P w = .ok (.enter fc args) w) {h:Heap} {i:Nat} {b:Blk} (hb:h[i]? = some b) (hsz:b.sz = 1) (hn:b.n = m) (h0:0<m) (hm:m<4611686018427387904) {x:Nat->Fin n}
 (hget:∀ j,j<m->b.get j = [.int .i64 ((x j).val:Int)]) {caps:List T} (ht:∀ x y:Fin n,ToldOk P Gl fc ([.int .i64 (x.val:Int),.int .i64 (y.val:Int)] ++ caps.map (resolve 4 [i] h)) (.int .i64 (cf x y))) :
 ToldRef P Gl f [.own i b.ver 0 m (some m),.fn fc caps] h (.tup []) (h.set i { b with get:=fun j=>[.int .i64 (((srt cf x m)[j]!).val:Int)],flat:=true }):=by
 refine ⟨hf,fun g w cargs hr hno hgl ha=>?_⟩
 obtain ⟨v0,a1,a2⟩:=ha.2 0 _ rfl
 obtain ⟨v1,a3,a4⟩:=ha.2 1 _ rfl
 have hc2:cargs = #[v0,v1]:=by
  have hs:cargs.size = 2:=ha.1.symm
  refine Array.ext (by simp [hs]) fun k h1 h2=>?_
  match k,h1 with
  | 0,_=>simpa [Array.getElem?_eq_getElem (show 0<cargs.size by omega)] using a1
  | 1,_=>simpa [Array.getElem?_eq_getElem (show 1<cargs.size by omega)] using a3
  | k+2,h1=>omega
 subst hc2
 obtain ⟨cb,sh,arr,e,hok⟩:=hr.blk i b hb
 obtain ⟨cb',sh',cc,ad,e1,rfl,es,e2,e3,e4,e5,e6,e7⟩:=own_slice hb rfl a2
 rw [hok.φ] at e1
 obtain ⟨rfl,rfl⟩:=Prod.mk.inj (Option.some.inj e1)
 have hcc:=(e4 m rfl).1
 subst hcc
 obtain rfl:=e2 h0
 obtain ⟨cs,rfl,hl,hcs⟩:=a4.fn_inv
 have hH:=row_holds hok hsz (by omega) hget
 have hlt:cb<w.heap.size:=lt_of_heap hok.heap
 have hds:((List.range cc).map x).toArray.size = cc:=by simp
 have hcmp:=sort_cmp (n:=n) hr hgl hok (f:=fc) (caps:=caps) (ccaps:=cs) ⟨hl,hcs⟩ ht sh ((List.range cc).map x).toArray.size
 have hcall:=hS fc cs cb sh cc ((List.range cc).map x).toArray w hfc hcmp hH hlt (by rw [hds]; exact hm)
 rw [hds] at hcall
 have e0:sh+0 * b.sz = sh:=by omega
 rw [e0]
 refine hcall.mono fun e' w' ⟨he,k,os,hw⟩=>?_
 have hw:w' = sortWorld (encF (n:=n)) w cb sh k (srt cf x cc) os:=by rw [hw]; rfl
 have hsz2:=srt_size cf x cc
 generalize srt cf x cc = d at hw hsz2 ⊢
 have hsize:w.heap.size<=w'.heap.size:=by rw [hw]; exact sortWorld_size _ _ _ _ _ _ _
 have hother:∀ c,c<w.heap.size->c ≠ cb->w'.heap[c]? = w.heap[c]?:=fun c hc hne=>by rw [hw]; exact sortWorld_other _ _ _ _ _ _ _ hne hc
 have hcb:w'.heap[cb]? = some (.cells (putCells (encF (n:=n)) sh d arr) e (0,0)):=by
  rw [hw]
  show ((Sort.ahead w k).heap.modify cb (onCells (putCells encF sh d)) ++ os)[cb]? = _
  rw [Array.getElem?_append_left (by simpa [Sort.ahead] using hlt),Array.getElem?_modify,if_pos rfl]
  show Option.map _ (w.heap[cb]?) = _
  rw [hok.heap]
  rfl
 have hps:(putCells (encF (n:=n)) sh d arr).size = arr.size:=by simp [putCells]
 have hroom:=hok.room
 have hcell:∀ (j o:Nat) (c:T),j<b.n->([T.int .i64 ((d[j]!).val:Int)])[o]? = some c->∃ v,(putCells (encF (n:=n)) sh d arr)[sh+j * b.sz+o]? = some v/\v.oneCell' = true/\g.VR h w c v:=by
  intro j o c hj hc
  cases o with
  | zero =>
   simp only [List.getElem?_cons_zero,Option.some.injEq] at hc
   subst hc
   refine ⟨encF d[j]!,?_,rfl,.imm _ _ (.int _ _)⟩
   have hj2:j<cc:=by have:j<b.n:=hj; omega
   have hlt2:sh+j<arr.size:=by have h2:=hok.room; rw [hsz,hn] at h2; omega
   show (putCells encF sh d arr)[sh+j * b.sz+0]? = _
   rw [hsz,Nat.mul_one,Nat.add_zero,Array.getElem?_eq_getElem (by rw [hps]; exact hlt2)]
   simp only [putCells,Array.getElem_mapIdx]
   rw [if_pos ⟨by omega,by omega⟩,show sh+j - sh = j by omega]
  | succ o=>simp at hc
 obtain ⟨g',q1,q2,q3,q4,q5,q6⟩:=hr.change hb (w':=w') (cb:=cb) (sh:=sh) (arr:=putCells (encF (n:=n)) sh d arr) (e:=e) (b':={ b with get:=fun j=>[.int .i64 ((d[j]!).val:Int)],flat:=true }) hsize hother hcb (.inl hok.own)
  (fun l hl=>by rw [hps]; exact room_is hok.heap hl) (Nat.le_refl _) (fun _=>⟨rfl,rfl,hok.φ⟩) (by rw [hps]; exact hroom) (fun j hj=>by simp [hsz])
  hcell (fun _ j hj c hc=>by simp at hc; subst hc; rfl) (by rw [hw]; rfl) (by rw [hw]; rfl) (by rw [hw]; exact ⟨rfl,Nat.le_add_right _ _⟩)
 exact ⟨.tuple #[],he,g',q4,.imm _ _ (.tup [] #[] (fun _=>undef) rfl (fun i c hi=>by simp at hi) (fun i c hi=>by simp at hi)),q5,q6⟩
end
open Go.Proofs Go.Shelf Go.RowKit Go.Sort
section
variable {P:Program} {Gl:Nat->Option (List T)} {g:Gh} {h:Heap} {w:World}
theorem row_res {α:Type} [Inhabited α] {enc:α->Value} (hr:HR g h w) {i:Nat} {b:Blk} (hb:h[i]? = some b) {cb sh:Nat} {arr:Array Value} {e:TypeId} (hok:BlkOk w g h i b cb sh arr e) (hsz:b.sz = 1) {m:Nat} (hm:m<=b.n) (y:Nat->Int) (d:Array α) (hd:d.size = m)
 (henc:∀ j,j<m->enc d[j]! = .int .i64 (y j)) (k:Nat) (os:Array Obj) :
 Res g h w (.tup []) (h.set i { b with get:=fun j=>bif Nat.blt j m then [.int .i64 (y j)] else b.get j }) (.tuple #[]) (grow (putRow enc (Sort.ahead w k) cb sh d) os):=by
 have hlt:cb<w.heap.size:=lt_of_heap hok.heap
 have hsize:w.heap.size<=(grow (putRow enc (Sort.ahead w k) cb sh d) os).heap.size:=by
  show _<=((Sort.ahead w k).heap.modify cb (onCells (putCells enc sh d)) ++ os).size
  simp [Sort.ahead]
 have hother:∀ c,c<w.heap.size->c ≠ cb->(grow (putRow enc (Sort.ahead w k) cb sh d) os).heap[c]? = w.heap[c]?:=fun c hc hne=>by
  show ((Sort.ahead w k).heap.modify cb (onCells (putCells enc sh d)) ++ os)[c]? = _
  rw [Array.getElem?_append_left (by simpa [Sort.ahead] using hc),Array.getElem?_modify,if_neg (fun q=>hne q.symm)]
  rfl
 have hcb:(grow (putRow enc (Sort.ahead w k) cb sh d) os).heap[cb]? = some (.cells (putCells enc sh d arr) e (0,0)):=by
  show ((Sort.ahead w k).heap.modify cb (onCells (putCells enc sh d)) ++ os)[cb]? = _
  rw [Array.getElem?_append_left (by simpa [Sort.ahead] using hlt),Array.getElem?_modify,if_pos rfl]
  show Option.map _ (w.heap[cb]?) = _
  rw [hok.heap]
  rfl
 have hps:(putCells enc sh d arr).size = arr.size:=by simp [putCells]
 have hroom:=hok.room
 rw [hsz] at hroom
 have hcell:∀ (j o:Nat) (c:T),j<b.n->(bif Nat.blt j m then [T.int .i64 (y j)] else b.get j)[o]? = some c->∃ v,(putCells enc sh d arr)[sh+j * b.sz+o]? = some v/\v.oneCell' = true/\g.VR h w c v:=by
  intro j o c hj hc
  by_cases q:j<m
  ·rw [show Nat.blt j m = true from Nat.ble_eq_true_of_le q,cond_true] at hc
   cases o with
   | zero =>
    simp only [List.getElem?_cons_zero,Option.some.injEq] at hc
    subst hc
    refine ⟨.int .i64 (y j),?_,rfl,.imm _ _ (.int _ _)⟩
    have hlt2:sh+j<arr.size:=by omega
    rw [hsz,Nat.mul_one,Nat.add_zero,Array.getElem?_eq_getElem (by rw [hps]; exact hlt2)]
    simp only [putCells,Array.getElem_mapIdx]
    rw [if_pos ⟨by omega,by omega⟩,show sh+j - sh = j by omega,henc j q]
   | succ o=>simp at hc
  ·have hf:Nat.blt j m = false:=by rw [← Bool.not_eq_true]; intro hh; exact q (blt_lt hh)
   rw [hf,cond_false] at hc
   obtain ⟨v,h1,h2,h3⟩:=hok.cell j o c hj hc
   refine ⟨v,?_,h2,h3⟩
   have ho:o = 0:=by
    have:=lt_of_get hc
    rw [hok.len j hj,hsz] at this
    omega
   subst ho
   rw [hsz,Nat.mul_one,Nat.add_zero] at h1 ⊢
   have hlt2:sh+j<arr.size:=by omega
   rw [Array.getElem?_eq_getElem (by rw [hps]; exact hlt2)]
   simp only [putCells,Array.getElem_mapIdx]
   rw [if_neg (by omega)]
   rw [Array.getElem?_eq_getElem hlt2] at h1
   exact h1
 obtain ⟨g',q1,q2,q3,q4,q5,q6⟩:=hr.change hb (w':=grow (putRow enc (Sort.ahead w k) cb sh d) os) (cb:=cb) (sh:=sh) (arr:=putCells enc sh d arr) (e:=e) (b':={ b with get:=fun j=>bif Nat.blt j m then [.int .i64 (y j)] else b.get j }) hsize hother hcb (.inl hok.own)
  (fun l hl=>by rw [hps]; exact room_is hok.heap hl) (Nat.le_refl _) (fun _=>⟨rfl,rfl,hok.φ⟩) (by rw [hps]; exact hok.room) (fun j hj=>by
   by_cases q:j<m
   ·simp only [show Nat.blt j m = true from Nat.ble_eq_true_of_le q,cond_true]; simp [hsz]
   ·have hf:Nat.blt j m = false:=by rw [← Bool.not_eq_true]; intro hh; exact q (blt_lt hh)
    simp only [hf,cond_false]; exact hok.len j hj)
  hcell (fun hfl j hj c hc=>by
   by_cases q:j<m
   ·simp only [show Nat.blt j m = true from Nat.ble_eq_true_of_le q,cond_true] at hc
    simp at hc; subst hc; rfl
   ·have hf:Nat.blt j m = false:=by rw [← Bool.not_eq_true]; intro hh; exact q (blt_lt hh)
    simp only [hf,cond_false] at hc; exact hok.flat hfl j hj c hc) rfl rfl ⟨rfl,Nat.le_add_right _ _⟩
 exact ⟨g',q4,.imm _ _ (.tup [] #[] (fun _=>undef) rfl (fun i c hi=>by simp at hi) (fun i c hi=>by simp at hi)),q5,q6⟩
def SortsI (P:Program) (f:FuncId):Prop :=
 (∀ (blk off cap:Nat) (zs:List Int) (w:World),Holds (Value.int .i64) w blk off zs.toArray->blk<w.heap.size->zs.length<4611686018427387904 →
  Calls P f #[.slice (some ⟨blk,off,none⟩) zs.length cap] w fun e w'=>e = .returned (.tuple #[])/\∃ n os,w' = grow (putRow (Value.int .i64) (Sort.ahead w n) blk off (zs.mergeSort fun x y=>decide (x<=y)).toArray) os) ∧
 ∀ (p:Option Addr) (cap:Nat) (w:World),Calls P f #[.slice p 0 cap] w fun e w'=>e = .returned (.tuple #[])/\w' = w
def sortedI (x:Nat->Int) (m:Nat):List Int:=((List.range m).map x).mergeSort fun x y=>decide (x<=y)
theorem args1 {cargs:Array Value} {v0:Value} (hs:cargs.size = 1) (a1:cargs[0]? = some v0):cargs = #[v0]:=by
 refine Array.ext (by simp [hs]) fun k h1 h2=>?_
 match k,h1 with
 | 0,_=>simpa [Array.getElem?_eq_getElem (show 0<cargs.size by omega)] using a1
 | k+1,h1=>omega
theorem sortI_ref {f:FuncId} (hS:SortsI P f) (hf:∃ fn,P.funcs[f]? = some fn/\fn.body.isNone = false/\(fn.name=="runtime.NumGoroutine") = false) {h:Heap} {i m:Nat} {cap:Option Nat} {b:Blk} (hb:h[i]? = some b) (hsz:b.sz = 1) (hn:m<=b.n) (hm:m<4611686018427387904) {x:Nat->Int}
 (hget:∀ j,j<m->b.get j = [.int .i64 (x j)]) :
 ToldRef P Gl f [.own i b.ver 0 m cap] h (.tup []) (h.set i { b with get:=fun j=>bif Nat.blt j m then [.int .i64 ((sortedI x m).getD j 0)] else b.get j }):=by
 refine ⟨hf,fun g w cargs hr hno hgl ha=>?_⟩
 obtain ⟨v0,a1,a2⟩:=ha.2 0 _ rfl
 obtain rfl:=args1 ha.1.symm a1
 obtain ⟨cb,sh,arr,e,hok⟩:=hr.blk i b hb
 obtain ⟨cb',sh',cc,ad,e1,rfl,es,e2,e3,e4,e5,e6,e7⟩:=own_slice hb rfl a2
 rw [hok.φ] at e1
 obtain ⟨rfl,rfl⟩:=Prod.mk.inj (Option.some.inj e1)
 have hsl:(sortedI x m).length = m:=by simp [sortedI]
 rcases Nat.eq_zero_or_pos m with h0 | h0
 ·subst h0
  have hS2:SameBlks h (h.set i { b with get:=fun j=>bif Nat.blt j 0 then [.int .i64 ((sortedI x 0).getD j 0)] else b.get j }):=by
   refine ⟨by simp,fun k b1 b2 q1 q2=>?_⟩
   by_cases hk:k = i
   ·subst hk
    rw [hb] at q1
    obtain rfl:=Option.some.inj q1
    rw [List.getElem?_set_self (lt_of_get hb)] at q2
    obtain rfl:=Option.some.inj q2
    exact ⟨rfl,rfl,rfl,fun h=>.inl h,fun j hj=>by (have hz:Nat.blt j 0 = false:=(by cases j <;> rfl)); simp only [hz,cond_false]⟩
   ·rw [List.getElem?_set_ne (fun q=>hk q.symm),q1] at q2
    obtain rfl:=Option.some.inj q2
    exact ⟨rfl,rfl,rfl,fun h=>.inl h,fun _ _=>rfl⟩
  refine (hS.2 (some ad) cc w).mono fun e' w' ⟨he,hw⟩=>?_
  rw [hw]
  obtain ⟨g',q1,q2,q3,q4⟩:=Res.pure (x:=.tup []) (v:=.tuple #[]) hr (VR.mk_tup rfl fun i c hi=>by simp at hi)
  have hk:=hS2.keep w g'.U g'.φ
  exact ⟨_,he,g',q1.same hS2,VR.keep hk q2,q3.trans hk,q4⟩
 ·obtain rfl:=e2 (by omega)
  have hH:Holds (Value.int .i64) w cb sh ((List.range m).map x).toArray:=by
   intro j hj
   have hj':j<m:=by simpa using hj
   obtain ⟨v,q1,q2,q3⟩:=hok.cell j 0 (.int .i64 (x j)) (by omega) (by rw [hget j hj']; rfl)
   rw [hsz,Nat.mul_one,Nat.add_zero] at q1
   have hv:v = .int .i64 (x j):=q3.int
   refine ⟨?_,?_⟩
   ·simp only [World.cell?,hok.heap]
    rw [if_neg (by simp),q1,hv]
    simp [hj']
   ·simp [World.frozen?,hok.heap]
  have hcall:=hS.1 cb sh cc ((List.range m).map x) w hH (lt_of_heap hok.heap) (by simpa using hm)
  rw [List.length_map,List.length_range] at hcall
  have e0:sh+0 * b.sz = sh:=by omega
  rw [e0]
  refine hcall.mono fun e' w' ⟨he,n,os,hw⟩=>?_
  refine ⟨_,he,?_⟩
  rw [hw]
  have:=row_res (enc:=Value.int .i64) hr hb hok hsz hn (fun j=>(sortedI x m).getD j 0) (sortedI x m).toArray (by simpa using hsl) (fun j hj=>by
   rw [Array.getElem!_eq_getD,Array.getD_eq_getD_getElem?,List.getElem?_toArray,List.getD_eq_getElem?_getD]
   rw [List.getElem?_eq_getElem (by omega)]
   rfl) n os
  exact this
end
end Go.Ab

