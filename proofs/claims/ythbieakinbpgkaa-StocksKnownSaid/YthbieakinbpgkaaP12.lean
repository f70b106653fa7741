/- A part of the proof: nothing is assumed. -/
import Derived.Test.YthbieakinbpgkaaP4
import Derived.Test.YthbieakinbpgkaaP8
import Derived.Shelf.SlSortCmp.NoneTotal
set_option linter.all false
namespace Go.Ab
open Go.Proofs Go.Shelf Go.RowKit Go.Sort
section
variable {α:Type} [Inhabited α]
def encK (zs:α->List Int) (x:α):List Value:=(zs x).map (Value.int .i64)
def tcZ (zs:α->List Int) (x:α):List T:=(zs x).map (T.int .i64)
def SortsK (P:Program) (f:FuncId) (fc:FuncId) (zs:α->List Int) (k:Nat) (S:Array α->Array α):Prop :=
 ∀ (blk off cap:Nat) (d:Array α) (w:World),HoldsK (encK zs) k w blk off d->blk<w.heap.size->d.size<4611686018427387904 →
  Calls P f #[.slice (some ⟨blk,off,none⟩) d.size cap,.func (.func fc) #[] #[]] w fun e w'=>e = .returned (.tuple #[])/\∃ n os,w' = sortWorldK (encK zs) k w blk off n (S d) os
theorem sortWorldK_other (enc:α->List Value) (k:Nat) (w:World) (blk off m:Nat) (dk:Array α) (os:Array Obj) {b:Nat} (hne:b ≠ blk) (hlt:b<w.heap.size):(sortWorldK enc k w blk off m dk os).heap[b]? = w.heap[b]?:=by
 have hsz:((Sort.ahead w m).heap.modify blk (onCells (putCells id off (flatK enc k dk)))).size = w.heap.size:=by simp [Sort.ahead]
 show ((Sort.ahead w m).heap.modify blk (onCells (putCells id off (flatK enc k dk))) ++ os)[b]? = _
 rw [Array.getElem?_append_left (by rw [hsz]; exact hlt),Array.getElem?_modify,if_neg (fun e=>hne e.symm)]
 rfl
theorem sortWorldK_size (enc:α->List Value) (k:Nat) (w:World) (blk off m:Nat) (dk:Array α) (os:Array Obj):w.heap.size<=(sortWorldK enc k w blk off m dk os).heap.size:=by
 show w.heap.size<=((Sort.ahead w m).heap.modify blk (onCells (putCells id off (flatK enc k dk))) ++ os).size
 simp [Sort.ahead]
theorem mul_in {j m k o:Nat} (hj:j<m) (ho:o<k):j * k+o<m * k:=by
 have:=Nat.mul_le_mul_right k (show j+1<=m from hj)
 rw [Nat.add_mul,Nat.one_mul] at this
 omega
theorem flatK_at (zs:α->List Int) {k:Nat} (hk:∀ x,(zs x).length = k) (d:Array α) {j o:Nat} (hj:j<d.size) (ho:o<k):(flatK (encK zs) k d)[j * k+o]! = .int .i64 ((zs d[j]!).getD o 0):=by
 have e1:(j * k+o) / k = j:=(blk_iff k j _ (by omega)).1 ⟨by omega,by omega⟩
 have e2:(j * k+o) % k = o:=by rw [Nat.mod_eq_sub_div_mul,e1]; omega
 rw [get_flatK _ _ _ _ (mul_in hj ho),e1,e2]
 have hl:o<(zs d[j]!).length:=by rw [hk]; exact ho
 simp only [encK,List.getElem!_eq_getElem?_getD,List.getElem?_map,List.getElem?_eq_getElem hl,List.getD_eq_getElem?_getD,Option.map_some,Option.getD_some]
theorem rowK_holds {g:Gh} {h:Heap} {w:World} {i:Nat} {b:Blk} {cb sh:Nat} {arr:Array Value} {e:TypeId} (zs:α->List Int) {k:Nat} (hk:∀ x,(zs x).length = k) (hok:BlkOk w g h i b cb sh arr e) (hsz:b.sz = k) {m:Nat} (hn:m<=b.n) {x:Nat->α}
 (hget:∀ j,j<m->b.get j = tcZ zs (x j)):HoldsK (encK zs) k w cb sh ((List.range m).map x).toArray:=by
 have hds:((List.range m).map x).toArray.size = m:=by simp
 intro t ht
 rw [size_flatK,hds] at ht
 have k0:0<k:=by
  rcases Nat.eq_zero_or_pos k with q | q
  ·subst q; simp at ht
  ·exact q
 have hj:t / k<m:=(Nat.div_lt_iff_lt_mul k0).2 ht
 have ho:t % k<k:=Nat.mod_lt _ k0
 have et:t / k * k+t % k = t:=by rw [Nat.mul_comm]; exact Nat.div_add_mod t k
 have hl:t % k<(zs (x (t / k))).length:=by rw [hk]; exact ho
 obtain ⟨v,q1,q2,q3⟩:=hok.cell (t / k) (t % k) (.int .i64 ((zs (x (t / k))).getD (t % k) 0)) (by omega) (by
  rw [hget _ hj]
  simp [tcZ,List.getElem?_eq_getElem hl])
 have hv:v = .int .i64 ((zs (x (t / k))).getD (t % k) 0):=q3.int
 rw [hsz,show sh+t / k * k+t % k = sh+t by omega] at q1
 have hfl:(flatK (encK zs) k ((List.range m).map x).toArray)[t]! = .int .i64 ((zs (x (t / k))).getD (t % k) 0):=by
  have:=flatK_at zs hk ((List.range m).map x).toArray (j:=t / k) (o:=t % k) (by rw [hds]; exact hj) ho
  rw [et] at this
  rw [this]
  congr 3
  simp [hj]
 refine ⟨?_,?_⟩
 ·simp only [World.cell?,hok.heap]
  rw [if_neg (by simp),q1,hv,hfl]
  rfl
 ·simp [World.frozen?,hok.heap]
variable {P:Program} {Gl:Nat->Option (List T)}
theorem sortK_ref {m:Nat} {f fc:FuncId} {zs:α->List Int} {k:Nat} (hk:∀ x,(zs x).length = k) {S:Array α->Array α} (hSs:∀ d,(S d).size = d.size) (hS:SortsK P f fc zs k S) (hf:∃ fn,P.funcs[f]? = some fn/\fn.body.isNone = false/\(fn.name=="runtime.NumGoroutine") = false)
 {h:Heap} {i:Nat} {b:Blk} {cap:Option Nat} (hb:h[i]? = some b) (hsz:b.sz = k) (hn:b.n = m) (h0:0<m) (hm:m<4611686018427387904) {x:Nat->α}
 (hget:∀ j,j<m->b.get j = tcZ zs (x j)) (hmp:b.mp = none:=by rfl) :
 ToldRef P Gl f [.own i b.ver 0 m cap,.fn fc []] h (.tup []) (h.set i { b with get:=fun j=>tcZ zs (S ((List.range m).map x).toArray)[j]!,flat:=true }):=by
 refine ⟨hf,fun g w cargs hr hno hgl ha=>?_⟩
 obtain ⟨v0,a1,a2⟩:=ha.2 0 _ rfl
 obtain ⟨v1,a3,a4⟩:=ha.2 1 _ rfl
 have hc2:cargs = #[v0,v1]:=by
  have hs:cargs.size = 2:=ha.1.symm
  refine Array.ext (by simp [hs]) fun k h1 h2=>?_
  match k,h1 with
  | 0,_=>simpa [Array.getElem?_eq_getElem (show 0<cargs.size by omega)] using a1
  | 1,_=>simpa [Array.getElem?_eq_getElem (show 1<cargs.size by omega)] using a3
  | k+2,h1=>omega
 subst hc2
 obtain ⟨cb,sh,arr,e,hok⟩:=hr.blk i b hb hmp (.inl (by omega))
 obtain ⟨cb',sh',cc,ad,e1,rfl,es,e2,e3,e4,e5,e6,e7⟩:=own_is hb rfl a2 hok.φ
 rw [hok.φ] at e1
 obtain ⟨rfl,rfl⟩:=Prod.mk.inj (Option.some.inj e1)
 obtain rfl:=e2 (by omega)
 obtain ⟨cs,rfl,hl,hcs⟩:=a4.fn_inv
 obtain rfl:cs = #[]:=by simpa using hl.symm
 have hH:=rowK_holds zs hk hok hsz (m:=m) (by omega) hget
 have hlt:cb<w.heap.size:=lt_of_heap hok.heap
 have hds:((List.range m).map x).toArray.size = m:=by simp
 have hcall:=hS cb sh cc ((List.range m).map x).toArray w hH hlt (by rw [hds]; exact hm)
 rw [hds] at hcall
 have e0:sh+0 * b.sz = sh:=by omega
 rw [e0]
 refine hcall.mono fun e' w' ⟨he,n,os,hw⟩=>?_
 have hsz2:(S ((List.range m).map x).toArray).size = m:=by rw [hSs,hds]
 generalize S ((List.range m).map x).toArray = d at hw hsz2 ⊢
 have hsize:w.heap.size<=w'.heap.size:=by rw [hw]; exact sortWorldK_size _ _ _ _ _ _ _ _
 have hother:∀ c,c<w.heap.size->c ≠ cb->w'.heap[c]? = w.heap[c]?:=fun c hc hne=>by rw [hw]; exact sortWorldK_other _ _ _ _ _ _ _ _ hne hc
 have hcb:w'.heap[cb]? = some (.cells (putCells id sh (flatK (encK zs) k d) arr) e (0,0)):=by
  rw [hw]
  show ((Sort.ahead w n).heap.modify cb (onCells (putCells id sh (flatK (encK zs) k d))) ++ os)[cb]? = _
  rw [Array.getElem?_append_left (by simpa [Sort.ahead] using hlt),Array.getElem?_modify,if_pos rfl]
  show Option.map _ (w.heap[cb]?) = _
  rw [hok.heap]
  rfl
 have hps:(putCells id sh (flatK (encK zs) k d) arr).size = arr.size:=by simp [putCells]
 have hroom:=hok.room
 have hcell:∀ (j o:Nat) (c:T),j<b.n->(tcZ zs d[j]!)[o]? = some c->∃ v,(putCells id sh (flatK (encK zs) k d) arr)[sh+j * b.sz+o]? = some v/\v.oneCell' = true/\g.VR h w c v:=by
  intro j o c hj hc
  have ho:o<k:=by
   have:=lt_of_get hc
   rw [tcZ,List.length_map,hk] at this
   exact this
  have hlz:o<(zs d[j]!).length:=by rw [hk]; exact ho
  have hcv:c = .int .i64 ((zs d[j]!).getD o 0):=by
   simp only [tcZ,List.getElem?_map,List.getElem?_eq_getElem hlz,Option.map_some,Option.some.injEq] at hc
   rw [← hc]
   simp [List.getElem?_eq_getElem hlz]
  subst hcv
  have hjm:j<m:=by rw [← hn]; exact hj
  have hin:=mul_in (k:=k) hjm ho
  refine ⟨.int .i64 ((zs d[j]!).getD o 0),?_,rfl,.imm _ _ (.int _ _)⟩
  have hlt2:sh+j * k+o<arr.size:=by rw [hsz,hn] at hroom; omega
  rw [hsz,Array.getElem?_eq_getElem (by rw [hps]; exact hlt2)]
  simp only [putCells,Array.getElem_mapIdx,size_flatK,hsz2]
  rw [if_pos ⟨by omega,by omega⟩,show sh+j * k+o - sh = j * k+o by omega,flatK_at zs hk d (by omega) ho]
  rfl
 obtain ⟨g',q1,q2,q3,q4,q5,q6⟩:=hr.change hb (w':=w') (cb:=cb) (sh:=sh) (arr:=putCells id sh (flatK (encK zs) k d) arr) (e:=e) (b':={ b with get:=fun j=>tcZ zs d[j]!,flat:=true }) hsize hother hcb (.inl hok.own)
  (fun l hl=>by rw [hps]; exact room_is hok.heap hl) (Nat.le_refl _) (fun _=>⟨rfl,rfl,hok.φ⟩) (by rw [hps]; exact hroom) (fun j hj=>by simp [tcZ,hk,hsz])
  hcell (fun _ j hj c hc=>by
   simp only [tcZ,List.mem_map] at hc
   obtain ⟨z,_,rfl⟩:=hc
   rfl) (by rw [hw]; rfl) (by rw [hw]; rfl) (by rw [hw]; exact ⟨rfl,Nat.le_refl _⟩)
 exact ⟨.tuple #[],he,g',q4,.imm _ _ (.tup [] #[] (fun _=>undef) rfl (fun i c hi=>by simp at hi) (fun i c hi=>by simp at hi)),q5,q6⟩
end
end Go.Ab

