/- A part of the proof: nothing is assumed. -/
import Derived.Test.YthbieakinbpgkaaP2
import Derived.Maps.RangeWalk
set_option linter.all false
namespace Go.Ab
open Go.Maps Go.WideElems
structure MGood (m:MapD):Prop where
 ks:m.ks = .int .i64
 q:m.q = .i64
 key:∀ x,m.has [x] = true->-9223372036854775808<=x/\x<=9223372036854775807
 val:∀ x,m.has [x] = true->-9223372036854775808<=m.val [x]/\m.val [x]<=9223372036854775807
 clock:m.clock<=1000000000
theorem wf_of {x:Int} (h:-9223372036854775808<=x/\x<=9223372036854775807):(Lit.int .i64 x).wf = true:=by
 simp only [Lit.wf,Bool.and_eq_true,decide_eq_true_eq]
 exact ⟨h.1,h.2⟩
theorem nodup_le:∀ (c:Nat) (l:List Nat),l.Nodup->(∀ x,x ∈ l->x<c)->l.length<=c
 | 0,[],_,_=>Nat.le_refl _
 | 0,x :: l,_,h=>absurd (h x (by simp)) (by omega)
 | c+1,l,hn,h=>by
  have h1:=nodup_le c (l.filter fun x=>!(x==c)) (hn.filter _) fun x hx=>by
   have:=h x (List.mem_filter.1 hx).1
   have h2:x ≠ c:=by simpa using (List.mem_filter.1 hx).2
   omega
  have h2:l.length<=(l.filter fun x=>!(x==c)).length+1:=by
   clear h h1
   induction l with
   | nil=>simp
   | cons a l ih =>
    have hl:=(List.nodup_cons.1 hn)
    by_cases q:a = c
    ·subst q
     have e:l.filter (fun x=>!(x==a)) = l:=List.filter_eq_self.2 fun x hx=>by
      have:x ≠ a:=fun e=>hl.1 (e ▸ hx)
      simpa using this
     simp [List.filter_cons,e]
    ·have:=ih hl.2
     simp only [List.filter_cons,show (!(a==c)) = true by simpa using q,if_true,List.length_cons]
     omega
  omega
theorem MGood.owns {P:Program} {k e:TypeId} {w:World} {cb:Nat} {m:MapD} {H:Type} (g:MGood m) (hk:P.underlying k = some (.int .i64)) (he:P.underlying e = some (.int .i64)) (h:MapOk w cb m) :
 ∃ D:DataW H,w.ownsMap P k (plainElem P e) cb m.clock D/\∀ x,Maps.has D (.int .i64 x) = m.has [x]/\(m.has [x] = true->∀ zd,D.atKey (.int .i64 x) zd = .lit (.int .i64 (m.val [x]))):=by
 obtain ⟨es,hb,F⟩:=h
 rw [g.ks,g.q] at F
 have hsz:es.size<=m.clock:=by
  obtain ⟨s1,s2,s3⟩:=F.stamped
  have:=nodup_le m.clock (es.toList.map (·.born)) s2 fun x hx=>by
   obtain ⟨y,hy,rfl⟩:=List.mem_map.1 hx
   exact s1 y hy
  simpa using this
 have hrd:∀ x ∈ es.toList,∃ n,x.key = .int .i64 n/\m.has [n] = true/\rd (H:=H) P k (plainElem P e) x = some (.int .i64 n,.lit (.int .i64 (m.val [n]))):=fun x hx=>by
  obtain ⟨n,hn⟩:=F.keys x hx
  obtain ⟨o1,o2,o3⟩:=F.one x hx
  rw [hn] at o1 o2
  have o2:m.has [n] = true:=o2
  refine ⟨n,hn,o2,?_⟩
  unfold rd
  have e3:intsOf (Value.int IntKind.i64 n) = [n]:=rfl
  rw [hn,keyOf_int_mk hk (wf_of (g.key n o2)),o1,e3,plainElem_int he (wf_of (g.val n o2))]
  rfl
 have hFit:Fit (H:=H) P k (plainElem P e) es m.clock:=⟨by have:=g.clock; unfold maxLen; omega,F.stamped,fun x hx=>by
  obtain ⟨n,_,_,h⟩:=hrd x hx
  exact ⟨_,h⟩⟩
 have hown:w.ownsMap (H:=H) P k (plainElem P e) cb m.clock (.map ((es.toList.map (rg P k (plainElem P e))).foldr DataW.insert [])):=⟨es,m.clock,hb,hFit,hsz,rfl⟩
 refine ⟨_,hown,fun x=>?_⟩
 obtain ⟨es2,e1,e2,e3⟩:=hown.entries (int_keyed hk)
 have e1:(es.toList.map (rg P k (plainElem P e))).foldr DataW.insert [] = es2:=by cases e1; rfl
 have mem:∀ n,m.has [n] = true->((Lit.int .i64 n,(DataW.lit (.int .i64 (m.val [n])):DataW H)) ∈ es2):=fun n hn=>by
  obtain ⟨y,hy,hyk⟩:=F.all (.int .i64 n) ⟨n,rfl⟩ hn
  obtain ⟨n2,q1,q2,q3⟩:=hrd y hy
  rw [hyk] at q1
  cases q1
  rw [← e1,mem_sorted,List.mem_map]
  exact ⟨y,hy,rg_of q3⟩
 refine ⟨?_,fun hn zd=>?_⟩
 ·rw [e1,Bool.eq_iff_iff]
  constructor
  ·intro hh
   obtain ⟨p,hp,hpk⟩:=List.any_eq_true.1 hh
   rw [← e1,mem_sorted,List.mem_map] at hp
   obtain ⟨y,hy,rfl⟩:=hp
   obtain ⟨n2,q1,q2,q3⟩:=hrd y hy
   rw [rg_of q3] at hpk
   have:=WideAt.sameKey_eq hpk
   cases this
   exact q2
  ·intro hn
   exact List.any_eq_true.2 ⟨_,mem x hn,WideAt.sameKey_self (e3 _ (mem x hn))⟩
 ·rw [e1]
  exact WideAt.atKey_mem zd (e3 _ (mem x hn)) e2 (mem x hn)
end Go.Ab

