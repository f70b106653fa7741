/- A part of the proof: nothing is assumed. -/
import Derived.Test.YteoamlekamflbaaP5
import Derived.Test.YteoamlekamflbaaP6
import Derived.WalkKit
import Derived.LoopTactic
set_option linter.all false
namespace Go.Ab
open Go.Proofs
theorem rv_imm {w w':World} {U:Nat->Prop} {r:T} {v:Value} (hU:∀ b,U b->b<w.heap.size) (hb:RowKit.Below w.heap.size w w') (hx:RT2 w' w.heap.size U r v []):RV w U r v w' :=
 ⟨⟨hb,Nat.le_refl _⟩,U,[],fun _ h=>h,fun b h=>⟨.inl h,Nat.lt_of_lt_of_le (hU b h) hb.size⟩,.nil,fun b h=>by simp at h,hx⟩
theorem idx64 (s:List UInt8):ToldOk P18 G18 64 [.str s,.str [10]] (.int .i64 (Lib.indexByte s 10)):=by
 refine ⟨⟨Try.f64,Try.func64,by kernel_rfl,by kernel_rfl⟩,fun w U cargs hU hgl ha=>?_⟩
 obtain ⟨v0,a1,a2⟩:=ha.2 0 _ rfl
 obtain ⟨v1,a3,a4⟩:=ha.2 1 _ rfl
 have hc2:cargs = #[v0,v1]:=by
  have hs:cargs.size = 2:=ha.1.symm
  refine Array.ext (by simp [hs]) fun k h1 h2=>?_
  match k,h1 with
  | 0,_=>simpa [Array.getElem?_eq_getElem (show 0<cargs.size by omega)] using a1
  | 1,_=>simpa [Array.getElem?_eq_getElem (show 1<cargs.size by omega)] using a3
  | k+2,h1=>omega
 subst hc2
 cases a2 with
 | str _ b hb =>
  cases a4 with
  | str _ b2 hb2 =>
   have e2:b2 = ⟨#[10]⟩:=by
    cases b2 with
    | mk d =>
     congr 1
     exact Array.toList_inj.1 hb2
   subst e2
   refine (Try.stringslite_Index_one b 10 w).mono fun e w' h=>?_
   obtain ⟨h1,h2⟩:=h
   subst h2
   refine ⟨_,h1,rv_imm hU (.refl _ _) ?_⟩
   rw [hb]
   exact .vi _ _ (.int _ _)
def kInt (n:Int) (_:List T):Option T:=some (.int .i64 n)
theorem c51 (p:List T->T->Prop) (n:Int) (s:List UInt8):stepV P18 G18 A18 (noneO.add 64 (callF p (kInt n))) 0 51 [.str s,.str [10]] =
(
 bif decF (p [.str s,.str [(10:UInt8)]] (.int .i64 n)) then
 bif decide (0<=n) then
 bif decide (0<=n)&&decide (n<=Int.ofNat s.length) then
 bif decide (0<=IntKind.i64.wrap (n+1))&&decide (IntKind.i64.wrap (n+1)<=Int.ofNat s.length)&&decide (Int.ofNat s.length<=Int.ofNat s.length) then
 some (.tup [.str (List.drop (0:Nat) (List.take n.toNat s)),.str (List.drop (IntKind.i64.wrap (n+(1:Int))).toNat (List.take s.length s)),.bool true])
 else none else none else
 some (.tup [.str s,.str [],.bool false])
 else
 none):=by kernel_rfl
def cutL:List UInt8->List UInt8 × List UInt8 × Bool
 | []=>([],[],false)
 | b :: l=>if b==10 then ([],l,true) else (b :: (cutL l).1,(cutL l).2.1,(cutL l).2.2)
theorem cutL_ix:∀ s:List UInt8,(Lib.indexByte s 10 = -1/\cutL s = (s,[],false)) ∨ ∃ i:Nat,Lib.indexByte s 10 = i/\i<s.length/\cutL s = (s.take i,s.drop (i+1),true)
 | []=>.inl ⟨rfl,rfl⟩
 | b :: l=>by
  unfold Lib.indexByte cutL
  by_cases q:(b==10) = true
  ·rw [if_pos q,if_pos q]
   exact .inr ⟨0,rfl,by simp,rfl⟩
  ·rw [if_neg q,if_neg q]
   rcases cutL_ix l with ⟨h1,h2⟩ | ⟨i,h1,h2,h3⟩
   ·rw [h1,h2]
    exact .inl ⟨rfl,rfl⟩
   ·rw [h1,h3]
    refine .inr ⟨i+1,?_,by simp only [List.length_cons]; omega,rfl⟩
    have:¬ ((i:Int)==-1) = true:=by
     rw [beq_iff_eq]
     omega
    rw [if_neg this]
    rfl
def cutT (s:List UInt8):T:=.tup [.str (cutL s).1,.str (cutL s).2.1,.bool (cutL s).2.2]
theorem cut51 (s:List UInt8) (hs:s.length<=1000000):ToldOk P18 G18 51 [.str s,.str [10]] (cutT s):=by
 obtain ⟨p,hp⟩:∃ p:List T->T->Prop,p = ToldOk P18 G18 64:=⟨_,rfl⟩
 have t:=idx64 s
 rcases cutL_ix s with ⟨h1,h2⟩ | ⟨i,h1,h2,h3⟩
 ·rw [h1] at t
  refine stepV_told hm18 hn18 (K:=noneO.add 64 (callF p (kInt (-1)))) (told_add none_ok (callF_told hp)) (A:=A18) (m:=0) ((c51 p (-1) s).trans ?_)
  unfold cutT
  rw [h2]
  exact bift (callF_yes hp t) rfl
 ·rw [h1] at t
  refine stepV_told hm18 hn18 (K:=noneO.add 64 (callF p (kInt i))) (told_add none_ok (callF_told hp)) (A:=A18) (m:=0) ((c51 p i s).trans ?_)
  unfold cutT
  rw [h3,wr64 (by omega) (by omega)]
  refine bift (callF_yes hp t) (bift (by simp) (bift (by simp; omega) (bift (by simp; omega) ?_)))
  rw [List.take_length,List.drop_zero,show ((i:Int)+1).toNat = i+1 by omega,show (i:Int).toNat = i from rfl]
theorem c31 (p:List T->T->Prop) (a b:List UInt8) (f:Bool) (s:List UInt8):stepV P18 G18 A18 (noneO.add 51 (callF p (fun _=>some (.tup [.str a,.str b,.bool f])))) 0 31 [.str s,.str [10]] =
(
 bif decF (p [.str s,.str [(10:UInt8)]] (.tup [.str a,.str b,.bool f])) then
 bif f then
 some (.tup [.str a,.str b,.bool true])
 else
 some (.tup [.str a,.str b,.bool false])
 else
 none):=by kernel_rfl
theorem cut31 (s:List UInt8) (hs:s.length<=1000000):ToldOk P18 G18 31 [.str s,.str [10]] (cutT s):=by
 obtain ⟨p,hp⟩:∃ p:List T->T->Prop,p = ToldOk P18 G18 51:=⟨_,rfl⟩
 have t:=cut51 s hs
 unfold cutT at t ⊢
 generalize (cutL s).1 = a at *
 generalize (cutL s).2.1 = b at *
 generalize (cutL s).2.2 = f at *
 refine stepV_told hm18 hn18 (told_add none_ok (callF_told hp)) (A:=A18) (m:=0) ((c31 p a b f s).trans ?_)
 refine bift (callF_yes hp t) ?_
 cases f <;> rfl
open Go.Proofs Go.RowKit
def rowB (R:Nat->Nat->Nat) (ln:Nat->Nat) (i k:Nat):List UInt8:=(List.range k).map fun j=>UInt8.ofNat (48+R i j)
def txtB (R:Nat->Nat->Nat) (ln:Nat->Nat) (h:Nat):Nat->List UInt8
 | 0=>[]
 | r+1=>txtB R ln h r ++ (rowB R ln (h - 1 - r) (ln (h - 1 - r)) ++ [10])
theorem txtB_len (R:Nat->Nat->Nat) (ln:Nat->Nat) (h:Nat) (hln:∀ i,ln i<=1000):∀ k,(txtB R ln h k).length<=k * 1001
 | 0=>Nat.le_refl _
 | k+1=>by
  have:=txtB_len R ln h hln k
  have:=hln (h - 1 - k)
  simp only [txtB,rowB,List.length_append,List.length_map,List.length_range,List.length_cons,List.length_nil]
  omega
theorem bc_len (l:List UInt8):(Lib.byteCells l).length = l.length:=by simp [Lib.byteCells]
theorem bc_snoc (l:List UInt8) (x:UInt8):Lib.byteCells (l ++ [x]) = Lib.byteCells l ++ [.int .u8 (x.toNat:Int)]:=by simp [Lib.byteCells]
theorem rowB_succ (R:Nat->Nat->Nat) (ln:Nat->Nat) (i k:Nat):rowB R ln i (k+1) = rowB R ln i k ++ [UInt8.ofNat (48+R i k)]:=by simp [rowB,List.range_succ]
set_option maxRecDepth 100000 in
set_option maxHeartbeats 4000000 in
theorem text_walk (R:Nat->Nat->Nat) (ln:Nat->Nat) (h:Nat) (ab ao c:Nat) (hh:h<=1000) (bi oi ci:Nat->Nat) (w:World)
 (h1:∀ i,i<h->w.cell? ⟨ab,ao+i,none⟩ = some (.slice (some ⟨bi i,oi i,none⟩) (ln i) (ci i))) (h2:∀ i j,i<h->j<ln i->bi i<w.heap.size/\w.cell? ⟨bi i,oi i+j,none⟩ = some (.int .u8 (R i j)))
 (hb:ab<w.heap.size) (hR:∀ i j,R i j<=100) (hln:∀ i,ln i<=1000)
 (chk:Calls P18 29 #[.slice (some ⟨ab,ao,none⟩) h c] w fun e w'=>e = .returned (.int .i64 0)/\Below w.heap.size w w') :
 Calls P18 20 #[.slice (some ⟨ab,ao,none⟩) h c] w fun e w'=>e = .returned (.string ⟨(txtB R ln h h).toArray⟩)/\Below w.heap.size w w':=by
 go_enter Try.func20,Try.ntmps20
 go_wp2_with (go_at_call 29; refine chk.mono ?_; rintro e w1 ⟨rfl,hB1⟩)
 have keepc:∀ wr:World,Below w1.heap.size w1 wr->∀ b o v,b<w.heap.size->w.cell? ⟨b,o,none⟩ = some v->wr.cell? ⟨b,o,none⟩ = some v:=fun wr hB2 b o v hlt hv=>by
  rw [← hv]
  exact World.cell?_of_block ((hB2.block b (Nat.lt_of_lt_of_le hlt hB1.size)).trans (hB1.block b hlt))
 go_loopw [12] (fun i wr=>∃ k:Nat,k<=h/\i = .int .i64 k/\Lib.IsBuilder 83 5 w1.heap.size w1.heap.size (Lib.byteCells (txtB R ln h k)) wr/\Below w1.heap.size w1 wr) (fun i _=>h - (intOf i).toNat)
 case atStart=>exact ⟨0,Nat.zero_le _,rfl,Lib.fresh_isBuilder 83 5 w1,Below.alloc (.refl _ _) (Nat.le_refl _) _⟩
 case round =>
  obtain ⟨k,hk,rfl,hI,hBr⟩:=hrel
  by_cases hlt:k<h
  ·have g1:=keepc _ hBr ab _ _ hb (h1 (h - 1 - k) (by omega))
   have e1:((h:Int) - 1 - k).toNat = h - 1 - k:=by omega
   have b1:(0:Int)<=(h:Int) - 1 - k:=by omega
   have b2:(h:Int) - 1 - k<h:=by omega
   go_wp2
   have mh:h - 1 - k<h:=by omega
   have hlen:=txtB_len R ln h hln k
   have hk1:k * 1001<=1001000:=by omega
   generalize hm:h - 1 - k = m at g1 mh ⊢
   go_loopw [24] (fun i wr2=>∃ j:Nat,j<=ln m/\i = .int .i64 j/\Lib.IsBuilder 83 5 w1.heap.size w1.heap.size (Lib.byteCells (txtB R ln h k ++ rowB R ln m j)) wr2/\Below w1.heap.size w1 wr2) (fun i _=>ln m - (intOf i).toNat)
   case atStart=>exact ⟨0,Nat.zero_le _,rfl,by simpa [rowB] using hI,hBr⟩
   case round =>
    obtain ⟨j,hj,rfl,hI2,hB2⟩:=hrel
    have hlm:=hln m
    have hrl:(rowB R ln m j).length = j:=by simp [rowB]
    have hcl:(Lib.byteCells (txtB R ln h k ++ rowB R ln m j)).length+1<=140737488355328:=by
     rw [bc_len,List.length_append,hrl]
     omega
    by_cases hlj:j<ln m
    ·have g2:=keepc _ hB2 (bi m) _ _ (h2 m j mh hlj).1 (h2 m j mh hlj).2
     have hr:=hR m j
     go_wp2_with (go_at_call 34; refine (Try.Builder_WriteByte w1.heap.size w1.heap.size _ _ _ hI2 hcl hB2.size).mono ?_; rintro e w3 ⟨rfl,hI3,hB3⟩)
     have hx:((UInt8.ofNat (48+R m j)).toNat:Int) = 48+↑(R m j):=by
      have:(UInt8.ofNat (48+R m j)).toNat = 48+R m j:=by
       rw [UInt8.toNat_ofNat']
       omega
      omega
     refine ⟨⟨j+1,by omega,by simp,?_,hB2.trans hB3⟩,by simp [intOf]; omega⟩
     rw [rowB_succ,← List.append_assoc,bc_snoc,hx]
     exact .inr hI3
    ·obtain rfl:j = ln m:=by omega
     go_wp2_with (go_at_call 34; refine (Try.Builder_WriteByte w1.heap.size w1.heap.size _ _ _ hI2 hcl hB2.size).mono ?_; rintro e w3 ⟨rfl,hI3,hB3⟩)
     refine ⟨⟨k+1,by omega,by simp,?_,hB2.trans hB3⟩,by simp [intOf]; omega⟩
     rw [show txtB R ln h (k+1) = txtB R ln h k ++ rowB R ln m (ln m) ++ [10] by rw [← hm,List.append_assoc]; rfl,bc_snoc]
     exact .inr hI3
  ·obtain rfl:k = h:=by omega
   go_wp2_with (go_at_call 35; refine (Try.Builder_String_any w1.heap.size w1.heap.size _ _ hI hBr.size).mono ?_; rintro e w3 ⟨rfl,hB3⟩)
   go_ret
   exact ⟨rfl,hB1.trans ((hBr.trans hB3).mono hB1.size)⟩
end Go.Ab

