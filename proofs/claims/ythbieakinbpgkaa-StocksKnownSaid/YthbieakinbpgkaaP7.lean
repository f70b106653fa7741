/- A part of the proof: nothing is assumed. -/
import Derived.Test.YthbieakinbpgkaaP5
import Derived.Test.YthbieakinbpgkaaP6
import Derived.WalkKit
set_option linter.all false
namespace Go.Ab
open Go.Proofs Go.RowKit Go.Maps
theorem keyed42:Keyed P42 3:=int_keyed Try.underlying3
set_option maxRecDepth 100000 in
theorem short_walk {H:Type} (b n:Nat) (D:DataW H) (w:World) (hown:w.ownsMap P42 3 (plainElem P42 3) b n D) :
 Calls P42 24 #[.map (some b)] w fun e w'=>∃ r,e = .returned (.bool r)/\w.grownBy w' none/\(r = true->∃ x c,Maps.has D (.int .i64 x) = true/\(∀ zd,D.atKey (.int .i64 x) zd = .lit (.int .i64 c))/\c<0) ∧
  (r = false->∀ x c,Maps.has D (.int .i64 x) = true->(∀ zd,D.atKey (.int .i64 x) zd = .lit (.int .i64 c))->0<=c):=by
 go_enter Try.func24,Try.ntmps24
 go_wp2_with (first
  | (at_range; refine wpList_range_own _ rfl _ 62 rfl 3 3 keyed42 Try.underlying62 _ b n _ rfl hown ?_; intro w0 hrg0 hg0 hs0)
  | go_in)
 go_frame
 go_loopw [2] (fun _ wr=>∃ (left:Lit->Bool) (cnt:Nat),wr.ranges P42 3 (plainElem P42 3) b w.heap.size n D left cnt/\w.grownBy wr none/\∀ x c,Maps.has D (.int .i64 x) = true->left (.int .i64 x) = false->(∀ zd,D.atKey (.int .i64 x) zd = .lit (.int .i64 c))->0<=c)
  (fun _ wr=>wr.rangeLeft b w.heap.size)
 case atStart=>exact ⟨_,_,hrg0,hg0,fun x c h1 h2=>by rw [h1] at h2; cases h2⟩
 case round =>
  obtain ⟨left,cnt,hrg,hgw,hall⟩:=hrel
  go_wp2_with (first
   | (at_next; refine wpList_next_ranges_ii _ rfl _ rfl 3 3 .i64 .i64 keyed42 Try.underlying3 Try.underlying3 b w.heap.size n _ _ _ rfl hrg ?_ ?_)
   | go_in)
  ·intro _ hl0
   go_wp2
   go_ret
   exact ⟨false,rfl,hgw,(fun h=>by cases h),fun _ x c h1 h2=>hall x c h1 (hl0 _) h2⟩
  ·intro x c w1 cnt1 hwx hwc hlx hat hrg1 hlt hg1 hs1 hen
   have hgw1:=hgw.andThen hg1 (fun j hj=>by cases hj; exact Or.inl (Nat.le_refl _))
   go_wp2
   ·have hc:c<0:=by assumption
    go_ret
    exact ⟨true,rfl,hgw1,fun _=>⟨x,c,has_true_of_atKey hat,hat,hc⟩,(fun h=>by cases h)⟩
   ·have hc:0<=c:=by assumption
    go_roundw
    case rel =>
     refine ⟨_,cnt1,hrg1,hgw1,fun y d h1 h2 h3=>?_⟩
     cases hl:left (Lit.int .i64 y) with
     | false=>exact hall y d h1 hl h3
     | true =>
      rw [hl,Bool.true_and,Bool.not_eq_false'] at h2
      have:=WideAt.sameKey_eq h2
      cases this
      have e:=(hat .nil).symm.trans (h3 .nil)
      cases e
      omega
    case measure=>rw [hrg1.left_eq,hrg.left_eq]; exact hlt
end Go.Ab

