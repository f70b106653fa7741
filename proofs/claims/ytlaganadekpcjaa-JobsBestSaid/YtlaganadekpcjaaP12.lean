/- A part of the proof: nothing is assumed. -/
import Derived.Test.YtlaganadekpcjaaP11
set_option linter.all false
namespace Go.Ab
open Go.Proofs
/-- The order by due time, as numbers. -/
def oN (L : JL) : Nat → Nat := fun j => (ordL L.du L.n).getD j 0
theorem oN_lt {L : JL} {j : Nat} (hj : j < L.n) : oN L j < L.n := ord_lt hj
def svT (L : JL) (mm : Nat) : T := .view 4 L.n (scells L (oN L) mm) (some L.n)
def rvT (L : JL) (mm : Nat) : T := iv mm (plst L (oN L) mm L.n) (some mm)
noncomputable def K26b (r : T) (l : List (List T)) : Orc := noneO.add 20 (callS l r)
noncomputable def K16 (l1 l2 : List (List T)) (r2 : T) : Orc := (noneO.add 25 (callS l1 (.int .i64 0))).add 26 (callS l2 r2)
theorem planT (L : JL) (c : Option Nat) (mm : Nat) (hL : L.Ok) (hm : 1 ≤ mm ∧ mm ≤ 16) (hab : ∀ i, i < L.n → 0 < (abL (L.on i) mm).length) : ToldOk P41 G41 26 [jv L c, .int .i64 mm] (.tup [.new (svT L mm), .new (rvT L mm)]) := by
  have hn := hL.n
  have hl := l26 L c (oN L) mm hL hm (fun j hj => oN_lt hj) hab
  have hxs : ∀ j, j < L.n → xs26 L (oN L) mm L.n j = scells L (oN L) mm j := fun j hj => by unfold xs26; rw [bltT hj]; rfl
  have hx0 : xs26 L (oN L) mm 0 = fun _ => [.int .i64 0, .int .i64 0, .int .i64 0, .int .i64 0] := by
    funext j; unfold xs26; rw [bltF (Nat.zero_le _)]; rfl
  unfold svT rvT
  generalize plst L (oN L) mm L.n = rd at *
  generalize hy : scells L (oN L) mm = y at *
  generalize xs26 L (oN L) mm L.n = x at *
  rw [hx0] at hl
  have k1 : ∀ z ∈ [[jv L c]], ToldOk P41 G41 20 z (.new (iv L.n (ordI L) (some L.n))) := fun z h => by obtain rfl := List.mem_singleton.1 h; exact byDueT L c hL
  have m1 := List.mem_singleton.2 (rfl : [jv L c] = _)
  generalize [[jv L c]] = l1 at k1 m1
  have := (stepL_told (args := [jv L c, .int .i64 mm]) (r := .tup [.fresh true 4 L.n (fun j => x (0 + j)) L.n (some L.n), .fresh true 1 mm (fun j => [.int .i64 (rd (0 + j))]) mm (some mm)]) hm41 hn41 (K := K26b (.new (iv L.n (ordI L) (some L.n))) l1) (told_add none_ok (callS_told k1)) (A := A41) (m := 0) (by kernel_rfl) (loops1 hl) ?_).frz
  · refine this.tupTo (.cons (.new (.view (.inl rfl) fun j hj => ?_)) (.cons (.new (.view (.inl rfl) fun j hj => ?_)) .nil))
    · rw [Nat.zero_add, hxs j hj]; exact .refl _
    · rw [Nat.zero_add]; exact .refl _
  · refine Eq.trans (show stepL P41 G41 A41 (K26b (.new (iv L.n (ordI L) (some L.n))) l1) 0 26 [(4, litS (v26 L c 0 0 (oN L) mm) [rblk mm (fun _ => 0), sblk 0 L.n (fun _ => [.int .i64 0, .int .i64 0, .int .i64 0, .int .i64 0])] (.exit 0) [.own 1 0 0 L.n (some L.n), .own 0 0 0 mm (some mm)] [rblk mm rd, sblk 0 L.n x])] [jv L c, .int .i64 mm] =
(
 bif decide ((0 : Int) ≤ Int.ofNat mm) && decide (Int.ofNat mm ≤ Int.ofNat mm) && decide (Int.ofNat mm * (8 : Int) ≤ (140737488355328 : Int)) && decide (Int.ofNat mm ≤ (9223372036854775807 : Int)) then
 bif decide ((0 : Int) ≤ Int.ofNat L.n) && decide (Int.ofNat L.n * (32 : Int) ≤ (140737488355328 : Int)) && decide (Int.ofNat L.n ≤ (9223372036854775807 : Int)) then
 bif sameArgsF [jv L c] l1 then
 bif weakF [jv L c, T.own [Blk.mk 0 1 mm (fun x => [T.int .i64 (0 : Int)]) true false].length (0 : Nat) (0 : Nat) (0 : Nat) (some L.n), T.own 0 0 0 mm (some mm), T.view 1 L.n (fun j => [T.int .i64 (Int.ofNat (((List.range L.n).mergeSort fun x y => !decide (dueLt L.du y x)).getD j (0 : Nat)))]) (some L.n), T.int .i64 (Int.ofNat L.n), T.int .i64 (0 : Int)] [Blk.mk 0 1 mm (fun x => [T.int .i64 (0 : Int)]) true false, Blk.mk 0 4 L.n (fun x => [T.int .i64 (0 : Int), T.int .i64 (0 : Int), T.int .i64 (0 : Int), T.int .i64 (0 : Int)]) true false] [jv L c, T.own 1 0 0 0 (some L.n), T.own 0 0 0 mm (some mm), T.view 1 L.n (fun j => [T.int .i64 (Int.ofNat (((List.range L.n).mergeSort fun x y => !decide (dueLt L.du y x)).getD j (0 : Nat)))]) (some L.n), T.int .i64 (Int.ofNat L.n), T.int .i64 (0 : Int)] [Blk.mk 0 1 mm (fun j => [T.int .i64 (0 : Int)]) true false, Blk.mk 0 4 L.n (fun x => [T.int .i64 (0 : Int), T.int .i64 (0 : Int), T.int .i64 (0 : Int), T.int .i64 (0 : Int)]) true false] then
 some (T.tup [bif ((0 : Nat) + L.n).ble L.n then T.fresh true (4 : Nat) (L.n - (0 : Nat)) (fun j => x ((0 : Nat) + j)) L.n (some L.n)
 else T.undef,
 bif ((0 : Nat) + mm).ble mm then T.fresh true (1 : Nat) (mm - (0 : Nat)) (fun j => [T.int .i64 (rd ((0 : Nat) + j))]) mm (some mm)
 else T.undef])
 else none else none else none else
 none) from by kernel_rfl) ?_
    (repeat (first | (refine bift (by first | assumption | omega | (simp (disch := omega) only [wr64, wr8, wr16, wr32, ofNatE, toNatE, toNatE1, Bool.and_eq_true, Bool.or_eq_true, Bool.not_eq_true', decide_eq_true_eq, decide_eq_false_iff_not, nble, nblt, nbeq, Nat.zero_add, Nat.add_zero, Int.zero_add, Int.add_zero, List.length_cons, List.length_nil, true_and, and_true, Nat.reduceAdd, and_self]; done) | (simp (disch := omega) only [wr64, wr8, wr16, wr32, ofNatE, toNatE, toNatE1, Bool.and_eq_true, Bool.or_eq_true, Bool.not_eq_true', decide_eq_true_eq, decide_eq_false_iff_not, nble, nblt, nbeq, Nat.zero_add, Nat.add_zero, Int.zero_add, Int.add_zero, List.length_cons, List.length_nil, true_and, and_true, Nat.reduceAdd, and_self]; omega)) ?_) | (refine biff (by first | assumption | (simp (disch := omega) only [wr64, wr8, wr16, wr32, ofNatE, toNatE, toNatE1, Bool.and_eq_true, Bool.or_eq_true, Bool.not_eq_true', decide_eq_true_eq, decide_eq_false_iff_not, nble, nblt, nbeq, Nat.zero_add, Nat.add_zero, Int.zero_add, Int.add_zero, List.length_cons, List.length_nil, true_and, and_true, Nat.reduceAdd, and_self]; done) | (simp (disch := omega) only [wr64, wr8, wr16, wr32, ofNatE, toNatE, toNatE1, Bool.and_eq_true, Bool.or_eq_true, Bool.not_eq_true', decide_eq_true_eq, decide_eq_false_iff_not, nble, nblt, nbeq, Nat.zero_add, Nat.add_zero, Int.zero_add, Int.add_zero, List.length_cons, List.length_nil, true_and, and_true, Nat.reduceAdd, and_self]; omega)) ?_)))
    refine bift (sameArgsF_iff.2 m1) ?_
    refine bift (weakF_of ⟨rfl, .refl _⟩) ?_
    rw [show (Nat.ble (0 + L.n) L.n) = true from bleT (by omega), show (Nat.ble (0 + mm) mm) = true from bleT (by omega)]
    first | rfl | (simp (disch := omega) only [wr64, wr8, wr16, wr32, ofNatE]; done) | (simp (disch := omega) only [wr64, wr8, wr16, wr32, ofNatE]; rfl)
theorem PlanT (L : JL) (c : Option Nat) (mm : Nat) (hL : L.Ok) (hm : 1 ≤ mm ∧ mm ≤ 16) (hab : ∀ i, i < L.n → 0 < (abL (L.on i) mm).length) : ToldOk P41 G41 16 [jv L c, .int .i64 mm] (.tup [svT L mm, .int .i64 0]) := by
  have hn := hL.n
  have k1 : ∀ z ∈ [[jv L c, .int .i64 mm]], ToldOk P41 G41 25 z (.int .i64 0) := fun z h => by obtain rfl := List.mem_singleton.1 h; exact chkT L c mm hL hm hab
  have k2 : ∀ z ∈ [[jv L c, .int .i64 mm]], ToldOk P41 G41 26 z (.tup [.new (svT L mm), .new (rvT L mm)]) := fun z h => by obtain rfl := List.mem_singleton.1 h; exact planT L c mm hL hm hab
  have m1 := List.mem_singleton.2 (rfl : [jv L c, .int .i64 mm] = _)
  generalize [[jv L c, .int .i64 mm]] = l1 at k1 k2 m1
  unfold svT rvT iv at *
  generalize plst L (oN L) mm L.n = rd at *
  generalize scells L (oN L) mm = y at *
  refine stepL_told hm41 hn41 (K := K16 l1 l1 (.tup [.new (.view 4 L.n y (some L.n)), .new (.view 1 mm (fun j => [.int .i64 (rd j)]) (some mm))])) (told_add (told_add none_ok (callS_told k1)) (callS_told k2)) (A := A41) (m := 0) (by kernel_rfl) loops0 ?_
  refine Eq.trans (show stepL P41 G41 A41 (K16 l1 l1 (.tup [.new (.view 4 L.n y (some L.n)), .new (.view 1 mm (fun j => [.int .i64 (rd j)]) (some mm))])) 0 16 [] [jv L c, .int .i64 mm] =
(
 bif sameArgsF [jv L c, T.int .i64 (Int.ofNat mm)] l1 then
 bif sameArgsF [jv L c, T.int .i64 (Int.ofNat mm)] l1 then
 some (T.tup [T.view 4 L.n y (some L.n), T.int .i64 (0 : Int)])
 else none else
 none) from by kernel_rfl) ?_
  refine bift (sameArgsF_iff.2 m1) ?_
  refine bift (sameArgsF_iff.2 m1) ?_
  rfl
end Go.Ab

