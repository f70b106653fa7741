/- A part of the proof: nothing is assumed. -/
import Derived.Test.YtjjnbjkbgjgpoaaP12
set_option linter.all false
namespace Go.Ab
open Go.Proofs
noncomputable def A8 : FuncId → Ann := annWith A37 8 [(10, 61, true), (26, 125, true)]
noncomputable def even1 (l1 : List (List T)) (r1 : T) (l2 : List (List T)) (r2 : T) (args : List T) : Tree := .ite (sameArgsF args l2) (.ret r2) (callS l1 r1 args)
noncomputable def K8 (l1 : List (List T)) (r1 : T) (l2 : List (List T)) (r2 : T) (l3 : List (List T)) : Orc := (K37b.add 19 (even1 l1 r1 l2 r2)).add 18 (callS l3 (.bool true))
theorem okK8 {l1 l2 l3 : List (List T)} {r1 r2 : T} (h1 : ∀ a ∈ l1, ToldOk P37 G37 19 a r1) (h2 : ∀ a ∈ l2, ToldOk P37 G37 19 a r2) (h3 : ∀ a ∈ l3, ToldOk P37 G37 18 a (.bool true)) : OrcOk P37 G37 (K8 l1 r1 l2 r2 l3) :=
  told_add (told_add okK37b fun args r h => by
    rcases Tree.ite_some h with ⟨hc, h⟩ | ⟨_, h⟩
    · obtain rfl := Tree.ret_some h
      exact h2 _ (sameArgsF_iff.1 hc)
    · exact callS_told h1 _ _ h) (callS_told h3)
end Go.Ab

namespace Go.Ab
open Go.Proofs
theorem args_no {a b : List T} (h : a ≠ b) : sameArgsF a [b] = false := by simp [sameArgsF, h]
theorem args_yes {a : List T} {l : List (List T)} (h : a ∈ l) : sameArgsF a l = true := sameArgsF_iff.2 h
theorem law8big (n : Nat) (x : Nat → Int) (st : Int) (h : 60 < n) : ToldOk P37 G37 8 [.view 1 n (fun j => [.int .i64 (x j)]) none, .int .i64 st] (.bool true) := by
  refine stepV_told hm37 hn37 okK37b (A := A8) (m := 0) ?_
  rw [(show stepV P37 G37 A8 K37b 0 8 [.view 1 n (fun j => [.int .i64 (x j)]) none, .int .i64 st] =
(    bif decide ((60 : Int) < Int.ofNat n) then
    some (T.bool true)
    else
    none) from by kernel_rfl)]
  have en : (Int.ofNat n : Int) = (n : Int) := rfl
  rw [dT (by omega)]; rfl
theorem law8bad (n : Nat) (x : Nat → Int) (st : Int) (h : n ≤ 60) (hg : gd st x n = false) : ToldOk P37 G37 8 [.view 1 n (fun j => [.int .i64 (x j)]) none, .int .i64 st] (.bool true) := by
  have hE : ToldOk P37 G37 19 [.view 1 n (fun j => [.int .i64 (x j)]) none, .int .i64 st] bad1 := by
    by_cases hs : st < 0
    · exact evenNeg n x none st hs
    · refine evenBad n x none st (by omega) (Classical.byContradiction fun hb => ?_)
      have : gd st x n = true := gd_iff.2 ⟨by omega, fun j hj => Classical.byContradiction fun q => hb ⟨j, hj, q⟩⟩
      rw [this] at hg; cases hg
  have okK := okK8 (l1 := [[.view 1 n (fun j => [.int .i64 (x j)]) none, .int .i64 st]]) (r1 := bad1) (l2 := []) (r2 := bad1) (l3 := []) (fun a ha => by simp only [List.mem_singleton] at ha; subst ha; exact hE) (fun a ha => by cases ha) (fun a ha => by cases ha)
  by_cases hs : 0 ≤ st
  · have hl := g6 .nils 1 st true (dT hs).symm [] n x none (by omega)
    rw [hg] at hl
    refine stepL_told hm37 hn37 okK (A := A8) (m := 0) (by kernel_rfl) (loops1 hl) ?_
    rw [(show stepL P37 G37 A8 (K8 [[.view 1 n (fun j => [.int .i64 (x j)]) none, .int .i64 st]] bad1 [] bad1 []) 0 8 [(6, litS [.view 1 n (fun j => [.int .i64 (x j)]) none, .int .i64 st, .nils, .int .i64 1, .bool true, .int .i64 0] [] (.exit 0) [.view 1 n (fun j => [.int .i64 (x j)]) none, .int .i64 st, .nils, .int .i64 1, .bool false] [])] [.view 1 n (fun j => [.int .i64 (x j)]) none, .int .i64 st] =
(    bif decide ((60 : Int) < Int.ofNat n) then
    some (T.bool true)
    else
    bif sameArgsF [T.view (1 : Nat) n (fun j => [T.int IntKind.i64 (x j)]) none, T.int IntKind.i64 st] [] then
    bif decide ((0 : Int) ≤ st) then
    bif sameStF
      [T.view (1 : Nat) n (fun j => [T.int IntKind.i64 (x j)]) none, T.int IntKind.i64 st, T.nils,
        T.int IntKind.i64 (1 : Int), T.bool true, T.int IntKind.i64 (0 : Int)]
      []
      [T.view (1 : Nat) n (fun j => [T.int IntKind.i64 (x j)]) none, T.int IntKind.i64 st, T.nils,
        T.int IntKind.i64 (1 : Int), T.bool true, T.int IntKind.i64 (0 : Int)]
      [] then
    some (T.bool true)
    else
    none
    else
    bif sameStF
      [T.view (1 : Nat) n (fun j => [T.int IntKind.i64 (x j)]) none, T.int IntKind.i64 st, T.nils,
        T.int IntKind.i64 (1 : Int), T.bool false, T.int IntKind.i64 (0 : Int)]
      []
      [T.view (1 : Nat) n (fun j => [T.int IntKind.i64 (x j)]) none, T.int IntKind.i64 st, T.nils,
        T.int IntKind.i64 (1 : Int), T.bool true, T.int IntKind.i64 (0 : Int)]
      [] then
    some (T.bool true)
    else
    none
    else
    bif sameArgsF [T.view (1 : Nat) n (fun j => [T.int IntKind.i64 (x j)]) none, T.int IntKind.i64 st]
      [[T.view (1 : Nat) n (fun j => [T.int IntKind.i64 (x j)]) none, T.int IntKind.i64 st]] then
    bif decide ((0 : Int) ≤ st) then
    bif sameStF
      [T.view (1 : Nat) n (fun j => [T.int IntKind.i64 (x j)]) none, T.int IntKind.i64 st, T.nils,
        T.int IntKind.i64 (1 : Int), T.bool true, T.int IntKind.i64 (0 : Int)]
      []
      [T.view (1 : Nat) n (fun j => [T.int IntKind.i64 (x j)]) none, T.int IntKind.i64 st, T.nils,
        T.int IntKind.i64 (1 : Int), T.bool true, T.int IntKind.i64 (0 : Int)]
      [] then
    some (T.bool true)
    else
    none
    else
    bif sameStF
      [T.view (1 : Nat) n (fun j => [T.int IntKind.i64 (x j)]) none, T.int IntKind.i64 st, T.nils,
        T.int IntKind.i64 (1 : Int), T.bool false, T.int IntKind.i64 (0 : Int)]
      []
      [T.view (1 : Nat) n (fun j => [T.int IntKind.i64 (x j)]) none, T.int IntKind.i64 st, T.nils,
        T.int IntKind.i64 (1 : Int), T.bool true, T.int IntKind.i64 (0 : Int)]
      [] then
    some (T.bool true)
    else
    none
    else
    none) from by kernel_rfl)]
    have en : (Int.ofNat n : Int) = (n : Int) := rfl
    rw [dF (by omega), cond_false, show sameArgsF _ [] = false by simp [sameArgsF], cond_false]
    refine bift (args_yes (by simp)) ?_
    rw [dT hs, cond_true]
    exact bift (sameStF_iff.2 ⟨rfl, .nil⟩) rfl
  · have hl := g6 .nils 1 st false (dF hs).symm [] n x none (by omega)
    rw [hg] at hl
    refine stepL_told hm37 hn37 okK (A := A8) (m := 0) (by kernel_rfl) (loops1 hl) ?_
    rw [(show stepL P37 G37 A8 (K8 [[.view 1 n (fun j => [.int .i64 (x j)]) none, .int .i64 st]] bad1 [] bad1 []) 0 8 [(6, litS [.view 1 n (fun j => [.int .i64 (x j)]) none, .int .i64 st, .nils, .int .i64 1, .bool false, .int .i64 0] [] (.exit 0) [.view 1 n (fun j => [.int .i64 (x j)]) none, .int .i64 st, .nils, .int .i64 1, .bool false] [])] [.view 1 n (fun j => [.int .i64 (x j)]) none, .int .i64 st] =
(    bif decide ((60 : Int) < Int.ofNat n) then
    some (T.bool true)
    else
    bif sameArgsF [T.view (1 : Nat) n (fun j => [T.int IntKind.i64 (x j)]) none, T.int IntKind.i64 st] [] then
    bif decide ((0 : Int) ≤ st) then
    bif sameStF
      [T.view (1 : Nat) n (fun j => [T.int IntKind.i64 (x j)]) none, T.int IntKind.i64 st, T.nils,
        T.int IntKind.i64 (1 : Int), T.bool true, T.int IntKind.i64 (0 : Int)]
      []
      [T.view (1 : Nat) n (fun j => [T.int IntKind.i64 (x j)]) none, T.int IntKind.i64 st, T.nils,
        T.int IntKind.i64 (1 : Int), T.bool false, T.int IntKind.i64 (0 : Int)]
      [] then
    some (T.bool true)
    else
    none
    else
    bif sameStF
      [T.view (1 : Nat) n (fun j => [T.int IntKind.i64 (x j)]) none, T.int IntKind.i64 st, T.nils,
        T.int IntKind.i64 (1 : Int), T.bool false, T.int IntKind.i64 (0 : Int)]
      []
      [T.view (1 : Nat) n (fun j => [T.int IntKind.i64 (x j)]) none, T.int IntKind.i64 st, T.nils,
        T.int IntKind.i64 (1 : Int), T.bool false, T.int IntKind.i64 (0 : Int)]
      [] then
    some (T.bool true)
    else
    none
    else
    bif sameArgsF [T.view (1 : Nat) n (fun j => [T.int IntKind.i64 (x j)]) none, T.int IntKind.i64 st]
      [[T.view (1 : Nat) n (fun j => [T.int IntKind.i64 (x j)]) none, T.int IntKind.i64 st]] then
    bif decide ((0 : Int) ≤ st) then
    bif sameStF
      [T.view (1 : Nat) n (fun j => [T.int IntKind.i64 (x j)]) none, T.int IntKind.i64 st, T.nils,
        T.int IntKind.i64 (1 : Int), T.bool true, T.int IntKind.i64 (0 : Int)]
      []
      [T.view (1 : Nat) n (fun j => [T.int IntKind.i64 (x j)]) none, T.int IntKind.i64 st, T.nils,
        T.int IntKind.i64 (1 : Int), T.bool false, T.int IntKind.i64 (0 : Int)]
      [] then
    some (T.bool true)
    else
    none
    else
    bif sameStF
      [T.view (1 : Nat) n (fun j => [T.int IntKind.i64 (x j)]) none, T.int IntKind.i64 st, T.nils,
        T.int IntKind.i64 (1 : Int), T.bool false, T.int IntKind.i64 (0 : Int)]
      []
      [T.view (1 : Nat) n (fun j => [T.int IntKind.i64 (x j)]) none, T.int IntKind.i64 st, T.nils,
        T.int IntKind.i64 (1 : Int), T.bool false, T.int IntKind.i64 (0 : Int)]
      [] then
    some (T.bool true)
    else
    none
    else
    none) from by kernel_rfl)]
    have en : (Int.ofNat n : Int) = (n : Int) := rfl
    rw [dF (by omega), cond_false, show sameArgsF _ [] = false by simp [sameArgsF], cond_false]
    refine bift (args_yes (by simp)) ?_
    rw [dF hs, cond_false]
    exact bift (sameStF_iff.2 ⟨rfl, .nil⟩) rfl
theorem law8good (m : Nat) (x : Nat → Int) (st : Int) (h : m + 1 ≤ 60) (hg : gd st x (m + 1) = true) : ToldOk P37 G37 8 [.view 1 (m + 1) (fun j => [.int .i64 (x j)]) none, .int .i64 st] (.bool true) := by
  obtain ⟨hs0, hx⟩ := gd_iff.1 hg
  have hs := cap80_bd hs0
  have hes : (bif decide (80000 < st) then 80000 else st) = cap80 st := by
    unfold cap80
    by_cases q : 80000 < st
    · rw [dT q, if_pos q]; rfl
    · rw [dF q, if_neg q]; rfl
  have hev : ∀ j, j < m + 1 → 0 ≤ Even.ev x (cap80 st) (m + 1) j ∧ Even.ev x (cap80 st) (m + 1) j ≤ 80000 := fun j hj => Even.ev_bd hs.1 hj hx
  have t1 := evenGood (m + 1) x none st (by omega) hx hs0
  have t2 := evenGood (m + 1) (fun j => Even.bwr x (cap80 st) (m + 1) (m + 1 - 1 - (0 + (0 + j)))) (some (m + 1)) st (by omega) (fun j hj => by
    have := hev j hj
    unfold Even.ev at this
    simpa only [Nat.zero_add] using this) hs0
  have e1 : ∀ j, j < m + 1 → Even.bwr x (cap80 st) (m + 1) (m + 1 - 1 - (0 + (0 + j))) = Even.wk x (cap80 st) (0 + j) (m + 1) := fun j hj => by
    have := Even.ev_eq_wk (x := x) hs.1 hj
    unfold Even.ev at this
    simp only [Nat.zero_add]
    exact this
  have t3 := sameN (m + 1) (fun j => Even.bwr x (cap80 st) (m + 1) (m + 1 - 1 - (0 + (0 + j)))) (fun j => Even.wk x (cap80 st) (0 + j) (m + 1)) none (by omega) e1
  have t4 := sameN (m + 1) (fun j => Even.bwr (fun j => Even.bwr x (cap80 st) (m + 1) (m + 1 - 1 - (0 + (0 + j)))) (cap80 st) (m + 1) (m + 1 - 1 - (0 + (0 + j)))) (fun j => Even.wk x (cap80 st) (0 + j) (m + 1)) none (by omega) (fun j hj => by
    rw [← e1 j hj]
    have := Even.ev_ev (x := x) hs.1 hj (fun j => Even.bwr x (cap80 st) (m + 1) (m + 1 - 1 - (0 + (0 + j)))) (fun k hk => by simp [Even.ev])
    unfold Even.ev at this
    simpa only [Nat.zero_add] using this)
  generalize cap80 st = s at *
  have okK := okK8 (fun a ha => (by simp only [List.mem_singleton] at ha; subst ha; exact t1 : ToldOk P37 G37 19 a _)) (l1 := [[.view 1 (m + 1) (fun j => [.int .i64 (x j)]) none, .int .i64 st]])
    (l2 := [[.view 1 (m + 1) (fun j => [.int .i64 (Even.bwr x s (m + 1) (m + 1 - 1 - (0 + (0 + j))))]) (some (m + 1)), .int .i64 st]]) (fun a ha => (by simp only [List.mem_singleton] at ha; subst ha; exact t2 : ToldOk P37 G37 19 a _))
    (l3 := [[.view 1 (m + 1) (fun j => [.int .i64 (Even.bwr x s (m + 1) (m + 1 - 1 - (0 + (0 + j))))]) (some (m + 1)), .view 1 (m + 1) (fun j => [.int .i64 (Even.wk x s (0 + j) (m + 1))]) none],
      [.view 1 (m + 1) (fun j => [.int .i64 (Even.bwr (fun j => Even.bwr x s (m + 1) (m + 1 - 1 - (0 + (0 + j)))) s (m + 1) (m + 1 - 1 - (0 + (0 + j))))]) (some (m + 1)), .view 1 (m + 1) (fun j => [.int .i64 (Even.wk x s (0 + j) (m + 1))]) none]])
    (fun a ha => by simp only [List.mem_cons, List.not_mem_nil, or_false] at ha; rcases ha with rfl | rfl; exact t3; exact t4)
  have hl1 := g6 (.own 0 0 0 (m + 1) (some (m + 1))) 0 st true (dT hs0).symm [⟨0, 1, m + 1, evG x s (m + 1), true, false⟩] (m + 1) x none (by omega)
  rw [hg] at hl1
  have hl2 := o14 s st ⟨0, 1, m + 1, evG x s (m + 1), true, false⟩ rfl (m + 1) x none (by omega) hs hx
  generalize hG1 : evG x s (m + 1) = G1 at okK hl1 hl2
  generalize hG2 : evG (fun j => Even.bwr x s (m + 1) (m + 1 - 1 - (0 + (0 + j)))) s (m + 1) = G2 at okK
  generalize hW : (fun i => Even.wk x s i (m + 1)) = W at hl2
  refine stepL_told hm37 hn37 okK (A := A8) (m := 0) (by kernel_rfl) (loopsC hl1 (loops1 hl2)) ?_
  generalize hL1 : [[T.view 1 (m + 1) (fun j => [T.int .i64 (x j)]) none, T.int .i64 st]] = l1
  generalize hL2 : [[T.view 1 (m + 1) (fun j => [T.int .i64 (Even.bwr x s (m + 1) (m + 1 - 1 - (0 + (0 + j))))]) (some (m + 1)), T.int .i64 st]] = l2
  generalize hL3 : [[T.view 1 (m + 1) (fun j => [T.int .i64 (Even.bwr x s (m + 1) (m + 1 - 1 - (0 + (0 + j))))]) (some (m + 1)), T.view 1 (m + 1) (fun j => [T.int .i64 (Even.wk x s (0 + j) (m + 1))]) none],
      [T.view 1 (m + 1) (fun j => [T.int .i64 (Even.bwr (fun j => Even.bwr x s (m + 1) (m + 1 - 1 - (0 + (0 + j)))) s (m + 1) (m + 1 - 1 - (0 + (0 + j))))]) (some (m + 1)), T.view 1 (m + 1) (fun j => [T.int .i64 (Even.wk x s (0 + j) (m + 1))]) none]] = l3
  rw [(show stepL P37 G37 A8 (K8 l1 (.tup [.fresh true 1 (m + 1) G1 (m + 1) (some (m + 1)), .int .i64 0]) l2 (.tup [.fresh true 1 (m + 1) G2 (m + 1) (some (m + 1)), .int .i64 0]) l3) 0 8 [(6, litS [.view 1 (m + 1) (fun j => [.int .i64 (x j)]) none, .int .i64 st, .own 0 0 0 (m + 1) (some (m + 1)), .int .i64 0, .bool true, .int .i64 0] [⟨0, 1, m + 1, G1, true, false⟩] (.exit 0)
      [.view 1 (m + 1) (fun j => [.int .i64 (x j)]) none, .int .i64 st, .own 0 0 0 (m + 1) (some (m + 1)), .int .i64 0, .bool true] [⟨0, 1, m + 1, G1, true, false⟩]), (14, litS [.view 1 (m + 1) (fun j => [.int .i64 (x j)]) none, .int .i64 st, .own 0 0 0 (m + 1) (some (m + 1)), .int .i64 0, .int .i64 s, .nils, .int .i64 0] [⟨0, 1, m + 1, G1, true, false⟩] (.exit 2)
      [.int .i64 st, .own 0 0 0 (m + 1) (some (m + 1)), .int .i64 0, wnt (m + 1)] (hh8 ⟨0, 1, m + 1, G1, true, false⟩ W (m + 1)))] [.view 1 (m + 1) (fun j => [.int .i64 (x j)]) none, .int .i64 st] =
(    bif decide ((60 : Int) < Int.ofNat (m + (1 : Nat))) then
    some (T.bool true)
    else
    bif sameArgsF [T.view (1 : Nat) (m + (1 : Nat)) (fun j => [T.int IntKind.i64 (x j)]) none, T.int IntKind.i64 st] l2 then
    bif decide ((0 : Int) ≤ st) then
    bif sameStF
      [T.view (1 : Nat) (m + (1 : Nat)) (fun j => [T.int IntKind.i64 (x j)]) none, T.int IntKind.i64 st,
        T.own (0 : Nat) (0 : Nat) (0 : Nat) (m + (1 : Nat)) (some (m + (1 : Nat))), T.int IntKind.i64 (0 : Int),
        T.bool true, T.int IntKind.i64 (0 : Int)]
      [Blk.mk (0 : Nat) (1 : Nat) (m + (1 : Nat)) G2 true false]
      [T.view (1 : Nat) (m + (1 : Nat)) (fun j => [T.int IntKind.i64 (x j)]) none, T.int IntKind.i64 st,
        T.own (0 : Nat) (0 : Nat) (0 : Nat) (m + (1 : Nat)) (some (m + (1 : Nat))), T.int IntKind.i64 (0 : Int),
        T.bool true, T.int IntKind.i64 (0 : Int)]
      [Blk.mk (0 : Nat) (1 : Nat) (m + (1 : Nat)) G1 true false] then
    bif sameStF
      [T.view (1 : Nat) (m + (1 : Nat)) (fun j => [T.int IntKind.i64 (x j)]) none, T.int IntKind.i64 st,
        T.own (0 : Nat) (0 : Nat) (0 : Nat) (m + (1 : Nat)) (some (m + (1 : Nat))), T.int IntKind.i64 (0 : Int),
        T.int IntKind.i64 (bif decide ((80000 : Int) < st) then (80000 : Int) else st), T.nils, T.int IntKind.i64 (0 : Int)]
      [Blk.mk (0 : Nat) (1 : Nat) (m + (1 : Nat)) G1 true false]
      [T.view (1 : Nat) (m + (1 : Nat)) (fun j => [T.int IntKind.i64 (x j)]) none, T.int IntKind.i64 st,
        T.own (0 : Nat) (0 : Nat) (0 : Nat) (m + (1 : Nat)) (some (m + (1 : Nat))), T.int IntKind.i64 (0 : Int),
        T.int IntKind.i64 s, T.nils, T.int IntKind.i64 (0 : Int)]
      [Blk.mk (0 : Nat) (1 : Nat) (m + (1 : Nat)) G1 true false] then
    bif sameArgsF
      [bif true && ((0 : Nat) + (m + (1 : Nat))).ble (m + (1 : Nat)) then
          T.view (1 : Nat) (m + (1 : Nat)) (fun j => G1 ((0 : Nat) + j)) (some (m + (1 : Nat)))
        else T.undef,
        T.int IntKind.i64 st]
      l2 then
    bif sameArgsF
      [bif true && ((0 : Nat) + (m + (1 : Nat))).ble (m + (1 : Nat)) then
          T.view (1 : Nat) (m + (1 : Nat)) (fun j => G1 ((0 : Nat) + j)) (some (m + (1 : Nat)))
        else T.undef,
        bif m == m && ((0 : Nat) + (m + (1 : Nat))).ble (m + (1 : Nat)) then
          T.view (1 : Nat) (m + (1 : Nat)) (fun j => [T.int IntKind.i64 (W ((0 : Nat) + j))]) none
        else T.undef]
      l3 then
    bif sameArgsF
      [bif true && ((0 : Nat) + (m + (1 : Nat))).ble (m + (1 : Nat)) then
          T.view (1 : Nat) (m + (1 : Nat)) (fun j => G2 ((0 : Nat) + j)) (some (m + (1 : Nat)))
        else T.undef,
        bif m == m && ((0 : Nat) + (m + (1 : Nat))).ble (m + (1 : Nat)) then
          T.view (1 : Nat) (m + (1 : Nat)) (fun j => [T.int IntKind.i64 (W ((0 : Nat) + j))]) none
        else T.undef]
      l3 then
    some (T.bool true)
    else
    none
    else
    none
    else
    bif sameArgsF
      [bif true && ((0 : Nat) + (m + (1 : Nat))).ble (m + (1 : Nat)) then
          T.view (1 : Nat) (m + (1 : Nat)) (fun j => G1 ((0 : Nat) + j)) (some (m + (1 : Nat)))
        else T.undef,
        T.int IntKind.i64 st]
      l1 then
    bif sameArgsF
      [bif true && ((0 : Nat) + (m + (1 : Nat))).ble (m + (1 : Nat)) then
          T.view (1 : Nat) (m + (1 : Nat)) (fun j => G1 ((0 : Nat) + j)) (some (m + (1 : Nat)))
        else T.undef,
        bif m == m && ((0 : Nat) + (m + (1 : Nat))).ble (m + (1 : Nat)) then
          T.view (1 : Nat) (m + (1 : Nat)) (fun j => [T.int IntKind.i64 (W ((0 : Nat) + j))]) none
        else T.undef]
      l3 then
    bif sameArgsF
      [bif true && ((0 : Nat) + (m + (1 : Nat))).ble (m + (1 : Nat)) then
          T.view (1 : Nat) (m + (1 : Nat)) (fun j => G1 ((0 : Nat) + j)) (some (m + (1 : Nat)))
        else T.undef,
        bif m == m && ((0 : Nat) + (m + (1 : Nat))).ble (m + (1 : Nat)) then
          T.view (1 : Nat) (m + (1 : Nat)) (fun j => [T.int IntKind.i64 (W ((0 : Nat) + j))]) none
        else T.undef]
      l3 then
    some (T.bool true)
    else
    none
    else
    none
    else
    none
    else
    none
    else
    none
    else
    bif sameStF
      [T.view (1 : Nat) (m + (1 : Nat)) (fun j => [T.int IntKind.i64 (x j)]) none, T.int IntKind.i64 st,
        T.own (0 : Nat) (0 : Nat) (0 : Nat) (m + (1 : Nat)) (some (m + (1 : Nat))), T.int IntKind.i64 (0 : Int),
        T.bool false, T.int IntKind.i64 (0 : Int)]
      [Blk.mk (0 : Nat) (1 : Nat) (m + (1 : Nat)) G2 true false]
      [T.view (1 : Nat) (m + (1 : Nat)) (fun j => [T.int IntKind.i64 (x j)]) none, T.int IntKind.i64 st,
        T.own (0 : Nat) (0 : Nat) (0 : Nat) (m + (1 : Nat)) (some (m + (1 : Nat))), T.int IntKind.i64 (0 : Int),
        T.bool true, T.int IntKind.i64 (0 : Int)]
      [Blk.mk (0 : Nat) (1 : Nat) (m + (1 : Nat)) G1 true false] then
    bif sameStF
      [T.view (1 : Nat) (m + (1 : Nat)) (fun j => [T.int IntKind.i64 (x j)]) none, T.int IntKind.i64 st,
        T.own (0 : Nat) (0 : Nat) (0 : Nat) (m + (1 : Nat)) (some (m + (1 : Nat))), T.int IntKind.i64 (0 : Int),
        T.int IntKind.i64 (bif decide ((80000 : Int) < st) then (80000 : Int) else st), T.nils, T.int IntKind.i64 (0 : Int)]
      [Blk.mk (0 : Nat) (1 : Nat) (m + (1 : Nat)) G1 true false]
      [T.view (1 : Nat) (m + (1 : Nat)) (fun j => [T.int IntKind.i64 (x j)]) none, T.int IntKind.i64 st,
        T.own (0 : Nat) (0 : Nat) (0 : Nat) (m + (1 : Nat)) (some (m + (1 : Nat))), T.int IntKind.i64 (0 : Int),
        T.int IntKind.i64 s, T.nils, T.int IntKind.i64 (0 : Int)]
      [Blk.mk (0 : Nat) (1 : Nat) (m + (1 : Nat)) G1 true false] then
    bif sameArgsF
      [bif true && ((0 : Nat) + (m + (1 : Nat))).ble (m + (1 : Nat)) then
          T.view (1 : Nat) (m + (1 : Nat)) (fun j => G1 ((0 : Nat) + j)) (some (m + (1 : Nat)))
        else T.undef,
        T.int IntKind.i64 st]
      l2 then
    bif sameArgsF
      [bif true && ((0 : Nat) + (m + (1 : Nat))).ble (m + (1 : Nat)) then
          T.view (1 : Nat) (m + (1 : Nat)) (fun j => G1 ((0 : Nat) + j)) (some (m + (1 : Nat)))
        else T.undef,
        bif m == m && ((0 : Nat) + (m + (1 : Nat))).ble (m + (1 : Nat)) then
          T.view (1 : Nat) (m + (1 : Nat)) (fun j => [T.int IntKind.i64 (W ((0 : Nat) + j))]) none
        else T.undef]
      l3 then
    bif sameArgsF
      [bif true && ((0 : Nat) + (m + (1 : Nat))).ble (m + (1 : Nat)) then
          T.view (1 : Nat) (m + (1 : Nat)) (fun j => G2 ((0 : Nat) + j)) (some (m + (1 : Nat)))
        else T.undef,
        bif m == m && ((0 : Nat) + (m + (1 : Nat))).ble (m + (1 : Nat)) then
          T.view (1 : Nat) (m + (1 : Nat)) (fun j => [T.int IntKind.i64 (W ((0 : Nat) + j))]) none
        else T.undef]
      l3 then
    some (T.bool true)
    else
    none
    else
    none
    else
    bif sameArgsF
      [bif true && ((0 : Nat) + (m + (1 : Nat))).ble (m + (1 : Nat)) then
          T.view (1 : Nat) (m + (1 : Nat)) (fun j => G1 ((0 : Nat) + j)) (some (m + (1 : Nat)))
        else T.undef,
        T.int IntKind.i64 st]
      l1 then
    bif sameArgsF
      [bif true && ((0 : Nat) + (m + (1 : Nat))).ble (m + (1 : Nat)) then
          T.view (1 : Nat) (m + (1 : Nat)) (fun j => G1 ((0 : Nat) + j)) (some (m + (1 : Nat)))
        else T.undef,
        bif m == m && ((0 : Nat) + (m + (1 : Nat))).ble (m + (1 : Nat)) then
          T.view (1 : Nat) (m + (1 : Nat)) (fun j => [T.int IntKind.i64 (W ((0 : Nat) + j))]) none
        else T.undef]
      l3 then
    bif sameArgsF
      [bif true && ((0 : Nat) + (m + (1 : Nat))).ble (m + (1 : Nat)) then
          T.view (1 : Nat) (m + (1 : Nat)) (fun j => G1 ((0 : Nat) + j)) (some (m + (1 : Nat)))
        else T.undef,
        bif m == m && ((0 : Nat) + (m + (1 : Nat))).ble (m + (1 : Nat)) then
          T.view (1 : Nat) (m + (1 : Nat)) (fun j => [T.int IntKind.i64 (W ((0 : Nat) + j))]) none
        else T.undef]
      l3 then
    some (T.bool true)
    else
    none
    else
    none
    else
    none
    else
    none
    else
    none
    else
    bif sameArgsF [T.view (1 : Nat) (m + (1 : Nat)) (fun j => [T.int IntKind.i64 (x j)]) none, T.int IntKind.i64 st] l1 then
    bif decide ((0 : Int) ≤ st) then
    bif sameStF
      [T.view (1 : Nat) (m + (1 : Nat)) (fun j => [T.int IntKind.i64 (x j)]) none, T.int IntKind.i64 st,
        T.own (0 : Nat) (0 : Nat) (0 : Nat) (m + (1 : Nat)) (some (m + (1 : Nat))), T.int IntKind.i64 (0 : Int),
        T.bool true, T.int IntKind.i64 (0 : Int)]
      [Blk.mk (0 : Nat) (1 : Nat) (m + (1 : Nat)) G1 true false]
      [T.view (1 : Nat) (m + (1 : Nat)) (fun j => [T.int IntKind.i64 (x j)]) none, T.int IntKind.i64 st,
        T.own (0 : Nat) (0 : Nat) (0 : Nat) (m + (1 : Nat)) (some (m + (1 : Nat))), T.int IntKind.i64 (0 : Int),
        T.bool true, T.int IntKind.i64 (0 : Int)]
      [Blk.mk (0 : Nat) (1 : Nat) (m + (1 : Nat)) G1 true false] then
    bif sameStF
      [T.view (1 : Nat) (m + (1 : Nat)) (fun j => [T.int IntKind.i64 (x j)]) none, T.int IntKind.i64 st,
        T.own (0 : Nat) (0 : Nat) (0 : Nat) (m + (1 : Nat)) (some (m + (1 : Nat))), T.int IntKind.i64 (0 : Int),
        T.int IntKind.i64 (bif decide ((80000 : Int) < st) then (80000 : Int) else st), T.nils, T.int IntKind.i64 (0 : Int)]
      [Blk.mk (0 : Nat) (1 : Nat) (m + (1 : Nat)) G1 true false]
      [T.view (1 : Nat) (m + (1 : Nat)) (fun j => [T.int IntKind.i64 (x j)]) none, T.int IntKind.i64 st,
        T.own (0 : Nat) (0 : Nat) (0 : Nat) (m + (1 : Nat)) (some (m + (1 : Nat))), T.int IntKind.i64 (0 : Int),
        T.int IntKind.i64 s, T.nils, T.int IntKind.i64 (0 : Int)]
      [Blk.mk (0 : Nat) (1 : Nat) (m + (1 : Nat)) G1 true false] then
    bif sameArgsF
      [bif true && ((0 : Nat) + (m + (1 : Nat))).ble (m + (1 : Nat)) then
          T.view (1 : Nat) (m + (1 : Nat)) (fun j => G1 ((0 : Nat) + j)) (some (m + (1 : Nat)))
        else T.undef,
        T.int IntKind.i64 st]
      l2 then
    bif sameArgsF
      [bif true && ((0 : Nat) + (m + (1 : Nat))).ble (m + (1 : Nat)) then
          T.view (1 : Nat) (m + (1 : Nat)) (fun j => G1 ((0 : Nat) + j)) (some (m + (1 : Nat)))
        else T.undef,
        bif m == m && ((0 : Nat) + (m + (1 : Nat))).ble (m + (1 : Nat)) then
          T.view (1 : Nat) (m + (1 : Nat)) (fun j => [T.int IntKind.i64 (W ((0 : Nat) + j))]) none
        else T.undef]
      l3 then
    bif sameArgsF
      [bif true && ((0 : Nat) + (m + (1 : Nat))).ble (m + (1 : Nat)) then
          T.view (1 : Nat) (m + (1 : Nat)) (fun j => G2 ((0 : Nat) + j)) (some (m + (1 : Nat)))
        else T.undef,
        bif m == m && ((0 : Nat) + (m + (1 : Nat))).ble (m + (1 : Nat)) then
          T.view (1 : Nat) (m + (1 : Nat)) (fun j => [T.int IntKind.i64 (W ((0 : Nat) + j))]) none
        else T.undef]
      l3 then
    some (T.bool true)
    else
    none
    else
    none
    else
    bif sameArgsF
      [bif true && ((0 : Nat) + (m + (1 : Nat))).ble (m + (1 : Nat)) then
          T.view (1 : Nat) (m + (1 : Nat)) (fun j => G1 ((0 : Nat) + j)) (some (m + (1 : Nat)))
        else T.undef,
        T.int IntKind.i64 st]
      l1 then
    bif sameArgsF
      [bif true && ((0 : Nat) + (m + (1 : Nat))).ble (m + (1 : Nat)) then
          T.view (1 : Nat) (m + (1 : Nat)) (fun j => G1 ((0 : Nat) + j)) (some (m + (1 : Nat)))
        else T.undef,
        bif m == m && ((0 : Nat) + (m + (1 : Nat))).ble (m + (1 : Nat)) then
          T.view (1 : Nat) (m + (1 : Nat)) (fun j => [T.int IntKind.i64 (W ((0 : Nat) + j))]) none
        else T.undef]
      l3 then
    bif sameArgsF
      [bif true && ((0 : Nat) + (m + (1 : Nat))).ble (m + (1 : Nat)) then
          T.view (1 : Nat) (m + (1 : Nat)) (fun j => G1 ((0 : Nat) + j)) (some (m + (1 : Nat)))
        else T.undef,
        bif m == m && ((0 : Nat) + (m + (1 : Nat))).ble (m + (1 : Nat)) then
          T.view (1 : Nat) (m + (1 : Nat)) (fun j => [T.int IntKind.i64 (W ((0 : Nat) + j))]) none
        else T.undef]
      l3 then
    some (T.bool true)
    else
    none
    else
    none
    else
    none
    else
    none
    else
    none
    else
    bif sameStF
      [T.view (1 : Nat) (m + (1 : Nat)) (fun j => [T.int IntKind.i64 (x j)]) none, T.int IntKind.i64 st,
        T.own (0 : Nat) (0 : Nat) (0 : Nat) (m + (1 : Nat)) (some (m + (1 : Nat))), T.int IntKind.i64 (0 : Int),
        T.bool false, T.int IntKind.i64 (0 : Int)]
      [Blk.mk (0 : Nat) (1 : Nat) (m + (1 : Nat)) G1 true false]
      [T.view (1 : Nat) (m + (1 : Nat)) (fun j => [T.int IntKind.i64 (x j)]) none, T.int IntKind.i64 st,
        T.own (0 : Nat) (0 : Nat) (0 : Nat) (m + (1 : Nat)) (some (m + (1 : Nat))), T.int IntKind.i64 (0 : Int),
        T.bool true, T.int IntKind.i64 (0 : Int)]
      [Blk.mk (0 : Nat) (1 : Nat) (m + (1 : Nat)) G1 true false] then
    bif sameStF
      [T.view (1 : Nat) (m + (1 : Nat)) (fun j => [T.int IntKind.i64 (x j)]) none, T.int IntKind.i64 st,
        T.own (0 : Nat) (0 : Nat) (0 : Nat) (m + (1 : Nat)) (some (m + (1 : Nat))), T.int IntKind.i64 (0 : Int),
        T.int IntKind.i64 (bif decide ((80000 : Int) < st) then (80000 : Int) else st), T.nils, T.int IntKind.i64 (0 : Int)]
      [Blk.mk (0 : Nat) (1 : Nat) (m + (1 : Nat)) G1 true false]
      [T.view (1 : Nat) (m + (1 : Nat)) (fun j => [T.int IntKind.i64 (x j)]) none, T.int IntKind.i64 st,
        T.own (0 : Nat) (0 : Nat) (0 : Nat) (m + (1 : Nat)) (some (m + (1 : Nat))), T.int IntKind.i64 (0 : Int),
        T.int IntKind.i64 s, T.nils, T.int IntKind.i64 (0 : Int)]
      [Blk.mk (0 : Nat) (1 : Nat) (m + (1 : Nat)) G1 true false] then
    bif sameArgsF
      [bif true && ((0 : Nat) + (m + (1 : Nat))).ble (m + (1 : Nat)) then
          T.view (1 : Nat) (m + (1 : Nat)) (fun j => G1 ((0 : Nat) + j)) (some (m + (1 : Nat)))
        else T.undef,
        T.int IntKind.i64 st]
      l2 then
    bif sameArgsF
      [bif true && ((0 : Nat) + (m + (1 : Nat))).ble (m + (1 : Nat)) then
          T.view (1 : Nat) (m + (1 : Nat)) (fun j => G1 ((0 : Nat) + j)) (some (m + (1 : Nat)))
        else T.undef,
        bif m == m && ((0 : Nat) + (m + (1 : Nat))).ble (m + (1 : Nat)) then
          T.view (1 : Nat) (m + (1 : Nat)) (fun j => [T.int IntKind.i64 (W ((0 : Nat) + j))]) none
        else T.undef]
      l3 then
    bif sameArgsF
      [bif true && ((0 : Nat) + (m + (1 : Nat))).ble (m + (1 : Nat)) then
          T.view (1 : Nat) (m + (1 : Nat)) (fun j => G2 ((0 : Nat) + j)) (some (m + (1 : Nat)))
        else T.undef,
        bif m == m && ((0 : Nat) + (m + (1 : Nat))).ble (m + (1 : Nat)) then
          T.view (1 : Nat) (m + (1 : Nat)) (fun j => [T.int IntKind.i64 (W ((0 : Nat) + j))]) none
        else T.undef]
      l3 then
    some (T.bool true)
    else
    none
    else
    none
    else
    bif sameArgsF
      [bif true && ((0 : Nat) + (m + (1 : Nat))).ble (m + (1 : Nat)) then
          T.view (1 : Nat) (m + (1 : Nat)) (fun j => G1 ((0 : Nat) + j)) (some (m + (1 : Nat)))
        else T.undef,
        T.int IntKind.i64 st]
      l1 then
    bif sameArgsF
      [bif true && ((0 : Nat) + (m + (1 : Nat))).ble (m + (1 : Nat)) then
          T.view (1 : Nat) (m + (1 : Nat)) (fun j => G1 ((0 : Nat) + j)) (some (m + (1 : Nat)))
        else T.undef,
        bif m == m && ((0 : Nat) + (m + (1 : Nat))).ble (m + (1 : Nat)) then
          T.view (1 : Nat) (m + (1 : Nat)) (fun j => [T.int IntKind.i64 (W ((0 : Nat) + j))]) none
        else T.undef]
      l3 then
    bif sameArgsF
      [bif true && ((0 : Nat) + (m + (1 : Nat))).ble (m + (1 : Nat)) then
          T.view (1 : Nat) (m + (1 : Nat)) (fun j => G1 ((0 : Nat) + j)) (some (m + (1 : Nat)))
        else T.undef,
        bif m == m && ((0 : Nat) + (m + (1 : Nat))).ble (m + (1 : Nat)) then
          T.view (1 : Nat) (m + (1 : Nat)) (fun j => [T.int IntKind.i64 (W ((0 : Nat) + j))]) none
        else T.undef]
      l3 then
    some (T.bool true)
    else
    none
    else
    none
    else
    none
    else
    none
    else
    none
    else
    none) from by kernel_rfl)]
  have en : (Int.ofNat (m + 1) : Int) = (m : Int) + 1 := rfl
  have hb1 : (0 + (m + 1)).ble (m + 1) = true := bleT (by omega)
  have hb2 : (m == m) = true := by simp
  simp only [hb1, hb2, Bool.and_self, cond_true]
  rw [dF (show ¬ (60 : Int) < Int.ofNat (m + 1) by omega), cond_false, ← hL2, args_no (by simp), cond_false]
  refine bift (args_yes (by rw [← hL1]; simp)) ?_
  rw [dT hs0, cond_true]
  refine bift (sameStF_iff.2 ⟨rfl, .refl _⟩) ?_
  refine bift (sameStF_iff.2 ⟨by rw [hes], .refl _⟩) ?_
  refine bift (args_yes (by rw [← hG1]; exact List.mem_singleton.2 rfl)) ?_
  refine bift (args_yes (by rw [← hG1, ← hL3, ← hW]; exact List.mem_cons_self)) ?_
  refine bift (args_yes (by rw [← hG2, ← hL3, ← hW]; exact List.mem_cons_of_mem _ List.mem_cons_self)) ?_
  rfl
end Go.Ab

namespace Go.Ab
open Go.Proofs
theorem gd0 {st : Int} {x : Nat → Int} : gd st x 0 = decide (0 ≤ st) := rfl
theorem law8zero (x : Nat → Int) (st : Int) (hs0 : 0 ≤ st) : ToldOk P37 G37 8 [.view 1 0 (fun j => [.int .i64 (x j)]) none, .int .i64 st] (.bool true) := by
  have t1 := evenGood 0 x none st (by omega) (fun j hj => by omega) hs0
  have t2 := evenGood 0 (fun j => Even.bwr x (cap80 st) 0 (0 - 1 - (0 + (0 + j)))) (some 0) st (by omega) (fun j hj => by omega) hs0
  generalize cap80 st = s at *
  have okK := okK8 (l1 := [[.view 1 0 (fun j => [.int .i64 (x j)]) none, .int .i64 st]]) (l2 := [[.view 1 0 (fun j => [.int .i64 (Even.bwr x s 0 (0 - 1 - (0 + (0 + j))))]) (some 0), .int .i64 st]])
    (l3 := [[.view 1 0 (fun j => evG x s 0 (0 + j)) (some 0), .nils], [.view 1 0 (fun j => evG (fun j => Even.bwr x s 0 (0 - 1 - (0 + (0 + j)))) s 0 (0 + j)) (some 0), .nils]])
    (fun a ha => (by simp only [List.mem_singleton] at ha; subst ha; exact t1 : ToldOk P37 G37 19 a _)) (fun a ha => (by simp only [List.mem_singleton] at ha; subst ha; exact t2 : ToldOk P37 G37 19 a _)) (fun a ha => by simp only [List.mem_cons, List.not_mem_nil, or_false] at ha; rcases ha with rfl | rfl <;> exact sameZ _)
  generalize hG1 : evG x s 0 = G1 at okK
  generalize hG2 : evG (fun j => Even.bwr x s 0 (0 - 1 - (0 + (0 + j)))) s 0 = G2 at okK
  refine stepV_told hm37 hn37 okK (A := A8) (m := 1) ?_
  generalize hL1 : [[T.view 1 0 (fun j => [T.int .i64 (x j)]) none, T.int .i64 st]] = l1
  generalize hL2 : [[T.view 1 0 (fun j => [T.int .i64 (Even.bwr x s 0 (0 - 1 - (0 + (0 + j))))]) (some 0), T.int .i64 st]] = l2
  generalize hL3 : [[T.view 1 0 (fun j => G1 (0 + j)) (some 0), T.nils], [T.view 1 0 (fun j => G2 (0 + j)) (some 0), T.nils]] = l3
  rw [(show stepV P37 G37 A8 (K8 l1 (.tup [.fresh true 1 0 G1 0 (some 0), .int .i64 0]) l2 (.tup [.fresh true 1 0 G2 0 (some 0), .int .i64 0]) l3) 1 8 [.view 1 0 (fun j => [.int .i64 (x j)]) none, .int .i64 st] =
(    bif sameArgsF [T.view (1 : Nat) (0 : Nat) (fun j => [T.int IntKind.i64 (x j)]) none, T.int IntKind.i64 st] l2 then
    bif decide ((0 : Int) ≤ st) then
    bif sameArgsF [T.view (1 : Nat) (0 : Nat) (fun j => G2 ((0 : Nat) + j)) (some (0 : Nat)), T.int IntKind.i64 st] l2 then
    bif sameArgsF [T.view (1 : Nat) (0 : Nat) (fun j => G2 ((0 : Nat) + j)) (some (0 : Nat)), T.nils] l3 then
    bif sameArgsF [T.view (1 : Nat) (0 : Nat) (fun j => G2 ((0 : Nat) + j)) (some (0 : Nat)), T.nils] l3 then
    some (T.bool true)
    else
    none
    else
    none
    else
    bif sameArgsF [T.view (1 : Nat) (0 : Nat) (fun j => G2 ((0 : Nat) + j)) (some (0 : Nat)), T.int IntKind.i64 st] l1 then
    bif sameArgsF [T.view (1 : Nat) (0 : Nat) (fun j => G2 ((0 : Nat) + j)) (some (0 : Nat)), T.nils] l3 then
    bif sameArgsF [T.view (1 : Nat) (0 : Nat) (fun j => G1 ((0 : Nat) + j)) (some (0 : Nat)), T.nils] l3 then
    some (T.bool true)
    else
    none
    else
    none
    else
    none
    else
    none
    else
    bif sameArgsF [T.view (1 : Nat) (0 : Nat) (fun j => [T.int IntKind.i64 (x j)]) none, T.int IntKind.i64 st] l1 then
    bif decide ((0 : Int) ≤ st) then
    bif sameArgsF [T.view (1 : Nat) (0 : Nat) (fun j => G1 ((0 : Nat) + j)) (some (0 : Nat)), T.int IntKind.i64 st] l2 then
    bif sameArgsF [T.view (1 : Nat) (0 : Nat) (fun j => G1 ((0 : Nat) + j)) (some (0 : Nat)), T.nils] l3 then
    bif sameArgsF [T.view (1 : Nat) (0 : Nat) (fun j => G2 ((0 : Nat) + j)) (some (0 : Nat)), T.nils] l3 then
    some (T.bool true)
    else
    none
    else
    none
    else
    bif sameArgsF [T.view (1 : Nat) (0 : Nat) (fun j => G1 ((0 : Nat) + j)) (some (0 : Nat)), T.int IntKind.i64 st] l1 then
    bif sameArgsF [T.view (1 : Nat) (0 : Nat) (fun j => G1 ((0 : Nat) + j)) (some (0 : Nat)), T.nils] l3 then
    bif sameArgsF [T.view (1 : Nat) (0 : Nat) (fun j => G1 ((0 : Nat) + j)) (some (0 : Nat)), T.nils] l3 then
    some (T.bool true)
    else
    none
    else
    none
    else
    none
    else
    none
    else
    none) from by kernel_rfl)]
  rw [← hL2, args_no (by simp), cond_false]
  refine bift (args_yes (by rw [← hL1]; simp)) ?_
  rw [dT hs0, cond_true]
  refine bift (args_yes (by rw [← hG1]; exact List.mem_singleton.2 rfl)) ?_
  refine bift (args_yes (by rw [← hL3]; exact List.mem_cons_self)) ?_
  refine bift (args_yes (by rw [← hL3]; exact List.mem_cons_of_mem _ List.mem_cons_self)) ?_
  rfl
theorem evenNil (st : Int) (h : 0 ≤ st) : ToldOk P37 G37 19 [.nils, .int .i64 st] (.tup [.fresh true 1 0 (fun _ => [.int .i64 0]) 0 (some 0), .int .i64 0]) := by
  refine stepV_told hm37 hn37 okK37b (A := A37) (m := 1) ?_
  rw [(show stepV P37 G37 A37 K37b 1 19 [.nils, .int .i64 st] =
(    bif decide (st < (0 : Int)) then
    some (T.tup [T.nils, T.int IntKind.i64 (1 : Int)])
    else
    some (T.tup
      [T.fresh true (1 : Nat) (0 : Nat) (fun j => [T.int IntKind.i64 (0 : Int)]) (0 : Nat) (some (0 : Nat)),
        T.int IntKind.i64 (0 : Int)])) from by kernel_rfl)]
  rw [dF (by omega), cond_false]
theorem evenNilNeg (st : Int) (h : st < 0) : ToldOk P37 G37 19 [.nils, .int .i64 st] bad1 := by
  refine stepV_told hm37 hn37 okK37b (A := A37) (m := 1) ?_
  rw [(show stepV P37 G37 A37 K37b 1 19 [.nils, .int .i64 st] =
(    bif decide (st < (0 : Int)) then
    some (T.tup [T.nils, T.int IntKind.i64 (1 : Int)])
    else
    some (T.tup
      [T.fresh true (1 : Nat) (0 : Nat) (fun j => [T.int IntKind.i64 (0 : Int)]) (0 : Nat) (some (0 : Nat)),
        T.int IntKind.i64 (0 : Int)])) from by kernel_rfl)]
  rw [dT h]
  rfl
theorem law8nil (st : Int) : ToldOk P37 G37 8 [.nils, .int .i64 st] (.bool true) := by
  by_cases hs0 : 0 ≤ st
  · have t1 := evenNil st hs0
    have t2 := evenGood 0 (fun _ => 0) (some 0) st (by omega) (fun j hj => by omega) hs0
    generalize cap80 st = s at *
    have okK := okK8 (l1 := [[.nils, .int .i64 st]]) (l2 := [[.view 1 0 (fun j => [.int .i64 0]) (some 0), .int .i64 st]])
      (l3 := [[.view 1 0 (fun j => [.int .i64 0]) (some 0), .nils], [.view 1 0 (fun j => evG (fun _ => 0) s 0 (0 + j)) (some 0), .nils]])
      (fun a ha => (by simp only [List.mem_singleton] at ha; subst ha; exact t1 : ToldOk P37 G37 19 a _)) (fun a ha => (by simp only [List.mem_singleton] at ha; subst ha; exact t2 : ToldOk P37 G37 19 a _)) (fun a ha => by simp only [List.mem_cons, List.not_mem_nil, or_false] at ha; rcases ha with rfl | rfl <;> exact sameZ _)
    generalize hG2 : evG (fun _ => 0) s 0 = G2 at okK
    refine stepV_told hm37 hn37 okK (A := A8) (m := 1) ?_
    generalize hL1 : [[T.nils, T.int .i64 st]] = l1
    generalize hL2 : [[T.view 1 0 (fun j => [T.int .i64 0]) (some 0), T.int .i64 st]] = l2
    generalize hL3 : [[T.view 1 0 (fun j => [T.int .i64 0]) (some 0), T.nils], [T.view 1 0 (fun j => G2 (0 + j)) (some 0), T.nils]] = l3
    rw [(show stepV P37 G37 A8 (K8 l1 (.tup [.fresh true 1 0 (fun _ => [.int .i64 0]) 0 (some 0), .int .i64 0]) l2 (.tup [.fresh true 1 0 G2 0 (some 0), .int .i64 0]) l3) 1 8 [.nils, .int .i64 st] =
(    bif sameArgsF [T.nils, T.int IntKind.i64 st] l2 then
    bif decide ((0 : Int) ≤ st) then
    bif sameArgsF [T.view (1 : Nat) (0 : Nat) (fun j => G2 ((0 : Nat) + j)) (some (0 : Nat)), T.int IntKind.i64 st] l2 then
    bif sameArgsF [T.view (1 : Nat) (0 : Nat) (fun j => G2 ((0 : Nat) + j)) (some (0 : Nat)), T.nils] l3 then
    bif sameArgsF [T.view (1 : Nat) (0 : Nat) (fun j => G2 ((0 : Nat) + j)) (some (0 : Nat)), T.nils] l3 then
    some (T.bool true)
    else
    none
    else
    none
    else
    bif sameArgsF [T.view (1 : Nat) (0 : Nat) (fun j => G2 ((0 : Nat) + j)) (some (0 : Nat)), T.int IntKind.i64 st] l1 then
    bif sameArgsF [T.view (1 : Nat) (0 : Nat) (fun j => G2 ((0 : Nat) + j)) (some (0 : Nat)), T.nils] l3 then
    bif sameArgsF [T.view (1 : Nat) (0 : Nat) (fun j => [T.int IntKind.i64 (0 : Int)]) (some (0 : Nat)), T.nils] l3 then
    some (T.bool true)
    else
    none
    else
    none
    else
    none
    else
    none
    else
    bif sameArgsF [T.nils, T.int IntKind.i64 st] l1 then
    bif decide ((0 : Int) ≤ st) then
    bif sameArgsF
      [T.view (1 : Nat) (0 : Nat) (fun j => [T.int IntKind.i64 (0 : Int)]) (some (0 : Nat)), T.int IntKind.i64 st] l2 then
    bif sameArgsF [T.view (1 : Nat) (0 : Nat) (fun j => [T.int IntKind.i64 (0 : Int)]) (some (0 : Nat)), T.nils] l3 then
    bif sameArgsF [T.view (1 : Nat) (0 : Nat) (fun j => G2 ((0 : Nat) + j)) (some (0 : Nat)), T.nils] l3 then
    some (T.bool true)
    else
    none
    else
    none
    else
    bif sameArgsF
      [T.view (1 : Nat) (0 : Nat) (fun j => [T.int IntKind.i64 (0 : Int)]) (some (0 : Nat)), T.int IntKind.i64 st] l1 then
    bif sameArgsF [T.view (1 : Nat) (0 : Nat) (fun j => [T.int IntKind.i64 (0 : Int)]) (some (0 : Nat)), T.nils] l3 then
    bif sameArgsF [T.view (1 : Nat) (0 : Nat) (fun j => [T.int IntKind.i64 (0 : Int)]) (some (0 : Nat)), T.nils] l3 then
    some (T.bool true)
    else
    none
    else
    none
    else
    none
    else
    none
    else
    none) from by kernel_rfl)]
    rw [← hL2, args_no (by simp), cond_false]
    refine bift (args_yes (by rw [← hL1]; simp)) ?_
    rw [dT hs0, cond_true]
    refine bift (args_yes (List.mem_singleton.2 rfl)) ?_
    refine bift (args_yes (by rw [← hL3]; exact List.mem_cons_self)) ?_
    refine bift (args_yes (by rw [← hL3]; exact List.mem_cons_of_mem _ List.mem_cons_self)) ?_
    rfl
  · have t1 := evenNilNeg st (by omega)
    have okK := okK8 (l1 := [[.nils, .int .i64 st]]) (r1 := bad1) (l2 := []) (r2 := bad1) (l3 := []) (fun a ha => by simp only [List.mem_singleton] at ha; subst ha; exact t1) (fun a ha => by cases ha) (fun a ha => by cases ha)
    refine stepV_told hm37 hn37 okK (A := A8) (m := 1) ?_
    rw [(show stepV P37 G37 A8 (K8 [[.nils, .int .i64 st]] bad1 [] bad1 []) 1 8 [.nils, .int .i64 st] =
(    bif sameArgsF [T.nils, T.int IntKind.i64 st] [] then
    bif decide ((0 : Int) ≤ st) then
    bif sameArgsF [T.nils, T.int IntKind.i64 st] [] then
    none
    else
    bif sameArgsF [T.nils, T.int IntKind.i64 st] [[T.nils, T.int IntKind.i64 st]] then
    none
    else
    none
    else
    some (T.bool true)
    else
    bif sameArgsF [T.nils, T.int IntKind.i64 st] [[T.nils, T.int IntKind.i64 st]] then
    bif decide ((0 : Int) ≤ st) then
    bif sameArgsF [T.nils, T.int IntKind.i64 st] [] then
    none
    else
    bif sameArgsF [T.nils, T.int IntKind.i64 st] [[T.nils, T.int IntKind.i64 st]] then
    none
    else
    none
    else
    some (T.bool true)
    else
    none) from by kernel_rfl)]
    rw [show sameArgsF _ [] = false by simp [sameArgsF], cond_false]
    refine bift (args_yes (by simp)) ?_
    rw [dF hs0]
    rfl
theorem law8 (n : Nat) (x : Nat → Int) (st : Int) : ToldOk P37 G37 8 [.view 1 n (fun j => [.int .i64 (x j)]) none, .int .i64 st] (.bool true) := by
  by_cases h : 60 < n
  · exact law8big n x st h
  cases hg : gd st x n with
  | false => exact law8bad n x st (by omega) hg
  | true =>
    cases n with
    | zero => exact law8zero x st (by simpa [gd] using hg)
    | succ m => exact law8good m x st (by omega) hg
end Go.Ab

namespace Go.Ab
open Go.Proofs
variable {H : Type}
theorem agg31 : aggTy P37 31 = false := by kernel_rfl
theorem cells3_37 : P37.cellsOf 3 = 1 := by kernel_rfl
theorem inv31 {ts : List T} {d : DataW H} (h : CT P37 31 ts d) : topT P37 31 ts = .nils ∨ ∃ (n : Nat) (x : Nat → Int), Sim (topT P37 31 ts) (.view 1 n (fun j => [.int .i64 (x j)]) none) ∧ n ≤ maxLen ∧ ∀ j, j < n → -9223372036854775808 ≤ x j ∧ x j ≤ 9223372036854775807 := by
  rcases h.slice_inv Try.underlying31 (by rw [cells3_37]; omega) with ⟨rfl, rfl⟩ | ⟨n, c, g, elems, spare, rfl, rfl, he, hs, hn, hc, hg⟩
  · exact .inl (by simp [topT, agg31])
  · refine .inr ⟨n, fun j => intAt (g j), ?_, by omega, fun j hj => ?_⟩
    · have e : topT P37 31 [.view (P37.cellsOf 3) n g (some c)] = .view 1 n g (some c) := by simp [topT, agg31, cells3_37]
      rw [e]
      refine .view (.inr rfl) fun j hj => ?_
      have hj' : j < elems.length := by omega
      obtain ⟨v, hv, _, _⟩ := (hg j elems[j] (by simp [hj'])).int_inv Try.underlying3
      show Sims (g j) [.int .i64 (intAt (g j))]
      rw [hv]
      exact .refl _
    · have hj' : j < elems.length := by omega
      obtain ⟨v, hv, _, w⟩ := (hg j elems[j] (by simp [hj'])).int_inv Try.underlying3
      dsimp only
      rw [hv]
      exact wf_i64 w
end Go.Ab

