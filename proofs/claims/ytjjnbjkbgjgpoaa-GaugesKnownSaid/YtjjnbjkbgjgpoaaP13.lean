/- A part of the proof: nothing is assumed. -/
import Derived.Test.YtjjnbjkbgjgpoaaP12
set_option linter.all false
namespace Go.Ab
open Go.Proofs
noncomputable def A8 : FuncId → Ann := annWith A37 8 [(10, 61, true), (26, 125, true)]
noncomputable def even1 (l1 : List (List T)) (r1 : T) (l2 : List (List T)) (r2 : T) (args : List T) : Tree := .ite (sameArgsF args l2) (.ret r2) (callS l1 r1 args)
noncomputable def K8 (l1 : List (List T)) (r1 : T) (l2 : List (List T)) (r2 : T) (l3 : List (List T)) : Orc := (K37b.add 19 (even1 l1 r1 l2 r2)).add 18 (callS l3 (.bool true))
theorem okK8 {l1 l2 l3 : List (List T)} {r1 r2 : T} (h1 : ∀ a ∈ l1, ToldOk P37 G37 19 a r1) (h2 : ∀ a ∈ l2, ToldOk P37 G37 19 a r2) (h3 : ∀ a ∈ l3, ToldOk P37 G37 18 a (.bool true)) : OrcOk P37 G37 (K8 l1 r1 l2 r2 l3) :=
  told_add (told_add okK37b fun args r h => by
    rcases Tree.ite_some h with ⟨hc, h⟩ | ⟨_, h⟩
    · obtain rfl := Tree.ret_some h
      exact h2 _ (sameArgsF_iff.1 hc)
    · exact callS_told h1 _ _ h) (callS_told h3)
end Go.Ab

namespace Go.Ab
open Go.Proofs
theorem args_no {a b : List T} (h : a ≠ b) : sameArgsF a [b] = false := by simp [sameArgsF, h]
theorem args_yes {a : List T} {l : List (List T)} (h : a ∈ l) : sameArgsF a l = true := sameArgsF_iff.2 h
theorem law8big (n : Nat) (x : Nat → Int) (st : Int) (h : 60 < n) : ToldOk P37 G37 8 [.view 1 n (fun j => [.int .i64 (x j)]) none, .int .i64 st] (.bool true) := by
  refine stepV_told hm37 hn37 okK37b (A := A8) (m := 0) ?_
  rw [(show stepV P37 G37 A8 K37b 0 8 [.view 1 n (fun j => [.int .i64 (x j)]) none, .int .i64 st] =
(    bif decide ((60 : Int) < Int.ofNat n) then
    some (T.bool true)
    else
    none) from by kernel_rfl)]
  have en : (Int.ofNat n : Int) = (n : Int) := rfl
  rw [dT (by omega)]; rfl
theorem law8bad (n : Nat) (x : Nat → Int) (st : Int) (h : n ≤ 60) (hg : gd st x n = false) : ToldOk P37 G37 8 [.view 1 n (fun j => [.int .i64 (x j)]) none, .int .i64 st] (.bool true) := by
  have hE : ToldOk P37 G37 19 [.view 1 n (fun j => [.int .i64 (x j)]) none, .int .i64 st] bad1 := by
    by_cases hs : st < 0
    · exact evenNeg n x none st hs
    · refine evenBad n x none st (by omega) (Classical.byContradiction fun hb => ?_)
      have : gd st x n = true := gd_iff.2 ⟨by omega, fun j hj => Classical.byContradiction fun q => hb ⟨j, hj, q⟩⟩
      rw [this] at hg; cases hg
  have okK := okK8 (l1 := [[.view 1 n (fun j => [.int .i64 (x j)]) none, .int .i64 st]]) (r1 := bad1) (l2 := []) (r2 := bad1) (l3 := []) (fun a ha => by simp only [List.mem_singleton] at ha; subst ha; exact hE) (fun a ha => by cases ha) (fun a ha => by cases ha)
  by_cases hs : 0 ≤ st
  · have hl := g6 .nils 1 st true (dT hs).symm [] n x none (by omega)
    rw [hg] at hl
    refine stepL_told hm37 hn37 okK (A := A8) (m := 0) (by kernel_rfl) (loops1 hl) ?_
    rw [(show stepL P37 G37 A8 (K8 [[.view 1 n (fun j => [.int .i64 (x j)]) none, .int .i64 st]] bad1 [] bad1 []) 0 8 [(6, litS [.view 1 n (fun j => [.int .i64 (x j)]) none, .int .i64 st, .nils, .int .i64 1, .bool true, .int .i64 0] [] (.exit 0) [.view 1 n (fun j => [.int .i64 (x j)]) none, .int .i64 st, .nils, .int .i64 1, .bool false] [])] [.view 1 n (fun j => [.int .i64 (x j)]) none, .int .i64 st] =
(    bif decide ((60 : Int) < Int.ofNat n) then
    some (T.bool true)
    else
    bif sameArgsF [T.view (1 : Nat) n (fun j => [T.int IntKind.i64 (x j)]) none, T.int IntKind.i64 st] [] then
    bif decide ((0 : Int) ≤ st) then
    bif sameStF
      [T.view (1 : Nat) n (fun j => [T.int IntKind.i64 (x j)]) none, T.int IntKind.i64 st, T.nils,
        T.int IntKind.i64 (1 : Int), T.bool true, T.int IntKind.i64 (0 : Int)]
      []
      [T.view (1 : Nat) n (fun j => [T.int IntKind.i64 (x j)]) none, T.int IntKind.i64 st, T.nils,
        T.int IntKind.i64 (1 : Int), T.bool true, T.int IntKind.i64 (0 : Int)]
      [] then
    some (T.bool true)
    else
    none
    else
    bif sameStF
      [T.view (1 : Nat) n (fun j => [T.int IntKind.i64 (x j)]) none, T.int IntKind.i64 st, T.nils,
        T.int IntKind.i64 (1 : Int), T.bool false, T.int IntKind.i64 (0 : Int)]
      []
      [T.view (1 : Nat) n (fun j => [T.int IntKind.i64 (x j)]) none, T.int IntKind.i64 st, T.nils,
        T.int IntKind.i64 (1 : Int), T.bool true, T.int IntKind.i64 (0 : Int)]
      [] then
    some (T.bool true)
    else
    none
    else
    bif sameArgsF [T.view (1 : Nat) n (fun j => [T.int IntKind.i64 (x j)]) none, T.int IntKind.i64 st]
      [[T.view (1 : Nat) n (fun j => [T.int IntKind.i64 (x j)]) none, T.int IntKind.i64 st]] then
    bif decide ((0 : Int) ≤ st) then
    bif sameStF
      [T.view (1 : Nat) n (fun j => [T.int IntKind.i64 (x j)]) none, T.int IntKind.i64 st, T.nils,
        T.int IntKind.i64 (1 : Int), T.bool true, T.int IntKind.i64 (0 : Int)]
      []
      [T.view (1 : Nat) n (fun j => [T.int IntKind.i64 (x j)]) none, T.int IntKind.i64 st, T.nils,
        T.int IntKind.i64 (1 : Int), T.bool true, T.int IntKind.i64 (0 : Int)]
      [] then
    some (T.bool true)
    else
    none
    else
    bif sameStF
      [T.view (1 : Nat) n (fun j => [T.int IntKind.i64 (x j)]) none, T.int IntKind.i64 st, T.nils,
        T.int IntKind.i64 (1 : Int), T.bool false, T.int IntKind.i64 (0 : Int)]
      []
      [T.view (1 : Nat) n (fun j => [T.int IntKind.i64 (x j)]) none, T.int IntKind.i64 st, T.nils,
        T.int IntKind.i64 (1 : Int), T.bool true, T.int IntKind.i64 (0 : Int)]
      [] then
    some (T.bool true)
    else
    none
    else
    none) from by kernel_rfl)]
    have en : (Int.ofNat n : Int) = (n : Int) := rfl
    rw [dF (by omega), cond_false, show sameArgsF _ [] = false by simp [sameArgsF], cond_false]
    refine bift (args_yes (by simp)) ?_
    rw [dT hs, cond_true]
    exact bift (sameStF_iff.2 ⟨rfl, .nil⟩) rfl
  · have hl := g6 .nils 1 st false (dF hs).symm [] n x none (by omega)
    rw [hg] at hl
    refine stepL_told hm37 hn37 okK (A := A8) (m := 0) (by kernel_rfl) (loops1 hl) ?_
    rw [(show stepL P37 G37 A8 (K8 [[.view 1 n (fun j => [.int .i64 (x j)]) none, .int .i64 st]] bad1 [] bad1 []) 0 8 [(6, litS [.view 1 n (fun j => [.int .i64 (x j)]) none, .int .i64 st, .nils, .int .i64 1, .bool false, .int .i64 0] [] (.exit 0) [.view 1 n (fun j => [.int .i64 (x j)]) none, .int .i64 st, .nils, .int .i64 1, .bool false] [])] [.view 1 n (fun j => [.int .i64 (x j)]) none, .int .i64 st] =
(    bif decide ((60 : Int) < Int.ofNat n) then
    some (T.bool true)
    else
    bif sameArgsF [T.view (1 : Nat) n (fun j => [T.int IntKind.i64 (x j)]) none, T.int IntKind.i64 st] [] then
    bif decide ((0 : Int) ≤ st) then
    bif sameStF
      [T.view (1 : Nat) n (fun j => [T.int IntKind.i64 (x j)]) none, T.int IntKind.i64 st, T.nils,
        T.int IntKind.i64 (1 : Int), T.bool true, T.int IntKind.i64 (0 : Int)]
      []
      [T.view (1 : Nat) n (fun j => [T.int IntKind.i64 (x j)]) none, T.int IntKind.i64 st, T.nils,
        T.int IntKind.i64 (1 : Int), T.bool false, T.int IntKind.i64 (0 : Int)]
      [] then
    some (T.bool true)
    else
    none
    else
    bif sameStF
      [T.view (1 : Nat) n (fun j => [T.int IntKind.i64 (x j)]) none, T.int IntKind.i64 st, T.nils,
        T.int IntKind.i64 (1 : Int), T.bool false, T.int IntKind.i64 (0 : Int)]
      []
      [T.view (1 : Nat) n (fun j => [T.int IntKind.i64 (x j)]) none, T.int IntKind.i64 st, T.nils,
        T.int IntKind.i64 (1 : Int), T.bool false, T.int IntKind.i64 (0 : Int)]
      [] then
    some (T.bool true)
    else
    none
    else
    bif sameArgsF [T.view (1 : Nat) n (fun j => [T.int IntKind.i64 (x j)]) none, T.int IntKind.i64 st]
      [[T.view (1 : Nat) n (fun j => [T.int IntKind.i64 (x j)]) none, T.int IntKind.i64 st]] then
    bif decide ((0 : Int) ≤ st) then
    bif sameStF
      [T.view (1 : Nat) n (fun j => [T.int IntKind.i64 (x j)]) none, T.int IntKind.i64 st, T.nils,
        T.int IntKind.i64 (1 : Int), T.bool true, T.int IntKind.i64 (0 : Int)]
      []
      [T.view (1 : Nat) n (fun j => [T.int IntKind.i64 (x j)]) none, T.int IntKind.i64 st, T.nils,
        T.int IntKind.i64 (1 : Int), T.bool false, T.int IntKind.i64 (0 : Int)]
      [] then
    some (T.bool true)
    else
    none
    else
    bif sameStF
      [T.view (1 : Nat) n (fun j => [T.int IntKind.i64 (x j)]) none, T.int IntKind.i64 st, T.nils,
        T.int IntKind.i64 (1 : Int), T.bool false, T.int IntKind.i64 (0 : Int)]
      []
      [T.view (1 : Nat) n (fun j => [T.int IntKind.i64 (x j)]) none, T.int IntKind.i64 st, T.nils,
        T.int IntKind.i64 (1 : Int), T.bool false, T.int IntKind.i64 (0 : Int)]
      [] then
    some (T.bool true)
    else
    none
    else
    none) from by kernel_rfl)]
    have en : (Int.ofNat n : Int) = (n : Int) := rfl
    rw [dF (by omega), cond_false, show sameArgsF _ [] = false by simp [sameArgsF], cond_false]
    refine bift (args_yes (by simp)) ?_
    rw [dF hs, cond_false]
    exact bift (sameStF_iff.2 ⟨rfl, .nil⟩) rfl
theorem law8good (m : Nat) (x : Nat → Int) (st : Int) (h : m + 1 ≤ 60) (hg : gd st x (m + 1) = true) : ToldOk P37 G37 8 [.view 1 (m + 1) (fun j => [.int .i64 (x j)]) none, .int .i64 st] (.bool true) := by
  obtain ⟨hs0, hx⟩ := gd_iff.1 hg
  have hs := cap80_bd hs0
  have hes : (bif decide (80000 < st) then 80000 else st) = cap80 st := by
    unfold cap80
    by_cases q : 80000 < st
    · rw [dT q, if_pos q]; rfl
    · rw [dF q, if_neg q]; rfl
  have hev : ∀ j, j < m + 1 → 0 ≤ Even.ev x (cap80 st) (m + 1) j ∧ Even.ev x (cap80 st) (m + 1) j ≤ 80000 := fun j hj => Even.ev_bd hs.1 hj hx
  have t1 := evenGood (m + 1) x none st (by omega) hx hs0
  have t2 := evenGood (m + 1) (fun j => Even.bwr x (cap80 st) (m + 1) (m + 1 - 1 - (0 + (0 + j)))) (some (m + 1)) st (by omega) (fun j hj => by
    have := hev j hj
    unfold Even.ev at this
    simpa only [Nat.zero_add] using this) hs0
  have e1 : ∀ j, j < m + 1 → Even.bwr x (cap80 st) (m + 1) (m + 1 - 1 - (0 + (0 + j))) = Even.wk x (cap80 st) (0 + j) (m + 1) := fun j hj => by
    have := Even.ev_eq_wk (x := x) hs.1 hj
    unfold Even.ev at this
    simp only [Nat.zero_add]
    exact this
  have t3 := sameN (m + 1) (fun j => Even.bwr x (cap80 st) (m + 1) (m + 1 - 1 - (0 + (0 + j)))) (fun j => Even.wk x (cap80 st) (0 + j) (m + 1)) none (by omega) e1
  have t4 := sameN (m + 1) (fun j => Even.bwr (fun j => Even.bwr x (cap80 st) (m + 1) (m + 1 - 1 - (0 + (0 + j)))) (cap80 st) (m + 1) (m + 1 - 1 - (0 + (0 + j)))) (fun j => Even.wk x (cap80 st) (0 + j) (m + 1)) none (by omega) (fun j hj => by
    rw [← e1 j hj]
    have := Even.ev_ev (x := x) hs.1 hj (fun j => Even.bwr x (cap80 st) (m + 1) (m + 1 - 1 - (0 + (0 + j)))) (fun k hk => by simp [Even.ev])
    unfold Even.ev at this
    simpa only [Nat.zero_add] using this)
  generalize cap80 st = s at *
  have okK := okK8 (fun a ha => (by simp only [List.mem_singleton] at ha; subst ha; exact t1 : ToldOk P37 G37 19 a _)) (l1 := [[.view 1 (m + 1) (fun j => [.int .i64 (x j)]) none, .int .i64 st]])
    (l2 := [[.view 1 (m + 1) (fun j => [.int .i64 (Even.bwr x s (m + 1) (m + 1 - 1 - (0 + (0 + j))))]) (some (m + 1)), .int .i64 st]]) (fun a ha => (by simp only [List.mem_singleton] at ha; subst ha; exact t2 : ToldOk P37 G37 19 a _))
    (l3 := [[.view 1 (m + 1) (fun j => [.int .i64 (Even.bwr x s (m + 1) (m + 1 - 1 - (0 + (0 + j))))]) (some (m + 1)), .view 1 (m + 1) (fun j => [.int .i64 (Even.wk x s (0 + j) (m + 1))]) none],
      [.view 1 (m + 1) (fun j => [.int .i64 (Even.bwr (fun j => Even.bwr x s (m + 1) (m + 1 - 1 - (0 + (0 + j)))) s (m + 1) (m + 1 - 1 - (0 + (0 + j))))]) (some (m + 1)), .view 1 (m + 1) (fun j => [.int .i64 (Even.wk x s (0 + j) (m + 1))]) none]])
    (fun a ha => by simp only [List.mem_cons, List.not_mem_nil, or_false] at ha; rcases ha with rfl | rfl; exact t3; exact t4)
  have hl1 := g6 (.own 0 0 0 (m + 1) (some (m + 1))) 0 st true (dT hs0).symm [⟨0, 1, m + 1, evG x s (m + 1), true, false⟩] (m + 1) x none (by omega)
  rw [hg] at hl1
  have hl2 := o14 s st ⟨0, 1, m + 1, evG x s (m + 1), true, false⟩ rfl (m + 1) x none (by omega) hs hx
  generalize hG1 : evG x s (m + 1) = G1 at okK hl1 hl2
  generalize hG2 : evG (fun j => Even.bwr x s (m + 1) (m + 1 - 1 - (0 + (0 + j)))) s (m + 1) = G2 at okK
  generalize hW : (fun i => Even.wk x s i (m + 1)) = W at hl2
  refine stepL_told hm37 hn37 okK (A := A8) (m := 0) (by kernel_rfl) (loopsC hl1 (loops1 hl2)) ?_
  generalize hL1 : [[T.view 1 (m + 1) (fun j => [T.int .i64 (x j)]) none, T.int .i64 st]] = l1
  generalize hL2 : [[T.view 1 (m + 1) (fun j => [T.int .i64 (Even.bwr x s (m + 1) (m + 1 - 1 - (0 + (0 + j))))]) (some (m + 1)), T.int .i64 st]] = l2
  generalize hL3 : [[T.view 1 (m + 1) (fun j => [T.int .i64 (Even.bwr x s (m + 1) (m + 1 - 1 - (0 + (0 + j))))]) (some (m + 1)), T.view 1 (m + 1) (fun j => [T.int .i64 (Even.wk x s (0 + j) (m + 1))]) none],
      [T.view 1 (m + 1) (fun j => [T.int .i64 (Even.bwr (fun j => Even.bwr x s (m + 1) (m + 1 - 1 - (0 + (0 + j)))) s (m + 1) (m + 1 - 1 - (0 + (0 + j))))]) (some (m + 1)), T.view 1 (m + 1) (fun j => [T.int .i64 (Even.wk x s (0 + j) (m + 1))]) none]] = l3
  rw [(show stepL P37 G37 A8 (K8 l1 (.tup [.fresh true 1 (m + 1) G1 (m + 1) (some (m + 1)), .int .i64 0]) l2 (.tup [.fresh true 1 (m + 1) G2 (m + 1) (some (m + 1)), .int .i64 0]) l3) 0 8 [(6, litS [.view 1 (m + 1) (fun j => [.int .i64 (x j)]) none, .int .i64 st, .own 0 0 0 (m + 1) (some (m + 1)), .int .i64 0, .bool true, .int .i64 0] [⟨0, 1, m + 1, G1, true, false⟩] (.exit 0)
      [.view 1 (m + 1) (fun j => [.int .i64 (x j)]) none, .int .i64 st, .own 0 0 0 (m + 1) (some (m + 1)), .int .i64 0, .bool true] [⟨0, 1, m + 1, G1, true, false⟩]), (14, litS [.view 1 (m + 1) (fun j => [.int .i64 (x j)]) none, .int .i64 st, .own 0 0 0 (m + 1) (some (m + 1)), .int .i64 0, .int .i64 s, .nils, .int .i64 0] [⟨0, 1, m + 1, G1, true, false⟩] (.exit 2)
      [.int .i64 st, .own 0 0 0 (m + 1) (some (m + 1)), .int .i64 0, wnt (m + 1)] (hh8 ⟨0, 1, m + 1, G1, true, false⟩ W (m + 1)))] [.view 1 (m + 1) (fun j => [.int .i64 (x j)]) none, .int .i64 st] =
(    bif decide ((60 : Int) < Int.ofNat (m + (1 : Nat))) then
    some (T.bool true)
    else
    bif sameArgsF [T.view (1 : Nat) (m + (1 : Nat)) (fun j => [T.int IntKind.i64 (x j)]) none, T.int IntKind.i64 st] l2 then
    bif decide ((0 : Int) ≤ st) then
    bif sameStF
      [T.view (1 : Nat) (m + (1 : Nat)) (fun j => [T.int IntKind.i64 (x j)]) none, T.int IntKind.i64 st,
        T.own (0 : Nat) (0 : Nat) (0 : Nat) (m + (1 : Nat)) (some (m + (1 : Nat))), T.int IntKind.i64 (0 : Int),
        T.bool true, T.int IntKind.i64 (0 : Int)]
      [Blk.mk (0 : Nat) (1 : Nat) (m + (1 : Nat)) G2 true false]
      [T.view (1 : Nat) (m + (1 : Nat)) (fun j => [T.int IntKind.i64 (x j)]) none, T.int IntKind.i64 st,
        T.own (0 : Nat) (0 : Nat) (0 : Nat) (m + (1 : Nat)) (some (m + (1 : Nat))), T.int IntKind.i64 (0 : Int),
        T.bool true, T.int IntKind.i64 (0 : Int)]
      [Blk.mk (0 : Nat) (1 : Nat) (m + (1 : Nat)) G1 true false] then
    bif sameStF
      [T.view (1 : Nat) (m + (1 : Nat)) (fun j => [T.int IntKind.i64 (x j)]) none, T.int IntKind.i64 st,
        T.own (0 : Nat) (0 : Nat) (0 : Nat) (m + (1 : Nat)) (some (m + (1 : Nat))), T.int IntKind.i64 (0 : Int),
        T.int IntKind.i64 (bif decide ((80000 : Int) < st) then (80000 : Int) else st), T.nils, T.int IntKind.i64 (0 : Int)]
      [Blk.mk (0 : Nat) (1 : Nat) (m + (1 : Nat)) G1 true false]
      [T.view (1 : Nat) (m + (1 : Nat)) (fun j => [T.int IntKind.i64 (x j)]) none, T.int IntKind.i64 st,
        T.own (0 : Nat) (0 : Nat) (0 : Nat) (m + (1 : Nat)) (some (m + (1 : Nat))), T.int IntKind.i64 (0 : Int),
        T.int IntKind.i64 s, T.nils, T.int IntKind.i64 (0 : Int)]
      [Blk.mk (0 : Nat) (1 : Nat) (m + (1 : Nat)) G1 true false] then
    bif sameArgsF
      [bif true && ((0 : Nat) + (m + (1 : Nat))).ble (m + (1 : Nat)) then
          T.view (1 : Nat) (m + (1 : Nat)) (fun j => G1 ((0 : Nat) + j)) (some (m + (1 : Nat)))
        else T.undef,
        T.int IntKind.i64 st]
      l2 then
    bif sameArgsF
      [bif true && ((0 : Nat) + (m + (1 : Nat))).ble (m + (1 : Nat)) then
          T.view (1 : Nat) (m + (1 : Nat)) (fun j => G1 ((0 : Nat) + j)) (some (m + (1 : Nat)))
        else T.undef,
        bif m == m && ((0 : Nat) + (m + (1 : Nat))).ble (m + (1 : Nat)) then
          T.view (1 : Nat) (m + (1 : Nat)) (fun j => [T.int IntKind.i64 (W ((0 : Nat) + j))]) none
        else T.undef]
      l3 then
    bif sameArgsF
      [bif true && ((0 : Nat) + (m + (1 : Nat))).ble (m + (1 : Nat)) then
          T.view (1 : Nat) (m + (1 : Nat)) (fun j => G2 ((0 : Nat) + j)) (some (m + (1 : Nat)))
        else T.undef,
        bif m == m && ((0 : Nat) + (m + (1 : Nat))).ble (m + (1 : Nat)) then
          T.view (1 : Nat) (m + (1 : Nat)) (fun j => [T.int IntKind.i64 (W ((0 : Nat) + j))]) none
        else T.undef]
      l3 then
    some (T.bool true)
    else
    none
    else
    none
    else
    bif sameArgsF
      [bif true && ((0 : Nat) + (m + (1 : Nat))).ble (m + (1 : Nat)) then
          T.view (1 : Nat) (m + (1 : Nat)) (fun j => G1 ((0 : Nat) + j)) (some (m + (1 : Nat)))
        else T.undef,
        T.int IntKind.i64 st]
      l1 then
    bif sameArgsF
      [bif true && ((0 : Nat) + (m + (1 : Nat))).ble (m + (1 : Nat)) then
          T.view (1 : Nat) (m + (1 : Nat)) (fun j => G1 ((0 : Nat) + j)) (some (m + (1 : Nat)))
        else T.undef,
        bif m == m && ((0 : Nat) + (m + (1 : Nat))).ble (m + (1 : Nat)) then
          T.view (1 : Nat) (m + (1 : Nat)) (fun j => [T.int IntKind.i64 (W ((0 : Nat) + j))]) none
        else T.undef]
      l3 then
    bif sameArgsF
      [bif true && ((0 : Nat) + (m + (1 : Nat))).ble (m + (1 : Nat)) then
          T.view (1 : Nat) (m + (1 : Nat)) (fun j => G1 ((0 : Nat) + j)) (some (m + (1 : Nat)))
        else T.undef,
        bif m == m && ((0 : Nat) + (m + (1 : Nat))).ble (m + (1 : Nat)) then
          T.view (1 : Nat) (m + (1 : Nat)) (fun j => [T.int IntKind.i64 (W ((0 : Nat) + j))]) none
        else T.undef]
      l3 then
    some (T.bool true)
    else
    none
    else
    none
    else
    none
    else
    none
    else
    none
    else
    bif sameStF
      [T.view (1 : Nat) (m + (1 : Nat)) (fun j => [T.int IntKind.i64 (x j)]) none, T.int IntKind.i64 st,
        T.own (0 : Nat) (0 : Nat) (0 : Nat) (m + (1 : Nat)) (some (m + (1 : Nat))), T.int IntKind.i64 (0 : Int),
        T.bool false, T.int IntKind.i64 (0 : Int)]
      [Blk.mk (0 : Nat) (1 : Nat) (m + (1 : Nat)) G2 true false]
      [T.view (1 : Nat) (m + (1 : Nat)) (fun j => [T.int IntKind.i64 (x j)]) none, T.int IntKind.i64 st,
        T.own (0 : Nat) (0 : Nat) (0 : Nat) (m + (1 : Nat)) (some (m + (1 : Nat))), T.int IntKind.i64 (0 : Int),
        T.bool true, T.int IntKind.i64 (0 : Int)]
      [Blk.mk (0 : Nat) (1 : Nat) (m + (1 : Nat)) G1 true false] then
    bif sameStF
      [T.view (1 : Nat) (m + (1 : Nat)) (fun j => [T.int IntKind.i64 (x j)]) none, T.int IntKind.i64 st,
        T.own (0 : Nat) (0 : Nat) (0 : Nat) (m + (1 : Nat)) (some (m + (1 : Nat))), T.int IntKind.i64 (0 : Int),
        T.int IntKind.i64 (bif decide ((80000 : Int) < st) then (80000 : Int) else st), T.nils, T.int IntKind.i64 (0 : Int)]
      [Blk.mk (0 : Nat) (1 : Nat) (m + (1 : Nat)) G1 true false]
      [T.view (1 : Nat) (m + (1 : Nat)) (fun j => [T.int IntKind.i64 (x j)]) none, T.int IntKind.i64 st,
        T.own (0 : Nat) (0 : Nat) (0 : Nat) (m + (1 : Nat)) (some (m + (1 : Nat))), T.int IntKind.i64 (0 : Int),
        T.int IntKind.i64 s, T.nils, T.int IntKind.i64 (0 : Int)]
      [Blk.mk (0 : Nat) (1 : Nat) (m + (1 : Nat)) G1 true false] then
    bif sameArgsF
      [bif true && ((0 : Nat) + (m + (1 : Nat))).ble (m + (1 : Nat)) then
          T.view (1 : Nat) (m + (1 : Nat)) (fun j => G1 ((0 : Nat) + j)) (some (m + (1 : Nat)))
        else T.undef,
        T.int IntKind.i64 st]
      l2 then
    bif sameArgsF
      [bif true && ((0 : Nat) + (m + (1 : Nat))).ble (m + (1 : Nat)) then
          T.view (1 : Nat) (m + (1 : Nat)) (fun j => G1 ((0 : Nat) + j)) (some (m + (1 : Nat)))
        else T.undef,
        bif m == m && ((0 : Nat) + (m + (1 : Nat))).ble (m + (1 : Nat)) then
          T.view (1 : Nat) (m + (1 : Nat)) (fun j => [T.int IntKind.i64 (W ((0 : Nat) + j))]) none
        else T.undef]
      l3 then
    bif sameArgsF
      [bif true && ((0 : Nat) + (m + (1 : Nat))).ble (m + (1 : Nat)) then
          T.view (1 : Nat) (m + (1 : Nat)) (fun j => G2 ((0 : Nat) + j)) (some (m + (1 : Nat)))
        else T.undef,
        bif m == m && ((0 : Nat) + (m + (1 : Nat))).ble (m + (1 : Nat)) then
          T.view (1 : Nat) (m + (1 : Nat)) (fun j => [T.int IntKind.i64 (W ((0 : Nat) + j))]) none
        else T.undef]
      l3 then
    some (T.bool true)
    else
    none
    else
    none
    else
    bif sameArgsF
      [bif true && ((0 : Nat) + (m + (1 : Nat))).ble (m + (1 : Nat)) then
          T.view (1 : Nat) (m + (1 : Nat)) (fun j => G1 ((0 : Nat) + j)) (some (m + (1 : Nat)))
        else T.undef,
        T.int IntKind.i64 st]
      l1 then
    bif sameArgsF
      [bif true && ((0 : Nat) + (m + (1 : Nat))).ble (m + (1 : Nat)) then
          T.view (1 : Nat) (m + (1 : Nat)) (fun j => G1 ((0 : Nat) + j)) (some (m + (1 : Nat)))
        else T.undef,
        bif m == m && ((0 : Nat) + (m + (1 : Nat))).ble (m + (1 : Nat)) then
          T.view (1 : Nat) (m + (1 : Nat)) (fun j => [T.int IntKind.i64 (W ((0 : Nat) + j))]) none
        else T.undef]
      l3 then
    bif sameArgsF
      [bif true && ((0 : Nat) + (m + (1 : Nat))).ble (m + (1 : Nat)) then
          T.view (1 : Nat) (m + (1 : Nat)) (fun j => G1 ((0 : Nat) + j)) (some (m + (1 : Nat)))
        else T.undef,
        bif m == m && ((0 : Nat) + (m + (1 : Nat))).ble (m + (1 : Nat)) then
          T.view (1 : Nat) (m + (1 : Nat)) (fun j => [T.int IntKind.i64 (W ((0 : Nat) + j))]) none
        else T.undef]
      l3 then
    some (T.bool true)
    else
    none
    else
    none
    else
    none
    else
    none
    else
    none
    else
    bif sameArgsF [T.view (1 : Nat) (m + (1 : Nat)) (fun j => [T.int IntKind.i64 (x j)]) none, T.int IntKind.i64 st] l1 then
    bif decide ((0 : Int) ≤ st) then
    bif sameStF
      [T.view (1 : Nat) (m + (1 : Nat)) (fun j => [T.int IntKind.i64 (x j)]) none, T.int IntKind.i64 st,
        T.own (0 : Nat) (0 : Nat) (0 : Nat) (m + (1 : Nat)) (some (m + (1 : Nat))), T.int IntKind.i64 (0 : Int),
        T.bool true, T.int IntKind.i64 (0 : Int)]
      [Blk.mk (0 : Nat) (1 : Nat) (m + (1 : Nat)) G1 true false]
      [T.view (1 : Nat) (m + (1 : Nat)) (fun j => [T.int IntKind.i64 (x j)]) none, T.int IntKind.i64 st,
        T.own (0 : Nat) (0 : Nat) (0 : Nat) (m + (1 : Nat)) (some (m + (1 : Nat))), T.int IntKind.i64 (0 : Int),
        T.bool true, T.int IntKind.i64 (0 : Int)]
      [Blk.mk (0 : Nat) (1 : Nat) (m + (1 : Nat)) G1 true false] then
    bif sameStF
      [T.view (1 : Nat) (m + (1 : Nat)) (fun j => [T.int IntKind.i64 (x j)]) none, T.int IntKind.i64 st,
        T.own (0 : Nat) (0 : Nat) (0 : Nat) (m + (1 : Nat)) (some (m + (1 : Nat))), T.int IntKind.i64 (0 : Int),
        T.int IntKind.i64 (bif decide ((80000 : Int) < st) then (80000 : Int) else st), T.nils, T.int IntKind.i64 (0 : Int)]
      [Blk.mk (0 : Nat) (1 : Nat) (m + (1 : Nat)) G1 true false]
      [T.view (1 : Nat) (m + (1 : Nat)) (fun j => [T.int IntKind.i64 (x j)]) none, T.int IntKind.i64 st,
        T.own (0 : Nat) (0 : Nat) (0 : Nat) (m + (1 : Nat)) (some (m + (1 : Nat))), T.int IntKind.i64 (0 : Int),
        T.int IntKind.i64 s, T.nils, T.int IntKind.i64 (0 : Int)]
      [Blk.mk (0 : Nat) (1 : Nat) (m + (1 : Nat)) G1 true false] then
    bif sameArgsF
      [bif true && ((0 : Nat) + (m + (1 : Nat))).ble (m + (1 : Nat)) then
          T.view (1 : Nat) (m + (1 : Nat)) (fun j => G1 ((0 : Nat) + j)) (some (m + (1 : Nat)))
        else T.undef,
        T.int IntKind.i64 st]
      l2 then
    bif sameArgsF
      [bif true && ((0 : Nat) + (m + (1 : Nat))).ble (m + (1 : Nat)) then
          T.view (1 : Nat) (m + (1 : Nat)) (fun j => G1 ((0 : Nat) + j)) (some (m + (1 : Nat)))
        else T.undef,
        bif m == m && ((0 : Nat) + (m + (1 : Nat))).ble (m + (1 : Nat)) then
          T.view (1 : Nat) (m + (1 : Nat)) (fun j => [T.int IntKind.i64 (W ((0 : Nat) + j))]) none
        else T.undef]
      l3 then
    bif sameArgsF
      [bif true && ((0 : Nat) + (m + (1 : Nat))).ble (m + (1 : Nat)) then
          T.view (1 : Nat) (m + (1 : Nat)) (fun j => G2 ((0 : Nat) + j)) (some (m + (1 : Nat)))
        else T.undef,
        bif m == m && ((0 : Nat) + (m + (1 : Nat))).ble (m + (1 : Nat)) then
          T.view (1 : Nat) (m + (1 : Nat)) (fun j => [T.int IntKind.i64 (W ((0 : Nat) + j))]) none
        else T.undef]
      l3 then
    some (T.bool true)
    else
    none
    else
    none
    else
    bif sameArgsF
      [bif true && ((0 : Nat) + (m + (1 : Nat))).ble (m + (1 : Nat)) then
          T.view (1 : Nat) (m + (1 : Nat)) (fun j => G1 ((0 : Nat) + j)) (some (m + (1 : Nat)))
        else T.undef,
        T.int IntKind.i64 st]
      l1 then
    bif sameArgsF
      [bif true && ((0 : Nat) + (m + (1 : Nat))).ble (m + (1 : Nat)) then
          T.view (1 : Nat) (m + (1 : Nat)) (fun j => G1 ((0 : Nat) + j)) (some (m + (1 : Nat)))
        else T.undef,
        bif m == m && ((0 : Nat) + (m + (1 : Nat))).ble (m + (1 : Nat)) then
          T.view (1 : Nat) (m + (1 : Nat)) (fun j => [T.int IntKind.i64 (W ((0 : Nat) + j))]) none
        else T.undef]
      l3 then
    bif sameArgsF
      [bif true && ((0 : Nat) + (m + (1 : Nat))).ble (m + (1 : Nat)) then
          T.view (1 : Nat) (m + (1 : Nat)) (fun j => G1 ((0 : Nat) + j)) (some (m + (1 : Nat)))
        else T.undef,
        bif m == m && ((0 : Nat) + (m + (1 : Nat))).ble (m + (1 : Nat)) then
          T.view (1 : Nat) (m + (1 : Nat)) (fun j => [T.int IntKind.i64 (W ((0 : Nat) + j))]) none
        else T.undef]
      l3 then
    some (T.bool true)
    else
    none
    else
    none
    else
    none
    else
    none
    else
    none
    else
    bif sameStF
      [T.view (1 : Nat) (m + (1 : Nat)) (fun j => [T.int IntKind.i64 (x j)]) none, T.int IntKind.i64 st,
        T.own (0 : Nat) (0 : Nat) (0 : Nat) (m + (1 : Nat)) (some (m + (1 : Nat))), T.int IntKind.i64 (0 : Int),
        T.bool false, T.int IntKind.i64 (0 : Int)]
      [Blk.mk (0 : Nat) (1 : Nat) (m + (1 : Nat)) G1 true false]
      [T.view (1 : Nat) (m + (1 : Nat)) (fun j => [T.int IntKind.i64 (x j)]) none, T.int IntKind.i64 st,
        T.own (0 : Nat) (0 : Nat) (0 : Nat) (m + (1 : Nat)) (some (m + (1 : Nat))), T.int IntKind.i64 (0 : Int),
        T.bool true, T.int IntKind.i64 (0 : Int)]
      [Blk.mk (0 : Nat) (1 : Nat) (m + (1 : Nat)) G1 true false] then
    bif sameStF
      [T.view (1 : Nat) (m + (1 : Nat)) (fun j => [T.int IntKind.i64 (x j)]) none, T.int IntKind.i64 st,
        T.own (0 : Nat) (0 : Nat) (0 : Nat) (m + (1 : Nat)) (some (m + (1 : Nat))), T.int IntKind.i64 (0 : Int),
        T.int IntKind.i64 (bif decide ((80000 : Int) < st) then (80000 : Int) else st), T.nils, T.int IntKind.i64 (0 : Int)]
      [Blk.mk (0 : Nat) (1 : Nat) (m + (1 : Nat)) G1 true false]
      [T.view (1 : Nat) (m + (1 : Nat)) (fun j => [T.int IntKind.i64 (x j)]) none, T.int IntKind.i64 st,
        T.own (0 : Nat) (0 : Nat) (0 : Nat) (m + (1 : Nat)) (some (m + (1 : Nat))), T.int IntKind.i64 (0 : Int),
        T.int IntKind.i64 s, T.nils, T.int IntKind.i64 (0 : Int)]
      [Blk.mk (0 : Nat) (1 : Nat) (m + (1 : Nat)) G1 true false] then
    bif sameArgsF
      [bif true && ((0 : Nat) + (m + (1 : Nat))).ble (m + (1 : Nat)) then
          T.view (1 : Nat) (m + (1 : Nat)) (fun j => G1 ((0 : Nat) + j)) (some (m + (1 : Nat)))
        else T.undef,
        T.int IntKind.i64 st]
      l2 then
    bif sameArgsF
      [bif true && ((0 : Nat) + (m + (1 : Nat))).ble (m + (1 : Nat)) then
          T.view (1 : Nat) (m + (1 : Nat)) (fun j => G1 ((0 : Nat) + j)) (some (m + (1 : Nat)))
        else T.undef,
        bif m == m && ((0 : Nat) + (m + (1 : Nat))).ble (m + (1 : Nat)) then
          T.view (1 : Nat) (m + (1 : Nat)) (fun j => [T.int IntKind.i64 (W ((0 : Nat) + j))]) none
        else T.undef]
      l3 then
    bif sameArgsF
      [bif true && ((0 : Nat) + (m + (1 : Nat))).ble (m + (1 : Nat)) then
          T.view (1 : Nat) (m + (1 : Nat)) (fun j => G2 ((0 : Nat) + j)) (some (m + (1 : Nat)))
        else T.undef,
        bif m == m && ((0 : Nat) + (m + (1 : Nat))).ble (m + (1 : Nat)) then
          T.view (1 : Nat) (m + (1 : Nat)) (fun j => [T.int IntKind.i64 (W ((0 : Nat) + j))]) none
        else T.undef]
      l3 then
    some (T.bool true)
    else
    none
    else
    none
    else
    bif sameArgsF
      [bif true && ((0 : Nat) + (m + (1 : Nat))).ble (m + (1 : Nat)) then
          T.view (1 : Nat) (m + (1 : Nat)) (fun j => G1 ((0 : Nat) + j)) (some (m + (1 : Nat)))
        else T.undef,
        T.int IntKind.i64 st]
      l1 then
    bif sameArgsF
      [bif true && ((0 : Nat) + (m + (1 : Nat))).ble (m + (1 : Nat)) then
          T.view (1 : Nat) (m + (1 : Nat)) (fun j => G1 ((0 : Nat) + j)) (some (m + (1 : Nat)))
        else T.undef,
        bif m == m && ((0 : Nat) + (m + (1 : Nat))).ble (m + (1 : Nat)) then
          T.view (1 : Nat) (m + (1 : Nat)) (fun j => [T.int IntKind.i64 (W ((0 : Nat) + j))]) none
        else T.undef]
      l3 then
    bif sameArgsF
      [bif true && ((0 : Nat) + (m + (1 : Nat))).ble (m + (1 : Nat)) then
          T.view (1 : Nat) (m + (1 : Nat)) (fun j => G1 ((0 : Nat) + j)) (some (m + (1 : Nat)))
        else T.undef,
        bif m == m && ((0 : Nat) + (m + (1 : Nat))).ble (m + (1 : Nat)) then
          T.view (1 : Nat) (m + (1 : Nat)) (fun j => [T.int IntKind.i64 (W ((0 : Nat) + j))]) none
        else T.undef]
      l3 then
    some (T.bool true)
    else
    none
    else
    none
    else
    none
    else
    none
    else
    none
    else
    none) from by kernel_rfl)]
  have en : (Int.ofNat (m + 1) : Int) = (m : Int) + 1 := rfl
  have hb1 : (0 + (m + 1)).ble (m + 1) = true := bleT (by omega)
  have hb2 : (m == m) = true := by simp
  simp only [hb1, hb2, Bool.and_self, cond_true]
  rw [dF (show ¬ (60 : Int) < Int.ofNat (m + 1) by omega), cond_false, ← hL2, args_no (by simp), cond_false]
  refine bift (args_yes (by rw [← hL1]; simp)) ?_
  rw [dT hs0, cond_true]
  refine bift (sameStF_iff.2 ⟨rfl, .refl _⟩) ?_
  refine bift (sameStF_iff.2 ⟨by rw [hes], .refl _⟩) ?_
  refine bift (args_yes (by rw [← hG1]; exact List.mem_singleton.2 rfl)) ?_
  refine bift (args_yes (by rw [← hG1, ← hL3, ← hW]; exact List.mem_cons_self)) ?_
  refine bift (args_yes (by rw [← hG2, ← hL3, ← hW]; exact List.mem_cons_of_mem _ List.mem_cons_self)) ?_
  rfl
end Go.Ab

namespace Go.Ab
open Go.Proofs
theorem gd0 {st : Int} {x : Nat → Int} : gd st x 0 = decide (0 ≤ st) := rfl
theorem law8zero (x : Nat → Int) (st : Int) (hs0 : 0 ≤ st) : ToldOk P37 G37 8 [.view 1 0 (fun j => [.int .i64 (x j)]) none, .int .i64 st] (.bool true) := by
  have t1 := evenGood 0 x none st (by omega) (fun j hj => by omega) hs0
  have t2 := evenGood 0 (fun j => Even.bwr x (cap80 st) 0 (0 - 1 - (0 + (0 + j)))) (some 0) st (by omega) (fun j hj => by omega) hs0
  generalize cap80 st = s at *
  have okK := okK8 (l1 := [[.view 1 0 (fun j => [.int .i64 (x j)]) none, .int .i64 st]]) (l2 := [[.view 1 0 (fun j => [.int .i64 (Even.bwr x s 0 (0 - 1 - (0 + (0 + j))))]) (some 0), .int .i64 st]])
    (l3 := [[.view 1 0 (fun j => evG x s 0 (0 + j)) (some 0), .nils], [.view 1 0 (fun j => evG (fun j => Even.bwr x s 0 (0 - 1 - (0 + (0 + j)))) s 0 (0 + j)) (some 0), .nils]])
    (fun a ha => (by simp only [List.mem_singleton] at ha; subst ha; exact t1 : ToldOk P37 G37 19 a _)) (fun a ha => (by simp only [List.mem_singleton] at ha; subst ha; exact t2 : ToldOk P37 G37 19 a _)) (fun a ha => by simp only [List.mem_cons, List.not_mem_nil, or_false] at ha; rcases ha with rfl | rfl <;> exact sameZ _)
  generalize hG1 : evG x s 0 = G1 at okK
  generalize hG2 : evG (fun j => Even.bwr x s 0 (0 - 1 - (0 + (0 + j)))) s 0 = G2 at okK
  refine stepV_told hm37 hn37 okK (A := A8) (m := 1) ?_
  generalize hL1 : [[T.view 1 0 (fun j => [T.int .i64 (x j)]) none, T.int .i64 st]] = l1
  generalize hL2 : [[T.view 1 0 (fun j => [T.int .i64 (Even.bwr x s 0 (0 - 1 - (0 + (0 + j))))]) (some 0), T.int .i64 st]] = l2
  generalize hL3 : [[T.view 1 0 (fun j => G1 (0 + j)) (some 0), T.nils], [T.view 1 0 (fun j => G2 (0 + j)) (some 0), T.nils]] = l3
  rw [(show stepV P37 G37 A8 (K8 l1 (.tup [.fresh true 1 0 G1 0 (some 0), .int .i64 0]) l2 (.tup [.fresh true 1 0 G2 0 (some 0), .int .i64 0]) l3) 1 8 [.view 1 0 (fun j => [.int .i64 (x j)]) none, .int .i64 st] =
(    bif sameArgsF [T.view (1 : Nat) (0 : Nat) (fun j => [T.int IntKind.i64 (x j)]) none, T.int IntKind.i64 st] l2 then
    bif decide ((0 : Int) ≤ st) then
    bif sameArgsF [T.view (1 : Nat) (0 : Nat) (fun j => G2 ((0 : Nat) + j)) (some (0 : Nat)), T.int IntKind.i64 st] l2 then
    bif sameArgsF [T.view (1 : Nat) (0 : Nat) (fun j => G2 ((0 : Nat) + j)) (some (0 : Nat)), T.nils] l3 then
    bif sameArgsF [T.view (1 : Nat) (0 : Nat) (fun j => G2 ((0 : Nat) + j)) (some (0 : Nat)), T.nils] l3 then
    some (T.bool true)
    else
    none
    else
    none
    else
    bif sameArgsF [T.view (1 : Nat) (0 : Nat) (fun j => G2 ((0 : Nat) + j)) (some (0 : Nat)), T.int IntKind.i64 st] l1 then
    bif sameArgsF [T.view (1 : Nat) (0 : Nat) (fun j => G2 ((0 : Nat) + j)) (some (0 : Nat)), T.nils] l3 then
    bif sameArgsF [T.view (1 : Nat) (0 : Nat) (fun j => G1 ((0 : Nat) + j)) (some (0 : Nat)), T.nils] l3 then
    some (T.bool true)
    else
    none
    else
    none
    else
    none
    else
    none
    else
    bif sameArgsF [T.view (1 : Nat) (0 : Nat) (fun j => [T.int IntKind.i64 (x j)]) none, T.int IntKind.i64 st] l1 then
    bif decide ((0 : Int) ≤ st) then
    bif sameArgsF [T.view (1 : Nat) (0 : Nat) (fun j => G1 ((0 : Nat) + j)) (some (0 : Nat)), T.int IntKind.i64 st] l2 then
    bif sameArgsF [T.view (1 : Nat) (0 : Nat) (fun j => G1 ((0 : Nat) + j)) (some (0 : Nat)), T.nils] l3 then
    bif sameArgsF [T.view (1 : Nat) (0 : Nat) (fun j => G2 ((0 : Nat) + j)) (some (0 : Nat)), T.nils] l3 then
    some (T.bool true)
    else
    none
    else
    none
    else
    bif sameArgsF [T.view (1 : Nat) (0 : Nat) (fun j => G1 ((0 : Nat) + j)) (some (0 : Nat)), T.int IntKind.i64 st] l1 then
    bif sameArgsF [T.view (1 : Nat) (0 : Nat) (fun j => G1 ((0 : Nat) + j)) (some (0 : Nat)), T.nils] l3 then
    bif sameArgsF [T.view (1 : Nat) (0 : Nat) (fun j => G1 ((0 : Nat) + j)) (some (0 : Nat)), T.nils] l3 then
    some (T.bool true)
    else
    none
    else
    none
    else
    none
    else
    none
    else
    none) from by kernel_rfl)]
  rw [← hL2, args_no (by simp), cond_false]
  refine bift (args_yes (by rw [← hL1]; simp)) ?_
  rw [dT hs0, cond_true]
  refine bift (args_yes (by rw [← hG1]; exact List.mem_singleton.2 rfl)) ?_
  refine bift (args_yes (by rw [← hL3]; exact List.mem_cons_self)) ?_
  refine bift (args_yes (by rw [← hL3]; exact List.mem_cons_of_mem _ List.mem_cons_self)) ?_
  rfl
theorem evenNil (st : Int) (h : 0 ≤ st) : ToldOk P37 G37 19 [.nils, .int .i64 st] (.tup [.fresh true 1 0 (fun _ => [.int .i64 0]) 0 (some 0), .int .i64 0]) := by
  refine stepV_told hm37 hn37 okK37b (A := A37) (m := 1) ?_
  rw [(show stepV P37 G37 A37 K37b 1 19 [.nils, .int .i64 st] =
(    bif decide (st < (0 : Int)) then
    some (T.tup [T.nils, T.int IntKind.i64 (1 : Int)])
    else
    some (T.tup
      [T.fresh true (1 : Nat) (0 : Nat) (fun j => [T.int IntKind.i64 (0 : Int)]) (0 : Nat) (some (0 : Nat)),
        T.int IntKind.i64 (0 : Int)])) from by kernel_rfl)]
  rw [dF (by omega), cond_false]
theorem evenNilNeg (st : Int) (h : st < 0) : ToldOk P37 G37 19 [.nils, .int .i64 st] bad1 := by
  refine stepV_told hm37 hn37 okK37b (A := A37) (m := 1) ?_
  rw [(show stepV P37 G37 A37 K37b 1 19 [.nils, .int .i64 st] =
(    bif decide (st < (0 : Int)) then
    some (T.tup [T.nils, T.int IntKind.i64 (1 : Int)])
    else
    some (T.tup
      [T.fresh true (1 : Nat) (0 : Nat) (fun j => [T.int IntKind.i64 (0 : Int)]) (0 : Nat) (some (0 : Nat)),
        T.int IntKind.i64 (0 : Int)])) from by kernel_rfl)]
  rw [dT h]
  rfl
theorem law8nil (st : Int) : ToldOk P37 G37 8 [.nils, .int .i64 st] (.bool true) := by
  by_cases hs0 : 0 ≤ st
  · have t1 := evenNil st hs0
    have t2 := evenGood 0 (fun _ => 0) (some 0) st (by omega) (fun j hj => by omega) hs0
    generalize cap80 st = s at *
    have okK := okK8 (l1 := [[.nils, .int .i64 st]]) (l2 := [[.view 1 0 (fun j => [.int .i64 0]) (some 0), .int .i64 st]])
      (l3 := [[.view 1 0 (fun j => [.int .i64 0]) (some 0), .nils], [.view 1 0 (fun j => evG (fun _ => 0) s 0 (0 + j)) (some 0), .nils]])
      (fun a ha => (by simp only [List.mem_singleton] at ha; subst ha; exact t1 : ToldOk P37 G37 19 a _)) (fun a ha => (by simp only [List.mem_singleton] at ha; subst ha; exact t2 : ToldOk P37 G37 19 a _)) (fun a ha => by simp only [List.mem_cons, List.not_mem_nil, or_false] at ha; rcases ha with rfl | rfl <;> exact sameZ _)
    generalize hG2 : evG (fun _ => 0) s 0 = G2 at okK
    refine stepV_told hm37 hn37 okK (A := A8) (m := 1) ?_
    generalize hL1 : [[T.nils, T.int .i64 st]] = l1
    generalize hL2 : [[T.view 1 0 (fun j => [T.int .i64 0]) (some 0), T.int .i64 st]] = l2
    generalize hL3 : [[T.view 1 0 (fun j => [T.int .i64 0]) (some 0), T.nils], [T.view 1 0 (fun j => G2 (0 + j)) (some 0), T.nils]] = l3
    rw [(show stepV P37 G37 A8 (K8 l1 (.tup [.fresh true 1 0 (fun _ => [.int .i64 0]) 0 (some 0), .int .i64 0]) l2 (.tup [.fresh true 1 0 G2 0 (some 0), .int .i64 0]) l3) 1 8 [.nils, .int .i64 st] =
(    bif sameArgsF [T.nils, T.int IntKind.i64 st] l2 then
    bif decide ((0 : Int) ≤ st) then
    bif sameArgsF [T.view (1 : Nat) (0 : Nat) (fun j => G2 ((0 : Nat) + j)) (some (0 : Nat)), T.int IntKind.i64 st] l2 then
    bif sameArgsF [T.view (1 : Nat) (0 : Nat) (fun j => G2 ((0 : Nat) + j)) (some (0 : Nat)), T.nils] l3 then
    bif sameArgsF [T.view (1 : Nat) (0 : Nat) (fun j => G2 ((0 : Nat) + j)) (some (0 : Nat)), T.nils] l3 then
    some (T.bool true)
    else
    none
    else
    none
    else
    bif sameArgsF [T.view (1 : Nat) (0 : Nat) (fun j => G2 ((0 : Nat) + j)) (some (0 : Nat)), T.int IntKind.i64 st] l1 then
    bif sameArgsF [T.view (1 : Nat) (0 : Nat) (fun j => G2 ((0 : Nat) + j)) (some (0 : Nat)), T.nils] l3 then
    bif sameArgsF [T.view (1 : Nat) (0 : Nat) (fun j => [T.int IntKind.i64 (0 : Int)]) (some (0 : Nat)), T.nils] l3 then
    some (T.bool true)
    else
    none
    else
    none
    else
    none
    else
    none
    else
    bif sameArgsF [T.nils, T.int IntKind.i64 st] l1 then
    bif decide ((0 : Int) ≤ st) then
    bif sameArgsF
      [T.view (1 : Nat) (0 : Nat) (fun j => [T.int IntKind.i64 (0 : Int)]) (some (0 : Nat)), T.int IntKind.i64 st] l2 then
    bif sameArgsF [T.view (1 : Nat) (0 : Nat) (fun j => [T.int IntKind.i64 (0 : Int)]) (some (0 : Nat)), T.nils] l3 then
    bif sameArgsF [T.view (1 : Nat) (0 : Nat) (fun j => G2 ((0 : Nat) + j)) (some (0 : Nat)), T.nils] l3 then
    some (T.bool true)
    else
    none
    else
    none
    else
    bif sameArgsF
      [T.view (1 : Nat) (0 : Nat) (fun j => [T.int IntKind.i64 (0 : Int)]) (some (0 : Nat)), T.int IntKind.i64 st] l1 then
    bif sameArgsF [T.view (1 : Nat) (0 : Nat) (fun j => [T.int IntKind.i64 (0 : Int)]) (some (0 : Nat)), T.nils] l3 then
    bif sameArgsF [T.view (1 : Nat) (0 : Nat) (fun j => [T.int IntKind.i64 (0 : Int)]) (some (0 : Nat)), T.nils] l3 then
    some (T.bool true)
    else
    none
    else
    none
    else
    none
    else
    none
    else
    none) from by kernel_rfl)]
    rw [← hL2, args_no (by simp), cond_false]
    refine bift (args_yes (by rw [← hL1]; simp)) ?_
    rw [dT hs0, cond_true]
    refine bift (args_yes (List.mem_singleton.2 rfl)) ?_
    refine bift (args_yes (by rw [← hL3]; exact List.mem_cons_self)) ?_
    refine bift (args_yes (by rw [← hL3]; exact List.mem_cons_of_mem _ List.mem_cons_self)) ?_
    rfl
  · have t1 := evenNilNeg st (by omega)
    have okK := okK8 (l1 := [[.nils, .int .i64 st]]) (r1 := bad1) (l2 := []) (r2 := bad1) (l3 := []) (fun a ha => by simp only [List.mem_singleton] at ha; subst ha; exact t1) (fun a ha => by cases ha) (fun a ha => by cases ha)
    refine stepV_told hm37 hn37 okK (A := A8) (m := 1) ?_
    rw [(show stepV P37 G37 A8 (K8 [[.nils, .int .i64 st]] bad1 [] bad1 []) 1 8 [.nils, .int .i64 st] =
(    bif sameArgsF [T.nils, T.int IntKind.i64 st] [] then
    bif decide ((0 : Int) ≤ st) then
    bif sameArgsF [T.nils, T.int IntKind.i64 st] [] then
    none
    else
    bif sameArgsF [T.nils, T.int IntKind.i64 st] [[T.nils, T.int IntKind.i64 st]] then
    none
    else
    none
    else
    some (T.bool true)
    else
    bif sameArgsF [T.nils, T.int IntKind.i64 st] [[T.nils, T.int IntKind.i64 st]] then
    bif decide ((0 : Int) ≤ st) then
    bif sameArgsF [T.nils, T.int IntKind.i64 st] [] then
    none
    else
    bif sameArgsF [T.nils, T.int IntKind.i64 st] [[T.nils, T.int IntKind.i64 st]] then
    none
    else
    none
    else
    some (T.bool true)
    else
    none) from by kernel_rfl)]
    rw [show sameArgsF _ [] = false by simp [sameArgsF], cond_false]
    refine bift (args_yes (by simp)) ?_
    rw [dF hs0]
    rfl
theorem law8 (n : Nat) (x : Nat → Int) (st : Int) : ToldOk P37 G37 8 [.view 1 n (fun j => [.int .i64 (x j)]) none, .int .i64 st] (.bool true) := by
  by_cases h : 60 < n
  · exact law8big n x st h
  cases hg : gd st x n with
  | false => exact law8bad n x st (by omega) hg
  | true =>
    cases n with
    | zero => exact law8zero x st (by simpa [gd] using hg)
    | succ m => exact law8good m x st (by omega) hg
end Go.Ab

namespace Go.Ab
open Go.Proofs
variable {H : Type}
theorem agg31 : aggTy P37 31 = false := by kernel_rfl
theorem cells3_37 : P37.cellsOf 3 = 1 := by kernel_rfl
theorem inv31 {ts : List T} {d : DataW H} (h : CT P37 31 ts d) : topT P37 31 ts = .nils ∨ ∃ (n : Nat) (x : Nat → Int), Sim (topT P37 31 ts) (.view 1 n (fun j => [.int .i64 (x j)]) none) ∧ n ≤ maxLen ∧ ∀ j, j < n → -9223372036854775808 ≤ x j ∧ x j ≤ 9223372036854775807 := by
  rcases h.slice_inv Try.underlying31 (by rw [cells3_37]; omega) with ⟨rfl, rfl⟩ | ⟨n, c, g, elems, spare, rfl, rfl, he, hs, hn, hc, hg⟩
  · exact .inl (by simp [topT, agg31])
  · refine .inr ⟨n, fun j => intAt (g j), ?_, by omega, fun j hj => ?_⟩
    · have e : topT P37 31 [.view (P37.cellsOf 3) n g (some c)] = .view 1 n g (some c) := by simp [topT, agg31, cells3_37]
      rw [e]
      refine .view (.inr rfl) fun j hj => ?_
      have hj' : j < elems.length := by omega
      obtain ⟨v, hv, _, _⟩ := (hg j elems[j] (by simp [hj'])).int_inv Try.underlying3
      show Sims (g j) [.int .i64 (intAt (g j))]
      rw [hv]
      exact .refl _
    · have hj' : j < elems.length := by omega
      obtain ⟨v, hv, _, w⟩ := (hg j elems[j] (by simp [hj'])).int_inv Try.underlying3
      dsimp only
      rw [hv]
      exact wf_i64 w
end Go.Ab

namespace Go.Ab
open Go.Proofs
def pts (H W : Nat → Int) : Nat → List T := fun j => [.int .i64 (H j), .int .i64 (W j)]
def bf (H : Nat → Int) : Nat → Int
  | 0 => 0
  | i + 1 => H i
/-- A valid outline. -/
def Okp (n : Nat) (H W : Nat → Int) : Prop := 2 ≤ n ∧ H 0 = 0 ∧ ∀ j, j < n → bf H j ≤ H j ∧ H j ≤ 20000 ∧ 0 ≤ W j ∧ W j ≤ 20000
def Okg (S R : Int) : Prop := 1 ≤ S ∧ S ≤ 400 ∧ 1 ≤ R ∧ R ≤ 400
theorem v7r (H W : Nat → Int) (n i : Nat) (c : Option Nat) (hi : i ≤ n) (hn : n ≤ 4611686018427387904) :
    iterR P37 G37 A37 K37a 0 23 [] 7 [.int .i64 (bf H i), .view 2 n (fun j => [.int .i64 (H j), .int .i64 (W j)]) c, .int .i64 n, .int .i64 i] [] =
    if i < n then (if bf H i ≤ H i ∧ H i ≤ 20000 ∧ 0 ≤ W i ∧ W i ≤ 20000 then some (.normal, [.int .i64 (bf H (i + 1)), .view 2 n (fun j => [.int .i64 (H j), .int .i64 (W j)]) c, .int .i64 n, .int .i64 ((i + 1 : Nat) : Int)], []) else some (.ret, [.bool false], [])) else some (.exit 0, [.undef], []) := by
  generalize hb : bf H i = b
  rw [(show iterR P37 G37 A37 K37a 0 23 [] 7 [.int .i64 b, .view 2 n (fun j => [.int .i64 (H j), .int .i64 (W j)]) c, .int .i64 n, .int .i64 i] [] =
(    bif decide (Int.ofNat i < Int.ofNat n) then
    bif decide ((0 : Int) ≤ Int.ofNat i) && decide (Int.ofNat i < Int.ofNat n) then
    bif decide (b ≤ H i) && decide (H i ≤ (20000 : Int)) then
    bif decide ((0 : Int) ≤ W i) && decide (W i ≤ (20000 : Int)) then
    some ((Ex.normal,
      [T.int IntKind.i64 (H i), T.view (2 : Nat) n (fun j => [T.int IntKind.i64 (H j), T.int IntKind.i64 (W j)]) c,
        T.int IntKind.i64 (Int.ofNat n), T.int IntKind.i64 (IntKind.i64.wrap (Int.ofNat i + (1 : Int)))],
      []))
    else
    some ((Ex.ret, [T.bool false], []))
    else
    some ((Ex.ret, [T.bool false], []))
    else
    none
    else
    some ((Ex.exit (0 : Nat), [T.undef], []))) from by kernel_rfl)]
  have ek : (Int.ofNat i).toNat = i := rfl
  have eo : (Int.ofNat i : Int) = (i : Int) := rfl
  have en : (Int.ofNat n : Int) = (n : Int) := rfl
  simp only [ek, eo, en]
  rw [wr64 (x := (i : Int) + 1) (by omega) (by omega)]
  by_cases h1 : i < n
  · rw [if_pos h1, dT (show (i : Int) < n by omega), dT (show 0 ≤ (i : Int) by omega)]
    simp only [Bool.and_self, cond_true]
    by_cases h2 : b ≤ H i ∧ H i ≤ 20000
    · rw [dT h2.1, dT h2.2]
      by_cases h3 : 0 ≤ W i ∧ W i ≤ 20000
      · rw [dT h3.1, dT h3.2, if_pos ⟨h2.1, h2.2, h3.1, h3.2⟩]; rfl
      · rw [if_neg (fun q => h3 ⟨q.2.2.1, q.2.2.2⟩), ← Bool.decide_and, dF h3]; rfl
    · rw [if_neg (fun q => h2 ⟨q.1, q.2.1⟩), ← Bool.decide_and, dF h2]; rfl
  · rw [if_neg h1, dF (by omega)]; rfl
theorem v7good (H W : Nat → Int) (n : Nat) (c : Option Nat) (hn : n ≤ 4611686018427387904) (hg : ∀ j, j < n → bf H j ≤ H j ∧ H j ≤ 20000 ∧ 0 ≤ W j ∧ W j ≤ 20000) :
    LoopOk P37 G37 (A37 23) 23 7 (litS [.int .i64 0, .view 2 n (fun j => [.int .i64 (H j), .int .i64 (W j)]) c, .int .i64 n, .int .i64 0] [] (.exit 0) [.undef] []) :=
  .lit fun fn hf hnt => loop_seq hm37 (by kernel_rfl) hf hnt (fun i => [.int .i64 (bf H i), .view 2 n (fun j => [.int .i64 (H j), .int .i64 (W j)]) c, .int .i64 n, .int .i64 (i : Int)]) (fun _ => []) (n := n)
    (fun i hi => ⟨_, _, Rnd.of A37 okK37a rfl rfl (by rw [v7r H W n i c (by omega) hn, if_pos hi, if_pos (hg i hi)]), .refl _ _⟩)
    ⟨by simp, _, _, Rnd.of A37 okK37a rfl rfl (by rw [v7r H W n n c (by omega) hn, if_neg (by omega)]), .refl _ _⟩
theorem v7bad (H W : Nat → Int) (n : Nat) (c : Option Nat) (hn : n ≤ 4611686018427387904) (hg : ∃ j, j < n ∧ ¬ (bf H j ≤ H j ∧ H j ≤ 20000 ∧ 0 ≤ W j ∧ W j ≤ 20000)) :
    LoopOk P37 G37 (A37 23) 23 7 (litS [.int .i64 0, .view 2 n (fun j => [.int .i64 (H j), .int .i64 (W j)]) c, .int .i64 n, .int .i64 0] [] .ret [.bool false] []) := by
  obtain ⟨j, h1, h2, h3⟩ := first_bad hg
  exact .lit fun fn hf hnt => loop_seq hm37 (by kernel_rfl) hf hnt (fun i => [.int .i64 (bf H i), .view 2 n (fun j => [.int .i64 (H j), .int .i64 (W j)]) c, .int .i64 n, .int .i64 (i : Int)]) (fun _ => []) (n := j)
    (fun i hi => ⟨_, _, Rnd.of A37 okK37a rfl rfl (by rw [v7r H W n i c (by omega) hn, if_pos (by omega), if_pos (h3 i hi)]), .refl _ _⟩)
    ⟨by simp, _, _, Rnd.of A37 okK37a rfl rfl (by rw [v7r H W n j c (by omega) hn, if_pos h1, if_neg h2]), .refl _ _⟩
theorem validY (S R : Int) (H W : Nat → Int) (n : Nat) (c : Option Nat) (hn : n ≤ 4611686018427387904) (hg : Okg S R) (ho : Okp n H W) : ToldOk P37 G37 23 [.agg [.int .i64 S, .int .i64 R], .view 2 n (fun j => [.int .i64 (H j), .int .i64 (W j)]) c] (.bool true) := by
  obtain ⟨g1, g2, g3, g4⟩ := hg
  obtain ⟨o1, o2, o3⟩ := ho
  refine stepL_told hm37 hn37 okK37a (A := A37) (m := 0) (by kernel_rfl) (loops1 (v7good H W n c hn o3)) ?_
  rw [(show stepL P37 G37 A37 K37a 0 23 [(7, litS [.int .i64 0, .view 2 n (fun j => [.int .i64 (H j), .int .i64 (W j)]) c, .int .i64 n, .int .i64 0] [] (.exit 0) [.undef] [])] [.agg [.int .i64 S, .int .i64 R], .view 2 n (fun j => [.int .i64 (H j), .int .i64 (W j)]) c] =
(    bif decide ((1 : Int) ≤ S) && decide (S ≤ (400 : Int)) then
    bif decide ((1 : Int) ≤ R) && decide (R ≤ (400 : Int)) then
    bif decide (Int.ofNat n < (2 : Int)) then
    some (T.bool false)
    else
    bif true && decide ((0 : Int) < Int.ofNat n) then
    bif !decide (H (0 : Nat) = (0 : Int)) then
    some (T.bool false)
    else
    bif sameStF
      [T.int IntKind.i64 (0 : Int), T.view (2 : Nat) n (fun j => [T.int IntKind.i64 (H j), T.int IntKind.i64 (W j)]) c,
        T.int IntKind.i64 (Int.ofNat n), T.int IntKind.i64 (0 : Int)]
      []
      [T.int IntKind.i64 (0 : Int), T.view (2 : Nat) n (fun j => [T.int IntKind.i64 (H j), T.int IntKind.i64 (W j)]) c,
        T.int IntKind.i64 (Int.ofNat n), T.int IntKind.i64 (0 : Int)]
      [] then
    some (T.bool true)
    else
    none
    else
    none
    else
    some (T.bool false)
    else
    some (T.bool false)) from by kernel_rfl)]
  have en : (Int.ofNat n : Int) = (n : Int) := rfl
  rw [dT g1, dT g2, dT g3, dT g4, dF (show ¬ Int.ofNat n < 2 by omega), dT (show (0 : Int) < Int.ofNat n by omega), o2]
  simp only [Bool.and_self, cond_true, cond_false, decide_true, Bool.not_true]
  exact bift (sameStF_iff.2 ⟨rfl, .nil⟩) rfl
theorem validN (S R : Int) (H W : Nat → Int) (n : Nat) (c : Option Nat) (hn : n ≤ 4611686018427387904) (hg : ¬ (Okg S R ∧ Okp n H W)) : ToldOk P37 G37 23 [.agg [.int .i64 S, .int .i64 R], .view 2 n (fun j => [.int .i64 (H j), .int .i64 (W j)]) c] (.bool false) := by
  have en : (Int.ofNat n : Int) = (n : Int) := rfl
  by_cases h1 : Okg S R ∧ 2 ≤ n ∧ H 0 = 0
  · obtain ⟨⟨g1, g2, g3, g4⟩, o1, o2⟩ := h1
    have hb : ∃ j, j < n ∧ ¬ (bf H j ≤ H j ∧ H j ≤ 20000 ∧ 0 ≤ W j ∧ W j ≤ 20000) := Classical.byContradiction fun hb => hg ⟨⟨g1, g2, g3, g4⟩, o1, o2, fun j hj => Classical.byContradiction fun q => hb ⟨j, hj, q⟩⟩
    refine stepL_told hm37 hn37 okK37a (A := A37) (m := 0) (by kernel_rfl) (loops1 (v7bad H W n c hn hb)) ?_
    rw [(show stepL P37 G37 A37 K37a 0 23 [(7, litS [.int .i64 0, .view 2 n (fun j => [.int .i64 (H j), .int .i64 (W j)]) c, .int .i64 n, .int .i64 0] [] .ret [.bool false] [])] [.agg [.int .i64 S, .int .i64 R], .view 2 n (fun j => [.int .i64 (H j), .int .i64 (W j)]) c] =
(    bif decide ((1 : Int) ≤ S) && decide (S ≤ (400 : Int)) then
    bif decide ((1 : Int) ≤ R) && decide (R ≤ (400 : Int)) then
    bif decide (Int.ofNat n < (2 : Int)) then
    some (T.bool false)
    else
    bif true && decide ((0 : Int) < Int.ofNat n) then
    bif !decide (H (0 : Nat) = (0 : Int)) then
    some (T.bool false)
    else
    bif sameStF
      [T.int IntKind.i64 (0 : Int), T.view (2 : Nat) n (fun j => [T.int IntKind.i64 (H j), T.int IntKind.i64 (W j)]) c,
        T.int IntKind.i64 (Int.ofNat n), T.int IntKind.i64 (0 : Int)]
      []
      [T.int IntKind.i64 (0 : Int), T.view (2 : Nat) n (fun j => [T.int IntKind.i64 (H j), T.int IntKind.i64 (W j)]) c,
        T.int IntKind.i64 (Int.ofNat n), T.int IntKind.i64 (0 : Int)]
      [] then
    some (T.bool false)
    else
    none
    else
    none
    else
    some (T.bool false)
    else
    some (T.bool false)) from by kernel_rfl)]
    rw [dT g1, dT g2, dT g3, dT g4, dF (show ¬ Int.ofNat n < 2 by omega), dT (show (0 : Int) < Int.ofNat n by omega), o2]
    simp only [Bool.and_self, cond_true, cond_false, decide_true, Bool.not_true]
    exact bift (sameStF_iff.2 ⟨rfl, .nil⟩) rfl
  · refine stepV_told hm37 hn37 okK37a (A := A37) (m := 0) ?_
    rw [(show stepV P37 G37 A37 K37a 0 23 [.agg [.int .i64 S, .int .i64 R], .view 2 n (fun j => [.int .i64 (H j), .int .i64 (W j)]) c] =
(    bif decide ((1 : Int) ≤ S) && decide (S ≤ (400 : Int)) then
    bif decide ((1 : Int) ≤ R) && decide (R ≤ (400 : Int)) then
    bif decide (Int.ofNat n < (2 : Int)) then
    some (T.bool false)
    else
    bif true && decide ((0 : Int) < Int.ofNat n) then
    bif !decide (H (0 : Nat) = (0 : Int)) then
    some (T.bool false)
    else
    none
    else
    none
    else
    some (T.bool false)
    else
    some (T.bool false)) from by kernel_rfl)]
    unfold Okg at h1
    simp only [← Bool.decide_and]
    refine bifd (fun a1 => ?_) (fun _ => rfl)
    refine bifd (fun a2 => ?_) (fun _ => rfl)
    refine bifd (fun _ => rfl) (fun a3 => ?_)
    refine bifd (fun _ => ?_) (fun a4 => by omega)
    rw [dF (fun q => h1 ⟨⟨a1.1, a1.2, a2.1, a2.2⟩, by omega, q⟩)]
    rfl
/-- The greatest of ascending numbers. -/
theorem g3r (x : Nat → Int) (n i : Nat) (c : Option Nat) (b : Int) (hi : i < n) (hn : n ≤ 4611686018427387904) (hb : b ≤ x i) :
    iterR P37 G37 A37 noneO 0 24 [] 3 [.int .i64 b, .view 1 n (fun j => [.int .i64 (x j)]) c, .int .i64 n, .int .i64 i] [] = some (.normal, [.int .i64 (x i), .view 1 n (fun j => [.int .i64 (x j)]) c, .int .i64 n, .int .i64 ((i + 1 : Nat) : Int)], []) := by
  rw [(show iterR P37 G37 A37 noneO 0 24 [] 3 [.int .i64 b, .view 1 n (fun j => [.int .i64 (x j)]) c, .int .i64 n, .int .i64 i] [] =
(    bif decide (Int.ofNat i < Int.ofNat n) then
    bif decide ((0 : Int) ≤ Int.ofNat i) && decide (Int.ofNat i < Int.ofNat n) then
    some ((Ex.normal,
      [T.int IntKind.i64 (bif decide (b < x i) then x i else b), T.view (1 : Nat) n (fun j => [T.int IntKind.i64 (x j)]) c,
        T.int IntKind.i64 (Int.ofNat n), T.int IntKind.i64 (IntKind.i64.wrap (Int.ofNat i + (1 : Int)))],
      []))
    else
    none
    else
    some ((Ex.exit (0 : Nat), [T.int IntKind.i64 b], []))) from by kernel_rfl)]
  have ek : (Int.ofNat i).toNat = i := rfl
  have eo : (Int.ofNat i : Int) = (i : Int) := rfl
  have en : (Int.ofNat n : Int) = (n : Int) := rfl
  simp only [ek, eo, en]
  rw [wr64 (x := (i : Int) + 1) (by omega) (by omega), dT (show (i : Int) < n by omega), dT (show 0 ≤ (i : Int) by omega)]
  by_cases q : b < x i
  · rw [dT q]; rfl
  · rw [dF q, show b = x i by omega]; rfl
theorem g3x (x : Nat → Int) (n : Nat) (c : Option Nat) (b : Int) :
    iterR P37 G37 A37 noneO 0 24 [] 3 [.int .i64 b, .view 1 n (fun j => [.int .i64 (x j)]) c, .int .i64 n, .int .i64 n] [] = some (.exit 0, [.int .i64 b], []) := by
  rw [(show iterR P37 G37 A37 noneO 0 24 [] 3 [.int .i64 b, .view 1 n (fun j => [.int .i64 (x j)]) c, .int .i64 n, .int .i64 n] [] =
(    bif decide (Int.ofNat n < Int.ofNat n) then
    bif decide ((0 : Int) ≤ Int.ofNat n) && decide (Int.ofNat n < Int.ofNat n) then
    some ((Ex.normal,
      [T.int IntKind.i64 (bif decide (b < x n) then x n else b), T.view (1 : Nat) n (fun j => [T.int IntKind.i64 (x j)]) c,
        T.int IntKind.i64 (Int.ofNat n), T.int IntKind.i64 (IntKind.i64.wrap (Int.ofNat n + (1 : Int)))],
      []))
    else
    none
    else
    some ((Ex.exit (0 : Nat), [T.int IntKind.i64 b], []))) from by kernel_rfl)]
  rw [dF (by omega)]; rfl
theorem greatestT (x : Nat → Int) (n : Nat) (c : Option Nat) (hn : n ≤ 4611686018427387904) (hx : ∀ j, j < n → bf x j ≤ x j) : ToldOk P37 G37 24 [.view 1 n (fun j => [.int .i64 (x j)]) c] (.int .i64 (bf x n)) := by
  have hl : LoopOk P37 G37 (A37 24) 24 3 (litS [.int .i64 0, .view 1 n (fun j => [.int .i64 (x j)]) c, .int .i64 n, .int .i64 0] [] (.exit 0) [.int .i64 (bf x n)] []) :=
    .lit fun fn hf hnt => loop_seq hm37 (by kernel_rfl) hf hnt (fun i => [.int .i64 (bf x i), .view 1 n (fun j => [.int .i64 (x j)]) c, .int .i64 n, .int .i64 (i : Int)]) (fun _ => []) (n := n)
      (fun i hi => ⟨_, _, Rnd.of A37 none_ok rfl rfl (g3r x n i c _ hi hn (hx i hi)), .refl _ _⟩)
      ⟨by simp, _, _, Rnd.of A37 none_ok rfl rfl (g3x x n c _), .refl _ _⟩
  generalize bf x n = b at hl ⊢
  refine stepL_told hm37 hn37 none_ok (K := noneO) (A := A37) (m := 0) (by kernel_rfl) (loops1 hl) ?_
  rw [(show stepL P37 G37 A37 noneO 0 24 [(3, litS [.int .i64 0, .view 1 n (fun j => [.int .i64 (x j)]) c, .int .i64 n, .int .i64 0] [] (.exit 0) [.int .i64 b] [])] [.view 1 n (fun j => [.int .i64 (x j)]) c] =
(    bif sameStF
      [T.int IntKind.i64 (0 : Int), T.view (1 : Nat) n (fun j => [T.int IntKind.i64 (x j)]) c,
        T.int IntKind.i64 (Int.ofNat n), T.int IntKind.i64 (0 : Int)]
      []
      [T.int IntKind.i64 (0 : Int), T.view (1 : Nat) n (fun j => [T.int IntKind.i64 (x j)]) c,
        T.int IntKind.i64 (Int.ofNat n), T.int IntKind.i64 (0 : Int)]
      [] then
    some (T.int IntKind.i64 b)
    else
    none) from by kernel_rfl)]
  exact bift (sameStF_iff.2 ⟨rfl, .nil⟩) rfl
end Go.Ab

namespace Go.Ab
open Go.Proofs
def wdN (S : Int) (H W : Nat → Int) (n a : Nat) (m P : Int) : Int := if a + 1 = n then S * W a else S * (W a * (P * (H (a + 1) - H a)) + (W (a + 1) - W a) * (m - P * H a))
def wdD (H : Nat → Int) (n a : Nat) (P : Int) : Int := if a + 1 = n then 100 else 100 * (P * (H (a + 1) - H a))
def wd (S : Int) (H W : Nat → Int) (n a : Nat) (m P : Int) : Int := roundF (wdN S H W n a m P) (wdD H n a P)
def hBlk (n i : Nat) (H : Nat → Int) : Blk := ⟨0, 1, n, fun j => [.int .i64 (if j < i then H j else 0)], true, false⟩
/-- Where a row is worked. -/
structure Here (S : Int) (H W : Nat → Int) (n a : Nat) (m P : Int) : Prop where
  s : 0 ≤ S ∧ S ≤ 400
  p : 1 ≤ P ∧ P ≤ 800
  h : ∀ j, j < n → 0 ≤ H j ∧ H j ≤ 20000
  w : ∀ j, j < n → 0 ≤ W j ∧ W j ≤ 20000
  al : a < n
  mm : 0 ≤ m ∧ m ≤ 1000000000
  lo : P * H a ≤ m
  hi : a + 1 < n → m < P * H (a + 1)
theorem Here.bd {S : Int} {H W : Nat → Int} {n a : Nat} {m P : Int} (q : Here S H W n a m P) : 0 ≤ wdN S H W n a m P ∧ wdN S H W n a m P ≤ 200000000000000 ∧ 1 ≤ wdD H n a P ∧ wdD H n a P ≤ 2000000000 ∧
    (a + 1 ≠ n → -16000000 ≤ P * H a ∧ P * H a ≤ 16000000 ∧ 1 ≤ P * (H (a + 1) - H a) ∧ P * (H (a + 1) - H a) ≤ 16000000 ∧ 0 ≤ m - P * H a ∧ m - P * H a ≤ 16000000 ∧ 0 ≤ W a * (P * (H (a + 1) - H a)) ∧ W a * (P * (H (a + 1) - H a)) ≤ 320000000000 ∧
      -320000000000 ≤ (W (a + 1) - W a) * (m - P * H a) ∧ (W (a + 1) - W a) * (m - P * H a) ≤ 320000000000 ∧ 0 ≤ W a * (P * (H (a + 1) - H a)) + (W (a + 1) - W a) * (m - P * H a) ∧ W a * (P * (H (a + 1) - H a)) + (W (a + 1) - W a) * (m - P * H a) ≤ 320000000000) := by
  obtain ⟨⟨s1, s2⟩, ⟨p1, p2⟩, hh, hw, ha, hm, lo, hi⟩ := q
  unfold wdN wdD
  have w0 := hw a ha
  have h0 := hh a ha
  by_cases e : a + 1 = n
  · rw [if_pos e, if_pos e]
    have := mul_bd s1 s2 w0.1 w0.2
    exact ⟨by omega, by omega, by omega, by omega, fun h => absurd e h⟩
  · rw [if_neg e, if_neg e]
    have w1 := hw (a + 1) (by omega)
    have h1 := hh (a + 1) (by omega)
    have hi := hi (by omega)
    have b1 := mul_bd (p := P) (m := H a) (by omega) p2 h0.1 h0.2
    have b2 := mul_bd (p := P) (m := H (a + 1)) (by omega) p2 h1.1 h1.2
    have e1 : P * (H (a + 1) - H a) = P * H (a + 1) - P * H a := Int.mul_sub _ _ _
    generalize hA : P * (H (a + 1) - H a) = A at *
    generalize hB : m - P * H a = B at *
    have a1 : 1 ≤ A ∧ A ≤ 16000000 := by omega
    have a2 : 0 ≤ B ∧ B < A := by omega
    have c1 := mul_bd (p := W a) (m := A) w0.1 w0.2 (by omega) a1.2
    have c2 := mul_bd (p := W a) (m := B) (b := 16000000) w0.1 w0.2 a2.1 (by omega)
    have c3 := mul_bd (p := W (a + 1)) (m := B) (b := 16000000) w1.1 w1.2 a2.1 (by omega)
    have c4 : W a * B ≤ W a * A := Int.mul_le_mul_of_nonneg_left (by omega) w0.1
    have c5 : W (a + 1) * B ≤ 20000 * B := Int.mul_le_mul_of_nonneg_right w1.2 a2.1
    have c6 : W a * (A - B) ≤ 20000 * (A - B) := Int.mul_le_mul_of_nonneg_right w0.2 (by omega)
    have c7 : W a * (A - B) = W a * A - W a * B := Int.mul_sub _ _ _
    have e2 : (W (a + 1) - W a) * B = W (a + 1) * B - W a * B := Int.sub_mul _ _ _
    rw [e2]
    have c8 := mul_bd (p := S) (m := W a * A + (W (a + 1) * B - W a * B)) (b := 320000000000) s1 s2 (by omega) (by omega)
    refine ⟨by omega, by omega, by omega, by omega, fun _ => ?_⟩
    omega
theorem widthT (S R m P : Int) (H W : Nat → Int) (n a : Nat) (c : Option Nat) (hn : n ≤ 400) (q : Here S H W n a m P) : ToldOk P37 G37 25 [.agg [.int .i64 S, .int .i64 R], .view 2 n (fun j => [.int .i64 (H j), .int .i64 (W j)]) c, .int .i64 a, .int .i64 m, .int .i64 P] (.int .i64 (wd S H W n a m P)) := by
  refine stepV_told hm37 hn37 okK37a (A := A37) (m := 0) ?_
  rw [(show stepV P37 G37 A37 K37a 0 25 [.agg [.int .i64 S, .int .i64 R], .view 2 n (fun j => [.int .i64 (H j), .int .i64 (W j)]) c, .int .i64 a, .int .i64 m, .int .i64 P] =
(    bif decide ((0 : Int) ≤ Int.ofNat a) && decide (Int.ofNat a < Int.ofNat n) then
    bif decide (IntKind.i64.wrap (Int.ofNat a + (1 : Int)) = Int.ofNat n) then
    bif rokF (IntKind.i64.wrap (S * W a)) (100 : Int) then
    some (T.int IntKind.i64 (roundF (IntKind.i64.wrap (S * W a)) (100 : Int)))
    else
    none
    else
    bif decide ((0 : Int) ≤ IntKind.i64.wrap (Int.ofNat a + (1 : Int))) &&
      decide (IntKind.i64.wrap (Int.ofNat a + (1 : Int)) < Int.ofNat n) then
    bif rokF
      (IntKind.i64.wrap
        (S *
          IntKind.i64.wrap
            (IntKind.i64.wrap
                (W a *
                  IntKind.i64.wrap (P * IntKind.i64.wrap (H (IntKind.i64.wrap (Int.ofNat a + (1 : Int))).toNat - H a))) +
              IntKind.i64.wrap
                (IntKind.i64.wrap (W (IntKind.i64.wrap (Int.ofNat a + (1 : Int))).toNat - W a) *
                  IntKind.i64.wrap (m - IntKind.i64.wrap (P * H a))))))
      (IntKind.i64.wrap
        ((100 : Int) *
          IntKind.i64.wrap (P * IntKind.i64.wrap (H (IntKind.i64.wrap (Int.ofNat a + (1 : Int))).toNat - H a)))) then
    some (T.int IntKind.i64
      (roundF
        (IntKind.i64.wrap
          (S *
            IntKind.i64.wrap
              (IntKind.i64.wrap
                  (W a *
                    IntKind.i64.wrap (P * IntKind.i64.wrap (H (IntKind.i64.wrap (Int.ofNat a + (1 : Int))).toNat - H a))) +
                IntKind.i64.wrap
                  (IntKind.i64.wrap (W (IntKind.i64.wrap (Int.ofNat a + (1 : Int))).toNat - W a) *
                    IntKind.i64.wrap (m - IntKind.i64.wrap (P * H a))))))
        (IntKind.i64.wrap
          ((100 : Int) *
            IntKind.i64.wrap (P * IntKind.i64.wrap (H (IntKind.i64.wrap (Int.ofNat a + (1 : Int))).toNat - H a))))))
    else
    none
    else
    none
    else
    none) from by kernel_rfl)]
  have ek : (Int.ofNat a + 1).toNat = a + 1 := rfl
  have eo : (Int.ofNat a : Int) = (a : Int) := rfl
  have en : (Int.ofNat n : Int) = (n : Int) := rfl
  obtain ⟨b1, b2, b3, b4, b5⟩ := q.bd
  have ha := q.al
  rw [wr64 (x := Int.ofNat a + 1) (by omega) (by omega), ek, dT (show (0 : Int) ≤ Int.ofNat a by omega), dT (show Int.ofNat a < Int.ofNat n by omega)]
  simp only [Bool.and_self, cond_true]
  unfold wd
  by_cases e : a + 1 = n
  · rw [dT (show Int.ofNat a + 1 = Int.ofNat n by omega)]
    simp only [wdN, wdD] at b1 b2 b3 b4 ⊢
    rw [if_pos e] at b1 b2 b3 b4 ⊢
    rw [if_pos e, wr64 (x := S * W a) (by omega) (by omega), rokF_iff.2 (by omega)]
    rfl
  · obtain ⟨c1, c2, c3, c4, c5, c6, c7, c8, c9, c10, c11, c12⟩ := b5 e
    simp only [wdN, wdD] at b1 b2 b3 b4 ⊢
    rw [if_neg e] at b1 b2 b3 b4 ⊢
    have h0 := q.h a ha
    have h1 := q.h (a + 1) (by omega)
    have w0 := q.w a ha
    have w1 := q.w (a + 1) (by omega)
    rw [dF (show ¬ Int.ofNat a + 1 = Int.ofNat n by omega), dT (show (0 : Int) ≤ Int.ofNat a + 1 by omega), dT (show Int.ofNat a + 1 < Int.ofNat n by omega)]
    rw [wr64 (x := H (a + 1) - H a) (by omega) (by omega), wr64 (x := P * (H (a + 1) - H a)) (by omega) (by omega), wr64 (x := W a * (P * (H (a + 1) - H a))) (by omega) (by omega), wr64 (x := W (a + 1) - W a) (by omega) (by omega), wr64 (x := P * H a) (by omega) (by omega), wr64 (x := m - P * H a) (by omega) (by omega),
      wr64 (x := (W (a + 1) - W a) * (m - P * H a)) (by omega) (by omega), wr64 (x := W a * (P * (H (a + 1) - H a)) + (W (a + 1) - W a) * (m - P * H a)) (by omega) (by omega), wr64 (x := S * (W a * (P * (H (a + 1) - H a)) + (W (a + 1) - W a) * (m - P * H a))) (by omega) (by omega), wr64 (x := 100 * (P * (H (a + 1) - H a))) (by omega) (by omega)]
    simp only [Bool.and_self, cond_true, cond_false]
    rw [if_neg e, rokF_iff.2 (by omega)]
    rfl
/-- The heights, collected. -/
theorem h5r (l : T) (S R : Int) (H W : Nat → Int) (n i : Nat) (c : Option Nat) (hi : i < n) (hn : n ≤ 400) :
    ∃ g1 g2, iterR P37 G37 A37 K37b 0 17 [] 5 [l, .reg [.int .i64 S, .int .i64 R], .own 0 0 0 i (some n), .view 2 n (fun j => [.int .i64 (H j), .int .i64 (W j)]) c, .int .i64 n, .int .i64 i] [hBlk n i H] =
    some (.normal, [l, .reg [.int .i64 S, .int .i64 R], .own 0 0 0 (i + 1) (some n), .view 2 n (fun j => [.int .i64 (H j), .int .i64 (W j)]) c, .int .i64 n, .int .i64 ((i + 1 : Nat) : Int)], [⟨0, 1, n, g1, true, false⟩, ⟨0, 1, 1, g2, true, true⟩]) ∧ ∀ j, j < n → g1 j = (hBlk n (i + 1) H).get j := by
  unfold hBlk
  generalize hx : (fun (j : Nat) => if j < i then H j else 0) = x
  have hx' : (fun j => [T.int .i64 (if j < i then H j else 0)]) = fun j => [T.int .i64 (x j)] := by rw [← hx]
  rw [hx', (show iterR P37 G37 A37 K37b 0 17 [] 5 [l, .reg [.int .i64 S, .int .i64 R], .own 0 0 0 i (some n), .view 2 n (fun j => [.int .i64 (H j), .int .i64 (W j)]) c, .int .i64 n, .int .i64 i] [⟨0, 1, n, fun j => [.int .i64 (x j)], true, false⟩] =
(    bif decide (Int.ofNat i < Int.ofNat n) then
    bif decide ((0 : Int) ≤ Int.ofNat i) && decide (Int.ofNat i < Int.ofNat n) then
    bif true && ((0 : Nat) + i).ble n then
    bif ((i + (1 : Nat)) * (9 : Nat)).ble (70368744177664 : Nat) then
    bif (i + (1 : Nat)).ble n then
    bif ((0 : Nat) + i + (1 : Nat)).ble n then
    some ((Ex.normal,
      [l, T.reg [T.int IntKind.i64 S, T.int IntKind.i64 R], T.own (0 : Nat) (0 : Nat) (0 : Nat) (i + (1 : Nat)) (some n),
        T.view (2 : Nat) n (fun j => [T.int IntKind.i64 (H j), T.int IntKind.i64 (W j)]) c, T.int IntKind.i64 (Int.ofNat n),
        T.int IntKind.i64 (IntKind.i64.wrap (Int.ofNat i + (1 : Int)))],
      [Blk.mk (0 : Nat) (1 : Nat) n
          (fun j =>
            bif ((0 : Nat) + i).ble j && j.blt ((0 : Nat) + i + (1 : Nat)) then
              [[T.int IntKind.i64 (H i)]].getD ((0 : Nat) + (j - ((0 : Nat) + i))) []
            else [T.int IntKind.i64 (x j)])
          true false,
        Blk.mk (0 : Nat) (1 : Nat) (1 : Nat) (fun j => [[T.int IntKind.i64 (H i)]].getD j []) true true]))
    else
    none
    else
    some ((Ex.normal,
      [l, T.reg [T.int IntKind.i64 S, T.int IntKind.i64 R],
        T.own
          [Blk.mk (0 : Nat) (1 : Nat) n (fun j => [T.int IntKind.i64 (x j)]) true false,
              Blk.mk (0 : Nat) (1 : Nat) (1 : Nat) (fun j => [[T.int IntKind.i64 (H i)]].getD j []) true true].length
          (0 : Nat) (0 : Nat) (i + (1 : Nat)) none,
        T.view (2 : Nat) n (fun j => [T.int IntKind.i64 (H j), T.int IntKind.i64 (W j)]) c, T.int IntKind.i64 (Int.ofNat n),
        T.int IntKind.i64 (IntKind.i64.wrap (Int.ofNat i + (1 : Int)))],
      [Blk.mk (0 : Nat) (1 : Nat) n (fun j => [T.int IntKind.i64 (x j)]) true false,
        Blk.mk (0 : Nat) (1 : Nat) (1 : Nat) (fun j => [[T.int IntKind.i64 (H i)]].getD j []) true true,
        Blk.mk (0 : Nat) (1 : Nat) (i + (1 : Nat))
          (fun j =>
            bif j.blt i then [T.int IntKind.i64 (x ((0 : Nat) + j))]
            else [[T.int IntKind.i64 (H i)]].getD ((0 : Nat) + (j - i)) [])
          true false]))
    else
    none
    else
    none
    else
    none
    else
    some ((Ex.exit (0 : Nat),
      [l, T.reg [T.int IntKind.i64 S, T.int IntKind.i64 R], T.own (0 : Nat) (0 : Nat) (0 : Nat) i (some n)],
      [Blk.mk (0 : Nat) (1 : Nat) n (fun j => [T.int IntKind.i64 (x j)]) true false]))) from by kernel_rfl)]
  have ek : (Int.ofNat i).toNat = i := rfl
  have eo : (Int.ofNat i : Int) = (i : Int) := rfl
  have en : (Int.ofNat n : Int) = (n : Int) := rfl
  rw [wr64 (x := Int.ofNat i + 1) (by omega) (by omega), dT (show Int.ofNat i < Int.ofNat n by omega), dT (show (0 : Int) ≤ Int.ofNat i by omega), bleT (show 0 + i ≤ n by omega), bleT (show (i + 1) * 9 ≤ 70368744177664 by omega), bleT (show i + 1 ≤ n by omega), bleT (show 0 + i + 1 ≤ n by omega)]
  simp only [Bool.and_self, cond_true]
  refine ⟨_, _, rfl, fun j hj => ?_⟩
  by_cases q : j = i
  · subst q
    rw [bleT (show 0 + j ≤ j by omega), bltT (show j < 0 + j + 1 by omega)]
    simp
  · by_cases q2 : j < i
    · rw [bleF (show j < 0 + i by omega)]
      simp only [Bool.false_and, cond_false, ← hx, if_pos q2, if_pos (show j < i + 1 by omega)]
    · rw [bltF (show 0 + i + 1 ≤ j by omega)]
      simp only [Bool.and_false, cond_false, ← hx, if_neg q2, if_neg (show ¬ j < i + 1 by omega)]
theorem h5x (l : T) (S R : Int) (H W : Nat → Int) (n : Nat) (c : Option Nat) (x : Nat → Int) :
    iterR P37 G37 A37 K37b 0 17 [] 5 [l, .reg [.int .i64 S, .int .i64 R], .own 0 0 0 n (some n), .view 2 n (fun j => [.int .i64 (H j), .int .i64 (W j)]) c, .int .i64 n, .int .i64 n] [iblk n x] = some (.exit 0, [l, .reg [.int .i64 S, .int .i64 R], .own 0 0 0 n (some n)], [iblk n x]) := by
  have key : ∀ (i : Int), ¬ i < Int.ofNat n → ∀ (x : Nat → Int), iterR P37 G37 A37 K37b 0 17 [] 5 [l, .reg [.int .i64 S, .int .i64 R], .own 0 0 0 n (some n), .view 2 n (fun j => [.int .i64 (H j), .int .i64 (W j)]) c, .int .i64 n, .int .i64 i] [iblk n x] = some (.exit 0, [l, .reg [.int .i64 S, .int .i64 R], .own 0 0 0 n (some n)], [iblk n x]) := by
    intro i hi x
    rw [(show iterR P37 G37 A37 K37b 0 17 [] 5 [l, .reg [.int .i64 S, .int .i64 R], .own 0 0 0 n (some n), .view 2 n (fun j => [.int .i64 (H j), .int .i64 (W j)]) c, .int .i64 n, .int .i64 i] [iblk n x] =
(    bif decide (i < Int.ofNat n) then
    bif decide ((0 : Int) ≤ i) && decide (i < Int.ofNat n) then
    bif true && ((0 : Nat) + n).ble n then
    bif ((n + (1 : Nat)) * (9 : Nat)).ble (70368744177664 : Nat) then
    bif (n + (1 : Nat)).ble n then
    bif ((0 : Nat) + n + (1 : Nat)).ble n then
    some ((Ex.normal,
      [l, T.reg [T.int IntKind.i64 S, T.int IntKind.i64 R], T.own (0 : Nat) (0 : Nat) (0 : Nat) (n + (1 : Nat)) (some n),
        T.view (2 : Nat) n (fun j => [T.int IntKind.i64 (H j), T.int IntKind.i64 (W j)]) c, T.int IntKind.i64 (Int.ofNat n),
        T.int IntKind.i64 (IntKind.i64.wrap (i + (1 : Int)))],
      [Blk.mk (0 : Nat) (1 : Nat) n
          (fun j =>
            bif ((0 : Nat) + n).ble j && j.blt ((0 : Nat) + n + (1 : Nat)) then
              [[T.int IntKind.i64 (H i.toNat)]].getD ((0 : Nat) + (j - ((0 : Nat) + n))) []
            else [T.int IntKind.i64 (x j)])
          true false,
        Blk.mk (0 : Nat) (1 : Nat) (1 : Nat) (fun j => [[T.int IntKind.i64 (H i.toNat)]].getD j []) true true]))
    else
    none
    else
    some ((Ex.normal,
      [l, T.reg [T.int IntKind.i64 S, T.int IntKind.i64 R],
        T.own
          [Blk.mk (0 : Nat) (1 : Nat) n (fun j => [T.int IntKind.i64 (x j)]) true false,
              Blk.mk (0 : Nat) (1 : Nat) (1 : Nat) (fun j => [[T.int IntKind.i64 (H i.toNat)]].getD j []) true true].length
          (0 : Nat) (0 : Nat) (n + (1 : Nat)) none,
        T.view (2 : Nat) n (fun j => [T.int IntKind.i64 (H j), T.int IntKind.i64 (W j)]) c, T.int IntKind.i64 (Int.ofNat n),
        T.int IntKind.i64 (IntKind.i64.wrap (i + (1 : Int)))],
      [Blk.mk (0 : Nat) (1 : Nat) n (fun j => [T.int IntKind.i64 (x j)]) true false,
        Blk.mk (0 : Nat) (1 : Nat) (1 : Nat) (fun j => [[T.int IntKind.i64 (H i.toNat)]].getD j []) true true,
        Blk.mk (0 : Nat) (1 : Nat) (n + (1 : Nat))
          (fun j =>
            bif j.blt n then [T.int IntKind.i64 (x ((0 : Nat) + j))]
            else [[T.int IntKind.i64 (H i.toNat)]].getD ((0 : Nat) + (j - n)) [])
          true false]))
    else
    none
    else
    none
    else
    none
    else
    some ((Ex.exit (0 : Nat),
      [l, T.reg [T.int IntKind.i64 S, T.int IntKind.i64 R], T.own (0 : Nat) (0 : Nat) (0 : Nat) n (some n)],
      [Blk.mk (0 : Nat) (1 : Nat) n (fun j => [T.int IntKind.i64 (x j)]) true false]))) from by kernel_rfl)]
    rw [dF hi]; rfl
  exact key _ (by have : (Int.ofNat n : Int) = (n : Int) := rfl; omega) _
theorem h5 (S R : Int) (H W : Nat → Int) (n : Nat) (c : Option Nat) (hn : n ≤ 400) :
    LoopOk P37 G37 (A37 17) 17 5 (litS [.view 2 n (fun j => [.int .i64 (H j), .int .i64 (W j)]) c, .reg [.int .i64 S, .int .i64 R], .own 0 0 0 0 (some n), .view 2 n (fun j => [.int .i64 (H j), .int .i64 (W j)]) c, .int .i64 n, .int .i64 0] [hBlk n 0 H] (.exit 0)
      [.view 2 n (fun j => [.int .i64 (H j), .int .i64 (W j)]) c, .reg [.int .i64 S, .int .i64 R], .own 0 0 0 n (some n)] [hBlk n n H]) := by
  refine .lit fun fn hf hnt => loop_seq hm37 (by kernel_rfl) hf hnt (fun i => [.view 2 n (fun j => [.int .i64 (H j), .int .i64 (W j)]) c, .reg [.int .i64 S, .int .i64 R], .own 0 0 0 i (some n), .view 2 n (fun j => [.int .i64 (H j), .int .i64 (W j)]) c, .int .i64 n, .int .i64 (i : Int)]) (fun i => [hBlk n i H]) (n := n)
    (fun i hi => ?_) ⟨by simp, _, _, Rnd.of A37 okK37b rfl rfl (h5x _ S R H W n c (fun j => if j < n then H j else 0)), .refl _ _⟩
  obtain ⟨g1, g2, q1, q2⟩ := h5r (.view 2 n (fun j => [.int .i64 (H j), .int .i64 (W j)]) c) S R H W n i c hi hn
  refine ⟨_, _, Rnd.of A37 okK37b rfl rfl q1, ?_⟩
  have hw : SameBlks [⟨0, 1, n, g1, true, false⟩] [hBlk n (i + 1) H] := .cons ⟨rfl, rfl, rfl, id, fun j hj => (q2 j hj).symm⟩ .nil
  exact WeakTo.trans (h1 := [⟨0, 1, n, g1, true, false⟩]) (WeakTo.takeM (m := 1) (by simp) (h := [⟨0, 1, n, g1, true, false⟩, ⟨0, 1, 1, g2, true, true⟩]) (by simp [trimOk, low, low0, imm0, lowBlk, Nat.blt])) (.same hw)
end Go.Ab

namespace Go.Ab
open Go.Proofs
noncomputable def KW37 (l1 : List (List T)) (w : Int) : Orc := K37b.add 25 (callS l1 (.int .i64 w))
theorem okKW {l1 : List (List T)} {w : Int} (h : ∀ a ∈ l1, ToldOk P37 G37 25 a (.int .i64 w)) : OrcOk P37 G37 (KW37 l1 w) := told_add okK37b (callS_told h)
def adv (H : Nat → Int) (n : Nat) (P m : Int) : Nat → Nat → Nat
  | 0, a => a
  | f + 1, a => if a + 1 < n ∧ H (a + 1) * P ≤ m then adv H n P m f (a + 1) else a
theorem adv_sp (H : Nat → Int) (n : Nat) (P m : Int) : ∀ (f a : Nat), a < n → n - a ≤ f → ∃ d, adv H n P m f a = a + d ∧ (∀ r, r < d → a + r + 1 < n ∧ H (a + r + 1) * P ≤ m) ∧ ¬ (a + d + 1 < n ∧ H (a + d + 1) * P ≤ m) ∧ a + d < n
  | 0, a, h1, h2 => by omega
  | f + 1, a, h1, h2 => by
    by_cases q : a + 1 < n ∧ H (a + 1) * P ≤ m
    · obtain ⟨d, e1, e2, e3, e4⟩ := adv_sp H n P m f (a + 1) q.1 (by omega)
      refine ⟨d + 1, by simp only [adv, if_pos q]; omega, fun r hr => ?_, ?_, by omega⟩
      · cases r with
        | zero => exact q
        | succ r => have := e2 r (by omega); rwa [show a + 1 + r = a + (r + 1) by omega] at this
      · rwa [show a + (d + 1) = a + 1 + d by omega]
    · exact ⟨0, by simp [adv, if_neg q], fun r hr => by omega, q, by omega⟩
def mid (k : Nat) : Int := 100 * (2 * k + 1)
/-- Where the row k begins to look. -/
def atk (H : Nat → Int) (n : Nat) (P : Int) : Nat → Nat
  | 0 => 0
  | k + 1 => adv H n P (mid k) n (atk H n P k)
theorem atk_sp (H : Nat → Int) (n : Nat) (P : Int) (hn : 0 < n) (h0 : H 0 = 0) (k : Nat) : atk H n P k < n ∧ (atk H n P k = 0 ∨ ∃ j, j < k ∧ H (atk H n P k) * P ≤ mid j) := by
  induction k with
  | zero => exact ⟨hn, .inl rfl⟩
  | succ k ih =>
    obtain ⟨i1, i2⟩ := ih
    obtain ⟨d, e1, e2, e3, e4⟩ := adv_sp H n P (mid k) n (atk H n P k) i1 (by omega)
    simp only [atk, e1]
    refine ⟨e4, ?_⟩
    cases d with
    | zero =>
      rcases i2 with i2 | ⟨j, i2, i3⟩
      · exact .inl (by omega)
      · exact .inr ⟨j, by omega, by simpa using i3⟩
    | succ d =>
      have := (e2 d (by omega)).2
      exact .inr ⟨k, by omega, by rwa [show atk H n P k + (d + 1) = atk H n P k + d + 1 by omega]⟩
theorem here_at {S R : Int} {H W : Nat → Int} {n : Nat} (hg : Okg S R) (ho : Okp n H W) (hn : n ≤ 400) (k : Nat) (hk : k ≤ 400) : Here S H W n (atk H n (2 * R) (k + 1)) (mid k) (2 * R) := by
  obtain ⟨g1, g2, g3, g4⟩ := hg
  obtain ⟨o1, o2, o3⟩ := ho
  have hH : ∀ j, j < n → 0 ≤ H j := by
    intro j
    induction j with
    | zero => intro _; omega
    | succ j ih => intro hj; have := ih (by omega); have := (o3 (j + 1) hj).1; simp only [bf] at this; omega
  have hmid : 0 ≤ mid k ∧ mid k ≤ 1000000000 := by unfold mid; omega
  obtain ⟨a1, a2⟩ := atk_sp H n (2 * R) (by omega) o2 (k + 1)
  refine ⟨by omega, by omega, fun j hj => ⟨hH j hj, (o3 j hj).2.1⟩, fun j hj => (o3 j hj).2.2, a1, hmid, ?_, fun h => ?_⟩
  · rcases a2 with a2 | ⟨j, a2, a3⟩
    · rw [a2, o2]; omega
    · rw [Int.mul_comm]
      have : mid j ≤ mid k := by unfold mid; omega
      omega
  · obtain ⟨b1, _⟩ := atk_sp H n (2 * R) (by omega) o2 k
    obtain ⟨d, e1, e2, e3, e4⟩ := adv_sp H n (2 * R) (mid k) n (atk H n (2 * R) k) b1 (by omega)
    have e : atk H n (2 * R) (k + 1) = atk H n (2 * R) k + d := e1
    rw [e] at h ⊢
    rw [Int.mul_comm]
    exact Int.not_le.1 fun q => e3 ⟨h, q⟩
theorem n22r (S R m P k rows : Int) (H W : Nat → Int) (n a : Nat) (c : Option Nat) (r : T) (h : Heap) (hn : n ≤ 400) (ha : a < n) (hp : 0 ≤ P ∧ P ≤ 800) (hH : ∀ j, j < n → 0 ≤ H j ∧ H j ≤ 20000) :
    iterR P37 G37 A37 K37b 0 17 [] 22 [.view 2 n (fun j => [.int .i64 (H j), .int .i64 (W j)]) c, .reg [.int .i64 S, .int .i64 R], r, .int .i64 a, .int .i64 m, .int .i64 P, .int .i64 rows, .int .i64 k] h =
    if a + 1 < n ∧ H (a + 1) * P ≤ m then some (.normal, [.view 2 n (fun j => [.int .i64 (H j), .int .i64 (W j)]) c, .reg [.int .i64 S, .int .i64 R], r, .int .i64 ((a + 1 : Nat) : Int), .int .i64 m, .int .i64 P, .int .i64 rows, .int .i64 k], h)
    else some (.exit 4, [.view 2 n (fun j => [.int .i64 (H j), .int .i64 (W j)]) c, .reg [.int .i64 S, .int .i64 R], r, .int .i64 a, .int .i64 m, .int .i64 P, .int .i64 rows, .int .i64 k], h) := by
  rw [(show iterR P37 G37 A37 K37b 0 17 [] 22 [.view 2 n (fun j => [.int .i64 (H j), .int .i64 (W j)]) c, .reg [.int .i64 S, .int .i64 R], r, .int .i64 a, .int .i64 m, .int .i64 P, .int .i64 rows, .int .i64 k] h =
(    bif decide (IntKind.i64.wrap (Int.ofNat a + (1 : Int)) < Int.ofNat n) then
    bif decide ((0 : Int) ≤ IntKind.i64.wrap (Int.ofNat a + (1 : Int))) &&
      decide (IntKind.i64.wrap (Int.ofNat a + (1 : Int)) < Int.ofNat n) then
    bif decide (IntKind.i64.wrap (H (IntKind.i64.wrap (Int.ofNat a + (1 : Int))).toNat * P) ≤ m) then
    some ((Ex.normal,
      [T.view (2 : Nat) n (fun j => [T.int IntKind.i64 (H j), T.int IntKind.i64 (W j)]) c,
        T.reg [T.int IntKind.i64 S, T.int IntKind.i64 R], r, T.int IntKind.i64 (IntKind.i64.wrap (Int.ofNat a + (1 : Int))),
        T.int IntKind.i64 m, T.int IntKind.i64 P, T.int IntKind.i64 rows, T.int IntKind.i64 k],
      h))
    else
    some ((Ex.exit (4 : Nat),
      [T.view (2 : Nat) n (fun j => [T.int IntKind.i64 (H j), T.int IntKind.i64 (W j)]) c,
        T.reg [T.int IntKind.i64 S, T.int IntKind.i64 R], r, T.int IntKind.i64 (Int.ofNat a), T.int IntKind.i64 m,
        T.int IntKind.i64 P, T.int IntKind.i64 rows, T.int IntKind.i64 k],
      h))
    else
    none
    else
    some ((Ex.exit (4 : Nat),
      [T.view (2 : Nat) n (fun j => [T.int IntKind.i64 (H j), T.int IntKind.i64 (W j)]) c,
        T.reg [T.int IntKind.i64 S, T.int IntKind.i64 R], r, T.int IntKind.i64 (Int.ofNat a), T.int IntKind.i64 m,
        T.int IntKind.i64 P, T.int IntKind.i64 rows, T.int IntKind.i64 k],
      h))) from by kernel_rfl)]
  have ek : (Int.ofNat a + 1).toNat = a + 1 := rfl
  have eo : (Int.ofNat a : Int) = (a : Int) := rfl
  have en : (Int.ofNat n : Int) = (n : Int) := rfl
  rw [wr64 (x := Int.ofNat a + 1) (by omega) (by omega), ek]
  by_cases q : a + 1 < n
  · have h1 := hH (a + 1) q
    have hm := mul_bd h1.1 h1.2 hp.1 hp.2
    rw [dT (show Int.ofNat a + 1 < Int.ofNat n by omega), dT (show (0 : Int) ≤ Int.ofNat a + 1 by omega), wr64 (x := H (a + 1) * P) (by omega) (by omega)]
    by_cases q2 : H (a + 1) * P ≤ m
    · rw [dT q2, if_pos ⟨q, q2⟩]; rfl
    · rw [dF q2, if_neg (fun z => q2 z.2)]; rfl
  · rw [dF (show ¬ Int.ofNat a + 1 < Int.ofNat n by omega), if_neg (fun z => q z.1)]; rfl
theorem n22 (S R m P k rows : Int) (H W : Nat → Int) (n a : Nat) (c : Option Nat) (r : T) (h : Heap) (hn : n ≤ 400) (ha : a < n) (hp : 0 ≤ P ∧ P ≤ 800) (hH : ∀ j, j < n → 0 ≤ H j ∧ H j ≤ 20000) :
    LoopOk P37 G37 (A37 17) 17 22 (litS [.view 2 n (fun j => [.int .i64 (H j), .int .i64 (W j)]) c, .reg [.int .i64 S, .int .i64 R], r, .int .i64 a, .int .i64 m, .int .i64 P, .int .i64 rows, .int .i64 k] h (.exit 4)
      [.view 2 n (fun j => [.int .i64 (H j), .int .i64 (W j)]) c, .reg [.int .i64 S, .int .i64 R], r, .int .i64 (adv H n P m n a : Nat), .int .i64 m, .int .i64 P, .int .i64 rows, .int .i64 k] h) := by
  obtain ⟨d, e1, e2, e3, e4⟩ := adv_sp H n P m n a ha (by omega)
  rw [e1]
  exact .lit fun fn hf hnt => loop_seq hm37 (by kernel_rfl) hf hnt (fun q => [.view 2 n (fun j => [.int .i64 (H j), .int .i64 (W j)]) c, .reg [.int .i64 S, .int .i64 R], r, .int .i64 ((a + q : Nat) : Int), .int .i64 m, .int .i64 P, .int .i64 rows, .int .i64 k]) (fun _ => h) (n := d)
    (fun q hq => ⟨_, _, Rnd.of A37 okK37b rfl rfl (by rw [n22r S R m P k rows H W n (a + q) c r h hn (by omega) hp hH, if_pos (e2 q hq)]; rfl), .refl _ _⟩)
    ⟨by simp, _, _, Rnd.of A37 okK37b rfl rfl (by rw [n22r S R m P k rows H W n (a + d) c r h hn e4 hp hH, if_neg e3]), .refl _ _⟩
theorem r19r (S R : Int) (H W x : Nat → Int) (n a a' b i : Nat) (c : Option Nat) (w : Int) (B : Blk) (hi : i < b) (hb : b ≤ 400) (hR : 0 ≤ R ∧ R ≤ 400) :
    ∃ g1 g2, iterR P37 G37 A37 (KW37 [[.agg [.int .i64 S, .int .i64 R], .view 2 n (fun j => [.int .i64 (H j), .int .i64 (W j)]) c, .int .i64 a', .int .i64 (mid i), .int .i64 (2 * R)]] w) 0 17
      [(22, litS [.view 2 n (fun j => [.int .i64 (H j), .int .i64 (W j)]) c, .reg [.int .i64 S, .int .i64 R], .own 1 0 0 i (some b), .int .i64 a, .int .i64 (mid i), .int .i64 (2 * R), .int .i64 b, .int .i64 i] [B, iblk b x] (.exit 4)
        [.view 2 n (fun j => [.int .i64 (H j), .int .i64 (W j)]) c, .reg [.int .i64 S, .int .i64 R], .own 1 0 0 i (some b), .int .i64 a', .int .i64 (mid i), .int .i64 (2 * R), .int .i64 b, .int .i64 i] [B, iblk b x])]
      19 [.view 2 n (fun j => [.int .i64 (H j), .int .i64 (W j)]) c, .reg [.int .i64 S, .int .i64 R], .own 1 0 0 i (some b), .int .i64 a, .int .i64 b, .int .i64 i] [B, iblk b x] =
    (if w = 0 then some (.ret, [.nils, .int .i64 14, .own 1 0 0 i (some b)], [B, iblk b x]) else
    some (.normal, [.view 2 n (fun j => [.int .i64 (H j), .int .i64 (W j)]) c, .reg [.int .i64 S, .int .i64 R], .own 1 0 0 (i + 1) (some b), .int .i64 a', .int .i64 b, .int .i64 ((i + 1 : Nat) : Int)], [B, ⟨0, 1, b, g1, true, false⟩, ⟨0, 1, 1, g2, true, true⟩])) ∧ ∀ j, j < b → g1 j = [.int .i64 (if j = i then w else x j)] := by
  generalize hL : [[T.agg [.int .i64 S, .int .i64 R], .view 2 n (fun j => [.int .i64 (H j), .int .i64 (W j)]) c, .int .i64 a', .int .i64 (mid i), .int .i64 (2 * R)]] = l1
  generalize hM : mid i = m at *
  generalize hP : 2 * R = P at *
  rw [(show iterR P37 G37 A37 (KW37 l1 w) 0 17
      [(22, litS [.view 2 n (fun j => [.int .i64 (H j), .int .i64 (W j)]) c, .reg [.int .i64 S, .int .i64 R], .own 1 0 0 i (some b), .int .i64 a, .int .i64 m, .int .i64 P, .int .i64 b, .int .i64 i] [B, iblk b x] (.exit 4)
        [.view 2 n (fun j => [.int .i64 (H j), .int .i64 (W j)]) c, .reg [.int .i64 S, .int .i64 R], .own 1 0 0 i (some b), .int .i64 a', .int .i64 m, .int .i64 P, .int .i64 b, .int .i64 i] [B, iblk b x])]
      19 [.view 2 n (fun j => [.int .i64 (H j), .int .i64 (W j)]) c, .reg [.int .i64 S, .int .i64 R], .own 1 0 0 i (some b), .int .i64 a, .int .i64 b, .int .i64 i] [B, iblk b x] =
(    bif decide (Int.ofNat i < Int.ofNat b) then
    bif sameStF
      [T.view (2 : Nat) n (fun j => [T.int IntKind.i64 (H j), T.int IntKind.i64 (W j)]) c,
        T.reg [T.int IntKind.i64 S, T.int IntKind.i64 R], T.own (1 : Nat) (0 : Nat) (0 : Nat) i (some b),
        T.int IntKind.i64 (Int.ofNat a),
        T.int IntKind.i64
          (IntKind.i64.wrap ((100 : Int) * IntKind.i64.wrap (IntKind.i64.wrap ((2 : Int) * Int.ofNat i) + (1 : Int)))),
        T.int IntKind.i64 (IntKind.i64.wrap ((2 : Int) * R)), T.int IntKind.i64 (Int.ofNat b),
        T.int IntKind.i64 (Int.ofNat i)]
      [B, Blk.mk (0 : Nat) (1 : Nat) b (fun j => [T.int IntKind.i64 (x j)]) true false]
      [T.view (2 : Nat) n (fun j => [T.int IntKind.i64 (H j), T.int IntKind.i64 (W j)]) c,
        T.reg [T.int IntKind.i64 S, T.int IntKind.i64 R], T.own (1 : Nat) (0 : Nat) (0 : Nat) i (some b),
        T.int IntKind.i64 (Int.ofNat a), T.int IntKind.i64 m, T.int IntKind.i64 P, T.int IntKind.i64 (Int.ofNat b),
        T.int IntKind.i64 (Int.ofNat i)]
      [B, Blk.mk (0 : Nat) (1 : Nat) b (fun j => [T.int IntKind.i64 (x j)]) true false] then
    bif sameArgsF
      [T.agg [T.int IntKind.i64 S, T.int IntKind.i64 R],
        T.view (2 : Nat) n (fun j => [T.int IntKind.i64 (H j), T.int IntKind.i64 (W j)]) c,
        T.int IntKind.i64 (Int.ofNat a'), T.int IntKind.i64 m, T.int IntKind.i64 P]
      l1 then
    bif decide (w = (0 : Int)) then
    some ((Ex.ret, [T.nils, T.int IntKind.i64 (14 : Int), T.own (1 : Nat) (0 : Nat) (0 : Nat) i (some b)],
      [B, Blk.mk (0 : Nat) (1 : Nat) b (fun j => [T.int IntKind.i64 (x j)]) true false]))
    else
    bif true && ((0 : Nat) + i).ble b then
    bif ((i + (1 : Nat)) * (9 : Nat)).ble (70368744177664 : Nat) then
    bif (i + (1 : Nat)).ble b then
    bif ((0 : Nat) + i + (1 : Nat)).ble b then
    some ((Ex.normal,
      [T.view (2 : Nat) n (fun j => [T.int IntKind.i64 (H j), T.int IntKind.i64 (W j)]) c,
        T.reg [T.int IntKind.i64 S, T.int IntKind.i64 R], T.own (1 : Nat) (0 : Nat) (0 : Nat) (i + (1 : Nat)) (some b),
        T.int IntKind.i64 (Int.ofNat a'), T.int IntKind.i64 (Int.ofNat b),
        T.int IntKind.i64 (IntKind.i64.wrap (Int.ofNat i + (1 : Int)))],
      [B,
        Blk.mk (0 : Nat) (1 : Nat) b
          (fun j =>
            bif ((0 : Nat) + i).ble j && j.blt ((0 : Nat) + i + (1 : Nat)) then
              [[T.int IntKind.i64 w]].getD ((0 : Nat) + (j - ((0 : Nat) + i))) []
            else [T.int IntKind.i64 (x j)])
          true false,
        Blk.mk (0 : Nat) (1 : Nat) (1 : Nat) (fun j => [[T.int IntKind.i64 w]].getD j []) true true]))
    else
    none
    else
    some ((Ex.normal,
      [T.view (2 : Nat) n (fun j => [T.int IntKind.i64 (H j), T.int IntKind.i64 (W j)]) c,
        T.reg [T.int IntKind.i64 S, T.int IntKind.i64 R],
        T.own
          [B, Blk.mk (0 : Nat) (1 : Nat) b (fun j => [T.int IntKind.i64 (x j)]) true false,
              Blk.mk (0 : Nat) (1 : Nat) (1 : Nat) (fun j => [[T.int IntKind.i64 w]].getD j []) true true].length
          (0 : Nat) (0 : Nat) (i + (1 : Nat)) none,
        T.int IntKind.i64 (Int.ofNat a'), T.int IntKind.i64 (Int.ofNat b),
        T.int IntKind.i64 (IntKind.i64.wrap (Int.ofNat i + (1 : Int)))],
      [B, Blk.mk (0 : Nat) (1 : Nat) b (fun j => [T.int IntKind.i64 (x j)]) true false,
        Blk.mk (0 : Nat) (1 : Nat) (1 : Nat) (fun j => [[T.int IntKind.i64 w]].getD j []) true true,
        Blk.mk (0 : Nat) (1 : Nat) (i + (1 : Nat))
          (fun j =>
            bif j.blt i then [T.int IntKind.i64 (x ((0 : Nat) + j))]
            else [[T.int IntKind.i64 w]].getD ((0 : Nat) + (j - i)) [])
          true false]))
    else
    none
    else
    none
    else
    none
    else
    none
    else
    some ((Ex.exit (2 : Nat), [T.undef, T.undef, T.own (1 : Nat) (0 : Nat) (0 : Nat) i (some b)],
      [B, Blk.mk (0 : Nat) (1 : Nat) b (fun j => [T.int IntKind.i64 (x j)]) true false]))) from by kernel_rfl)]
  have eo : (Int.ofNat i : Int) = (i : Int) := rfl
  have en : (Int.ofNat b : Int) = (b : Int) := rfl
  rw [dT (show Int.ofNat i < Int.ofNat b by omega), wr64 (x := 2 * Int.ofNat i) (by omega) (by omega), wr64 (x := 2 * Int.ofNat i + 1) (by omega) (by omega), wr64 (x := 100 * (2 * Int.ofNat i + 1)) (by omega) (by omega), wr64 (x := 2 * R) (by omega) (by omega), wr64 (x := Int.ofNat i + 1) (by omega) (by omega), hP, show 100 * (2 * Int.ofNat i + 1) = m from hM]
  rw [sameStF_iff.2 ⟨rfl, .refl _⟩, args_yes (by rw [← hL]; exact List.mem_singleton.2 rfl), bleT (show 0 + i ≤ b by omega), bleT (show (i + 1) * 9 ≤ 70368744177664 by omega), bleT (show i + 1 ≤ b by omega), bleT (show 0 + i + 1 ≤ b by omega)]
  simp only [Bool.and_self, cond_true]
  refine ⟨fun j => bif (0 + i).ble j && j.blt (0 + i + 1) then [[T.int .i64 w]].getD (0 + (j - (0 + i))) [] else [T.int .i64 (x j)], fun j => [[T.int .i64 w]].getD j [], ?_, fun j hj => ?_⟩
  · by_cases q : w = 0
    · rw [dT q, if_pos q]; rfl
    · rw [dF q, if_neg q]; rfl
  · show (bif (0 + i).ble j && j.blt (0 + i + 1) then [[T.int .i64 w]].getD (0 + (j - (0 + i))) [] else [T.int .i64 (x j)]) = _
    by_cases q : j = i
    · subst q
      rw [bleT (show 0 + j ≤ j by omega), bltT (show j < 0 + j + 1 by omega), if_pos rfl]
      simp
    · rw [if_neg q]
      by_cases q2 : j < i
      · rw [bleF (show j < 0 + i by omega)]; rfl
      · rw [bltF (show 0 + i + 1 ≤ j by omega)]; simp
theorem r19x (S R : Int) (x : Nat → Int) (a b : Nat) (B : Blk) (H W : Nat → Int) (n : Nat) (c : Option Nat) :
    iterR P37 G37 A37 K37b 0 17 [] 19 [.view 2 n (fun j => [.int .i64 (H j), .int .i64 (W j)]) c, .reg [.int .i64 S, .int .i64 R], .own 1 0 0 b (some b), .int .i64 a, .int .i64 b, .int .i64 b] [B, iblk b x] = some (.exit 2, [.undef, .undef, .own 1 0 0 b (some b)], [B, iblk b x]) := by
  rw [(show iterR P37 G37 A37 K37b 0 17 [] 19 [.view 2 n (fun j => [.int .i64 (H j), .int .i64 (W j)]) c, .reg [.int .i64 S, .int .i64 R], .own 1 0 0 b (some b), .int .i64 a, .int .i64 b, .int .i64 b] [B, iblk b x] =
(    bif decide (Int.ofNat b < Int.ofNat b) then
    none
    else
    some ((Ex.exit (2 : Nat), [T.undef, T.undef, T.own (1 : Nat) (0 : Nat) (0 : Nat) b (some b)],
      [B, Blk.mk (0 : Nat) (1 : Nat) b (fun j => [T.int IntKind.i64 (x j)]) true false]))) from by kernel_rfl)]
  rw [dF (by omega)]; rfl
end Go.Ab

namespace Go.Ab
open Go.Proofs
def wv (S R : Int) (H W : Nat → Int) (n k : Nat) : Int := wd S H W n (atk H n (2 * R) (k + 1)) (mid k) (2 * R)
def wvb (S R : Int) (H W : Nat → Int) (n k : Nat) : Nat → Int := fun j => if j < k then wv S R H W n j else 0
def rowsV (R : Int) (H : Nat → Int) (n : Nat) : Int := roundF (R * bf H n) 100
noncomputable def KT37 (l1 : List (List T)) (top : Int) (l2 : List (List T)) (q : Bool) : Orc := (K37b.add 23 (callS l2 (.bool q))).add 24 (callS l1 (.int .i64 top))
theorem w19 (S R : Int) (H W : Nat → Int) (n b i : Nat) (c : Option Nat) (hg : Okg S R) (ho : Okp n H W) (hn : n ≤ 400) (hb : b ≤ 400) (hi : i < b) (nt : Nat) :
    ∃ g1 g2, Rnd P37 G37 (A37 17) 17 19 [.view 2 n (fun j => [.int .i64 (H j), .int .i64 (W j)]) c, .reg [.int .i64 S, .int .i64 R], .own 1 0 0 i (some b), .int .i64 (atk H n (2 * R) i : Nat), .int .i64 b, .int .i64 i] [hBlk n n H, iblk b (wvb S R H W n i)]
      (if wv S R H W n i = 0 then .ret else .normal)
      (if wv S R H W n i = 0 then [.nils, .int .i64 14, .own 1 0 0 i (some b)] else [.view 2 n (fun j => [.int .i64 (H j), .int .i64 (W j)]) c, .reg [.int .i64 S, .int .i64 R], .own 1 0 0 (i + 1) (some b), .int .i64 (atk H n (2 * R) (i + 1) : Nat), .int .i64 b, .int .i64 ((i + 1 : Nat) : Int)])
      (if wv S R H W n i = 0 then [hBlk n n H, iblk b (wvb S R H W n i)] else [hBlk n n H, ⟨0, 1, b, g1, true, false⟩, ⟨0, 1, 1, g2, true, true⟩]) ∧ ∀ j, j < b → g1 j = [.int .i64 (wvb S R H W n (i + 1) j)] := by
  have hP : 0 ≤ 2 * R ∧ 2 * R ≤ 800 := by obtain ⟨_, _, _, _⟩ := hg; omega
  have hH : ∀ j, j < n → 0 ≤ H j ∧ H j ≤ 20000 := fun j hj => (here_at hg ho hn 0 (by omega)).h j hj
  have hat := (atk_sp H n (2 * R) (by obtain ⟨_, _⟩ := ho; omega) ho.2.1 i).1
  obtain ⟨g1, g2, q1, q2⟩ := r19r S R H W (wvb S R H W n i) n (atk H n (2 * R) i) (atk H n (2 * R) (i + 1)) b i c (wv S R H W n i) (hBlk n n H) hi hb (by obtain ⟨_, _, _, _⟩ := hg; omega)
  refine ⟨g1, g2, Rnd.ofL A37 (okKW ?_) rfl rfl (l := [(22, _)]) (loops1 (n22 S R (mid i) (2 * R) i b H W n (atk H n (2 * R) i) c (.own 1 0 0 i (some b)) [hBlk n n H, iblk b (wvb S R H W n i)] hn hat hP hH)) (q1.trans ?_), fun j hj => ?_⟩
  · intro a ha
    obtain rfl := List.mem_singleton.1 ha
    exact widthT S R (mid i) (2 * R) H W n (atk H n (2 * R) (i + 1)) c hn (here_at hg ho hn i (by omega))
  · by_cases q : wv S R H W n i = 0
    · simp only [if_pos q]
    · simp only [if_neg q]
  · rw [q2 j hj]
    unfold wvb
    by_cases e : j = i
    · subst e; rw [if_pos rfl, if_pos (by omega)]
    · rw [if_neg e]
      by_cases e2 : j < i
      · rw [if_pos e2, if_pos (by omega)]
      · rw [if_neg e2, if_neg (by omega)]
theorem w19n (S R : Int) (H W : Nat → Int) (n b i : Nat) (c : Option Nat) (hg : Okg S R) (ho : Okp n H W) (hn : n ≤ 400) (hb : b ≤ 400) (hi : i < b) (nt : Nat) (hne : wv S R H W n i ≠ 0) :
    ∃ vs' h', Rnd P37 G37 (A37 17) 17 19 [.view 2 n (fun j => [.int .i64 (H j), .int .i64 (W j)]) c, .reg [.int .i64 S, .int .i64 R], .own 1 0 0 i (some b), .int .i64 (atk H n (2 * R) i : Nat), .int .i64 b, .int .i64 i] [hBlk n n H, iblk b (wvb S R H W n i)] .normal vs' h' ∧
      WeakTo G37 (A37 17).prom nt ((A37 17).live 19 false) 2 vs' h' [.view 2 n (fun j => [.int .i64 (H j), .int .i64 (W j)]) c, .reg [.int .i64 S, .int .i64 R], .own 1 0 0 (i + 1) (some b), .int .i64 (atk H n (2 * R) (i + 1) : Nat), .int .i64 b, .int .i64 ((i + 1 : Nat) : Int)] [hBlk n n H, iblk b (wvb S R H W n (i + 1))] := by
  obtain ⟨g1, g2, q1, q2⟩ := w19 S R H W n b i c hg ho hn hb hi nt
  simp only [if_neg hne] at q1
  refine ⟨_, _, q1, ?_⟩
  have hw : SameBlks [hBlk n n H, ⟨0, 1, b, g1, true, false⟩] [hBlk n n H, iblk b (wvb S R H W n (i + 1))] := .cons ⟨rfl, rfl, rfl, id, fun _ _ => rfl⟩ (.cons ⟨rfl, rfl, rfl, id, fun j hj => (q2 j hj).symm⟩ .nil)
  exact WeakTo.trans (h1 := [hBlk n n H, ⟨0, 1, b, g1, true, false⟩]) (WeakTo.takeM (m := 2) (by simp) (h := [hBlk n n H, ⟨0, 1, b, g1, true, false⟩, ⟨0, 1, 1, g2, true, true⟩]) (by simp [trimOk, low, low0, imm0, lowBlk, Nat.blt, hBlk, iblk])) (.same hw)
theorem l19good (S R : Int) (H W : Nat → Int) (n b : Nat) (c : Option Nat) (hg : Okg S R) (ho : Okp n H W) (hn : n ≤ 400) (hb : b ≤ 400) (hne : ∀ i, i < b → wv S R H W n i ≠ 0) :
    LoopOk P37 G37 (A37 17) 17 19 (litS [.view 2 n (fun j => [.int .i64 (H j), .int .i64 (W j)]) c, .reg [.int .i64 S, .int .i64 R], .own 1 0 0 0 (some b), .int .i64 0, .int .i64 b, .int .i64 0] [hBlk n n H, iblk b (wvb S R H W n 0)] (.exit 2)
      [.undef, .undef, .own 1 0 0 b (some b)] [hBlk n n H, iblk b (wvb S R H W n b)]) :=
  .lit fun fn hf hnt => loop_seq hm37 (by kernel_rfl) hf hnt (fun i => [.view 2 n (fun j => [.int .i64 (H j), .int .i64 (W j)]) c, .reg [.int .i64 S, .int .i64 R], .own 1 0 0 i (some b), .int .i64 (atk H n (2 * R) i : Nat), .int .i64 b, .int .i64 (i : Int)]) (fun i => [hBlk n n H, iblk b (wvb S R H W n i)]) (n := b)
    (fun i hi => w19n S R H W n b i c hg ho hn hb hi _ (hne i hi)) ⟨by simp, _, _, Rnd.of A37 okK37b rfl rfl (r19x S R (wvb S R H W n b) (atk H n (2 * R) b) b (hBlk n n H) H W n c), .refl _ _⟩
theorem l19bad (S R : Int) (H W : Nat → Int) (n b k : Nat) (c : Option Nat) (hg : Okg S R) (ho : Okp n H W) (hn : n ≤ 400) (hb : b ≤ 400) (hk : k < b) (h0 : wv S R H W n k = 0) (hne : ∀ i, i < k → wv S R H W n i ≠ 0) :
    LoopOk P37 G37 (A37 17) 17 19 (litS [.view 2 n (fun j => [.int .i64 (H j), .int .i64 (W j)]) c, .reg [.int .i64 S, .int .i64 R], .own 1 0 0 0 (some b), .int .i64 0, .int .i64 b, .int .i64 0] [hBlk n n H, iblk b (wvb S R H W n 0)] .ret
      [.nils, .int .i64 14, .own 1 0 0 k (some b)] [hBlk n n H, iblk b (wvb S R H W n k)]) := by
  refine .lit fun fn hf hnt => loop_seq hm37 (by kernel_rfl) hf hnt (fun i => [.view 2 n (fun j => [.int .i64 (H j), .int .i64 (W j)]) c, .reg [.int .i64 S, .int .i64 R], .own 1 0 0 i (some b), .int .i64 (atk H n (2 * R) i : Nat), .int .i64 b, .int .i64 (i : Int)]) (fun i => [hBlk n n H, iblk b (wvb S R H W n i)]) (n := k)
    (fun i hi => w19n S R H W n b i c hg ho hn hb (by omega) _ (hne i hi)) ⟨by simp, ?_⟩
  obtain ⟨g1, g2, q1, q2⟩ := w19 S R H W n b k c hg ho hn hb hk 0
  simp only [if_pos h0] at q1
  exact ⟨_, _, q1, .refl _ _⟩
end Go.Ab

namespace Go.Ab
open Go.Proofs
theorem okKT {l1 l2 : List (List T)} {top : Int} {q : Bool} (h1 : ∀ a ∈ l1, ToldOk P37 G37 24 a (.int .i64 top)) (h2 : ∀ a ∈ l2, ToldOk P37 G37 23 a (.bool q)) : OrcOk P37 G37 (KT37 l1 top l2 q) :=
  told_add (told_add okK37b (callS_told h2)) (callS_told h1)
theorem widthsN (S R : Int) (H W : Nat → Int) (n : Nat) (c : Option Nat) (hn : n ≤ 4611686018427387904) (hg : ¬ (Okg S R ∧ Okp n H W)) : ToldOk P37 G37 17 [.agg [.int .i64 S, .int .i64 R], .view 2 n (fun j => [.int .i64 (H j), .int .i64 (W j)]) c] bad1 := by
  refine stepV_told hm37 hn37 (okKT (l1 := []) (top := 0) (l2 := [[.agg [.int .i64 S, .int .i64 R], .view 2 n (fun j => [.int .i64 (H j), .int .i64 (W j)]) c]]) (q := false) (fun _ h => by cases h) (fun a h => by obtain rfl := List.mem_singleton.1 h; exact validN S R H W n c hn hg)) (A := A37) (m := 0) ?_
  generalize hL : [[T.agg [.int .i64 S, .int .i64 R], .view 2 n (fun j => [.int .i64 (H j), .int .i64 (W j)]) c]] = l2
  rw [(show stepV P37 G37 A37 (KT37 [] 0 l2 false) 0 17 [.agg [.int .i64 S, .int .i64 R], .view 2 n (fun j => [.int .i64 (H j), .int .i64 (W j)]) c] =
(    bif sameArgsF
      [T.agg [T.int IntKind.i64 S, T.int IntKind.i64 R],
        T.view (2 : Nat) n (fun j => [T.int IntKind.i64 (H j), T.int IntKind.i64 (W j)]) c]
      l2 then
    some (T.tup [T.nils, T.int IntKind.i64 (1 : Int)])
    else
    none) from by kernel_rfl)]
  rw [args_yes (by rw [← hL]; exact List.mem_singleton.2 rfl)]
  rfl
theorem widthsC (S R top : Int) (H W X0 X Y0 Y1 : Nat → Int) (n b : Nat) (c : Option Nat) (l1 l2 : List (List T)) (hn : n ≤ 400) (hR : Okg S R) (ht : 0 ≤ top ∧ top ≤ 20000)
    (hrow : roundF (R * top) 100 = Int.ofNat b) (hb0 : b ≠ 0) (hb4 : b ≤ 400)
    (k1 : ∀ a ∈ l1, ToldOk P37 G37 24 a (.int .i64 top)) (k2 : ∀ a ∈ l2, ToldOk P37 G37 23 a (.bool true))
    (m1 : [T.view 1 n (fun j => [.int .i64 (X (0 + j))]) (some n)] ∈ l1) (m2 : [T.agg [.int .i64 S, .int .i64 R], .view 2 n (fun j => [.int .i64 (H j), .int .i64 (W j)]) c] ∈ l2)
    (x0 : ∀ j, j < n → X0 j = 0) (y0 : ∀ j, j < b → Y0 j = 0)
    (h5 : LoopOk P37 G37 (A37 17) 17 5 (litS [.view 2 n (fun j => [.int .i64 (H j), .int .i64 (W j)]) c, .reg [.int .i64 S, .int .i64 R], .own 0 0 0 0 (some n), .view 2 n (fun j => [.int .i64 (H j), .int .i64 (W j)]) c, .int .i64 n, .int .i64 0] [iblk n X0] (.exit 0)
      [.view 2 n (fun j => [.int .i64 (H j), .int .i64 (W j)]) c, .reg [.int .i64 S, .int .i64 R], .own 0 0 0 n (some n)] [iblk n X]))
    (h19 : LoopOk P37 G37 (A37 17) 17 19 (litS [.view 2 n (fun j => [.int .i64 (H j), .int .i64 (W j)]) c, .reg [.int .i64 S, .int .i64 R], .own 1 0 0 0 (some b), .int .i64 0, .int .i64 b, .int .i64 0] [iblk n X, iblk b Y0] (.exit 2)
      [.undef, .undef, .own 1 0 0 b (some b)] [iblk n X, iblk b Y1])) :
    ToldOk P37 G37 17 [.agg [.int .i64 S, .int .i64 R], .view 2 n (fun j => [.int .i64 (H j), .int .i64 (W j)]) c] (.tup [.fresh true 1 b (fun j => [.int .i64 (Y1 (0 + j))]) b (some b), .int .i64 0]) := by
  refine stepL_told hm37 hn37 (okKT k1 k2) (A := A37) (m := 0) (by kernel_rfl) (loopsC h5 (loops1 h19)) ?_
  rw [(show stepL P37 G37 A37 (KT37 l1 top l2 true) 0 17 [(5, litS [.view 2 n (fun j => [.int .i64 (H j), .int .i64 (W j)]) c, .reg [.int .i64 S, .int .i64 R], .own 0 0 0 0 (some n), .view 2 n (fun j => [.int .i64 (H j), .int .i64 (W j)]) c, .int .i64 n, .int .i64 0] [iblk n X0] (.exit 0)
      [.view 2 n (fun j => [.int .i64 (H j), .int .i64 (W j)]) c, .reg [.int .i64 S, .int .i64 R], .own 0 0 0 n (some n)] [iblk n X]), (19, litS [.view 2 n (fun j => [.int .i64 (H j), .int .i64 (W j)]) c, .reg [.int .i64 S, .int .i64 R], .own 1 0 0 0 (some b), .int .i64 0, .int .i64 b, .int .i64 0] [iblk n X, iblk b Y0] (.exit 2)
      [.undef, .undef, .own 1 0 0 b (some b)] [iblk n X, iblk b Y1])] [.agg [.int .i64 S, .int .i64 R], .view 2 n (fun j => [.int .i64 (H j), .int .i64 (W j)]) c] =
(    bif sameArgsF
      [T.agg [T.int IntKind.i64 S, T.int IntKind.i64 R],
        T.view (2 : Nat) n (fun j => [T.int IntKind.i64 (H j), T.int IntKind.i64 (W j)]) c]
      l2 then
    bif true && decide ((0 : Int) ≤ Int.ofNat n) && decide (Int.ofNat n * (8 : Int) ≤ (140737488355328 : Int)) &&
      decide (Int.ofNat n ≤ (9223372036854775807 : Int)) then
    bif sameStF
      [T.view (2 : Nat) n (fun j => [T.int IntKind.i64 (H j), T.int IntKind.i64 (W j)]) c,
        T.reg [T.int IntKind.i64 S, T.int IntKind.i64 R], T.own (0 : Nat) (0 : Nat) (0 : Nat) (0 : Nat) (some n),
        T.view (2 : Nat) n (fun j => [T.int IntKind.i64 (H j), T.int IntKind.i64 (W j)]) c, T.int IntKind.i64 (Int.ofNat n),
        T.int IntKind.i64 (0 : Int)]
      [Blk.mk (0 : Nat) (1 : Nat) n (fun x => [T.int IntKind.i64 (0 : Int)]) true false]
      [T.view (2 : Nat) n (fun j => [T.int IntKind.i64 (H j), T.int IntKind.i64 (W j)]) c,
        T.reg [T.int IntKind.i64 S, T.int IntKind.i64 R], T.own (0 : Nat) (0 : Nat) (0 : Nat) (0 : Nat) (some n),
        T.view (2 : Nat) n (fun j => [T.int IntKind.i64 (H j), T.int IntKind.i64 (W j)]) c, T.int IntKind.i64 (Int.ofNat n),
        T.int IntKind.i64 (0 : Int)]
      [Blk.mk (0 : Nat) (1 : Nat) n (fun j => [T.int IntKind.i64 (X0 j)]) true false] then
    bif sameArgsF
      [bif true && ((0 : Nat) + n).ble n then T.view (1 : Nat) n (fun j => [T.int IntKind.i64 (X ((0 : Nat) + j))]) (some n)
        else T.undef]
      l1 then
    bif cntF R top (20000 : Int) then
    bif decide ((400 : Int) < roundF (R * top) (100 : Int)) then
    some (T.tup [T.nils, T.int IntKind.i64 (3 : Int)])
    else
    bif decide (roundF (R * top) (100 : Int) = (0 : Int)) then
    some (T.tup [T.nils, T.int IntKind.i64 (14 : Int)])
    else
    bif true && decide ((0 : Int) ≤ roundF (R * top) (100 : Int)) &&
        decide (roundF (R * top) (100 : Int) * (8 : Int) ≤ (140737488355328 : Int)) &&
      decide (roundF (R * top) (100 : Int) ≤ (9223372036854775807 : Int)) then
    bif sameStF
      [T.view (2 : Nat) n (fun j => [T.int IntKind.i64 (H j), T.int IntKind.i64 (W j)]) c,
        T.reg [T.int IntKind.i64 S, T.int IntKind.i64 R],
        T.own [Blk.mk (0 : Nat) (1 : Nat) n (fun j => [T.int IntKind.i64 (X j)]) true false].length (0 : Nat) (0 : Nat)
          (0 : Nat) (some (roundF (R * top) (100 : Int)).toNat),
        T.int IntKind.i64 (0 : Int), T.int IntKind.i64 (roundF (R * top) (100 : Int)), T.int IntKind.i64 (0 : Int)]
      [Blk.mk (0 : Nat) (1 : Nat) n (fun j => [T.int IntKind.i64 (X j)]) true false,
        Blk.mk (0 : Nat) (1 : Nat) (roundF (R * top) (100 : Int)).toNat (fun x => [T.int IntKind.i64 (0 : Int)]) true false]
      [T.view (2 : Nat) n (fun j => [T.int IntKind.i64 (H j), T.int IntKind.i64 (W j)]) c,
        T.reg [T.int IntKind.i64 S, T.int IntKind.i64 R], T.own (1 : Nat) (0 : Nat) (0 : Nat) (0 : Nat) (some b),
        T.int IntKind.i64 (0 : Int), T.int IntKind.i64 (Int.ofNat b), T.int IntKind.i64 (0 : Int)]
      [Blk.mk (0 : Nat) (1 : Nat) n (fun j => [T.int IntKind.i64 (X j)]) true false,
        Blk.mk (0 : Nat) (1 : Nat) b (fun j => [T.int IntKind.i64 (Y0 j)]) true false] then
    some (T.tup
      [bif true && ((0 : Nat) + b).ble b then
          T.fresh true (1 : Nat) (b - (0 : Nat)) (fun j => [T.int IntKind.i64 (Y1 ((0 : Nat) + j))]) b (some b)
        else T.undef,
        T.int IntKind.i64 (0 : Int)])
    else
    none
    else
    none
    else
    some (T.tup [T.nils, T.int IntKind.i64 (1 : Int)])
    else
    none
    else
    none
    else
    none
    else
    none) from by kernel_rfl)]
  have en : (Int.ofNat n : Int) = (n : Int) := rfl
  have eb : (Int.ofNat b : Int) = (b : Int) := rfl
  obtain ⟨_, _, _, _⟩ := hR
  rw [args_yes m2]
  simp only [cond_true, Bool.true_and]
  rw [dT (show (0 : Int) ≤ Int.ofNat n by omega), dT (show Int.ofNat n * 8 ≤ 140737488355328 by omega), dT (show Int.ofNat n ≤ 9223372036854775807 by omega), bleT (show 0 + n ≤ n by omega)]
  simp only [Bool.and_self, cond_true]
  refine bift (sameStF_iff.2 ⟨rfl, .cons' ⟨rfl, rfl, rfl, fun j hj => ?_⟩ (fun j _ => rfl) .nil⟩) ?_
  · simp only [iblk, x0 j hj]
  rw [args_yes m1, cntF_iff.2 (by omega), hrow]
  simp only [cond_true]
  rw [dF (show ¬ (400 : Int) < Int.ofNat b by omega), dF (show ¬ Int.ofNat b = 0 by omega), dT (show (0 : Int) ≤ Int.ofNat b by omega), dT (show Int.ofNat b * 8 ≤ 140737488355328 by omega), dT (show Int.ofNat b ≤ 9223372036854775807 by omega)]
  simp only [Bool.and_self, cond_true, cond_false]
  refine bift (sameStF_iff.2 ⟨rfl, .cons ⟨rfl, rfl, rfl, id, fun _ _ => rfl⟩ (.cons' ⟨rfl, rfl, rfl, fun j hj => ?_⟩ (fun j _ => rfl) .nil)⟩) ?_
  · simp only [iblk, y0 j hj]
  rw [bleT (show 0 + b ≤ b by omega)]
  rfl
theorem widthsZ (S R top : Int) (H W X0 X Y0 Y1 : Nat → Int) (n b k : Nat) (c : Option Nat) (l1 l2 : List (List T)) (hn : n ≤ 400) (hR : Okg S R) (ht : 0 ≤ top ∧ top ≤ 20000)
    (hrow : roundF (R * top) 100 = Int.ofNat b) (hb0 : b ≠ 0) (hb4 : b ≤ 400)
    (k1 : ∀ a ∈ l1, ToldOk P37 G37 24 a (.int .i64 top)) (k2 : ∀ a ∈ l2, ToldOk P37 G37 23 a (.bool true))
    (m1 : [T.view 1 n (fun j => [.int .i64 (X (0 + j))]) (some n)] ∈ l1) (m2 : [T.agg [.int .i64 S, .int .i64 R], .view 2 n (fun j => [.int .i64 (H j), .int .i64 (W j)]) c] ∈ l2)
    (x0 : ∀ j, j < n → X0 j = 0) (y0 : ∀ j, j < b → Y0 j = 0)
    (h5 : LoopOk P37 G37 (A37 17) 17 5 (litS [.view 2 n (fun j => [.int .i64 (H j), .int .i64 (W j)]) c, .reg [.int .i64 S, .int .i64 R], .own 0 0 0 0 (some n), .view 2 n (fun j => [.int .i64 (H j), .int .i64 (W j)]) c, .int .i64 n, .int .i64 0] [iblk n X0] (.exit 0)
      [.view 2 n (fun j => [.int .i64 (H j), .int .i64 (W j)]) c, .reg [.int .i64 S, .int .i64 R], .own 0 0 0 n (some n)] [iblk n X]))
    (h19 : LoopOk P37 G37 (A37 17) 17 19 (litS [.view 2 n (fun j => [.int .i64 (H j), .int .i64 (W j)]) c, .reg [.int .i64 S, .int .i64 R], .own 1 0 0 0 (some b), .int .i64 0, .int .i64 b, .int .i64 0] [iblk n X, iblk b Y0] .ret
      [.nils, .int .i64 14, .own 1 0 0 k (some b)] [iblk n X, iblk b Y1])) :
    ToldOk P37 G37 17 [.agg [.int .i64 S, .int .i64 R], .view 2 n (fun j => [.int .i64 (H j), .int .i64 (W j)]) c] (.tup [.nils, .int .i64 14]) := by
  refine stepL_told hm37 hn37 (okKT k1 k2) (A := A37) (m := 0) (by kernel_rfl) (loopsC h5 (loops1 h19)) ?_
  rw [(show stepL P37 G37 A37 (KT37 l1 top l2 true) 0 17 [(5, litS [.view 2 n (fun j => [.int .i64 (H j), .int .i64 (W j)]) c, .reg [.int .i64 S, .int .i64 R], .own 0 0 0 0 (some n), .view 2 n (fun j => [.int .i64 (H j), .int .i64 (W j)]) c, .int .i64 n, .int .i64 0] [iblk n X0] (.exit 0)
      [.view 2 n (fun j => [.int .i64 (H j), .int .i64 (W j)]) c, .reg [.int .i64 S, .int .i64 R], .own 0 0 0 n (some n)] [iblk n X]), (19, litS [.view 2 n (fun j => [.int .i64 (H j), .int .i64 (W j)]) c, .reg [.int .i64 S, .int .i64 R], .own 1 0 0 0 (some b), .int .i64 0, .int .i64 b, .int .i64 0] [iblk n X, iblk b Y0] .ret
      [.nils, .int .i64 14, .own 1 0 0 k (some b)] [iblk n X, iblk b Y1])] [.agg [.int .i64 S, .int .i64 R], .view 2 n (fun j => [.int .i64 (H j), .int .i64 (W j)]) c] =
(    bif sameArgsF
      [T.agg [T.int IntKind.i64 S, T.int IntKind.i64 R],
        T.view (2 : Nat) n (fun j => [T.int IntKind.i64 (H j), T.int IntKind.i64 (W j)]) c]
      l2 then
    bif true && decide ((0 : Int) ≤ Int.ofNat n) && decide (Int.ofNat n * (8 : Int) ≤ (140737488355328 : Int)) &&
      decide (Int.ofNat n ≤ (9223372036854775807 : Int)) then
    bif sameStF
      [T.view (2 : Nat) n (fun j => [T.int IntKind.i64 (H j), T.int IntKind.i64 (W j)]) c,
        T.reg [T.int IntKind.i64 S, T.int IntKind.i64 R], T.own (0 : Nat) (0 : Nat) (0 : Nat) (0 : Nat) (some n),
        T.view (2 : Nat) n (fun j => [T.int IntKind.i64 (H j), T.int IntKind.i64 (W j)]) c, T.int IntKind.i64 (Int.ofNat n),
        T.int IntKind.i64 (0 : Int)]
      [Blk.mk (0 : Nat) (1 : Nat) n (fun x => [T.int IntKind.i64 (0 : Int)]) true false]
      [T.view (2 : Nat) n (fun j => [T.int IntKind.i64 (H j), T.int IntKind.i64 (W j)]) c,
        T.reg [T.int IntKind.i64 S, T.int IntKind.i64 R], T.own (0 : Nat) (0 : Nat) (0 : Nat) (0 : Nat) (some n),
        T.view (2 : Nat) n (fun j => [T.int IntKind.i64 (H j), T.int IntKind.i64 (W j)]) c, T.int IntKind.i64 (Int.ofNat n),
        T.int IntKind.i64 (0 : Int)]
      [Blk.mk (0 : Nat) (1 : Nat) n (fun j => [T.int IntKind.i64 (X0 j)]) true false] then
    bif sameArgsF
      [bif true && ((0 : Nat) + n).ble n then T.view (1 : Nat) n (fun j => [T.int IntKind.i64 (X ((0 : Nat) + j))]) (some n)
        else T.undef]
      l1 then
    bif cntF R top (20000 : Int) then
    bif decide ((400 : Int) < roundF (R * top) (100 : Int)) then
    some (T.tup [T.nils, T.int IntKind.i64 (3 : Int)])
    else
    bif decide (roundF (R * top) (100 : Int) = (0 : Int)) then
    some (T.tup [T.nils, T.int IntKind.i64 (14 : Int)])
    else
    bif true && decide ((0 : Int) ≤ roundF (R * top) (100 : Int)) &&
        decide (roundF (R * top) (100 : Int) * (8 : Int) ≤ (140737488355328 : Int)) &&
      decide (roundF (R * top) (100 : Int) ≤ (9223372036854775807 : Int)) then
    bif sameStF
      [T.view (2 : Nat) n (fun j => [T.int IntKind.i64 (H j), T.int IntKind.i64 (W j)]) c,
        T.reg [T.int IntKind.i64 S, T.int IntKind.i64 R],
        T.own [Blk.mk (0 : Nat) (1 : Nat) n (fun j => [T.int IntKind.i64 (X j)]) true false].length (0 : Nat) (0 : Nat)
          (0 : Nat) (some (roundF (R * top) (100 : Int)).toNat),
        T.int IntKind.i64 (0 : Int), T.int IntKind.i64 (roundF (R * top) (100 : Int)), T.int IntKind.i64 (0 : Int)]
      [Blk.mk (0 : Nat) (1 : Nat) n (fun j => [T.int IntKind.i64 (X j)]) true false,
        Blk.mk (0 : Nat) (1 : Nat) (roundF (R * top) (100 : Int)).toNat (fun x => [T.int IntKind.i64 (0 : Int)]) true false]
      [T.view (2 : Nat) n (fun j => [T.int IntKind.i64 (H j), T.int IntKind.i64 (W j)]) c,
        T.reg [T.int IntKind.i64 S, T.int IntKind.i64 R], T.own (1 : Nat) (0 : Nat) (0 : Nat) (0 : Nat) (some b),
        T.int IntKind.i64 (0 : Int), T.int IntKind.i64 (Int.ofNat b), T.int IntKind.i64 (0 : Int)]
      [Blk.mk (0 : Nat) (1 : Nat) n (fun j => [T.int IntKind.i64 (X j)]) true false,
        Blk.mk (0 : Nat) (1 : Nat) b (fun j => [T.int IntKind.i64 (Y0 j)]) true false] then
    some (T.tup [T.nils, T.int IntKind.i64 (14 : Int)])
    else
    none
    else
    none
    else
    some (T.tup [T.nils, T.int IntKind.i64 (1 : Int)])
    else
    none
    else
    none
    else
    none
    else
    none) from by kernel_rfl)]
  have en : (Int.ofNat n : Int) = (n : Int) := rfl
  have eb : (Int.ofNat b : Int) = (b : Int) := rfl
  obtain ⟨_, _, _, _⟩ := hR
  rw [args_yes m2]
  simp only [cond_true, Bool.true_and]
  rw [dT (show (0 : Int) ≤ Int.ofNat n by omega), dT (show Int.ofNat n * 8 ≤ 140737488355328 by omega), dT (show Int.ofNat n ≤ 9223372036854775807 by omega), bleT (show 0 + n ≤ n by omega)]
  simp only [Bool.and_self, cond_true]
  refine bift (sameStF_iff.2 ⟨rfl, .cons' ⟨rfl, rfl, rfl, fun j hj => ?_⟩ (fun j _ => rfl) .nil⟩) ?_
  · simp only [iblk, x0 j hj]
  rw [args_yes m1, cntF_iff.2 (by omega), hrow]
  simp only [cond_true]
  rw [dF (show ¬ (400 : Int) < Int.ofNat b by omega), dF (show ¬ Int.ofNat b = 0 by omega), dT (show (0 : Int) ≤ Int.ofNat b by omega), dT (show Int.ofNat b * 8 ≤ 140737488355328 by omega), dT (show Int.ofNat b ≤ 9223372036854775807 by omega)]
  simp only [Bool.and_self, cond_true, cond_false]
  refine bift (sameStF_iff.2 ⟨rfl, .cons ⟨rfl, rfl, rfl, id, fun _ _ => rfl⟩ (.cons' ⟨rfl, rfl, rfl, fun j hj => ?_⟩ (fun j _ => rfl) .nil)⟩) ?_
  · simp only [iblk, y0 j hj]
  rfl
theorem widthsR (S R top : Int) (H W X0 X : Nat → Int) (n b : Nat) (c : Option Nat) (l1 l2 : List (List T)) (hn : n ≤ 400) (hR : Okg S R) (ht : 0 ≤ top ∧ top ≤ 20000)
    (hrow : roundF (R * top) 100 = Int.ofNat b) (hbb : b ≤ 1000000) (hb0 : b = 0 ∨ 400 < b)
    (k1 : ∀ a ∈ l1, ToldOk P37 G37 24 a (.int .i64 top)) (k2 : ∀ a ∈ l2, ToldOk P37 G37 23 a (.bool true))
    (m1 : [T.view 1 n (fun j => [.int .i64 (X (0 + j))]) (some n)] ∈ l1) (m2 : [T.agg [.int .i64 S, .int .i64 R], .view 2 n (fun j => [.int .i64 (H j), .int .i64 (W j)]) c] ∈ l2)
    (x0 : ∀ j, j < n → X0 j = 0)
    (h5 : LoopOk P37 G37 (A37 17) 17 5 (litS [.view 2 n (fun j => [.int .i64 (H j), .int .i64 (W j)]) c, .reg [.int .i64 S, .int .i64 R], .own 0 0 0 0 (some n), .view 2 n (fun j => [.int .i64 (H j), .int .i64 (W j)]) c, .int .i64 n, .int .i64 0] [iblk n X0] (.exit 0)
      [.view 2 n (fun j => [.int .i64 (H j), .int .i64 (W j)]) c, .reg [.int .i64 S, .int .i64 R], .own 0 0 0 n (some n)] [iblk n X])) :
    ToldOk P37 G37 17 [.agg [.int .i64 S, .int .i64 R], .view 2 n (fun j => [.int .i64 (H j), .int .i64 (W j)]) c] (.tup [.nils, .int .i64 (if b = 0 then 14 else 3)]) := by
  refine stepL_told hm37 hn37 (okKT k1 k2) (A := A37) (m := 0) (by kernel_rfl) (loops1 h5) ?_
  rw [(show stepL P37 G37 A37 (KT37 l1 top l2 true) 0 17 [(5, litS [.view 2 n (fun j => [.int .i64 (H j), .int .i64 (W j)]) c, .reg [.int .i64 S, .int .i64 R], .own 0 0 0 0 (some n), .view 2 n (fun j => [.int .i64 (H j), .int .i64 (W j)]) c, .int .i64 n, .int .i64 0] [iblk n X0] (.exit 0)
      [.view 2 n (fun j => [.int .i64 (H j), .int .i64 (W j)]) c, .reg [.int .i64 S, .int .i64 R], .own 0 0 0 n (some n)] [iblk n X])] [.agg [.int .i64 S, .int .i64 R], .view 2 n (fun j => [.int .i64 (H j), .int .i64 (W j)]) c] =
(    bif sameArgsF
      [T.agg [T.int IntKind.i64 S, T.int IntKind.i64 R],
        T.view (2 : Nat) n (fun j => [T.int IntKind.i64 (H j), T.int IntKind.i64 (W j)]) c]
      l2 then
    bif true && decide ((0 : Int) ≤ Int.ofNat n) && decide (Int.ofNat n * (8 : Int) ≤ (140737488355328 : Int)) &&
      decide (Int.ofNat n ≤ (9223372036854775807 : Int)) then
    bif sameStF
      [T.view (2 : Nat) n (fun j => [T.int IntKind.i64 (H j), T.int IntKind.i64 (W j)]) c,
        T.reg [T.int IntKind.i64 S, T.int IntKind.i64 R], T.own (0 : Nat) (0 : Nat) (0 : Nat) (0 : Nat) (some n),
        T.view (2 : Nat) n (fun j => [T.int IntKind.i64 (H j), T.int IntKind.i64 (W j)]) c, T.int IntKind.i64 (Int.ofNat n),
        T.int IntKind.i64 (0 : Int)]
      [Blk.mk (0 : Nat) (1 : Nat) n (fun x => [T.int IntKind.i64 (0 : Int)]) true false]
      [T.view (2 : Nat) n (fun j => [T.int IntKind.i64 (H j), T.int IntKind.i64 (W j)]) c,
        T.reg [T.int IntKind.i64 S, T.int IntKind.i64 R], T.own (0 : Nat) (0 : Nat) (0 : Nat) (0 : Nat) (some n),
        T.view (2 : Nat) n (fun j => [T.int IntKind.i64 (H j), T.int IntKind.i64 (W j)]) c, T.int IntKind.i64 (Int.ofNat n),
        T.int IntKind.i64 (0 : Int)]
      [Blk.mk (0 : Nat) (1 : Nat) n (fun j => [T.int IntKind.i64 (X0 j)]) true false] then
    bif sameArgsF
      [bif true && ((0 : Nat) + n).ble n then T.view (1 : Nat) n (fun j => [T.int IntKind.i64 (X ((0 : Nat) + j))]) (some n)
        else T.undef]
      l1 then
    bif cntF R top (20000 : Int) then
    bif decide ((400 : Int) < roundF (R * top) (100 : Int)) then
    some (T.tup [T.nils, T.int IntKind.i64 (3 : Int)])
    else
    bif decide (roundF (R * top) (100 : Int) = (0 : Int)) then
    some (T.tup [T.nils, T.int IntKind.i64 (14 : Int)])
    else
    bif true && decide ((0 : Int) ≤ roundF (R * top) (100 : Int)) &&
        decide (roundF (R * top) (100 : Int) * (8 : Int) ≤ (140737488355328 : Int)) &&
      decide (roundF (R * top) (100 : Int) ≤ (9223372036854775807 : Int)) then
    none
    else
    none
    else
    some (T.tup [T.nils, T.int IntKind.i64 (1 : Int)])
    else
    none
    else
    none
    else
    none
    else
    none) from by kernel_rfl)]
  have en : (Int.ofNat n : Int) = (n : Int) := rfl
  have eb : (Int.ofNat b : Int) = (b : Int) := rfl
  obtain ⟨_, _, _, _⟩ := hR
  rw [args_yes m2]
  simp only [cond_true, Bool.true_and]
  rw [dT (show (0 : Int) ≤ Int.ofNat n by omega), dT (show Int.ofNat n * 8 ≤ 140737488355328 by omega), dT (show Int.ofNat n ≤ 9223372036854775807 by omega), bleT (show 0 + n ≤ n by omega)]
  simp only [Bool.and_self, cond_true]
  refine bift (sameStF_iff.2 ⟨rfl, .cons' ⟨rfl, rfl, rfl, fun j hj => ?_⟩ (fun j _ => rfl) .nil⟩) ?_
  · simp only [iblk, x0 j hj]
  rw [args_yes m1, cntF_iff.2 (by omega), hrow]
  simp only [cond_true]
  rcases hb0 with q | q
  · rw [if_pos q, dF (show ¬ (400 : Int) < Int.ofNat b by omega), dT (show Int.ofNat b = 0 by omega)]; rfl
  · rw [if_neg (by omega), dT (show (400 : Int) < Int.ofNat b by omega)]; rfl
end Go.Ab

namespace Go.Ab
open Go.Proofs
/-- What Widths answers. -/
inductive WidthsR (S R : Int) (H W : Nat → Int) (n : Nat) : T → Prop
  | bad (h : ¬ (Okg S R ∧ Okp n H W)) : WidthsR S R H W n bad1
  | none (hg : Okg S R) (ho : Okp n H W) (h : rowsV R H n = 0) : WidthsR S R H W n (.tup [.nils, .int .i64 14])
  | many (hg : Okg S R) (ho : Okp n H W) (h : 400 < rowsV R H n) : WidthsR S R H W n (.tup [.nils, .int .i64 3])
  | zero (hg : Okg S R) (ho : Okp n H W) (b k : Nat) (h : rowsV R H n = b) (h0 : b ≠ 0) (h4 : b ≤ 400) (hk : k < b) (hz : wv S R H W n k = 0) (hf : ∀ i, i < k → wv S R H W n i ≠ 0) : WidthsR S R H W n (.tup [.nils, .int .i64 14])
  | good (hg : Okg S R) (ho : Okp n H W) (b : Nat) (h : rowsV R H n = b) (h0 : b ≠ 0) (h4 : b ≤ 400) (hf : ∀ i, i < b → wv S R H W n i ≠ 0) : WidthsR S R H W n (.tup [.fresh true 1 b (fun j => [.int .i64 (wvb S R H W n b (0 + j))]) b (some b), .int .i64 0])
theorem bf_cut (H : Nat → Int) (n : Nat) : bf (fun j => (fun i => if i < n then H i else 0) (0 + j)) n = bf H n := by
  cases n with
  | zero => rfl
  | succ n => simp [bf]
theorem okp_up {n : Nat} {H W : Nat → Int} (ho : Okp n H W) : ∀ j, j < n → 0 ≤ H j ∧ 0 ≤ bf H j := by
  obtain ⟨o1, o2, o3⟩ := ho
  intro j
  induction j with
  | zero => intro _; exact ⟨by omega, by simp [bf]⟩
  | succ j ih =>
    intro hj
    have := ih (by omega)
    have := (o3 (j + 1) hj).1
    simp only [bf] at this ⊢
    omega
theorem rowsV_bd {S R : Int} {n : Nat} {H W : Nat → Int} (hg : Okg S R) (ho : Okp n H W) : 0 ≤ bf H n ∧ bf H n ≤ 20000 ∧ 0 ≤ rowsV R H n ∧ rowsV R H n ≤ 1000000 := by
  have hu := okp_up ho
  obtain ⟨g1, g2, g3, g4⟩ := hg
  obtain ⟨o1, o2, o3⟩ := ho
  have ht : 0 ≤ bf H n ∧ bf H n ≤ 20000 := by
    cases n with
    | zero => omega
    | succ n => exact ⟨(hu n (by omega)).1, (o3 n (by omega)).2.1⟩
  have hm := mul_bd (p := R) (m := bf H n) (by omega) g4 ht.1 ht.2
  refine ⟨ht.1, ht.2, ?_⟩
  unfold rowsV roundF
  omega
theorem widthsT (S R : Int) (H W : Nat → Int) (n : Nat) (c : Option Nat) (hn : n ≤ 400) :
    ∃ r, WidthsR S R H W n r ∧ ToldOk P37 G37 17 [.agg [.int .i64 S, .int .i64 R], .view 2 n (fun j => [.int .i64 (H j), .int .i64 (W j)]) c] r := by
  by_cases hv : Okg S R ∧ Okp n H W
  · obtain ⟨hg, ho⟩ := hv
    obtain ⟨t1, t2, r1, r2⟩ := rowsV_bd hg ho
    obtain ⟨b, hb⟩ := Int.eq_ofNat_of_zero_le r1
    have hb' : roundF (R * bf H n) 100 = Int.ofNat b := hb
    have k1 : ∀ a ∈ [[T.view 1 n (fun j => [.int .i64 ((fun i => if i < n then H i else 0) (0 + j))]) (some n)]], ToldOk P37 G37 24 a (.int .i64 (bf H n)) := by
      intro a ha
      obtain rfl := List.mem_singleton.1 ha
      have := greatestT (fun j => (fun i => if i < n then H i else 0) (0 + j)) n (some n) (by omega) (fun j hj => by
        have hu := okp_up ho
        cases j with
        | zero => simp [bf]; split <;> first | exact (hu 0 (by omega)).1 | omega
        | succ j =>
          have := (ho.2.2 (j + 1) hj).1
          simp only [bf, Nat.zero_add] at this ⊢
          rwa [if_pos (by omega), if_pos hj])
      rwa [bf_cut] at this
    have k2 : ∀ a ∈ [[T.agg [.int .i64 S, .int .i64 R], .view 2 n (fun j => [.int .i64 (H j), .int .i64 (W j)]) c]], ToldOk P37 G37 23 a (.bool true) := by
      intro a ha
      obtain rfl := List.mem_singleton.1 ha
      exact validY S R H W n c (by omega) hg ho
    have x0 : ∀ j, j < n → (fun i => if i < 0 then H i else 0) j = 0 := fun j _ => by simp
    have y0 : ∀ b j, j < b → wvb S R H W n 0 j = 0 := fun b j _ => by simp [wvb]
    have l5 := h5 S R H W n c hn
    by_cases hb0 : b = 0 ∨ 400 < b
    · have := widthsR S R (bf H n) H W _ _ n b c _ _ hn hg ⟨t1, t2⟩ hb' (by omega) hb0 k1 k2 (List.mem_singleton.2 rfl) (List.mem_singleton.2 rfl) x0 l5
      rcases hb0 with q | q
      · rw [if_pos q] at this
        exact ⟨_, .none hg ho (by omega), this⟩
      · rw [if_neg (by omega)] at this
        exact ⟨_, .many hg ho (by omega), this⟩
    · have h0 : b ≠ 0 := fun q => hb0 (.inl q)
      have h4 : b ≤ 400 := Nat.le_of_not_lt fun q => hb0 (.inr q)
      by_cases hz : ∃ i, i < b ∧ ¬ wv S R H W n i ≠ 0
      · obtain ⟨k, hk, q1, q2⟩ := first_bad hz
        have q1 : wv S R H W n k = 0 := Classical.not_not.1 q1
        exact ⟨_, .zero hg ho b k hb h0 h4 hk q1 q2, widthsZ S R (bf H n) H W _ _ _ _ n b k c _ _ hn hg ⟨t1, t2⟩ hb' h0 h4 k1 k2 (List.mem_singleton.2 rfl) (List.mem_singleton.2 rfl) x0 (y0 b) l5 (l19bad S R H W n b k c hg ho hn h4 hk q1 q2)⟩
      · have hf : ∀ i, i < b → wv S R H W n i ≠ 0 := fun i hi q => hz ⟨i, hi, fun z => z q⟩
        exact ⟨_, .good hg ho b hb h0 h4 hf, widthsC S R (bf H n) H W _ _ _ _ n b c _ _ hn hg ⟨t1, t2⟩ hb' h0 h4 k1 k2 (List.mem_singleton.2 rfl) (List.mem_singleton.2 rfl) x0 (y0 b) l5 (l19good S R H W n b c hg ho hn h4 hf)⟩
  · exact ⟨_, .bad hv, widthsN S R H W n c (by omega) hv⟩
end Go.Ab

namespace Go.Ab
noncomputable def KW7 (l1 : List (List T)) (r : T) : Orc := K37b.add 17 (callS l1 r)
end Go.Ab

namespace Go.Ab
open Go.Proofs
def pb (H W : Nat → Int) (i : Nat) : Prop := (0 ≤ H i ∧ H i ≤ 20000 ∧ 0 ≤ W i ∧ W i ≤ 20000 ∧ (i = 0 → H i = 0)) ∧ (0 < i → H (i - 1) ≤ H i)
noncomputable instance (H W : Nat → Int) (i : Nat) : Decidable (pb H W i) := Classical.propDecidable _
noncomputable def gdP (H W : Nat → Int) (g : Bool) : Nat → Bool
  | 0 => g
  | i + 1 => gdP H W g i && decide (pb H W i)
theorem gdP_iff {H W : Nat → Int} {g : Bool} {n : Nat} : gdP H W g n = true ↔ g = true ∧ ∀ i, i < n → pb H W i := by
  induction n with
  | zero => simp [gdP]
  | succ n ih =>
    simp only [gdP, Bool.and_eq_true, ih, decide_eq_true_eq]
    constructor
    · rintro ⟨⟨h1, h2⟩, h3⟩
      refine ⟨h1, fun i hi => ?_⟩
      rcases Nat.lt_succ_iff_lt_or_eq.1 hi with q | q
      · exact h2 i q
      · exact q ▸ h3
    · rintro ⟨h1, h2⟩
      exact ⟨⟨h1, fun i hi => h2 i (by omega)⟩, h2 n (by omega)⟩
theorem e5rr (S R : Int) (H W : Nat → Int) (n i : Nat) (c : Option Nat) (g : Bool) (hn : n ≤ 4611686018427387904) (hi : i < n) :
    iterR P37 G37 A37 K37b 0 7 [] 5 [.view 2 n (fun j => [.int .i64 (H j), .int .i64 (W j)]) c, .reg [.int .i64 S, .int .i64 R], .bool g, .int .i64 i] [] =
    some (.normal, [.view 2 n (fun j => [.int .i64 (H j), .int .i64 (W j)]) c, .reg [.int .i64 S, .int .i64 R], .bool (g && decide (pb H W i)), .int .i64 ((i + 1 : Nat) : Int)], []) := by
  rw [(show iterR P37 G37 A37 K37b 0 7 [] 5 [.view 2 n (fun j => [.int .i64 (H j), .int .i64 (W j)]) c, .reg [.int .i64 S, .int .i64 R], .bool g, .int .i64 i] [] =
(    bif decide (Int.ofNat i < Int.ofNat n) then
    bif g then
    bif decide ((0 : Int) ≤ Int.ofNat i) && decide (Int.ofNat i < Int.ofNat n) then
    bif decide ((0 : Int) ≤ H i) then
    bif decide ((0 : Int) ≤ Int.ofNat i) && decide (Int.ofNat i < Int.ofNat n) then
    bif decide (H i ≤ (20000 : Int)) then
    bif decide ((0 : Int) ≤ Int.ofNat i) && decide (Int.ofNat i < Int.ofNat n) then
    bif decide ((0 : Int) ≤ W i) then
    bif decide ((0 : Int) ≤ Int.ofNat i) && decide (Int.ofNat i < Int.ofNat n) then
    bif decide (W i ≤ (20000 : Int)) then
    bif decide ((0 : Int) < Int.ofNat i) then
    bif decide ((0 : Int) < Int.ofNat i) then
    bif decide ((0 : Int) ≤ Int.ofNat i) && decide (Int.ofNat i < Int.ofNat n) then
    bif decide ((0 : Int) ≤ IntKind.i64.wrap (Int.ofNat i - (1 : Int))) &&
      decide (IntKind.i64.wrap (Int.ofNat i - (1 : Int)) < Int.ofNat n) then
    bif decide (H (IntKind.i64.wrap (Int.ofNat i - (1 : Int))).toNat ≤ H i) then
    some ((Ex.normal,
      [T.view (2 : Nat) n (fun j => [T.int IntKind.i64 (H j), T.int IntKind.i64 (W j)]) c,
        T.reg [T.int IntKind.i64 S, T.int IntKind.i64 R], T.bool true,
        T.int IntKind.i64 (IntKind.i64.wrap (Int.ofNat i + (1 : Int)))],
      []))
    else
    some ((Ex.normal,
      [T.view (2 : Nat) n (fun j => [T.int IntKind.i64 (H j), T.int IntKind.i64 (W j)]) c,
        T.reg [T.int IntKind.i64 S, T.int IntKind.i64 R], T.bool false,
        T.int IntKind.i64 (IntKind.i64.wrap (Int.ofNat i + (1 : Int)))],
      []))
    else
    none
    else
    none
    else
    some ((Ex.normal,
      [T.view (2 : Nat) n (fun j => [T.int IntKind.i64 (H j), T.int IntKind.i64 (W j)]) c,
        T.reg [T.int IntKind.i64 S, T.int IntKind.i64 R], T.bool true,
        T.int IntKind.i64 (IntKind.i64.wrap (Int.ofNat i + (1 : Int)))],
      []))
    else
    bif decide ((0 : Int) ≤ Int.ofNat i) && decide (Int.ofNat i < Int.ofNat n) then
    bif decide (H i = (0 : Int)) then
    bif decide ((0 : Int) < Int.ofNat i) then
    bif decide ((0 : Int) ≤ Int.ofNat i) && decide (Int.ofNat i < Int.ofNat n) then
    bif decide ((0 : Int) ≤ IntKind.i64.wrap (Int.ofNat i - (1 : Int))) &&
      decide (IntKind.i64.wrap (Int.ofNat i - (1 : Int)) < Int.ofNat n) then
    bif decide (H (IntKind.i64.wrap (Int.ofNat i - (1 : Int))).toNat ≤ H i) then
    some ((Ex.normal,
      [T.view (2 : Nat) n (fun j => [T.int IntKind.i64 (H j), T.int IntKind.i64 (W j)]) c,
        T.reg [T.int IntKind.i64 S, T.int IntKind.i64 R], T.bool true,
        T.int IntKind.i64 (IntKind.i64.wrap (Int.ofNat i + (1 : Int)))],
      []))
    else
    some ((Ex.normal,
      [T.view (2 : Nat) n (fun j => [T.int IntKind.i64 (H j), T.int IntKind.i64 (W j)]) c,
        T.reg [T.int IntKind.i64 S, T.int IntKind.i64 R], T.bool false,
        T.int IntKind.i64 (IntKind.i64.wrap (Int.ofNat i + (1 : Int)))],
      []))
    else
    none
    else
    none
    else
    some ((Ex.normal,
      [T.view (2 : Nat) n (fun j => [T.int IntKind.i64 (H j), T.int IntKind.i64 (W j)]) c,
        T.reg [T.int IntKind.i64 S, T.int IntKind.i64 R], T.bool true,
        T.int IntKind.i64 (IntKind.i64.wrap (Int.ofNat i + (1 : Int)))],
      []))
    else
    bif decide ((0 : Int) < Int.ofNat i) then
    some ((Ex.normal,
      [T.view (2 : Nat) n (fun j => [T.int IntKind.i64 (H j), T.int IntKind.i64 (W j)]) c,
        T.reg [T.int IntKind.i64 S, T.int IntKind.i64 R], T.bool false,
        T.int IntKind.i64 (IntKind.i64.wrap (Int.ofNat i + (1 : Int)))],
      []))
    else
    some ((Ex.normal,
      [T.view (2 : Nat) n (fun j => [T.int IntKind.i64 (H j), T.int IntKind.i64 (W j)]) c,
        T.reg [T.int IntKind.i64 S, T.int IntKind.i64 R], T.bool false,
        T.int IntKind.i64 (IntKind.i64.wrap (Int.ofNat i + (1 : Int)))],
      []))
    else
    none
    else
    bif decide ((0 : Int) < Int.ofNat i) then
    some ((Ex.normal,
      [T.view (2 : Nat) n (fun j => [T.int IntKind.i64 (H j), T.int IntKind.i64 (W j)]) c,
        T.reg [T.int IntKind.i64 S, T.int IntKind.i64 R], T.bool false,
        T.int IntKind.i64 (IntKind.i64.wrap (Int.ofNat i + (1 : Int)))],
      []))
    else
    some ((Ex.normal,
      [T.view (2 : Nat) n (fun j => [T.int IntKind.i64 (H j), T.int IntKind.i64 (W j)]) c,
        T.reg [T.int IntKind.i64 S, T.int IntKind.i64 R], T.bool false,
        T.int IntKind.i64 (IntKind.i64.wrap (Int.ofNat i + (1 : Int)))],
      []))
    else
    none
    else
    bif decide ((0 : Int) < Int.ofNat i) then
    some ((Ex.normal,
      [T.view (2 : Nat) n (fun j => [T.int IntKind.i64 (H j), T.int IntKind.i64 (W j)]) c,
        T.reg [T.int IntKind.i64 S, T.int IntKind.i64 R], T.bool false,
        T.int IntKind.i64 (IntKind.i64.wrap (Int.ofNat i + (1 : Int)))],
      []))
    else
    some ((Ex.normal,
      [T.view (2 : Nat) n (fun j => [T.int IntKind.i64 (H j), T.int IntKind.i64 (W j)]) c,
        T.reg [T.int IntKind.i64 S, T.int IntKind.i64 R], T.bool false,
        T.int IntKind.i64 (IntKind.i64.wrap (Int.ofNat i + (1 : Int)))],
      []))
    else
    none
    else
    bif decide ((0 : Int) < Int.ofNat i) then
    some ((Ex.normal,
      [T.view (2 : Nat) n (fun j => [T.int IntKind.i64 (H j), T.int IntKind.i64 (W j)]) c,
        T.reg [T.int IntKind.i64 S, T.int IntKind.i64 R], T.bool false,
        T.int IntKind.i64 (IntKind.i64.wrap (Int.ofNat i + (1 : Int)))],
      []))
    else
    some ((Ex.normal,
      [T.view (2 : Nat) n (fun j => [T.int IntKind.i64 (H j), T.int IntKind.i64 (W j)]) c,
        T.reg [T.int IntKind.i64 S, T.int IntKind.i64 R], T.bool false,
        T.int IntKind.i64 (IntKind.i64.wrap (Int.ofNat i + (1 : Int)))],
      []))
    else
    none
    else
    bif decide ((0 : Int) < Int.ofNat i) then
    some ((Ex.normal,
      [T.view (2 : Nat) n (fun j => [T.int IntKind.i64 (H j), T.int IntKind.i64 (W j)]) c,
        T.reg [T.int IntKind.i64 S, T.int IntKind.i64 R], T.bool false,
        T.int IntKind.i64 (IntKind.i64.wrap (Int.ofNat i + (1 : Int)))],
      []))
    else
    some ((Ex.normal,
      [T.view (2 : Nat) n (fun j => [T.int IntKind.i64 (H j), T.int IntKind.i64 (W j)]) c,
        T.reg [T.int IntKind.i64 S, T.int IntKind.i64 R], T.bool false,
        T.int IntKind.i64 (IntKind.i64.wrap (Int.ofNat i + (1 : Int)))],
      []))
    else
    none
    else
    bif decide ((0 : Int) < Int.ofNat i) then
    some ((Ex.normal,
      [T.view (2 : Nat) n (fun j => [T.int IntKind.i64 (H j), T.int IntKind.i64 (W j)]) c,
        T.reg [T.int IntKind.i64 S, T.int IntKind.i64 R], T.bool false,
        T.int IntKind.i64 (IntKind.i64.wrap (Int.ofNat i + (1 : Int)))],
      []))
    else
    some ((Ex.normal,
      [T.view (2 : Nat) n (fun j => [T.int IntKind.i64 (H j), T.int IntKind.i64 (W j)]) c,
        T.reg [T.int IntKind.i64 S, T.int IntKind.i64 R], T.bool false,
        T.int IntKind.i64 (IntKind.i64.wrap (Int.ofNat i + (1 : Int)))],
      []))
    else
    some ((Ex.exit (0 : Nat),
      [T.view (2 : Nat) n (fun j => [T.int IntKind.i64 (H j), T.int IntKind.i64 (W j)]) c,
        T.reg [T.int IntKind.i64 S, T.int IntKind.i64 R], T.bool g],
      []))) from by kernel_rfl)]
  have eo : (Int.ofNat i : Int) = (i : Int) := rfl
  have en : (Int.ofNat n : Int) = (n : Int) := rfl
  rw [wr64 (x := Int.ofNat i + 1) (by omega) (by omega), dT (show Int.ofNat i < Int.ofNat n by omega), dT (show (0 : Int) ≤ Int.ofNat i by omega), wr64 (x := Int.ofNat i - 1) (by omega) (by omega)]
  simp only [Bool.and_self, cond_true]
  cases g with
  | false => repeat' first | refine bifd (fun _ => ?_) (fun _ => ?_) | rfl
  | true =>
    simp only [cond_true, Bool.true_and]
    by_cases p : pb H W i
    · have p' := p
      obtain ⟨⟨p1, p2, p3, p4, p5⟩, p6⟩ := p
      rw [dT p']
      rw [dT p1, dT p2, dT p3, dT p4]
      simp only [cond_true]
      by_cases q : 0 < i
      · have e : (Int.ofNat i - 1).toNat = i - 1 := by omega
        rw [dT (show 0 < Int.ofNat i by omega), e, dT (p6 q), dT (show 0 ≤ Int.ofNat i - 1 by omega), dT (show Int.ofNat i - 1 < Int.ofNat n by omega)]
        rfl
      · rw [dF (show ¬ 0 < Int.ofNat i by omega), dT (p5 (by omega))]
        rfl
    · rw [dF p]
      have e : 0 < i → (Int.ofNat i - 1).toNat = i - 1 := by omega
      simp only [← Bool.decide_and]
      unfold pb at p
      repeat' first | refine bifd (fun _ => ?_) (fun _ => ?_) | rfl
      all_goals (exfalso; first | omega | (rw [e (by omega)] at *; omega))
theorem e5xx (S R : Int) (H W : Nat → Int) (n : Nat) (c : Option Nat) (g : Bool) :
    iterR P37 G37 A37 K37b 0 7 [] 5 [.view 2 n (fun j => [.int .i64 (H j), .int .i64 (W j)]) c, .reg [.int .i64 S, .int .i64 R], .bool g, .int .i64 n] [] =
    some (.exit 0, [.view 2 n (fun j => [.int .i64 (H j), .int .i64 (W j)]) c, .reg [.int .i64 S, .int .i64 R], .bool g], []) := by
  have key : ∀ (i : Int), ¬ i < Int.ofNat n → iterR P37 G37 A37 K37b 0 7 [] 5 [.view 2 n (fun j => [.int .i64 (H j), .int .i64 (W j)]) c, .reg [.int .i64 S, .int .i64 R], .bool g, .int .i64 i] [] =
    some (.exit 0, [.view 2 n (fun j => [.int .i64 (H j), .int .i64 (W j)]) c, .reg [.int .i64 S, .int .i64 R], .bool g], []) := by
    intro i hi
    rw [(show iterR P37 G37 A37 K37b 0 7 [] 5 [.view 2 n (fun j => [.int .i64 (H j), .int .i64 (W j)]) c, .reg [.int .i64 S, .int .i64 R], .bool g, .int .i64 i] [] =
(    bif decide (i < Int.ofNat n) then
    bif g then
    bif decide ((0 : Int) ≤ i) && decide (i < Int.ofNat n) then
    bif decide ((0 : Int) ≤ H i.toNat) then
    bif decide ((0 : Int) ≤ i) && decide (i < Int.ofNat n) then
    bif decide (H i.toNat ≤ (20000 : Int)) then
    bif decide ((0 : Int) ≤ i) && decide (i < Int.ofNat n) then
    bif decide ((0 : Int) ≤ W i.toNat) then
    bif decide ((0 : Int) ≤ i) && decide (i < Int.ofNat n) then
    bif decide (W i.toNat ≤ (20000 : Int)) then
    bif decide ((0 : Int) < i) then
    bif decide ((0 : Int) < i) then
    bif decide ((0 : Int) ≤ i) && decide (i < Int.ofNat n) then
    bif decide ((0 : Int) ≤ IntKind.i64.wrap (i - (1 : Int))) &&
      decide (IntKind.i64.wrap (i - (1 : Int)) < Int.ofNat n) then
    bif decide (H (IntKind.i64.wrap (i - (1 : Int))).toNat ≤ H i.toNat) then
    some ((Ex.normal,
      [T.view (2 : Nat) n (fun j => [T.int IntKind.i64 (H j), T.int IntKind.i64 (W j)]) c,
        T.reg [T.int IntKind.i64 S, T.int IntKind.i64 R], T.bool true,
        T.int IntKind.i64 (IntKind.i64.wrap (i + (1 : Int)))],
      []))
    else
    some ((Ex.normal,
      [T.view (2 : Nat) n (fun j => [T.int IntKind.i64 (H j), T.int IntKind.i64 (W j)]) c,
        T.reg [T.int IntKind.i64 S, T.int IntKind.i64 R], T.bool false,
        T.int IntKind.i64 (IntKind.i64.wrap (i + (1 : Int)))],
      []))
    else
    none
    else
    none
    else
    some ((Ex.normal,
      [T.view (2 : Nat) n (fun j => [T.int IntKind.i64 (H j), T.int IntKind.i64 (W j)]) c,
        T.reg [T.int IntKind.i64 S, T.int IntKind.i64 R], T.bool true,
        T.int IntKind.i64 (IntKind.i64.wrap (i + (1 : Int)))],
      []))
    else
    bif decide ((0 : Int) ≤ i) && decide (i < Int.ofNat n) then
    bif decide (H i.toNat = (0 : Int)) then
    bif decide ((0 : Int) < i) then
    bif decide ((0 : Int) ≤ i) && decide (i < Int.ofNat n) then
    bif decide ((0 : Int) ≤ IntKind.i64.wrap (i - (1 : Int))) &&
      decide (IntKind.i64.wrap (i - (1 : Int)) < Int.ofNat n) then
    bif decide (H (IntKind.i64.wrap (i - (1 : Int))).toNat ≤ H i.toNat) then
    some ((Ex.normal,
      [T.view (2 : Nat) n (fun j => [T.int IntKind.i64 (H j), T.int IntKind.i64 (W j)]) c,
        T.reg [T.int IntKind.i64 S, T.int IntKind.i64 R], T.bool true,
        T.int IntKind.i64 (IntKind.i64.wrap (i + (1 : Int)))],
      []))
    else
    some ((Ex.normal,
      [T.view (2 : Nat) n (fun j => [T.int IntKind.i64 (H j), T.int IntKind.i64 (W j)]) c,
        T.reg [T.int IntKind.i64 S, T.int IntKind.i64 R], T.bool false,
        T.int IntKind.i64 (IntKind.i64.wrap (i + (1 : Int)))],
      []))
    else
    none
    else
    none
    else
    some ((Ex.normal,
      [T.view (2 : Nat) n (fun j => [T.int IntKind.i64 (H j), T.int IntKind.i64 (W j)]) c,
        T.reg [T.int IntKind.i64 S, T.int IntKind.i64 R], T.bool true,
        T.int IntKind.i64 (IntKind.i64.wrap (i + (1 : Int)))],
      []))
    else
    bif decide ((0 : Int) < i) then
    some ((Ex.normal,
      [T.view (2 : Nat) n (fun j => [T.int IntKind.i64 (H j), T.int IntKind.i64 (W j)]) c,
        T.reg [T.int IntKind.i64 S, T.int IntKind.i64 R], T.bool false,
        T.int IntKind.i64 (IntKind.i64.wrap (i + (1 : Int)))],
      []))
    else
    some ((Ex.normal,
      [T.view (2 : Nat) n (fun j => [T.int IntKind.i64 (H j), T.int IntKind.i64 (W j)]) c,
        T.reg [T.int IntKind.i64 S, T.int IntKind.i64 R], T.bool false,
        T.int IntKind.i64 (IntKind.i64.wrap (i + (1 : Int)))],
      []))
    else
    none
    else
    bif decide ((0 : Int) < i) then
    some ((Ex.normal,
      [T.view (2 : Nat) n (fun j => [T.int IntKind.i64 (H j), T.int IntKind.i64 (W j)]) c,
        T.reg [T.int IntKind.i64 S, T.int IntKind.i64 R], T.bool false,
        T.int IntKind.i64 (IntKind.i64.wrap (i + (1 : Int)))],
      []))
    else
    some ((Ex.normal,
      [T.view (2 : Nat) n (fun j => [T.int IntKind.i64 (H j), T.int IntKind.i64 (W j)]) c,
        T.reg [T.int IntKind.i64 S, T.int IntKind.i64 R], T.bool false,
        T.int IntKind.i64 (IntKind.i64.wrap (i + (1 : Int)))],
      []))
    else
    none
    else
    bif decide ((0 : Int) < i) then
    some ((Ex.normal,
      [T.view (2 : Nat) n (fun j => [T.int IntKind.i64 (H j), T.int IntKind.i64 (W j)]) c,
        T.reg [T.int IntKind.i64 S, T.int IntKind.i64 R], T.bool false,
        T.int IntKind.i64 (IntKind.i64.wrap (i + (1 : Int)))],
      []))
    else
    some ((Ex.normal,
      [T.view (2 : Nat) n (fun j => [T.int IntKind.i64 (H j), T.int IntKind.i64 (W j)]) c,
        T.reg [T.int IntKind.i64 S, T.int IntKind.i64 R], T.bool false,
        T.int IntKind.i64 (IntKind.i64.wrap (i + (1 : Int)))],
      []))
    else
    none
    else
    bif decide ((0 : Int) < i) then
    some ((Ex.normal,
      [T.view (2 : Nat) n (fun j => [T.int IntKind.i64 (H j), T.int IntKind.i64 (W j)]) c,
        T.reg [T.int IntKind.i64 S, T.int IntKind.i64 R], T.bool false,
        T.int IntKind.i64 (IntKind.i64.wrap (i + (1 : Int)))],
      []))
    else
    some ((Ex.normal,
      [T.view (2 : Nat) n (fun j => [T.int IntKind.i64 (H j), T.int IntKind.i64 (W j)]) c,
        T.reg [T.int IntKind.i64 S, T.int IntKind.i64 R], T.bool false,
        T.int IntKind.i64 (IntKind.i64.wrap (i + (1 : Int)))],
      []))
    else
    none
    else
    bif decide ((0 : Int) < i) then
    some ((Ex.normal,
      [T.view (2 : Nat) n (fun j => [T.int IntKind.i64 (H j), T.int IntKind.i64 (W j)]) c,
        T.reg [T.int IntKind.i64 S, T.int IntKind.i64 R], T.bool false,
        T.int IntKind.i64 (IntKind.i64.wrap (i + (1 : Int)))],
      []))
    else
    some ((Ex.normal,
      [T.view (2 : Nat) n (fun j => [T.int IntKind.i64 (H j), T.int IntKind.i64 (W j)]) c,
        T.reg [T.int IntKind.i64 S, T.int IntKind.i64 R], T.bool false,
        T.int IntKind.i64 (IntKind.i64.wrap (i + (1 : Int)))],
      []))
    else
    none
    else
    bif decide ((0 : Int) < i) then
    some ((Ex.normal,
      [T.view (2 : Nat) n (fun j => [T.int IntKind.i64 (H j), T.int IntKind.i64 (W j)]) c,
        T.reg [T.int IntKind.i64 S, T.int IntKind.i64 R], T.bool false,
        T.int IntKind.i64 (IntKind.i64.wrap (i + (1 : Int)))],
      []))
    else
    some ((Ex.normal,
      [T.view (2 : Nat) n (fun j => [T.int IntKind.i64 (H j), T.int IntKind.i64 (W j)]) c,
        T.reg [T.int IntKind.i64 S, T.int IntKind.i64 R], T.bool false,
        T.int IntKind.i64 (IntKind.i64.wrap (i + (1 : Int)))],
      []))
    else
    some ((Ex.exit (0 : Nat),
      [T.view (2 : Nat) n (fun j => [T.int IntKind.i64 (H j), T.int IntKind.i64 (W j)]) c,
        T.reg [T.int IntKind.i64 S, T.int IntKind.i64 R], T.bool g],
      []))) from by kernel_rfl)]
    rw [dF hi]; rfl
  exact key _ (by have : (Int.ofNat n : Int) = (n : Int) := rfl; omega)
theorem l7_5 (S R : Int) (H W : Nat → Int) (n : Nat) (c : Option Nat) (g : Bool) (hn : n ≤ 4611686018427387904) :
    LoopOk P37 G37 (A37 7) 7 5 (litS [.view 2 n (fun j => [.int .i64 (H j), .int .i64 (W j)]) c, .reg [.int .i64 S, .int .i64 R], .bool g, .int .i64 0] [] (.exit 0) [.view 2 n (fun j => [.int .i64 (H j), .int .i64 (W j)]) c, .reg [.int .i64 S, .int .i64 R], .bool (gdP H W g n)] []) :=
  .lit fun fn hf hnt => loop_seq hm37 (by kernel_rfl) hf hnt (fun i => [.view 2 n (fun j => [.int .i64 (H j), .int .i64 (W j)]) c, .reg [.int .i64 S, .int .i64 R], .bool (gdP H W g i), .int .i64 (i : Int)]) (fun _ => []) (n := n)
    (fun i hi => ⟨_, _, Rnd.of A37 okK37b rfl rfl (e5rr S R H W n i c _ hn hi), .refl _ _⟩)
    ⟨by simp, _, _, Rnd.of A37 okK37b rfl rfl (e5xx S R H W n c _), .refl _ _⟩
theorem okKW7 {l1 : List (List T)} {r : T} (h : ∀ a ∈ l1, ToldOk P37 G37 17 a r) : OrcOk P37 G37 (KW7 l1 r) := told_add okK37b (callS_told h)
theorem law7e (S R : Int) (H W : Nat → Int) (n : Nat) (c : Option Nat) (gS g : Bool) (e : Int) (l1 : List (List T)) (hl : ∀ a ∈ l1, ToldOk P37 G37 17 a (.tup [.nils, .int .i64 e])) (hS : gS = decide (1 ≤ S ∧ S ≤ 400 ∧ 1 ≤ R ∧ R ≤ 400 ∧ 1 < n))
    (h5 : LoopOk P37 G37 (A37 7) 7 5 (litS [.view 2 n (fun j => [.int .i64 (H j), .int .i64 (W j)]) c, .reg [.int .i64 S, .int .i64 R], .bool gS, .int .i64 0] [] (.exit 0) [.view 2 n (fun j => [.int .i64 (H j), .int .i64 (W j)]) c, .reg [.int .i64 S, .int .i64 R], .bool g] []))
    (hr : 10 < n ∨ ([T.agg [.int .i64 S, .int .i64 R], .view 2 n (fun j => [.int .i64 (H j), .int .i64 (W j)]) c] ∈ l1 ∧ e ≠ 0 ∧ (e = 1 ↔ g = false))) : ToldOk P37 G37 7 [.agg [.int .i64 S, .int .i64 R], .view 2 n (fun j => [.int .i64 (H j), .int .i64 (W j)]) c] (.bool true) := by
  refine stepL_told hm37 hn37 (okKW7 hl) (A := A37) (m := 0) (by kernel_rfl) (loops1 h5) ?_
  rw [(show stepL P37 G37 A37 (KW7 l1 (.tup [.nils, .int .i64 e])) 0 7 [(5, litS [.view 2 n (fun j => [.int .i64 (H j), .int .i64 (W j)]) c, .reg [.int .i64 S, .int .i64 R], .bool gS, .int .i64 0] [] (.exit 0) [.view 2 n (fun j => [.int .i64 (H j), .int .i64 (W j)]) c, .reg [.int .i64 S, .int .i64 R], .bool g] [])] [.agg [.int .i64 S, .int .i64 R], .view 2 n (fun j => [.int .i64 (H j), .int .i64 (W j)]) c] =
(    bif decide ((10 : Int) < Int.ofNat n) then
    some (T.bool true)
    else
    bif decide ((1 : Int) ≤ S) then
    bif decide (S ≤ (400 : Int)) then
    bif decide ((1 : Int) ≤ R) then
    bif decide (R ≤ (400 : Int)) then
    bif decide ((1 : Int) < Int.ofNat n) then
    bif sameStF
      [T.view (2 : Nat) n (fun j => [T.int IntKind.i64 (H j), T.int IntKind.i64 (W j)]) c,
        T.reg [T.int IntKind.i64 S, T.int IntKind.i64 R], T.bool true, T.int IntKind.i64 (0 : Int)]
      []
      [T.view (2 : Nat) n (fun j => [T.int IntKind.i64 (H j), T.int IntKind.i64 (W j)]) c,
        T.reg [T.int IntKind.i64 S, T.int IntKind.i64 R], T.bool gS, T.int IntKind.i64 (0 : Int)]
      [] then
    bif sameArgsF
      [T.agg [T.int IntKind.i64 S, T.int IntKind.i64 R],
        T.view (2 : Nat) n (fun j => [T.int IntKind.i64 (H j), T.int IntKind.i64 (W j)]) c]
      l1 then
    bif decide (e = (1 : Int)) then
    bif g then
    some (T.bool false)
    else
    bif decide (e = (0 : Int)) then
    some (T.bool false)
    else
    some (T.bool true)
    else
    bif g then
    bif decide (e = (0 : Int)) then
    some (T.bool false)
    else
    some (T.bool true)
    else
    some (T.bool false)
    else
    none
    else
    none
    else
    bif sameStF
      [T.view (2 : Nat) n (fun j => [T.int IntKind.i64 (H j), T.int IntKind.i64 (W j)]) c,
        T.reg [T.int IntKind.i64 S, T.int IntKind.i64 R], T.bool false, T.int IntKind.i64 (0 : Int)]
      []
      [T.view (2 : Nat) n (fun j => [T.int IntKind.i64 (H j), T.int IntKind.i64 (W j)]) c,
        T.reg [T.int IntKind.i64 S, T.int IntKind.i64 R], T.bool gS, T.int IntKind.i64 (0 : Int)]
      [] then
    bif sameArgsF
      [T.agg [T.int IntKind.i64 S, T.int IntKind.i64 R],
        T.view (2 : Nat) n (fun j => [T.int IntKind.i64 (H j), T.int IntKind.i64 (W j)]) c]
      l1 then
    bif decide (e = (1 : Int)) then
    bif g then
    some (T.bool false)
    else
    bif decide (e = (0 : Int)) then
    some (T.bool false)
    else
    some (T.bool true)
    else
    bif g then
    bif decide (e = (0 : Int)) then
    some (T.bool false)
    else
    some (T.bool true)
    else
    some (T.bool false)
    else
    none
    else
    none
    else
    bif sameStF
      [T.view (2 : Nat) n (fun j => [T.int IntKind.i64 (H j), T.int IntKind.i64 (W j)]) c,
        T.reg [T.int IntKind.i64 S, T.int IntKind.i64 R], T.bool false, T.int IntKind.i64 (0 : Int)]
      []
      [T.view (2 : Nat) n (fun j => [T.int IntKind.i64 (H j), T.int IntKind.i64 (W j)]) c,
        T.reg [T.int IntKind.i64 S, T.int IntKind.i64 R], T.bool gS, T.int IntKind.i64 (0 : Int)]
      [] then
    bif sameArgsF
      [T.agg [T.int IntKind.i64 S, T.int IntKind.i64 R],
        T.view (2 : Nat) n (fun j => [T.int IntKind.i64 (H j), T.int IntKind.i64 (W j)]) c]
      l1 then
    bif decide (e = (1 : Int)) then
    bif g then
    some (T.bool false)
    else
    bif decide (e = (0 : Int)) then
    some (T.bool false)
    else
    some (T.bool true)
    else
    bif g then
    bif decide (e = (0 : Int)) then
    some (T.bool false)
    else
    some (T.bool true)
    else
    some (T.bool false)
    else
    none
    else
    none
    else
    bif sameStF
      [T.view (2 : Nat) n (fun j => [T.int IntKind.i64 (H j), T.int IntKind.i64 (W j)]) c,
        T.reg [T.int IntKind.i64 S, T.int IntKind.i64 R], T.bool false, T.int IntKind.i64 (0 : Int)]
      []
      [T.view (2 : Nat) n (fun j => [T.int IntKind.i64 (H j), T.int IntKind.i64 (W j)]) c,
        T.reg [T.int IntKind.i64 S, T.int IntKind.i64 R], T.bool gS, T.int IntKind.i64 (0 : Int)]
      [] then
    bif sameArgsF
      [T.agg [T.int IntKind.i64 S, T.int IntKind.i64 R],
        T.view (2 : Nat) n (fun j => [T.int IntKind.i64 (H j), T.int IntKind.i64 (W j)]) c]
      l1 then
    bif decide (e = (1 : Int)) then
    bif g then
    some (T.bool false)
    else
    bif decide (e = (0 : Int)) then
    some (T.bool false)
    else
    some (T.bool true)
    else
    bif g then
    bif decide (e = (0 : Int)) then
    some (T.bool false)
    else
    some (T.bool true)
    else
    some (T.bool false)
    else
    none
    else
    none
    else
    bif sameStF
      [T.view (2 : Nat) n (fun j => [T.int IntKind.i64 (H j), T.int IntKind.i64 (W j)]) c,
        T.reg [T.int IntKind.i64 S, T.int IntKind.i64 R], T.bool false, T.int IntKind.i64 (0 : Int)]
      []
      [T.view (2 : Nat) n (fun j => [T.int IntKind.i64 (H j), T.int IntKind.i64 (W j)]) c,
        T.reg [T.int IntKind.i64 S, T.int IntKind.i64 R], T.bool gS, T.int IntKind.i64 (0 : Int)]
      [] then
    bif sameArgsF
      [T.agg [T.int IntKind.i64 S, T.int IntKind.i64 R],
        T.view (2 : Nat) n (fun j => [T.int IntKind.i64 (H j), T.int IntKind.i64 (W j)]) c]
      l1 then
    bif decide (e = (1 : Int)) then
    bif g then
    some (T.bool false)
    else
    bif decide (e = (0 : Int)) then
    some (T.bool false)
    else
    some (T.bool true)
    else
    bif g then
    bif decide (e = (0 : Int)) then
    some (T.bool false)
    else
    some (T.bool true)
    else
    some (T.bool false)
    else
    none
    else
    none
    else
    bif sameStF
      [T.view (2 : Nat) n (fun j => [T.int IntKind.i64 (H j), T.int IntKind.i64 (W j)]) c,
        T.reg [T.int IntKind.i64 S, T.int IntKind.i64 R], T.bool false, T.int IntKind.i64 (0 : Int)]
      []
      [T.view (2 : Nat) n (fun j => [T.int IntKind.i64 (H j), T.int IntKind.i64 (W j)]) c,
        T.reg [T.int IntKind.i64 S, T.int IntKind.i64 R], T.bool gS, T.int IntKind.i64 (0 : Int)]
      [] then
    bif sameArgsF
      [T.agg [T.int IntKind.i64 S, T.int IntKind.i64 R],
        T.view (2 : Nat) n (fun j => [T.int IntKind.i64 (H j), T.int IntKind.i64 (W j)]) c]
      l1 then
    bif decide (e = (1 : Int)) then
    bif g then
    some (T.bool false)
    else
    bif decide (e = (0 : Int)) then
    some (T.bool false)
    else
    some (T.bool true)
    else
    bif g then
    bif decide (e = (0 : Int)) then
    some (T.bool false)
    else
    some (T.bool true)
    else
    some (T.bool false)
    else
    none
    else
    none) from by kernel_rfl)]
  have en : (Int.ofNat n : Int) = (n : Int) := rfl
  rcases hr with hr | ⟨hr, he, hg⟩
  · rw [dT (show (10 : Int) < Int.ofNat n by omega)]; rfl
  rw [args_yes hr]
  have fin : (bif decide (e = 1) then (bif g then some (T.bool false) else bif decide (e = 0) then some (T.bool false) else some (T.bool true)) else bif g then (bif decide (e = 0) then some (T.bool false) else some (T.bool true)) else some (T.bool false)) = some (T.bool true) := by
    rw [dF he]
    by_cases q : e = 1
    · rw [dT q, hg.1 q]; rfl
    · rw [dF q]
      cases g with
      | false => exact absurd (hg.2 rfl) q
      | true => rfl
  simp only [cond_true, fin]
  refine bifd (fun _ => rfl) fun _ => ?_
  by_cases q : 1 ≤ S ∧ S ≤ 400 ∧ 1 ≤ R ∧ R ≤ 400 ∧ 1 < n
  · rw [dT q] at hS
    subst hS
    rw [dT q.1, dT q.2.1, dT q.2.2.1, dT q.2.2.2.1, dT (show (1 : Int) < Int.ofNat n by omega)]
    simp only [cond_true]
    exact bift (sameStF_iff.2 ⟨rfl, .nil⟩) rfl
  · rw [dF q] at hS
    subst hS
    repeat' first | refine bifd (fun _ => ?_) (fun _ => ?_) | exact bift (sameStF_iff.2 ⟨rfl, .nil⟩) rfl
    exfalso; omega
theorem law7f (S R : Int) (H W : Nat → Int) (n : Nat) (c : Option Nat) (gS g : Bool) (b : Nat) (w : Nat → List T) (l1 : List (List T)) (hl : ∀ a ∈ l1, ToldOk P37 G37 17 a (.tup [.fresh true 1 b w b (some b), .int .i64 0])) (hS : gS = decide (1 ≤ S ∧ S ≤ 400 ∧ 1 ≤ R ∧ R ≤ 400 ∧ 1 < n))
    (h5 : LoopOk P37 G37 (A37 7) 7 5 (litS [.view 2 n (fun j => [.int .i64 (H j), .int .i64 (W j)]) c, .reg [.int .i64 S, .int .i64 R], .bool gS, .int .i64 0] [] (.exit 0) [.view 2 n (fun j => [.int .i64 (H j), .int .i64 (W j)]) c, .reg [.int .i64 S, .int .i64 R], .bool g] []))
    (hr : [T.agg [.int .i64 S, .int .i64 R], .view 2 n (fun j => [.int .i64 (H j), .int .i64 (W j)]) c] ∈ l1) (hg : g = true) (hb : 0 < b) (hb4 : b ≤ 400) : ToldOk P37 G37 7 [.agg [.int .i64 S, .int .i64 R], .view 2 n (fun j => [.int .i64 (H j), .int .i64 (W j)]) c] (.bool true) := by
  subst hg
  refine stepL_told hm37 hn37 (okKW7 hl) (A := A37) (m := 0) (by kernel_rfl) (loops1 h5) ?_
  rw [(show stepL P37 G37 A37 (KW7 l1 (.tup [.fresh true 1 b w b (some b), .int .i64 0])) 0 7 [(5, litS [.view 2 n (fun j => [.int .i64 (H j), .int .i64 (W j)]) c, .reg [.int .i64 S, .int .i64 R], .bool gS, .int .i64 0] [] (.exit 0) [.view 2 n (fun j => [.int .i64 (H j), .int .i64 (W j)]) c, .reg [.int .i64 S, .int .i64 R], .bool true] [])] [.agg [.int .i64 S, .int .i64 R], .view 2 n (fun j => [.int .i64 (H j), .int .i64 (W j)]) c] =
(    bif decide ((10 : Int) < Int.ofNat n) then
    some (T.bool true)
    else
    bif decide ((1 : Int) ≤ S) then
    bif decide (S ≤ (400 : Int)) then
    bif decide ((1 : Int) ≤ R) then
    bif decide (R ≤ (400 : Int)) then
    bif decide ((1 : Int) < Int.ofNat n) then
    bif sameStF
      [T.view (2 : Nat) n (fun j => [T.int IntKind.i64 (H j), T.int IntKind.i64 (W j)]) c,
        T.reg [T.int IntKind.i64 S, T.int IntKind.i64 R], T.bool true, T.int IntKind.i64 (0 : Int)]
      []
      [T.view (2 : Nat) n (fun j => [T.int IntKind.i64 (H j), T.int IntKind.i64 (W j)]) c,
        T.reg [T.int IntKind.i64 S, T.int IntKind.i64 R], T.bool gS, T.int IntKind.i64 (0 : Int)]
      [] then
    bif sameArgsF
      [T.agg [T.int IntKind.i64 S, T.int IntKind.i64 R],
        T.view (2 : Nat) n (fun j => [T.int IntKind.i64 (H j), T.int IntKind.i64 (W j)]) c]
      l1 then
    bif decide ((0 : Int) < Int.ofNat b) then
    bif decide (Int.ofNat b ≤ (400 : Int)) then
    some (T.bool true)
    else
    some (T.bool false)
    else
    some (T.bool false)
    else
    none
    else
    none
    else
    bif sameStF
      [T.view (2 : Nat) n (fun j => [T.int IntKind.i64 (H j), T.int IntKind.i64 (W j)]) c,
        T.reg [T.int IntKind.i64 S, T.int IntKind.i64 R], T.bool false, T.int IntKind.i64 (0 : Int)]
      []
      [T.view (2 : Nat) n (fun j => [T.int IntKind.i64 (H j), T.int IntKind.i64 (W j)]) c,
        T.reg [T.int IntKind.i64 S, T.int IntKind.i64 R], T.bool gS, T.int IntKind.i64 (0 : Int)]
      [] then
    bif sameArgsF
      [T.agg [T.int IntKind.i64 S, T.int IntKind.i64 R],
        T.view (2 : Nat) n (fun j => [T.int IntKind.i64 (H j), T.int IntKind.i64 (W j)]) c]
      l1 then
    bif decide ((0 : Int) < Int.ofNat b) then
    bif decide (Int.ofNat b ≤ (400 : Int)) then
    some (T.bool true)
    else
    some (T.bool false)
    else
    some (T.bool false)
    else
    none
    else
    none
    else
    bif sameStF
      [T.view (2 : Nat) n (fun j => [T.int IntKind.i64 (H j), T.int IntKind.i64 (W j)]) c,
        T.reg [T.int IntKind.i64 S, T.int IntKind.i64 R], T.bool false, T.int IntKind.i64 (0 : Int)]
      []
      [T.view (2 : Nat) n (fun j => [T.int IntKind.i64 (H j), T.int IntKind.i64 (W j)]) c,
        T.reg [T.int IntKind.i64 S, T.int IntKind.i64 R], T.bool gS, T.int IntKind.i64 (0 : Int)]
      [] then
    bif sameArgsF
      [T.agg [T.int IntKind.i64 S, T.int IntKind.i64 R],
        T.view (2 : Nat) n (fun j => [T.int IntKind.i64 (H j), T.int IntKind.i64 (W j)]) c]
      l1 then
    bif decide ((0 : Int) < Int.ofNat b) then
    bif decide (Int.ofNat b ≤ (400 : Int)) then
    some (T.bool true)
    else
    some (T.bool false)
    else
    some (T.bool false)
    else
    none
    else
    none
    else
    bif sameStF
      [T.view (2 : Nat) n (fun j => [T.int IntKind.i64 (H j), T.int IntKind.i64 (W j)]) c,
        T.reg [T.int IntKind.i64 S, T.int IntKind.i64 R], T.bool false, T.int IntKind.i64 (0 : Int)]
      []
      [T.view (2 : Nat) n (fun j => [T.int IntKind.i64 (H j), T.int IntKind.i64 (W j)]) c,
        T.reg [T.int IntKind.i64 S, T.int IntKind.i64 R], T.bool gS, T.int IntKind.i64 (0 : Int)]
      [] then
    bif sameArgsF
      [T.agg [T.int IntKind.i64 S, T.int IntKind.i64 R],
        T.view (2 : Nat) n (fun j => [T.int IntKind.i64 (H j), T.int IntKind.i64 (W j)]) c]
      l1 then
    bif decide ((0 : Int) < Int.ofNat b) then
    bif decide (Int.ofNat b ≤ (400 : Int)) then
    some (T.bool true)
    else
    some (T.bool false)
    else
    some (T.bool false)
    else
    none
    else
    none
    else
    bif sameStF
      [T.view (2 : Nat) n (fun j => [T.int IntKind.i64 (H j), T.int IntKind.i64 (W j)]) c,
        T.reg [T.int IntKind.i64 S, T.int IntKind.i64 R], T.bool false, T.int IntKind.i64 (0 : Int)]
      []
      [T.view (2 : Nat) n (fun j => [T.int IntKind.i64 (H j), T.int IntKind.i64 (W j)]) c,
        T.reg [T.int IntKind.i64 S, T.int IntKind.i64 R], T.bool gS, T.int IntKind.i64 (0 : Int)]
      [] then
    bif sameArgsF
      [T.agg [T.int IntKind.i64 S, T.int IntKind.i64 R],
        T.view (2 : Nat) n (fun j => [T.int IntKind.i64 (H j), T.int IntKind.i64 (W j)]) c]
      l1 then
    bif decide ((0 : Int) < Int.ofNat b) then
    bif decide (Int.ofNat b ≤ (400 : Int)) then
    some (T.bool true)
    else
    some (T.bool false)
    else
    some (T.bool false)
    else
    none
    else
    none
    else
    bif sameStF
      [T.view (2 : Nat) n (fun j => [T.int IntKind.i64 (H j), T.int IntKind.i64 (W j)]) c,
        T.reg [T.int IntKind.i64 S, T.int IntKind.i64 R], T.bool false, T.int IntKind.i64 (0 : Int)]
      []
      [T.view (2 : Nat) n (fun j => [T.int IntKind.i64 (H j), T.int IntKind.i64 (W j)]) c,
        T.reg [T.int IntKind.i64 S, T.int IntKind.i64 R], T.bool gS, T.int IntKind.i64 (0 : Int)]
      [] then
    bif sameArgsF
      [T.agg [T.int IntKind.i64 S, T.int IntKind.i64 R],
        T.view (2 : Nat) n (fun j => [T.int IntKind.i64 (H j), T.int IntKind.i64 (W j)]) c]
      l1 then
    bif decide ((0 : Int) < Int.ofNat b) then
    bif decide (Int.ofNat b ≤ (400 : Int)) then
    some (T.bool true)
    else
    some (T.bool false)
    else
    some (T.bool false)
    else
    none
    else
    none) from by kernel_rfl)]
  have en : (Int.ofNat n : Int) = (n : Int) := rfl
  have eb : (Int.ofNat b : Int) = (b : Int) := rfl
  rw [args_yes hr]
  rw [dT (show (0 : Int) < Int.ofNat b by omega), dT (show Int.ofNat b ≤ 400 by omega)]
  simp only [cond_true]
  refine bifd (fun _ => rfl) fun _ => ?_
  by_cases q : 1 ≤ S ∧ S ≤ 400 ∧ 1 ≤ R ∧ R ≤ 400 ∧ 1 < n
  · rw [dT q] at hS
    subst hS
    rw [dT q.1, dT q.2.1, dT q.2.2.1, dT q.2.2.2.1, dT (show (1 : Int) < Int.ofNat n by omega)]
    simp only [cond_true]
    exact bift (sameStF_iff.2 ⟨rfl, .nil⟩) rfl
  · rw [dF q] at hS
    subst hS
    repeat' first | refine bifd (fun _ => ?_) (fun _ => ?_) | exact bift (sameStF_iff.2 ⟨rfl, .nil⟩) rfl
    exfalso; omega
end Go.Ab

namespace Go.Ab
open Go.Proofs
noncomputable def KV7 (l2 : List (List T)) : Orc := K37b.add 23 (callS l2 (.bool false))
theorem validNil (S R : Int) : ToldOk P37 G37 23 [.agg [.int .i64 S, .int .i64 R], .nils] (.bool false) := by
  refine stepV_told hm37 hn37 okK37b (A := A37) (m := 0) ?_
  rw [(show stepV P37 G37 A37 K37b 0 23 [.agg [.int .i64 S, .int .i64 R], .nils] =
(    bif decide ((1 : Int) ≤ S) && decide (S ≤ (400 : Int)) then
    bif decide ((1 : Int) ≤ R) && decide (R ≤ (400 : Int)) then
    some (T.bool false)
    else
    some (T.bool false)
    else
    some (T.bool false)) from by kernel_rfl)]
  repeat' first | refine bifd (fun _ => ?_) (fun _ => ?_) | rfl | (simp only [← Bool.decide_and]; done)
  simp only [← Bool.decide_and]
  repeat' first | refine bifd (fun _ => ?_) (fun _ => ?_) | rfl
theorem widthsNil (S R : Int) : ToldOk P37 G37 17 [.agg [.int .i64 S, .int .i64 R], .nils] bad1 := by
  refine stepV_told hm37 hn37 (K := KV7 [[.agg [.int .i64 S, .int .i64 R], .nils]]) (told_add okK37b (callS_told fun a h => by obtain rfl := List.mem_singleton.1 h; exact validNil S R)) (A := A37) (m := 0) ?_
  generalize hL : [[T.agg [.int .i64 S, .int .i64 R], .nils]] = l2
  rw [(show stepV P37 G37 A37 (KV7 l2) 0 17 [.agg [.int .i64 S, .int .i64 R], .nils] =
(    bif sameArgsF [T.agg [T.int IntKind.i64 S, T.int IntKind.i64 R], T.nils] l2 then
    some (T.tup [T.nils, T.int IntKind.i64 (1 : Int)])
    else
    none) from by kernel_rfl)]
  rw [args_yes (by rw [← hL]; exact List.mem_singleton.2 rfl)]
  rfl
theorem law7nil (S R : Int) : ToldOk P37 G37 7 [.agg [.int .i64 S, .int .i64 R], .nils] (.bool true) := by
  refine stepV_told hm37 hn37 (K := KW7 [[.agg [.int .i64 S, .int .i64 R], .nils]] (.tup [.nils, .int .i64 1])) (okKW7 fun a h => by obtain rfl := List.mem_singleton.1 h; exact widthsNil S R) (A := A37) (m := 5) ?_
  generalize hL : [[T.agg [.int .i64 S, .int .i64 R], .nils]] = l2
  rw [(show stepV P37 G37 A37 (KW7 l2 (.tup [.nils, .int .i64 1])) 5 7 [.agg [.int .i64 S, .int .i64 R], .nils] =
(    bif decide ((1 : Int) ≤ S) then
    bif decide (S ≤ (400 : Int)) then
    bif decide ((1 : Int) ≤ R) then
    bif decide (R ≤ (400 : Int)) then
    bif sameArgsF [T.agg [T.int IntKind.i64 S, T.int IntKind.i64 R], T.nils] l2 then
    some (T.bool true)
    else
    none
    else
    bif sameArgsF [T.agg [T.int IntKind.i64 S, T.int IntKind.i64 R], T.nils] l2 then
    some (T.bool true)
    else
    none
    else
    bif sameArgsF [T.agg [T.int IntKind.i64 S, T.int IntKind.i64 R], T.nils] l2 then
    some (T.bool true)
    else
    none
    else
    bif sameArgsF [T.agg [T.int IntKind.i64 S, T.int IntKind.i64 R], T.nils] l2 then
    some (T.bool true)
    else
    none
    else
    bif sameArgsF [T.agg [T.int IntKind.i64 S, T.int IntKind.i64 R], T.nils] l2 then
    some (T.bool true)
    else
    none) from by kernel_rfl)]
  rw [args_yes (by rw [← hL]; exact List.mem_singleton.2 rfl)]
  simp only [cond_true]
  repeat' first | refine bifd (fun _ => ?_) (fun _ => ?_) | rfl
theorem gd_ok {S R : Int} {H W : Nat → Int} {n : Nat} : gdP H W (decide (1 ≤ S ∧ S ≤ 400 ∧ 1 ≤ R ∧ R ≤ 400 ∧ 1 < n)) n = true ↔ Okg S R ∧ Okp n H W := by
  rw [gdP_iff, decide_eq_true_eq]
  unfold Okg Okp
  constructor
  · rintro ⟨⟨a1, a2, a3, a4, a5⟩, h⟩
    refine ⟨⟨a1, a2, a3, a4⟩, by omega, (h 0 (by omega)).1.2.2.2.2 rfl, fun j hj => ?_⟩
    obtain ⟨⟨b1, b2, b3, b4, b5⟩, b6⟩ := h j hj
    refine ⟨?_, b2, b3, b4⟩
    cases j with
    | zero => simpa [bf] using b1
    | succ j => exact b6 (by omega)
  · rintro ⟨⟨a1, a2, a3, a4⟩, a5, a6, h⟩
    have hu := okp_up (n := n) (H := H) (W := W) ⟨a5, a6, h⟩
    refine ⟨⟨a1, a2, a3, a4, by omega⟩, fun i hi => ?_⟩
    obtain ⟨b1, b2, b3, b4⟩ := h i hi
    refine ⟨⟨(hu i hi).1, b2, b3, b4, fun q => by rw [q]; exact a6⟩, fun q => ?_⟩
    cases i with
    | zero => omega
    | succ i => exact b1
theorem law7big (S R : Int) (H W : Nat → Int) (n : Nat) (c : Option Nat) (h : 10 < n) : ToldOk P37 G37 7 [.agg [.int .i64 S, .int .i64 R], .view 2 n (fun j => [.int .i64 (H j), .int .i64 (W j)]) c] (.bool true) := by
  refine stepV_told hm37 hn37 okK37b (A := A37) (m := 0) ?_
  rw [(show stepV P37 G37 A37 K37b 0 7 [.agg [.int .i64 S, .int .i64 R], .view 2 n (fun j => [.int .i64 (H j), .int .i64 (W j)]) c] =
(    bif decide ((10 : Int) < Int.ofNat n) then
    some (T.bool true)
    else
    bif decide ((1 : Int) ≤ S) then
    bif decide (S ≤ (400 : Int)) then
    bif decide ((1 : Int) ≤ R) then
    bif decide (R ≤ (400 : Int)) then
    bif decide ((1 : Int) < Int.ofNat n) then
    none
    else
    none
    else
    none
    else
    none
    else
    none
    else
    none) from by kernel_rfl)]
  have en : (Int.ofNat n : Int) = (n : Int) := rfl
  rw [dT (show (10 : Int) < Int.ofNat n by omega)]; rfl
theorem law7 (S R : Int) (H W : Nat → Int) (n : Nat) (c : Option Nat) : ToldOk P37 G37 7 [.agg [.int .i64 S, .int .i64 R], .view 2 n (fun j => [.int .i64 (H j), .int .i64 (W j)]) c] (.bool true) := by
  by_cases h10 : 10 < n
  · exact law7big S R H W n c h10
  have l5 := fun g => l7_5 S R H W n c g (by omega)
  obtain ⟨r, hr, ht⟩ := widthsT S R H W n c (by omega)
  have l1 : ∀ a ∈ [[T.agg [.int .i64 S, .int .i64 R], .view 2 n (fun j => [.int .i64 (H j), .int .i64 (W j)]) c]], ToldOk P37 G37 17 a r := fun a h => by obtain rfl := List.mem_singleton.1 h; exact ht
  have hg := gd_ok (S := S) (R := R) (H := H) (W := W) (n := n)
  cases hr with
  | bad h =>
    exact law7e S R H W n c _ _ 1 _ l1 rfl (l5 _) (.inr ⟨List.mem_singleton.2 rfl, by omega, fun _ => by rw [Bool.eq_false_iff]; exact fun z => h (hg.1 z), fun _ => rfl⟩)
  | none h1 h2 h3 => exact law7e S R H W n c _ _ 14 _ l1 rfl (l5 _) (.inr ⟨List.mem_singleton.2 rfl, by omega, fun z => by omega, fun z => by rw [hg.2 ⟨h1, h2⟩] at z; cases z⟩)
  | many h1 h2 h3 => exact law7e S R H W n c _ _ 3 _ l1 rfl (l5 _) (.inr ⟨List.mem_singleton.2 rfl, by omega, fun z => by omega, fun z => by rw [hg.2 ⟨h1, h2⟩] at z; cases z⟩)
  | zero h1 h2 b k _ _ _ _ _ _ => exact law7e S R H W n c _ _ 14 _ l1 rfl (l5 _) (.inr ⟨List.mem_singleton.2 rfl, by omega, fun z => by omega, fun z => by rw [hg.2 ⟨h1, h2⟩] at z; cases z⟩)
  | good h1 h2 b h3 h4 h5 h6 => exact law7f S R H W n c _ _ b _ _ l1 rfl (l5 _) (List.mem_singleton.2 rfl) (hg.2 ⟨h1, h2⟩) (by omega) h5
theorem agg38 : aggTy P37 38 = false := by kernel_rfl
theorem cells42_37 : P37.cellsOf 42 = 2 := by kernel_rfl
section
variable {Hp : Type}
theorem inv37 {ts : List T} {d : DataW Hp} (h : CT P37 37 ts d) : ∃ a b, topT P37 37 ts = .agg [.int .i64 a, .int .i64 b] := by
  obtain ⟨parts, ds, rfl, rfl, hs⟩ := CT.struct_inv Try.underlying37 h; clear h; rename _ => h
  change CTs P37 [3, 3] parts ds at h
  obtain ⟨p1, _, d1, _, rfl, rfl, h1, h⟩ := h.cons
  obtain ⟨p2, _, d2, _, rfl, rfl, h2, h⟩ := h.cons
  obtain ⟨rfl, rfl⟩ := h.nil
  obtain ⟨a, rfl, rfl, w1⟩ := h1.int_inv Try.underlying3
  obtain ⟨b, rfl, rfl, w2⟩ := h2.int_inv Try.underlying3
  refine ⟨a, b, ?_⟩
  simp [topT, show aggTy P37 37 = true by kernel_rfl]
theorem inv42 {ts : List T} {d : DataW Hp} (h : CT P37 42 ts d) : ∃ a b, ts = [.int .i64 a, .int .i64 b] := by
  obtain ⟨parts, ds, rfl, rfl, hs⟩ := CT.struct_inv Try.underlying42 h; clear h; rename _ => h
  change CTs P37 [3, 3] parts ds at h
  obtain ⟨p1, _, d1, _, rfl, rfl, h1, h⟩ := h.cons
  obtain ⟨p2, _, d2, _, rfl, rfl, h2, h⟩ := h.cons
  obtain ⟨rfl, rfl⟩ := h.nil
  obtain ⟨a, rfl, rfl, w1⟩ := h1.int_inv Try.underlying3
  obtain ⟨b, rfl, rfl, w2⟩ := h2.int_inv Try.underlying3
  exact ⟨a, b, by simp⟩
def int0 : List T → Int
  | a :: _ => intAt [a]
  | [] => 0
def int1 : List T → Int
  | _ :: a :: _ => intAt [a]
  | _ => 0
theorem inv38 {ts : List T} {d : DataW Hp} (h : CT P37 38 ts d) : topT P37 38 ts = .nils ∨ ∃ (n : Nat) (x y : Nat → Int), Sim (topT P37 38 ts) (.view 2 n (fun j => [.int .i64 (x j), .int .i64 (y j)]) none) ∧ n ≤ maxLen := by
  rcases h.slice_inv Try.underlying38 (by rw [cells42_37]; omega) with ⟨rfl, rfl⟩ | ⟨n, c, g, elems, spare, rfl, rfl, he, hs, hn, hc, hg⟩
  · exact .inl (by simp [topT, agg38])
  · refine .inr ⟨n, fun j => int0 (g j), fun j => int1 (g j), ?_, by omega⟩
    have e : topT P37 38 [.view (P37.cellsOf 42) n g (some c)] = .view 2 n g (some c) := by simp [topT, agg38, cells42_37]
    rw [e]
    refine .view (.inr rfl) fun j hj => ?_
    have hj' : j < elems.length := by omega
    obtain ⟨a, b, hv⟩ := inv42 (hg j elems[j] (by simp [hj']))
    show Sims (g j) [.int .i64 (int0 (g j)), .int .i64 (int1 (g j))]
    rw [hv]
    exact .refl _
end
end Go.Ab

namespace Go.Ab
open Go.Proofs
def oH (P : Nat → Int) : Nat → Int
  | 0 => 0
  | j + 1 => oH P j + P j
def oW (Q : Nat → Int) : Nat → Int
  | 0 => 40
  | j + 1 => Q j
def pB (v n : Nat) (H W : Nat → Int) (t : Bool) : Blk := ⟨v, 2, n, fun j => [.int .i64 (H j), .int .i64 (W j)], true, t⟩
def lit0 : Blk := ⟨0, 2, 1, fun j => [[T.int .i64 0, .int .i64 40]].getD j [], true, true⟩
def out0 : T := .fresh true 2 1 (fun j => [[T.int .i64 0, .int .i64 40]].getD (0 + j) []) 1 (some 1)
theorem oH_bd {P : Nat → Int} {n : Nat} (hp : ∀ j, j < n → 0 ≤ P j ∧ P j ≤ 255) : ∀ j, j ≤ n → 0 ≤ oH P j ∧ oH P j ≤ 255 * j := by
  intro j
  induction j with
  | zero => intro _; simp [oH]
  | succ j ih => intro hj; have := ih (by omega); have := hp j (by omega); simp only [oH]; omega
theorem wr8u {x : Int} (h : 0 ≤ x) (h2 : x ≤ 255) : IntKind.i64.wrap x = x := wr64 (by omega) (by omega)
theorem o3r (P Q : Nat → Int) (n i : Nat) (c : Option Nat) (b v : Nat) (H W : Nat → Int) (B0 B1 : Blk) (hi : i < n) (hi8 : i < 8) (hp : ∀ j, j < n → 0 ≤ P j ∧ P j ≤ 255) (hq : ∀ j, j < n → 0 ≤ Q j ∧ Q j ≤ 255) (hH : 0 ≤ H i ∧ H i ≤ 4000) :
    ∃ g1 g2, iterR P37 G37 A37 K37b 0 16 [] 3 [.view 2 n (fun j => [.int .u8 (P j), .int .u8 (Q j)]) c, .own 2 v 0 (i + 1) none, .int .i64 i] [B0, B1, pB v (i + 1) H W false] =
    some (.normal, [.view 2 n (fun j => [.int .u8 (P j), .int .u8 (Q j)]) c, .own 2 (v + 1) 0 (i + 2) none, .int .i64 ((i + 1 : Nat) : Int)], [B0, B1, ⟨v + 1, 2, i + 2, g1, true, false⟩, ⟨0, 2, 1, g2, true, true⟩]) ∧
      ∀ j, j < i + 2 → g1 j = if j < i + 1 then [.int .i64 (H j), .int .i64 (W j)] else [.int .i64 (H i + P i), .int .i64 (Q i)] := by
  unfold pB
  rw [(show iterR P37 G37 A37 K37b 0 16 [] 3 [.view 2 n (fun j => [.int .u8 (P j), .int .u8 (Q j)]) c, .own 2 v 0 (i + 1) none, .int .i64 i] [B0, B1, ⟨v, 2, i + 1, fun j => [.int .i64 (H j), .int .i64 (W j)], true, false⟩] =
(    bif decide (Int.ofNat i < Int.ofNat n) then
    bif decide (Int.ofNat i < (8 : Int)) then
    bif v == v then
    bif decide ((0 : Int) ≤ Int.ofNat i) && decide (Int.ofNat i < Int.ofNat (i + (1 : Nat))) then
    bif v == v then
    bif v == v then
    bif ((0 : Nat) + i).blt (i + (1 : Nat)) then
    bif decide ((0 : Int) ≤ Int.ofNat i) && decide (Int.ofNat i < Int.ofNat n) then
    bif decide ((0 : Int) ≤ Int.ofNat i) && decide (Int.ofNat i < Int.ofNat n) then
    bif v == v then
    bif true && ((0 : Nat) + (i + (1 : Nat))).ble (i + (1 : Nat)) then
    bif ((i + (1 : Nat) + (1 : Nat)) * (17 : Nat)).ble (70368744177664 : Nat) then
    some ((Ex.normal,
      [T.view (2 : Nat) n (fun j => [T.int IntKind.u8 (P j), T.int IntKind.u8 (Q j)]) c,
        T.own (2 : Nat) (v + (1 : Nat)) (0 : Nat) (i + (1 : Nat) + (1 : Nat)) none,
        T.int IntKind.i64 (IntKind.i64.wrap (Int.ofNat i + (1 : Int)))],
      [B0, B1,
        Blk.mk (v + (1 : Nat)) (2 : Nat) (i + (1 : Nat) + (1 : Nat))
          (fun j =>
            bif j.blt (i + (1 : Nat)) then [T.int IntKind.i64 (H ((0 : Nat) + j)), T.int IntKind.i64 (W ((0 : Nat) + j))]
            else
              [[T.int IntKind.i64 (IntKind.i64.wrap (H ((0 : Nat) + i) + IntKind.i64.wrap (P i))),
                      T.int IntKind.i64 (IntKind.i64.wrap (Q i))]].getD
                ((0 : Nat) + (j - (i + (1 : Nat)))) [])
          true false,
        Blk.mk (0 : Nat) (2 : Nat) (1 : Nat)
          (fun j =>
            [[T.int IntKind.i64 (IntKind.i64.wrap (H ((0 : Nat) + i) + IntKind.i64.wrap (P i))),
                    T.int IntKind.i64 (IntKind.i64.wrap (Q i))]].getD
              j [])
          true true]))
    else
    none
    else
    none
    else
    none
    else
    none
    else
    none
    else
    none
    else
    none
    else
    none
    else
    none
    else
    none
    else
    some ((Ex.exit (0 : Nat), [T.own (2 : Nat) v (0 : Nat) (i + (1 : Nat)) none],
      [B0, B1,
        Blk.mk v (2 : Nat) (i + (1 : Nat)) (fun j => [T.int IntKind.i64 (H j), T.int IntKind.i64 (W j)]) true false]))
    else
    some ((Ex.exit (0 : Nat), [T.own (2 : Nat) v (0 : Nat) (i + (1 : Nat)) none],
      [B0, B1,
        Blk.mk v (2 : Nat) (i + (1 : Nat)) (fun j => [T.int IntKind.i64 (H j), T.int IntKind.i64 (W j)]) true false]))) from by kernel_rfl)]
  have eo : (Int.ofNat i : Int) = (i : Int) := rfl
  have en : (Int.ofNat n : Int) = (n : Int) := rfl
  have e1 : (Int.ofNat (i + 1) : Int) = (i : Int) + 1 := rfl
  have hpi := hp i hi
  have hqi := hq i hi
  rw [dT (show Int.ofNat i < Int.ofNat n by omega), dT (show Int.ofNat i < 8 by omega), dT (show (0 : Int) ≤ Int.ofNat i by omega), dT (show Int.ofNat i < Int.ofNat (i + 1) by omega), bltT (show 0 + i < i + 1 by omega), bleT (show 0 + (i + 1) ≤ i + 1 by omega), bleT (show (i + 1 + 1) * 17 ≤ 70368744177664 by omega), wr64 (x := Int.ofNat i + 1) (by omega) (by omega), Nat.zero_add i, wr8u (x := P i) hpi.1 hpi.2, wr8u (x := Q i) hqi.1 hqi.2, wr64 (x := H i + P i) (by omega) (by omega)]
  simp only [Bool.and_self, cond_true]
  refine ⟨fun j => bif j.blt (i + 1) then [T.int .i64 (H (0 + j)), T.int .i64 (W (0 + j))] else [[T.int .i64 (H i + P i), T.int .i64 (Q i)]].getD (0 + (j - (i + 1))) [], fun j => [[T.int .i64 (H i + P i), T.int .i64 (Q i)]].getD j [], by simp only [beq_self_eq_true, cond_true]; rfl, fun j hj => ?_⟩
  show (bif j.blt (i + 1) then [T.int .i64 (H (0 + j)), T.int .i64 (W (0 + j))] else [[T.int .i64 (H i + P i), T.int .i64 (Q i)]].getD (0 + (j - (i + 1))) []) = _
  by_cases q : j < i + 1
  · rw [bltT q, if_pos q, Nat.zero_add]; rfl
  · rw [bltF (by omega), if_neg q, show 0 + (j - (i + 1)) = 0 by omega]; rfl
theorem o3s (P Q : Nat → Int) (n : Nat) (c : Option Nat) (hi : 0 < n) (hp : ∀ j, j < n → 0 ≤ P j ∧ P j ≤ 255) (hq : ∀ j, j < n → 0 ≤ Q j ∧ Q j ≤ 255) :
    ∃ g1 g2, iterR P37 G37 A37 K37b 0 16 [] 3 [.view 2 n (fun j => [.int .u8 (P j), .int .u8 (Q j)]) c, .own 0 0 0 1 (some 1), .int .i64 0] [pB 0 1 (oH P) (oW Q) true] =
    some (.normal, [.view 2 n (fun j => [.int .u8 (P j), .int .u8 (Q j)]) c, .own 2 0 0 2 none, .int .i64 1], [pB 0 1 (oH P) (oW Q) true, ⟨0, 2, 1, g2, true, true⟩, ⟨0, 2, 2, g1, true, false⟩]) ∧
      (∀ j, j < 2 → g1 j = [.int .i64 (oH P j), .int .i64 (oW Q j)]) ∧ g2 0 = [.int .i64 (oH P 1), .int .i64 (oW Q 1)] := by
  have hpi := hp 0 hi
  have hqi := hq 0 hi
  generalize hH : oH P = H
  generalize hW : oW Q = W
  have h0 : H 0 = 0 := by rw [← hH]; rfl
  have h1 : H 1 = P 0 := by rw [← hH]; simp [oH]
  have w1 : W 1 = Q 0 := by rw [← hW]; rfl
  unfold pB
  rw [(show iterR P37 G37 A37 K37b 0 16 [] 3 [.view 2 n (fun j => [.int .u8 (P j), .int .u8 (Q j)]) c, .own 0 0 0 1 (some 1), .int .i64 0] [⟨0, 2, 1, fun j => [.int .i64 (H j), .int .i64 (W j)], true, true⟩] =
(    bif decide ((0 : Int) < Int.ofNat n) then
    bif true && decide ((0 : Int) < Int.ofNat n) then
    bif true && decide ((0 : Int) < Int.ofNat n) then
    some ((Ex.normal,
      [T.view (2 : Nat) n (fun j => [T.int IntKind.u8 (P j), T.int IntKind.u8 (Q j)]) c,
        T.own
          [Blk.mk (0 : Nat) (2 : Nat) (1 : Nat) (fun j => [T.int IntKind.i64 (H j), T.int IntKind.i64 (W j)]) true true,
              Blk.mk (0 : Nat) (2 : Nat) (1 : Nat)
                (fun j =>
                  [[T.int IntKind.i64 (IntKind.i64.wrap (H (0 : Nat) + IntKind.i64.wrap (P (0 : Nat)))),
                          T.int IntKind.i64 (IntKind.i64.wrap (Q (0 : Nat)))]].getD
                    j [])
                true true].length
          (0 : Nat) (0 : Nat) (2 : Nat) none,
        T.int IntKind.i64 (1 : Int)],
      [Blk.mk (0 : Nat) (2 : Nat) (1 : Nat) (fun j => [T.int IntKind.i64 (H j), T.int IntKind.i64 (W j)]) true true,
        Blk.mk (0 : Nat) (2 : Nat) (1 : Nat)
          (fun j =>
            [[T.int IntKind.i64 (IntKind.i64.wrap (H (0 : Nat) + IntKind.i64.wrap (P (0 : Nat)))),
                    T.int IntKind.i64 (IntKind.i64.wrap (Q (0 : Nat)))]].getD
              j [])
          true true,
        Blk.mk (0 : Nat) (2 : Nat) (2 : Nat)
          (fun j =>
            bif j.blt (1 : Nat) then [T.int IntKind.i64 (H ((0 : Nat) + j)), T.int IntKind.i64 (W ((0 : Nat) + j))]
            else
              [[T.int IntKind.i64 (IntKind.i64.wrap (H (0 : Nat) + IntKind.i64.wrap (P (0 : Nat)))),
                      T.int IntKind.i64 (IntKind.i64.wrap (Q (0 : Nat)))]].getD
                ((0 : Nat) + (j - (1 : Nat))) [])
          true false]))
    else
    none
    else
    none
    else
    some ((Ex.exit (0 : Nat), [T.own (0 : Nat) (0 : Nat) (0 : Nat) (1 : Nat) (some (1 : Nat))],
      [Blk.mk (0 : Nat) (2 : Nat) (1 : Nat) (fun j => [T.int IntKind.i64 (H j), T.int IntKind.i64 (W j)]) true true]))) from by kernel_rfl)]
  have en : (Int.ofNat n : Int) = (n : Int) := rfl
  rw [dT (show (0 : Int) < Int.ofNat n by omega), h0, Int.zero_add, wr8u (x := P 0) hpi.1 hpi.2, wr8u (x := P 0) hpi.1 hpi.2, wr8u (x := Q 0) hqi.1 hqi.2]
  refine ⟨fun j => bif j.blt 1 then [T.int .i64 (H (0 + j)), T.int .i64 (W (0 + j))] else [[T.int .i64 (P 0), T.int .i64 (Q 0)]].getD (0 + (j - 1)) [], fun j => [[T.int .i64 (P 0), T.int .i64 (Q 0)]].getD j [], rfl, fun j hj => ?_, by rw [h1, w1]; rfl⟩
  match j, hj with
  | 0, _ => rfl
  | 1, _ => rw [h1, w1]; rfl
theorem o3x (P Q : Nat → Int) (n i v : Nat) (c : Option Nat) (B0 B1 B2 : Blk) (hi : n ≤ i ∨ 8 ≤ i) :
    iterR P37 G37 A37 K37b 0 16 [] 3 [.view 2 n (fun j => [.int .u8 (P j), .int .u8 (Q j)]) c, .own 2 v 0 (i + 1) none, .int .i64 i] [B0, B1, pB v (i + 1) (oH P) (oW Q) false] = some (.exit 0, [.own 2 v 0 (i + 1) none], [B0, B1, pB v (i + 1) (oH P) (oW Q) false]) := by
  generalize oH P = H
  generalize oW Q = W
  unfold pB
  have key : ∀ x : Int, Int.ofNat n ≤ x ∨ 8 ≤ x → iterR P37 G37 A37 K37b 0 16 [] 3 [.view 2 n (fun j => [.int .u8 (P j), .int .u8 (Q j)]) c, .own 2 v 0 (i + 1) none, .int .i64 x] [B0, B1, ⟨v, 2, i + 1, fun j => [.int .i64 (H j), .int .i64 (W j)], true, false⟩] = some (.exit 0, [.own 2 v 0 (i + 1) none], [B0, B1, ⟨v, 2, i + 1, fun j => [.int .i64 (H j), .int .i64 (W j)], true, false⟩]) := by
    intro x hx
    rw [(show iterR P37 G37 A37 K37b 0 16 [] 3 [.view 2 n (fun j => [.int .u8 (P j), .int .u8 (Q j)]) c, .own 2 v 0 (i + 1) none, .int .i64 x] [B0, B1, ⟨v, 2, i + 1, fun j => [.int .i64 (H j), .int .i64 (W j)], true, false⟩] =
(    bif decide (x < Int.ofNat n) then
    bif decide (x < (8 : Int)) then
    bif v == v then
    bif decide ((0 : Int) ≤ x) && decide (x < Int.ofNat (i + (1 : Nat))) then
    bif v == v then
    bif v == v then
    bif ((0 : Nat) + x.toNat).blt (i + (1 : Nat)) then
    bif decide ((0 : Int) ≤ x) && decide (x < Int.ofNat n) then
    bif decide ((0 : Int) ≤ x) && decide (x < Int.ofNat n) then
    bif v == v then
    bif true && ((0 : Nat) + (i + (1 : Nat))).ble (i + (1 : Nat)) then
    bif ((i + (1 : Nat) + (1 : Nat)) * (17 : Nat)).ble (70368744177664 : Nat) then
    some ((Ex.normal,
      [T.view (2 : Nat) n (fun j => [T.int IntKind.u8 (P j), T.int IntKind.u8 (Q j)]) c,
        T.own (2 : Nat) (v + (1 : Nat)) (0 : Nat) (i + (1 : Nat) + (1 : Nat)) none,
        T.int IntKind.i64 (IntKind.i64.wrap (x + (1 : Int)))],
      [B0, B1,
        Blk.mk (v + (1 : Nat)) (2 : Nat) (i + (1 : Nat) + (1 : Nat))
          (fun j =>
            bif j.blt (i + (1 : Nat)) then [T.int IntKind.i64 (H ((0 : Nat) + j)), T.int IntKind.i64 (W ((0 : Nat) + j))]
            else
              [[T.int IntKind.i64 (IntKind.i64.wrap (H ((0 : Nat) + x.toNat) + IntKind.i64.wrap (P x.toNat))),
                      T.int IntKind.i64 (IntKind.i64.wrap (Q x.toNat))]].getD
                ((0 : Nat) + (j - (i + (1 : Nat)))) [])
          true false,
        Blk.mk (0 : Nat) (2 : Nat) (1 : Nat)
          (fun j =>
            [[T.int IntKind.i64 (IntKind.i64.wrap (H ((0 : Nat) + x.toNat) + IntKind.i64.wrap (P x.toNat))),
                    T.int IntKind.i64 (IntKind.i64.wrap (Q x.toNat))]].getD
              j [])
          true true]))
    else
    none
    else
    none
    else
    none
    else
    none
    else
    none
    else
    none
    else
    none
    else
    none
    else
    none
    else
    none
    else
    some ((Ex.exit (0 : Nat), [T.own (2 : Nat) v (0 : Nat) (i + (1 : Nat)) none],
      [B0, B1,
        Blk.mk v (2 : Nat) (i + (1 : Nat)) (fun j => [T.int IntKind.i64 (H j), T.int IntKind.i64 (W j)]) true false]))
    else
    some ((Ex.exit (0 : Nat), [T.own (2 : Nat) v (0 : Nat) (i + (1 : Nat)) none],
      [B0, B1,
        Blk.mk v (2 : Nat) (i + (1 : Nat)) (fun j => [T.int IntKind.i64 (H j), T.int IntKind.i64 (W j)]) true false]))) from by kernel_rfl)]
    rcases hx with hx | hx
    · rw [dF (show ¬ x < Int.ofNat n by omega)]; rfl
    · rw [dF (show ¬ x < 8 by omega)]; exact bifd (fun _ => rfl) (fun _ => rfl)
  exact key _ (by have : (Int.ofNat n : Int) = (n : Int) := rfl; omega)
theorem o3x0 (P Q : Nat → Int) (c : Option Nat) :
    iterR P37 G37 A37 K37b 0 16 [] 3 [.view 2 0 (fun j => [.int .u8 (P j), .int .u8 (Q j)]) c, .own 0 0 0 1 (some 1), .int .i64 0] [lit0] = some (.exit 0, [.own 0 0 0 1 (some 1)], [lit0]) := by
  kernel_rfl
theorem l16 (P Q : Nat → Int) (n : Nat) (c : Option Nat) (h0 : 0 < n) (hp : ∀ j, j < n → 0 ≤ P j ∧ P j ≤ 255) (hq : ∀ j, j < n → 0 ≤ Q j ∧ Q j ≤ 255) :
    ∃ g1, LoopOk P37 G37 (A37 16) 16 3 (litS [.view 2 n (fun j => [.int .u8 (P j), .int .u8 (Q j)]) c, .own 0 0 0 1 (some 1), .int .i64 0] [pB 0 1 (oH P) (oW Q) true] (.exit 0)
      [.own 2 (n.min 8 - 1) 0 (n.min 8 + 1) none] [pB 0 1 (oH P) (oW Q) true, ⟨0, 2, 1, g1, true, true⟩, pB (n.min 8 - 1) (n.min 8 + 1) (oH P) (oW Q) false]) := by
  have hk : n.min 8 ≤ n ∧ n.min 8 ≤ 8 ∧ 1 ≤ n.min 8 ∧ (n ≤ n.min 8 ∨ 8 ≤ n.min 8) := by
    rw [show n.min 8 = min n 8 from rfl]; omega
  generalize n.min 8 = k at hk ⊢
  obtain ⟨k1, k2, k3, k4⟩ := hk
  obtain ⟨g1, g2, q1, q2, q3⟩ := o3s P Q n c h0 hp hq
  refine ⟨g2, .lit fun fn hf hnt => ?_⟩
  have := loop_seq (P := P37) (Gl := G37) (an := A37 16) hm37 (f := 16) (r := 3) (by kernel_rfl) hf hnt (fun i => match i with | 0 => [.view 2 n (fun j => [.int .u8 (P j), .int .u8 (Q j)]) c, .own 0 0 0 1 (some 1), .int .i64 0] | i + 1 => [.view 2 n (fun j => [.int .u8 (P j), .int .u8 (Q j)]) c, .own 2 i 0 (i + 2) none, .int .i64 ((i + 1 : Nat) : Int)])
    (fun i => match i with | 0 => [pB 0 1 (oH P) (oW Q) true] | i + 1 => [pB 0 1 (oH P) (oW Q) true, ⟨0, 2, 1, g2, true, true⟩, pB i (i + 2) (oH P) (oW Q) false]) (n := k) (e1 := .exit 0) (vs1 := [.own 2 (k - 1) 0 (k + 1) none]) (h1 := [pB 0 1 (oH P) (oW Q) true, ⟨0, 2, 1, g2, true, true⟩, pB (k - 1) (k + 1) (oH P) (oW Q) false]) (fun i hi => ?_) ⟨by simp, ?_⟩
  · exact this
  · match i, hi with
    | 0, _ =>
      refine ⟨_, _, Rnd.of A37 okK37b rfl rfl q1, .same ?_⟩
      exact .cons ⟨rfl, rfl, rfl, id, fun _ _ => rfl⟩ (.cons ⟨rfl, rfl, rfl, id, fun _ _ => rfl⟩ (.cons ⟨rfl, rfl, rfl, id, fun j hj => (q2 j hj).symm⟩ .nil))
    | i + 1, hi =>
      have hb := oH_bd (P := P) (n := n) hp (i + 1) (by omega)
      obtain ⟨g3, g4, r1, r2⟩ := o3r P Q n (i + 1) c 2 i (oH P) (oW Q) (pB 0 1 (oH P) (oW Q) true) ⟨0, 2, 1, g2, true, true⟩ (by omega) (by omega) hp hq (by omega)
      refine ⟨_, _, Rnd.of A37 okK37b rfl rfl r1, ?_⟩
      have hw : SameBlks [pB 0 1 (oH P) (oW Q) true, ⟨0, 2, 1, g2, true, true⟩, ⟨i + 1, 2, i + 1 + 2, g3, true, false⟩] [pB 0 1 (oH P) (oW Q) true, ⟨0, 2, 1, g2, true, true⟩, pB (i + 1) (i + 1 + 2) (oH P) (oW Q) false] :=
        .cons ⟨rfl, rfl, rfl, id, fun _ _ => rfl⟩ (.cons ⟨rfl, rfl, rfl, id, fun _ _ => rfl⟩ (.cons ⟨rfl, rfl, rfl, id, fun j hj => by
          show _ = g3 j
          rw [r2 j hj]
          by_cases q : j < i + 1 + 1
          · rw [if_pos q]; rfl
          · rw [if_neg q]
            have hj' : j < i + 1 + 2 := hj
            obtain rfl : j = i + 1 + 1 := by omega
            rfl⟩ .nil))
      exact WeakTo.trans (h1 := [pB 0 1 (oH P) (oW Q) true, ⟨0, 2, 1, g2, true, true⟩, ⟨i + 1, 2, i + 1 + 2, g3, true, false⟩]) (WeakTo.takeM (m := 3) (by simp) (h := [pB 0 1 (oH P) (oW Q) true, ⟨0, 2, 1, g2, true, true⟩, ⟨i + 1, 2, i + 1 + 2, g3, true, false⟩, ⟨0, 2, 1, g4, true, true⟩]) (by simp [trimOk, low, low0, imm0, lowBlk, Nat.blt, pB])) (.same hw)
  · match k, k3, k4 with
    | k + 1, _, k4 => exact ⟨_, _, Rnd.of A37 okK37b rfl rfl (o3x P Q n (k + 1) k c _ _ ⟨0, 2, 1, g2, true, true⟩ k4), .refl _ _⟩
theorem l16z (P Q : Nat → Int) (c : Option Nat) : LoopOk P37 G37 (A37 16) 16 3 (litS [.view 2 0 (fun j => [.int .u8 (P j), .int .u8 (Q j)]) c, .own 0 0 0 1 (some 1), .int .i64 0] [lit0] (.exit 0) [.own 0 0 0 1 (some 1)] [lit0]) :=
  .lit fun fn hf hnt => loop_seq hm37 (by kernel_rfl) hf hnt (fun i => [.view 2 0 (fun j => [.int .u8 (P j), .int .u8 (Q j)]) c, .own 0 0 0 1 (some 1), .int .i64 0]) (fun i => [lit0]) (n := 0) (fun i hi => by omega) ⟨by simp, _, _, Rnd.of A37 okK37b rfl rfl (o3x0 P Q c), .refl _ _⟩
theorem outT (P Q : Nat → Int) (n : Nat) (c : Option Nat) (h0 : 0 < n) (hp : ∀ j, j < n → 0 ≤ P j ∧ P j ≤ 255) (hq : ∀ j, j < n → 0 ≤ Q j ∧ Q j ≤ 255) :
    ToldOk P37 G37 16 [.view 2 n (fun j => [.int .u8 (P j), .int .u8 (Q j)]) c] (.fresh true 2 (n.min 8 + 1) (fun j => [.int .i64 (oH P (0 + j)), .int .i64 (oW Q (0 + j))]) (n.min 8 + 1) none) := by
  obtain ⟨g1, hl⟩ := l16 P Q n c h0 hp hq
  generalize n.min 8 = k at hl ⊢
  have h00 : oH P 0 = 0 := rfl
  have w00 : oW Q 0 = 40 := rfl
  generalize oH P = H at *
  generalize oW Q = W at *
  refine stepL_told hm37 hn37 okK37b (A := A37) (m := 0) (by kernel_rfl) (loops1 hl) ?_
  unfold pB
  rw [(show stepL P37 G37 A37 K37b 0 16 [(3, litS [.view 2 n (fun j => [.int .u8 (P j), .int .u8 (Q j)]) c, .own 0 0 0 1 (some 1), .int .i64 0] [⟨0, 2, 1, fun j => [.int .i64 (H j), .int .i64 (W j)], true, true⟩] (.exit 0)
      [.own 2 (k - 1) 0 (k + 1) none] [⟨0, 2, 1, fun j => [.int .i64 (H j), .int .i64 (W j)], true, true⟩, ⟨0, 2, 1, g1, true, true⟩, ⟨k - 1, 2, k + 1, fun j => [.int .i64 (H j), .int .i64 (W j)], true, false⟩])] [.view 2 n (fun j => [.int .u8 (P j), .int .u8 (Q j)]) c] =
(    bif sameStF
      [T.view (2 : Nat) n (fun j => [T.int IntKind.u8 (P j), T.int IntKind.u8 (Q j)]) c,
        T.own (0 : Nat) (0 : Nat) (0 : Nat) (1 : Nat) (some (1 : Nat)), T.int IntKind.i64 (0 : Int)]
      [Blk.mk (0 : Nat) (2 : Nat) (1 : Nat)
          (fun j => [[T.int IntKind.i64 (0 : Int), T.int IntKind.i64 (40 : Int)]].getD j []) true true]
      [T.view (2 : Nat) n (fun j => [T.int IntKind.u8 (P j), T.int IntKind.u8 (Q j)]) c,
        T.own (0 : Nat) (0 : Nat) (0 : Nat) (1 : Nat) (some (1 : Nat)), T.int IntKind.i64 (0 : Int)]
      [Blk.mk (0 : Nat) (2 : Nat) (1 : Nat) (fun j => [T.int IntKind.i64 (H j), T.int IntKind.i64 (W j)]) true true] then
    some (bif k - (1 : Nat) == k - (1 : Nat) && ((0 : Nat) + (k + (1 : Nat))).ble (k + (1 : Nat)) then
      T.fresh true (2 : Nat) (k + (1 : Nat) - (0 : Nat))
        (fun j => [T.int IntKind.i64 (H ((0 : Nat) + j)), T.int IntKind.i64 (W ((0 : Nat) + j))]) (k + (1 : Nat)) none
    else T.undef)
    else
    none) from by kernel_rfl)]
  refine bift (sameStF_iff.2 ⟨rfl, .cons ⟨rfl, rfl, rfl, id, fun j hj => ?_⟩ .nil⟩) ?_
  · have hj' : j < 1 := hj
    obtain rfl : j = 0 := by omega
    show [T.int .i64 (H 0), .int .i64 (W 0)] = [.int .i64 0, .int .i64 40]
    rw [h00, w00]
  · rw [bleT (show 0 + (k + 1) ≤ k + 1 by omega)]
    simp only [beq_self_eq_true, Bool.and_self, cond_true]
    rfl
theorem outZ (P Q : Nat → Int) (c : Option Nat) : ToldOk P37 G37 16 [.view 2 0 (fun j => [.int .u8 (P j), .int .u8 (Q j)]) c] out0 := by
  refine stepL_told hm37 hn37 okK37b (A := A37) (m := 0) (by kernel_rfl) (loops1 (l16z P Q c)) ?_
  rw [(show stepL P37 G37 A37 K37b 0 16 [(3, litS [.view 2 0 (fun j => [.int .u8 (P j), .int .u8 (Q j)]) c, .own 0 0 0 1 (some 1), .int .i64 0] [lit0] (.exit 0) [.own 0 0 0 1 (some 1)] [lit0])] [.view 2 0 (fun j => [.int .u8 (P j), .int .u8 (Q j)]) c] =
(    bif sameStF
      [T.view (2 : Nat) (0 : Nat) (fun j => [T.int IntKind.u8 (P j), T.int IntKind.u8 (Q j)]) c,
        T.own (0 : Nat) (0 : Nat) (0 : Nat) (1 : Nat) (some (1 : Nat)), T.int IntKind.i64 (0 : Int)]
      [Blk.mk (0 : Nat) (2 : Nat) (1 : Nat)
          (fun j => [[T.int IntKind.i64 (0 : Int), T.int IntKind.i64 (40 : Int)]].getD j []) true true]
      [T.view (2 : Nat) (0 : Nat) (fun j => [T.int IntKind.u8 (P j), T.int IntKind.u8 (Q j)]) c,
        T.own (0 : Nat) (0 : Nat) (0 : Nat) (1 : Nat) (some (1 : Nat)), T.int IntKind.i64 (0 : Int)]
      [Blk.mk (0 : Nat) (2 : Nat) (1 : Nat)
          (fun j => [[T.int IntKind.i64 (0 : Int), T.int IntKind.i64 (40 : Int)]].getD j []) true true] then
    some (T.fresh true (2 : Nat) (1 : Nat)
      (fun j => [[T.int IntKind.i64 (0 : Int), T.int IntKind.i64 (40 : Int)]].getD ((0 : Nat) + j) []) (1 : Nat)
      (some (1 : Nat)))
    else
    none) from by kernel_rfl)]
  exact bift (sameStF_iff.2 ⟨rfl, .refl _⟩) rfl
theorem outN : ToldOk P37 G37 16 [.nils] out0 := stepV_told hm37 hn37 okK37b (A := A37) (m := 1) (by kernel_rfl)
end Go.Ab

namespace Go.Ab
noncomputable def K6 (l1 : List (List T)) (r1 : T) (l2 : List (List T)) (r2 : T) (l3 : List (List T)) : Orc := ((K37b.add 16 (callS l1 r1)).add 17 (callS l2 r2)).add 18 (callS l3 (.bool true))
noncomputable def fr6 (n : Nat) (H W : Nat → Int) : T := .fresh true 2 n (fun j => [.int .i64 (H (0 + j)), .int .i64 (W (0 + j))]) n none
end Go.Ab

namespace Go.Ab
open Go.Proofs
/-- What a row of the law may meet. -/
structure Small (S R : Int) (H W : Nat → Int) (n : Nat) : Prop where
  g : Okg S R
  n2 : 2 ≤ n
  n9 : n ≤ 9
  h0 : H 0 = 0
  up : ∀ j, j + 1 < n → H j ≤ H (j + 1)
  hb : ∀ j, j < n → 0 ≤ H j ∧ H j ≤ 2295
  wb : ∀ j, j < n → 0 ≤ W j ∧ W j ≤ 255
def inS (R : Int) (H : Nat → Int) (m : Int) (q : Nat) : Prop := H q * 2 * R ≤ m ∧ m < H (q + 1) * 2 * R
instance (R : Int) (H : Nat → Int) (m : Int) (q : Nat) : Decidable (inS R H m q) := inferInstanceAs (Decidable (_ ∧ _))
def vN (S R : Int) (H W : Nat → Int) (m : Int) (q : Nat) : Int := (W q * (H (q + 1) * 2 * R - m) + W (q + 1) * (m - H q * 2 * R)) * S
def vD (R : Int) (H : Nat → Int) (q : Nat) : Int := 100 * (H (q + 1) * 2 * R - H q * 2 * R)
def sgN (S R : Int) (H W : Nat → Int) (n : Nat) (m : Int) : Nat → Int
  | 0 => W (n - 1) * S
  | q + 1 => if inS R H m q then vN S R H W m q else sgN S R H W n m q
def sgD (R : Int) (H : Nat → Int) (m : Int) : Nat → Int
  | 0 => 100
  | q + 1 => if inS R H m q then vD R H q else sgD R H m q
theorem Small.p {S R : Int} {H W : Nat → Int} {n : Nat} (q : Small S R H W n) (j : Nat) (hj : j < n) : 0 ≤ H j * 2 * R ∧ H j * 2 * R ≤ 2000000 := by
  have := q.hb j hj
  obtain ⟨_, _, r1, r2⟩ := q.g
  have := mul_bd (p := H j * 2) (m := R) (a := 4590) (b := 400) (by omega) (by omega) (by omega) r2
  omega
theorem r25 (S R e top rows m nn dd : Int) (H W : Nat → Int) (n q i : Nat) (fl : Bool) (x9 x14 : T) (h : Heap) (hs : Small S R H W n) (ht : top = H (n - 1)) (hm : 0 ≤ m ∧ m ≤ 1000000) (hq : q < n) :
    iterR P37 G37 A37 K37b 0 6 [] 25 [.reg [.int .i64 S, .int .i64 R], .own 0 0 0 n none, x9, .int .i64 e, .int .i64 top, .int .i64 rows, x14, .bool fl, .int .i64 i, .int .i64 m, .int .i64 nn, .int .i64 dd, .int .i64 q] (⟨0, 2, n, fun j => [.int .i64 (H j), .int .i64 (W j)], true, false⟩ :: h) =
    if q + 1 < n ∧ m < H (n - 1) * 2 * R then some (.normal, [.reg [.int .i64 S, .int .i64 R], .own 0 0 0 n none, x9, .int .i64 e, .int .i64 top, .int .i64 rows, x14, .bool fl, .int .i64 i, .int .i64 m, .int .i64 (if inS R H m q then vN S R H W m q else nn), .int .i64 (if inS R H m q then vD R H q else dd), .int .i64 ((q + 1 : Nat) : Int)], ⟨0, 2, n, fun j => [.int .i64 (H j), .int .i64 (W j)], true, false⟩ :: h)
    else some (.exit 4, [.reg [.int .i64 S, .int .i64 R], .own 0 0 0 n none, x9, .int .i64 e, .int .i64 top, .int .i64 rows, x14, .bool fl, .int .i64 i, .int .i64 nn, .int .i64 dd], ⟨0, 2, n, fun j => [.int .i64 (H j), .int .i64 (W j)], true, false⟩ :: h) := by
  rw [(show iterR P37 G37 A37 K37b 0 6 [] 25 [.reg [.int .i64 S, .int .i64 R], .own 0 0 0 n none, x9, .int .i64 e, .int .i64 top, .int .i64 rows, x14, .bool fl, .int .i64 i, .int .i64 m, .int .i64 nn, .int .i64 dd, .int .i64 q] (⟨0, 2, n, fun j => [.int .i64 (H j), .int .i64 (W j)], true, false⟩ :: h) =
(    bif decide (IntKind.i64.wrap (Int.ofNat q + (1 : Int)) < Int.ofNat n) then
    bif decide (m < IntKind.i64.wrap (IntKind.i64.wrap (top * (2 : Int)) * R)) then
    bif decide ((0 : Int) ≤ Int.ofNat q) && decide (Int.ofNat q < Int.ofNat n) then
    bif ((0 : Nat) + q).blt n then
    bif decide ((0 : Int) ≤ IntKind.i64.wrap (Int.ofNat q + (1 : Int))) &&
      decide (IntKind.i64.wrap (Int.ofNat q + (1 : Int)) < Int.ofNat n) then
    bif ((0 : Nat) + (IntKind.i64.wrap (Int.ofNat q + (1 : Int))).toNat).blt n then
    bif decide (IntKind.i64.wrap (IntKind.i64.wrap (H ((0 : Nat) + q) * (2 : Int)) * R) ≤ m) then
    bif decide
      (m <
        IntKind.i64.wrap
          (IntKind.i64.wrap (H ((0 : Nat) + (IntKind.i64.wrap (Int.ofNat q + (1 : Int))).toNat) * (2 : Int)) * R)) then
    bif decide ((0 : Int) ≤ Int.ofNat q) && decide (Int.ofNat q < Int.ofNat n) then
    bif ((0 : Nat) + q).blt n then
    bif decide ((0 : Int) ≤ IntKind.i64.wrap (Int.ofNat q + (1 : Int))) &&
      decide (IntKind.i64.wrap (Int.ofNat q + (1 : Int)) < Int.ofNat n) then
    bif ((0 : Nat) + (IntKind.i64.wrap (Int.ofNat q + (1 : Int))).toNat).blt n then
    some ((Ex.normal,
      [T.reg [T.int IntKind.i64 S, T.int IntKind.i64 R], T.own (0 : Nat) (0 : Nat) (0 : Nat) n none, x9,
        T.int IntKind.i64 e, T.int IntKind.i64 top, T.int IntKind.i64 rows, x14, T.bool fl, T.int IntKind.i64 (Int.ofNat i),
        T.int IntKind.i64 m,
        T.int IntKind.i64
          (IntKind.i64.wrap
            (IntKind.i64.wrap
                (IntKind.i64.wrap
                    (W ((0 : Nat) + q) *
                      IntKind.i64.wrap
                        (IntKind.i64.wrap
                            (IntKind.i64.wrap
                                (H ((0 : Nat) + (IntKind.i64.wrap (Int.ofNat q + (1 : Int))).toNat) * (2 : Int)) *
                              R) -
                          m)) +
                  IntKind.i64.wrap
                    (W ((0 : Nat) + (IntKind.i64.wrap (Int.ofNat q + (1 : Int))).toNat) *
                      IntKind.i64.wrap (m - IntKind.i64.wrap (IntKind.i64.wrap (H ((0 : Nat) + q) * (2 : Int)) * R)))) *
              S)),
        T.int IntKind.i64
          (IntKind.i64.wrap
            ((100 : Int) *
              IntKind.i64.wrap
                (IntKind.i64.wrap
                    (IntKind.i64.wrap (H ((0 : Nat) + (IntKind.i64.wrap (Int.ofNat q + (1 : Int))).toNat) * (2 : Int)) *
                      R) -
                  IntKind.i64.wrap (IntKind.i64.wrap (H ((0 : Nat) + q) * (2 : Int)) * R)))),
        T.int IntKind.i64 (IntKind.i64.wrap (Int.ofNat q + (1 : Int)))],
      Blk.mk (0 : Nat) (2 : Nat) n (fun j => [T.int IntKind.i64 (H j), T.int IntKind.i64 (W j)]) true false :: h))
    else
    none
    else
    none
    else
    none
    else
    none
    else
    some ((Ex.normal,
      [T.reg [T.int IntKind.i64 S, T.int IntKind.i64 R], T.own (0 : Nat) (0 : Nat) (0 : Nat) n none, x9,
        T.int IntKind.i64 e, T.int IntKind.i64 top, T.int IntKind.i64 rows, x14, T.bool fl, T.int IntKind.i64 (Int.ofNat i),
        T.int IntKind.i64 m, T.int IntKind.i64 nn, T.int IntKind.i64 dd,
        T.int IntKind.i64 (IntKind.i64.wrap (Int.ofNat q + (1 : Int)))],
      Blk.mk (0 : Nat) (2 : Nat) n (fun j => [T.int IntKind.i64 (H j), T.int IntKind.i64 (W j)]) true false :: h))
    else
    some ((Ex.normal,
      [T.reg [T.int IntKind.i64 S, T.int IntKind.i64 R], T.own (0 : Nat) (0 : Nat) (0 : Nat) n none, x9,
        T.int IntKind.i64 e, T.int IntKind.i64 top, T.int IntKind.i64 rows, x14, T.bool fl, T.int IntKind.i64 (Int.ofNat i),
        T.int IntKind.i64 m, T.int IntKind.i64 nn, T.int IntKind.i64 dd,
        T.int IntKind.i64 (IntKind.i64.wrap (Int.ofNat q + (1 : Int)))],
      Blk.mk (0 : Nat) (2 : Nat) n (fun j => [T.int IntKind.i64 (H j), T.int IntKind.i64 (W j)]) true false :: h))
    else
    none
    else
    none
    else
    none
    else
    none
    else
    some ((Ex.exit (4 : Nat),
      [T.reg [T.int IntKind.i64 S, T.int IntKind.i64 R], T.own (0 : Nat) (0 : Nat) (0 : Nat) n none, x9,
        T.int IntKind.i64 e, T.int IntKind.i64 top, T.int IntKind.i64 rows, x14, T.bool fl, T.int IntKind.i64 (Int.ofNat i),
        T.int IntKind.i64 nn, T.int IntKind.i64 dd],
      Blk.mk (0 : Nat) (2 : Nat) n (fun j => [T.int IntKind.i64 (H j), T.int IntKind.i64 (W j)]) true false :: h))
    else
    some ((Ex.exit (4 : Nat),
      [T.reg [T.int IntKind.i64 S, T.int IntKind.i64 R], T.own (0 : Nat) (0 : Nat) (0 : Nat) n none, x9,
        T.int IntKind.i64 e, T.int IntKind.i64 top, T.int IntKind.i64 rows, x14, T.bool fl, T.int IntKind.i64 (Int.ofNat i),
        T.int IntKind.i64 nn, T.int IntKind.i64 dd],
      Blk.mk (0 : Nat) (2 : Nat) n (fun j => [T.int IntKind.i64 (H j), T.int IntKind.i64 (W j)]) true false :: h))) from by kernel_rfl)]
  have ek : (Int.ofNat q + 1).toNat = q + 1 := rfl
  have eo : (Int.ofNat q : Int) = (q : Int) := rfl
  have en : (Int.ofNat n : Int) = (n : Int) := rfl
  have n9 := hs.n9
  have n2 := hs.n2
  have tb := hs.hb (n - 1) (by omega)
  have tp := hs.p (n - 1) (by omega)
  rw [wr64 (x := Int.ofNat q + 1) (by omega) (by omega), ek, ht, wr64 (x := H (n - 1) * 2) (by omega) (by omega), wr64 (x := H (n - 1) * 2 * R) (by omega) (by omega)]
  by_cases q1 : q + 1 < n
  · rw [dT (show Int.ofNat q + 1 < Int.ofNat n by omega)]
    by_cases q2 : m < H (n - 1) * 2 * R
    · rw [dT q2, if_pos ⟨q1, q2⟩]
      have a1 := hs.hb q (by omega)
      have a2 := hs.p q (by omega)
      have b1 := hs.hb (q + 1) q1
      have b2 := hs.p (q + 1) q1
      have w1 := hs.wb q (by omega)
      have w2 := hs.wb (q + 1) q1
      obtain ⟨s1, s2, _, _⟩ := hs.g
      rw [dT (show (0 : Int) ≤ Int.ofNat q by omega), dT (show Int.ofNat q < Int.ofNat n by omega), bltT (show 0 + q < n by omega), dT (show (0 : Int) ≤ Int.ofNat q + 1 by omega), bltT (show 0 + (q + 1) < n by omega)]
      rw [Nat.zero_add q, Nat.zero_add (q + 1), wr64 (x := H q * 2) (by omega) (by omega), wr64 (x := H q * 2 * R) (by omega) (by omega), wr64 (x := H (q + 1) * 2) (by omega) (by omega), wr64 (x := H (q + 1) * 2 * R) (by omega) (by omega)]
      simp only [Bool.and_self, cond_true]
      by_cases p1 : inS R H m q
      · have c1 := p1.1
        have c2 := p1.2
        rw [dT c1, dT c2, if_pos p1, if_pos p1]
        have d1 := mul_bd (p := W q) (m := H (q + 1) * 2 * R - m) (a := 255) (b := 2000000) (by omega) (by omega) (by omega) (by omega)
        have d2 := mul_bd (p := W (q + 1)) (m := m - H q * 2 * R) (a := 255) (b := 2000000) (by omega) (by omega) (by omega) (by omega)
        have d3 := mul_bd (p := W q * (H (q + 1) * 2 * R - m) + W (q + 1) * (m - H q * 2 * R)) (m := S) (a := 1020000000) (b := 400) (by omega) (by omega) (by omega) (by omega)
        rw [wr64 (x := H (q + 1) * 2 * R - m) (by omega) (by omega), wr64 (x := W q * (H (q + 1) * 2 * R - m)) (by omega) (by omega), wr64 (x := m - H q * 2 * R) (by omega) (by omega), wr64 (x := W (q + 1) * (m - H q * 2 * R)) (by omega) (by omega),
          wr64 (x := W q * (H (q + 1) * 2 * R - m) + W (q + 1) * (m - H q * 2 * R)) (by omega) (by omega), wr64 (x := (W q * (H (q + 1) * 2 * R - m) + W (q + 1) * (m - H q * 2 * R)) * S) (by omega) (by omega), wr64 (x := H (q + 1) * 2 * R - H q * 2 * R) (by omega) (by omega), wr64 (x := 100 * (H (q + 1) * 2 * R - H q * 2 * R)) (by omega) (by omega)]
        rfl
      · rw [if_neg p1, if_neg p1]
        refine bifd (fun c1 => ?_) (fun _ => rfl)
        rw [dF (fun c2 => p1 ⟨c1, c2⟩)]; rfl
    · rw [dF q2, if_neg (fun z => q2 z.2)]; rfl
  · rw [dF (show ¬ Int.ofNat q + 1 < Int.ofNat n by omega), if_neg (fun z => q1 z.1)]; rfl
/-- What the law reckons for a row. -/
def rwN (S R : Int) (H W : Nat → Int) (n : Nat) (m : Int) : Int := if m < H (n - 1) * 2 * R then sgN S R H W n m (n - 1) else W (n - 1) * S
def rwD (R : Int) (H : Nat → Int) (n : Nat) (m : Int) : Int := if m < H (n - 1) * 2 * R then sgD R H m (n - 1) else 100
theorem l25 (S R e top rows m : Int) (H W : Nat → Int) (n i : Nat) (fl : Bool) (x9 x14 : T) (h : Heap) (hs : Small S R H W n) (ht : top = H (n - 1)) (hm : 0 ≤ m ∧ m ≤ 1000000) :
    LoopOk P37 G37 (A37 6) 6 25 (litS [.reg [.int .i64 S, .int .i64 R], .own 0 0 0 n none, x9, .int .i64 e, .int .i64 top, .int .i64 rows, x14, .bool fl, .int .i64 i, .int .i64 m, .int .i64 (W (n - 1) * S), .int .i64 100, .int .i64 0] (⟨0, 2, n, fun j => [.int .i64 (H j), .int .i64 (W j)], true, false⟩ :: h) (.exit 4)
      [.reg [.int .i64 S, .int .i64 R], .own 0 0 0 n none, x9, .int .i64 e, .int .i64 top, .int .i64 rows, x14, .bool fl, .int .i64 i, .int .i64 (rwN S R H W n m), .int .i64 (rwD R H n m)] (⟨0, 2, n, fun j => [.int .i64 (H j), .int .i64 (W j)], true, false⟩ :: h)) := by
  have n2 := hs.n2
  refine .lit fun fn hf hnt => ?_
  have := loop_seq (P := P37) (Gl := G37) (an := A37 6) hm37 (f := 6) (r := 25) (by kernel_rfl) hf hnt
    (fun q => [.reg [.int .i64 S, .int .i64 R], .own 0 0 0 n none, x9, .int .i64 e, .int .i64 top, .int .i64 rows, x14, .bool fl, .int .i64 i, .int .i64 m, .int .i64 (sgN S R H W n m q), .int .i64 (sgD R H m q), .int .i64 (q : Int)])
    (fun _ => ⟨0, 2, n, fun j => [.int .i64 (H j), .int .i64 (W j)], true, false⟩ :: h) (n := if m < H (n - 1) * 2 * R then n - 1 else 0) (e1 := .exit 4)
    (vs1 := [.reg [.int .i64 S, .int .i64 R], .own 0 0 0 n none, x9, .int .i64 e, .int .i64 top, .int .i64 rows, x14, .bool fl, .int .i64 i, .int .i64 (rwN S R H W n m), .int .i64 (rwD R H n m)]) (h1 := ⟨0, 2, n, fun j => [.int .i64 (H j), .int .i64 (W j)], true, false⟩ :: h)
    (fun q hq => ?_) ⟨by simp, ?_⟩
  · exact this
  · have z : m < H (n - 1) * 2 * R := Classical.byContradiction fun z => by rw [if_neg z] at hq; omega
    rw [if_pos z] at hq
    refine ⟨_, _, Rnd.of A37 okK37b rfl rfl ((r25 S R e top rows m _ _ H W n q i fl x9 x14 h hs ht hm (by omega)).trans (if_pos ⟨by omega, z⟩)), .refl _ _⟩
  · unfold rwN rwD
    by_cases z : m < H (n - 1) * 2 * R
    · rw [if_pos z, if_pos z, if_pos z]
      exact ⟨_, _, Rnd.of A37 okK37b rfl rfl ((r25 S R e top rows m _ _ H W n (n - 1) i fl x9 x14 h hs ht hm (by omega)).trans (if_neg (by omega))), .refl _ _⟩
    · rw [if_neg z, if_neg z, if_neg z]
      exact ⟨_, _, Rnd.of A37 okK37b rfl rfl ((r25 S R e top rows m _ _ H W n 0 i fl x9 x14 h hs ht hm (by omega)).trans (if_neg (fun y => z y.2))), .refl _ _⟩
end Go.Ab

