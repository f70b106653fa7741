/- A part of the proof: nothing is assumed. -/
import Derived.Test.YtlaganadekpcjaaP14
import Derived.Test.YtlaganadekpcjaaP4
set_option linter.all false
namespace Go.Ab
open Go.Proofs
theorem listF (R : JR) (c : Option Nat) (hR : R.Ok) (h0 : 0 < Nat.min R.n 40) : ToldOk P41 G41 9 [R.v c] (.fresh true 4 (Nat.min R.n 40) (jcl (R.L (Nat.min R.n 40))) (Nat.min R.n 40) none) := by
  obtain ⟨vs1, h1, hE, hl⟩ := l9 R c hR
  generalize Nat.min R.n 40 = m at *
  cases hE with
  | z hz => omega
  | a v nd get hn hg =>
    have := stepL_told (args := [R.v c]) (r := .fresh true 4 nd (fun j => get (0 + j)) m none) hm41 hn41 none_ok (K := noneO) (A := A41) (m := 0) (by kernel_rfl) (loops1 hl) (Eq.trans (show stepL P41 G41 A41 noneO 0 9 [(3, litS (v9 R c .nils 0) [] (.exit 0) [.own 0 v 0 m none] [jb v nd get])] [R.v c] =
(    bif weakF
      [T.view (4 : Nat) R.n
          (fun j =>
            [T.int IntKind.u8 (Int.ofNat (R.t j)), T.int IntKind.u8 (Int.ofNat (R.d j)),
              T.int IntKind.u8 (Int.ofNat (R.a j)), T.int IntKind.u8 (Int.ofNat (R.o j))])
          c,
        T.nils, T.int IntKind.i64 (0 : Int)]
      []
      [T.view (4 : Nat) R.n
          (fun j =>
            [T.int IntKind.u8 (Int.ofNat (R.t j)), T.int IntKind.u8 (Int.ofNat (R.d j)),
              T.int IntKind.u8 (Int.ofNat (R.a j)), T.int IntKind.u8 (Int.ofNat (R.o j))])
          c,
        T.nils, T.int IntKind.i64 (0 : Int)]
      [] then
    some (bif v == v && ((0 : Nat) + m).ble nd then
      T.fresh true (4 : Nat) (nd - (0 : Nat)) (fun j => get ((0 : Nat) + j)) m none
    else T.undef)
    else
    none) from by kernel_rfl) (by
      refine bift (weakF_of ⟨rfl, .refl _⟩) ?_
      (repeat (first | (refine bift (by first | assumption | omega | (simp (disch := omega) only [wr64, wr8, wr16, wr32, ofNatE, toNatE, toNatE1, Bool.and_eq_true, Bool.or_eq_true, Bool.not_eq_true', decide_eq_true_eq, decide_eq_false_iff_not, nble, nblt, nbeq, Nat.zero_add, Nat.add_zero, Int.zero_add, Int.add_zero, List.length_cons, List.length_nil, true_and, and_true, Nat.reduceAdd, and_self]; done) | (simp (disch := omega) only [wr64, wr8, wr16, wr32, ofNatE, toNatE, toNatE1, Bool.and_eq_true, Bool.or_eq_true, Bool.not_eq_true', decide_eq_true_eq, decide_eq_false_iff_not, nble, nblt, nbeq, Nat.zero_add, Nat.add_zero, Int.zero_add, Int.add_zero, List.length_cons, List.length_nil, true_and, and_true, Nat.reduceAdd, and_self]; omega)) ?_) | (refine biff (by first | assumption | (simp (disch := omega) only [wr64, wr8, wr16, wr32, ofNatE, toNatE, toNatE1, Bool.and_eq_true, Bool.or_eq_true, Bool.not_eq_true', decide_eq_true_eq, decide_eq_false_iff_not, nble, nblt, nbeq, Nat.zero_add, Nat.add_zero, Int.zero_add, Int.add_zero, List.length_cons, List.length_nil, true_and, and_true, Nat.reduceAdd, and_self]; done) | (simp (disch := omega) only [wr64, wr8, wr16, wr32, ofNatE, toNatE, toNatE1, Bool.and_eq_true, Bool.or_eq_true, Bool.not_eq_true', decide_eq_true_eq, decide_eq_false_iff_not, nble, nblt, nbeq, Nat.zero_add, Nat.add_zero, Int.zero_add, Int.add_zero, List.length_cons, List.length_nil, true_and, and_true, Nat.reduceAdd, and_self]; omega)) ?_)))
      first | rfl | (simp (disch := omega) only [wr64, wr8, wr16, wr32, ofNatE, Nat.zero_add, bleT, bltT, dT, dF, Bool.true_and, Bool.and_true, Bool.and_self, cond_true, cond_false, Nat.sub_zero, beq_self_eq_true]; done) | (simp (disch := omega) only [wr64, wr8, wr16, wr32, ofNatE, Nat.zero_add, bleT, bltT, dT, dF, Bool.true_and, Bool.and_true, Bool.and_self, cond_true, cond_false, Nat.sub_zero, beq_self_eq_true]; rfl)))
    refine this.resTo (.fresh (Nat.le_refl _) hn (fun _ h => by cases h) fun j hj => ?_)
    rw [Nat.zero_add, hg j hj]
    rfl
theorem listZ (R : JR) (c : Option Nat) (h0 : Nat.min R.n 40 = 0) : ToldOk P41 G41 9 [R.v c] .nils := by
  have hz : R.n = 0 := by
    have : Nat.min R.n 40 = min R.n 40 := rfl
    omega
  refine stepL_told (args := [R.v c]) (r := .nils) hm41 hn41 none_ok (K := noneO) (A := A41) (m := 1) (by kernel_rfl) loops0 (Eq.trans (show stepL P41 G41 A41 noneO 1 9 [] [R.v c] =
(    bif decide ((0 : Int) < Int.ofNat R.n) then
    bif decide ((0 : Int) < Int.ofNat R.n) then
    none
    else
    none
    else
    some (T.nils)) from by kernel_rfl) ?_)
  refine biff (by simp only [ofNatE, decide_eq_true_eq]; omega) ?_
  first | rfl | exact (biff (by simp) rfl) | exact (bift (by simp) rfl)
theorem l6free (L : JL) (hL : L.Ok) (m : Int) : LoopOk P41 G41 (A41 6) 6 5 (litS (v5 true L.n m 0 0 0) [jblk L] (.exit 0) (e5 true L.n m (totU L L.n) (mxU L L.n)) [jblk (frU L L.n)]) := by
  have hn := hL.n
  have main : LoopOk P41 G41 (A41 6) 6 5 (litS (v5 true L.n m (totU L 0) (mxU L 0) 0) [jblk (frU L 0)] (.exit 0) (e5 true L.n m (totU L L.n) (mxU L L.n)) [jblk (frU L L.n)]) := by
    refine loop_steps hm41 (by kernel_rfl) (fun i => v5 true L.n m (totU L i) (mxU L i) i) (fun i => [jblk (frU L i)]) (n := L.n) (fun i hi => ?_) ?_
    · have h1 := totU_bd L hL i (by omega)
      have h2 := mxU_nonneg L hL i (by omega)
      have h3 := hL.tm i hi
      have e1 : totU L (i + 1) = totU L i + L.tm i := rfl
      have e2 : mxU L (i + 1) = maxB (mxU L i) (L.tm i) := rfl
      rw [e1, e2]
      generalize totU L i = t at *
      generalize mxU L i = lg at *
      have hfr : ∀ e, jcl (frU L (i + 1)) e = [.int .i64 (L.tm e), .int .i64 (L.du e), .int .i64 (bif e == i then 0 else (frU L i).af e), .int .u32 (bif e == i then 0 else (frU L i).on e)] := by
        intro e
        unfold jcl frU
        by_cases q : e = i
        · subst q; simp [bltT (show e < e + 1 by omega)]
        · rw [beq_eq_false_iff_ne.2 q]
          by_cases q2 : e < i
          · simp [bltT (show e < i + 1 by omega), bltT q2]
          · simp [bltF (show i + 1 ≤ e by omega), bltF (show i ≤ e by omega)]
      have htm : (frU L i).tm = L.tm := rfl
      have hdu : (frU L i).du = L.du := rfl
      have hnn : (frU L i).n = L.n := rfl
      generalize frU L i = F at *
      obtain ⟨tm, du, af, on, n⟩ := F
      obtain rfl : tm = L.tm := htm
      obtain rfl : du = L.du := hdu
      obtain rfl : n = L.n := hnn
      refine Step.mk0 (A := A41) (m := 0) none_ok rfl rfl loops0 (h1 := [⟨0, 4, L.n, fun e => [.int .i64 (bif e == i then L.tm i else bif e == i then L.tm i else L.tm e), .int .i64 (bif e == i then L.du i else bif e == i then L.du i else L.du e), .int .i64 (bif e == i then 0 else bif e == i then af i else af e), .int .u32 (bif e == i then 0 else bif e == i then 0 else on e)], true, false⟩]) (Eq.trans (show iterR P41 G41 A41 noneO 0 6 [] 5 (v5 true L.n m t lg i) [jblk ⟨L.tm, L.du, af, on, L.n⟩] =
(    bif decide (Int.ofNat i < Int.ofNat L.n) then
    bif decide ((0 : Int) ≤ Int.ofNat i) && decide (Int.ofNat i < Int.ofNat L.n) then
    bif ((0 : Nat) + i).blt L.n && true && true && true then
    bif decide ((0 : Int) ≤ Int.ofNat i) && decide (Int.ofNat i < Int.ofNat L.n) then
    bif ((0 : Nat) + i).blt L.n && true && true && true then
    bif decide ((0 : Int) ≤ Int.ofNat i) && decide (Int.ofNat i < Int.ofNat L.n) then
    bif ((0 : Nat) + i).blt L.n then
    bif decide ((0 : Int) ≤ Int.ofNat i) && decide (Int.ofNat i < Int.ofNat L.n) then
    bif ((0 : Nat) + i).blt L.n then
    some ((Ex.normal,
      [T.bool true, T.own (0 : Nat) (0 : Nat) (0 : Nat) L.n none, T.int IntKind.i64 m,
        T.int IntKind.i64
          (IntKind.i64.wrap
            (t +
              bif (0 : Nat) + i == (0 : Nat) + i then
                bif (0 : Nat) + i == (0 : Nat) + i then L.tm ((0 : Nat) + i) else L.tm ((0 : Nat) + i)
              else bif (0 : Nat) + i == (0 : Nat) + i then L.tm ((0 : Nat) + i) else L.tm ((0 : Nat) + i))),
        T.int IntKind.i64
          (bif
              decide
                (lg <
                  bif (0 : Nat) + i == (0 : Nat) + i then
                    bif (0 : Nat) + i == (0 : Nat) + i then L.tm ((0 : Nat) + i) else L.tm ((0 : Nat) + i)
                  else bif (0 : Nat) + i == (0 : Nat) + i then L.tm ((0 : Nat) + i) else L.tm ((0 : Nat) + i)) then
            bif (0 : Nat) + i == (0 : Nat) + i then
              bif (0 : Nat) + i == (0 : Nat) + i then L.tm ((0 : Nat) + i) else L.tm ((0 : Nat) + i)
            else bif (0 : Nat) + i == (0 : Nat) + i then L.tm ((0 : Nat) + i) else L.tm ((0 : Nat) + i)
          else lg),
        T.int IntKind.i64 (IntKind.i64.wrap (Int.ofNat i + (1 : Int)))],
      [Blk.mk (0 : Nat) (4 : Nat) L.n
          (fun e =>
            [T.int IntKind.i64
                (bif e == (0 : Nat) + i then
                  bif (0 : Nat) + i == (0 : Nat) + i then L.tm ((0 : Nat) + i) else L.tm ((0 : Nat) + i)
                else bif e == (0 : Nat) + i then L.tm ((0 : Nat) + i) else L.tm e),
              T.int IntKind.i64
                (bif e == (0 : Nat) + i then
                  bif (0 : Nat) + i == (0 : Nat) + i then L.du ((0 : Nat) + i) else L.du ((0 : Nat) + i)
                else bif e == (0 : Nat) + i then L.du ((0 : Nat) + i) else L.du e),
              T.int IntKind.i64
                (bif e == (0 : Nat) + i then (0 : Int) else bif e == (0 : Nat) + i then af ((0 : Nat) + i) else af e),
              T.int IntKind.u32
                (bif e == (0 : Nat) + i then bif (0 : Nat) + i == (0 : Nat) + i then (0 : Int) else on ((0 : Nat) + i)
                else bif e == (0 : Nat) + i then (0 : Int) else on e)])
          true false]))
    else
    none
    else
    none
    else
    none
    else
    none
    else
    none
    else
    none
    else
    none
    else
    none
    else
    some ((Ex.exit (0 : Nat),
      [T.bool true, T.own (0 : Nat) (0 : Nat) (0 : Nat) L.n none, T.int IntKind.i64 m, T.int IntKind.i64 t,
        T.int IntKind.i64 lg],
      [Blk.mk (0 : Nat) (4 : Nat) L.n
          (fun j =>
            [T.int IntKind.i64 (L.tm j), T.int IntKind.i64 (L.du j), T.int IntKind.i64 (af j), T.int IntKind.u32 (on j)])
          true false]))) from by kernel_rfl) ?_) ?_
      · simp only [Nat.zero_add, beq_self_eq_true, cond_true]
        (repeat (first | (refine bift (by first | assumption | omega | (simp (disch := omega) only [wr64, wr8, wr16, wr32, ofNatE, toNatE, toNatE1, Bool.and_eq_true, Bool.or_eq_true, Bool.not_eq_true', decide_eq_true_eq, decide_eq_false_iff_not, nble, nblt, nbeq, Nat.zero_add, Nat.add_zero, Int.zero_add, Int.add_zero, List.length_cons, List.length_nil, true_and, and_true, Nat.reduceAdd, and_self]; done) | (simp (disch := omega) only [wr64, wr8, wr16, wr32, ofNatE, toNatE, toNatE1, Bool.and_eq_true, Bool.or_eq_true, Bool.not_eq_true', decide_eq_true_eq, decide_eq_false_iff_not, nble, nblt, nbeq, Nat.zero_add, Nat.add_zero, Int.zero_add, Int.add_zero, List.length_cons, List.length_nil, true_and, and_true, Nat.reduceAdd, and_self]; omega)) ?_) | (refine biff (by first | assumption | (simp (disch := omega) only [wr64, wr8, wr16, wr32, ofNatE, toNatE, toNatE1, Bool.and_eq_true, Bool.or_eq_true, Bool.not_eq_true', decide_eq_true_eq, decide_eq_false_iff_not, nble, nblt, nbeq, Nat.zero_add, Nat.add_zero, Int.zero_add, Int.add_zero, List.length_cons, List.length_nil, true_and, and_true, Nat.reduceAdd, and_self]; done) | (simp (disch := omega) only [wr64, wr8, wr16, wr32, ofNatE, toNatE, toNatE1, Bool.and_eq_true, Bool.or_eq_true, Bool.not_eq_true', decide_eq_true_eq, decide_eq_false_iff_not, nble, nblt, nbeq, Nat.zero_add, Nat.add_zero, Int.zero_add, Int.add_zero, List.length_cons, List.length_nil, true_and, and_true, Nat.reduceAdd, and_self]; omega)) ?_)))
        unfold maxB
        first | rfl | (simp (disch := omega) only [wr64, wr8, wr16, wr32, ofNatE, Nat.zero_add, bleT, bltT, dT, dF, Bool.true_and, Bool.and_true, Bool.and_self, cond_true, cond_false, Nat.sub_zero, beq_self_eq_true]; done) | (simp (disch := omega) only [wr64, wr8, wr16, wr32, ofNatE, Nat.zero_add, bleT, bltT, dT, dF, Bool.true_and, Bool.and_true, Bool.and_self, cond_true, cond_false, Nat.sub_zero, beq_self_eq_true]; rfl)
      · refine .cons ⟨rfl, rfl, rfl, id, fun j hj => ?_⟩ .nil
        show jcl (frU L (i + 1)) j = _
        rw [hfr j]
        dsimp only
        by_cases q : j = i
        · subst q; simp
        · rw [beq_eq_false_iff_ne.2 q]; rfl
    · generalize totU L L.n = t
      generalize mxU L L.n = lg
      have htm : (frU L L.n).tm = L.tm := rfl
      have hdu : (frU L L.n).du = L.du := rfl
      have hnn : (frU L L.n).n = L.n := rfl
      generalize frU L L.n = F at *
      obtain ⟨tm, du, af, on, n⟩ := F
      obtain rfl : tm = L.tm := htm
      obtain rfl : du = L.du := hdu
      obtain rfl : n = L.n := hnn
      refine Last.mk0 (A := A41) (m := 0) none_ok rfl rfl loops0 (by simp) (h1 := [jblk ⟨L.tm, L.du, af, on, L.n⟩]) (Eq.trans (show iterR P41 G41 A41 noneO 0 6 [] 5 (v5 true L.n m t lg L.n) [jblk ⟨L.tm, L.du, af, on, L.n⟩] =
(    bif decide (Int.ofNat L.n < Int.ofNat L.n) then
    bif decide ((0 : Int) ≤ Int.ofNat L.n) && decide (Int.ofNat L.n < Int.ofNat L.n) then
    bif ((0 : Nat) + L.n).blt L.n && true && true && true then
    bif decide ((0 : Int) ≤ Int.ofNat L.n) && decide (Int.ofNat L.n < Int.ofNat L.n) then
    bif ((0 : Nat) + L.n).blt L.n && true && true && true then
    bif decide ((0 : Int) ≤ Int.ofNat L.n) && decide (Int.ofNat L.n < Int.ofNat L.n) then
    bif ((0 : Nat) + L.n).blt L.n then
    bif decide ((0 : Int) ≤ Int.ofNat L.n) && decide (Int.ofNat L.n < Int.ofNat L.n) then
    bif ((0 : Nat) + L.n).blt L.n then
    some ((Ex.normal,
      [T.bool true, T.own (0 : Nat) (0 : Nat) (0 : Nat) L.n none, T.int IntKind.i64 m,
        T.int IntKind.i64
          (IntKind.i64.wrap
            (t +
              bif (0 : Nat) + L.n == (0 : Nat) + L.n then
                bif (0 : Nat) + L.n == (0 : Nat) + L.n then L.tm ((0 : Nat) + L.n) else L.tm ((0 : Nat) + L.n)
              else bif (0 : Nat) + L.n == (0 : Nat) + L.n then L.tm ((0 : Nat) + L.n) else L.tm ((0 : Nat) + L.n))),
        T.int IntKind.i64
          (bif
              decide
                (lg <
                  bif (0 : Nat) + L.n == (0 : Nat) + L.n then
                    bif (0 : Nat) + L.n == (0 : Nat) + L.n then L.tm ((0 : Nat) + L.n) else L.tm ((0 : Nat) + L.n)
                  else bif (0 : Nat) + L.n == (0 : Nat) + L.n then L.tm ((0 : Nat) + L.n) else L.tm ((0 : Nat) + L.n)) then
            bif (0 : Nat) + L.n == (0 : Nat) + L.n then
              bif (0 : Nat) + L.n == (0 : Nat) + L.n then L.tm ((0 : Nat) + L.n) else L.tm ((0 : Nat) + L.n)
            else bif (0 : Nat) + L.n == (0 : Nat) + L.n then L.tm ((0 : Nat) + L.n) else L.tm ((0 : Nat) + L.n)
          else lg),
        T.int IntKind.i64 (IntKind.i64.wrap (Int.ofNat L.n + (1 : Int)))],
      [Blk.mk (0 : Nat) (4 : Nat) L.n
          (fun e =>
            [T.int IntKind.i64
                (bif e == (0 : Nat) + L.n then
                  bif (0 : Nat) + L.n == (0 : Nat) + L.n then L.tm ((0 : Nat) + L.n) else L.tm ((0 : Nat) + L.n)
                else bif e == (0 : Nat) + L.n then L.tm ((0 : Nat) + L.n) else L.tm e),
              T.int IntKind.i64
                (bif e == (0 : Nat) + L.n then
                  bif (0 : Nat) + L.n == (0 : Nat) + L.n then L.du ((0 : Nat) + L.n) else L.du ((0 : Nat) + L.n)
                else bif e == (0 : Nat) + L.n then L.du ((0 : Nat) + L.n) else L.du e),
              T.int IntKind.i64
                (bif e == (0 : Nat) + L.n then (0 : Int) else bif e == (0 : Nat) + L.n then af ((0 : Nat) + L.n) else af e),
              T.int IntKind.u32
                (bif e == (0 : Nat) + L.n then
                  bif (0 : Nat) + L.n == (0 : Nat) + L.n then (0 : Int) else on ((0 : Nat) + L.n)
                else bif e == (0 : Nat) + L.n then (0 : Int) else on e)])
          true false]))
    else
    none
    else
    none
    else
    none
    else
    none
    else
    none
    else
    none
    else
    none
    else
    none
    else
    some ((Ex.exit (0 : Nat),
      [T.bool true, T.own (0 : Nat) (0 : Nat) (0 : Nat) L.n none, T.int IntKind.i64 m, T.int IntKind.i64 t,
        T.int IntKind.i64 lg],
      [Blk.mk (0 : Nat) (4 : Nat) L.n
          (fun j =>
            [T.int IntKind.i64 (L.tm j), T.int IntKind.i64 (L.du j), T.int IntKind.i64 (af j), T.int IntKind.u32 (on j)])
          true false]))) from by kernel_rfl) ?_) (.refl _)
      (repeat (first | (refine bift (by first | assumption | omega | (simp (disch := omega) only [wr64, wr8, wr16, wr32, ofNatE, toNatE, toNatE1, Bool.and_eq_true, Bool.or_eq_true, Bool.not_eq_true', decide_eq_true_eq, decide_eq_false_iff_not, nble, nblt, nbeq, Nat.zero_add, Nat.add_zero, Int.zero_add, Int.add_zero, List.length_cons, List.length_nil, true_and, and_true, Nat.reduceAdd, and_self]; done) | (simp (disch := omega) only [wr64, wr8, wr16, wr32, ofNatE, toNatE, toNatE1, Bool.and_eq_true, Bool.or_eq_true, Bool.not_eq_true', decide_eq_true_eq, decide_eq_false_iff_not, nble, nblt, nbeq, Nat.zero_add, Nat.add_zero, Int.zero_add, Int.add_zero, List.length_cons, List.length_nil, true_and, and_true, Nat.reduceAdd, and_self]; omega)) ?_) | (refine biff (by first | assumption | (simp (disch := omega) only [wr64, wr8, wr16, wr32, ofNatE, toNatE, toNatE1, Bool.and_eq_true, Bool.or_eq_true, Bool.not_eq_true', decide_eq_true_eq, decide_eq_false_iff_not, nble, nblt, nbeq, Nat.zero_add, Nat.add_zero, Int.zero_add, Int.add_zero, List.length_cons, List.length_nil, true_and, and_true, Nat.reduceAdd, and_self]; done) | (simp (disch := omega) only [wr64, wr8, wr16, wr32, ofNatE, toNatE, toNatE1, Bool.and_eq_true, Bool.or_eq_true, Bool.not_eq_true', decide_eq_true_eq, decide_eq_false_iff_not, nble, nblt, nbeq, Nat.zero_add, Nat.add_zero, Int.zero_add, Int.add_zero, List.length_cons, List.length_nil, true_and, and_true, Nat.reduceAdd, and_self]; omega)) ?_)))
      first | rfl | (simp (disch := omega) only [wr64, wr8, wr16, wr32, ofNatE, Nat.zero_add, bleT, bltT, dT, dF, Bool.true_and, Bool.and_true, Bool.and_self, cond_true, cond_false, Nat.sub_zero, beq_self_eq_true]; done) | (simp (disch := omega) only [wr64, wr8, wr16, wr32, ofNatE, Nat.zero_add, bleT, bltT, dT, dF, Bool.true_and, Bool.and_true, Bool.and_self, cond_true, cond_false, Nat.sub_zero, beq_self_eq_true]; rfl)
  exact main
theorem l6not (L : JL) (hL : L.Ok) (m : Int) : LoopOk P41 G41 (A41 6) 6 5 (litS (v5 false L.n m 0 0 0) [jblk L] (.exit 0) (e5 false L.n m (totU L L.n) (mxU L L.n)) [jblk L]) := by
  have hn := hL.n
  refine loop_steps hm41 (by kernel_rfl) (fun i => v5 false L.n m (totU L i) (mxU L i) i) (fun i => [jblk L]) (n := L.n) (fun i hi => ?_) ?_
  · have h1 := totU_bd L hL i (by omega)
    have h2 := mxU_nonneg L hL i (by omega)
    have h3 := hL.tm i hi
    have e1 : totU L (i + 1) = totU L i + L.tm i := rfl
    have e2 : mxU L (i + 1) = maxB (mxU L i) (L.tm i) := rfl
    rw [e1, e2]
    generalize totU L i = t at *
    generalize mxU L i = lg at *
    refine Step.mk0 (A := A41) (m := 0) none_ok rfl rfl loops0 (h1 := [jblk L]) (Eq.trans (show iterR P41 G41 A41 noneO 0 6 [] 5 (v5 false L.n m t lg i) [jblk L] =
(    bif decide (Int.ofNat i < Int.ofNat L.n) then
    bif decide ((0 : Int) ≤ Int.ofNat i) && decide (Int.ofNat i < Int.ofNat L.n) then
    bif ((0 : Nat) + i).blt L.n then
    bif decide ((0 : Int) ≤ Int.ofNat i) && decide (Int.ofNat i < Int.ofNat L.n) then
    bif ((0 : Nat) + i).blt L.n then
    some ((Ex.normal,
      [T.bool false, T.own (0 : Nat) (0 : Nat) (0 : Nat) L.n none, T.int IntKind.i64 m,
        T.int IntKind.i64 (IntKind.i64.wrap (t + L.tm ((0 : Nat) + i))),
        T.int IntKind.i64 (bif decide (lg < L.tm ((0 : Nat) + i)) then L.tm ((0 : Nat) + i) else lg),
        T.int IntKind.i64 (IntKind.i64.wrap (Int.ofNat i + (1 : Int)))],
      [Blk.mk (0 : Nat) (4 : Nat) L.n
          (fun j =>
            [T.int IntKind.i64 (L.tm j), T.int IntKind.i64 (L.du j), T.int IntKind.i64 (L.af j),
              T.int IntKind.u32 (L.on j)])
          true false]))
    else
    none
    else
    none
    else
    none
    else
    none
    else
    some ((Ex.exit (0 : Nat),
      [T.bool false, T.own (0 : Nat) (0 : Nat) (0 : Nat) L.n none, T.int IntKind.i64 m, T.int IntKind.i64 t,
        T.int IntKind.i64 lg],
      [Blk.mk (0 : Nat) (4 : Nat) L.n
          (fun j =>
            [T.int IntKind.i64 (L.tm j), T.int IntKind.i64 (L.du j), T.int IntKind.i64 (L.af j),
              T.int IntKind.u32 (L.on j)])
          true false]))) from by kernel_rfl) ?_) (.refl _)
    simp only [Nat.zero_add]
    (repeat (first | (refine bift (by first | assumption | omega | (simp (disch := omega) only [wr64, wr8, wr16, wr32, ofNatE, toNatE, toNatE1, Bool.and_eq_true, Bool.or_eq_true, Bool.not_eq_true', decide_eq_true_eq, decide_eq_false_iff_not, nble, nblt, nbeq, Nat.zero_add, Nat.add_zero, Int.zero_add, Int.add_zero, List.length_cons, List.length_nil, true_and, and_true, Nat.reduceAdd, and_self]; done) | (simp (disch := omega) only [wr64, wr8, wr16, wr32, ofNatE, toNatE, toNatE1, Bool.and_eq_true, Bool.or_eq_true, Bool.not_eq_true', decide_eq_true_eq, decide_eq_false_iff_not, nble, nblt, nbeq, Nat.zero_add, Nat.add_zero, Int.zero_add, Int.add_zero, List.length_cons, List.length_nil, true_and, and_true, Nat.reduceAdd, and_self]; omega)) ?_) | (refine biff (by first | assumption | (simp (disch := omega) only [wr64, wr8, wr16, wr32, ofNatE, toNatE, toNatE1, Bool.and_eq_true, Bool.or_eq_true, Bool.not_eq_true', decide_eq_true_eq, decide_eq_false_iff_not, nble, nblt, nbeq, Nat.zero_add, Nat.add_zero, Int.zero_add, Int.add_zero, List.length_cons, List.length_nil, true_and, and_true, Nat.reduceAdd, and_self]; done) | (simp (disch := omega) only [wr64, wr8, wr16, wr32, ofNatE, toNatE, toNatE1, Bool.and_eq_true, Bool.or_eq_true, Bool.not_eq_true', decide_eq_true_eq, decide_eq_false_iff_not, nble, nblt, nbeq, Nat.zero_add, Nat.add_zero, Int.zero_add, Int.add_zero, List.length_cons, List.length_nil, true_and, and_true, Nat.reduceAdd, and_self]; omega)) ?_)))
    unfold maxB
    first | rfl | (simp (disch := omega) only [wr64, wr8, wr16, wr32, ofNatE, Nat.zero_add, bleT, bltT, dT, dF, Bool.true_and, Bool.and_true, Bool.and_self, cond_true, cond_false, Nat.sub_zero, beq_self_eq_true]; done) | (simp (disch := omega) only [wr64, wr8, wr16, wr32, ofNatE, Nat.zero_add, bleT, bltT, dT, dF, Bool.true_and, Bool.and_true, Bool.and_self, cond_true, cond_false, Nat.sub_zero, beq_self_eq_true]; rfl)
  · generalize totU L L.n = t
    generalize mxU L L.n = lg
    refine Last.mk0 (A := A41) (m := 0) none_ok rfl rfl loops0 (by simp) (h1 := [jblk L]) (Eq.trans (show iterR P41 G41 A41 noneO 0 6 [] 5 (v5 false L.n m t lg L.n) [jblk L] =
(    bif decide (Int.ofNat L.n < Int.ofNat L.n) then
    bif decide ((0 : Int) ≤ Int.ofNat L.n) && decide (Int.ofNat L.n < Int.ofNat L.n) then
    bif ((0 : Nat) + L.n).blt L.n then
    bif decide ((0 : Int) ≤ Int.ofNat L.n) && decide (Int.ofNat L.n < Int.ofNat L.n) then
    bif ((0 : Nat) + L.n).blt L.n then
    some ((Ex.normal,
      [T.bool false, T.own (0 : Nat) (0 : Nat) (0 : Nat) L.n none, T.int IntKind.i64 m,
        T.int IntKind.i64 (IntKind.i64.wrap (t + L.tm ((0 : Nat) + L.n))),
        T.int IntKind.i64 (bif decide (lg < L.tm ((0 : Nat) + L.n)) then L.tm ((0 : Nat) + L.n) else lg),
        T.int IntKind.i64 (IntKind.i64.wrap (Int.ofNat L.n + (1 : Int)))],
      [Blk.mk (0 : Nat) (4 : Nat) L.n
          (fun j =>
            [T.int IntKind.i64 (L.tm j), T.int IntKind.i64 (L.du j), T.int IntKind.i64 (L.af j),
              T.int IntKind.u32 (L.on j)])
          true false]))
    else
    none
    else
    none
    else
    none
    else
    none
    else
    some ((Ex.exit (0 : Nat),
      [T.bool false, T.own (0 : Nat) (0 : Nat) (0 : Nat) L.n none, T.int IntKind.i64 m, T.int IntKind.i64 t,
        T.int IntKind.i64 lg],
      [Blk.mk (0 : Nat) (4 : Nat) L.n
          (fun j =>
            [T.int IntKind.i64 (L.tm j), T.int IntKind.i64 (L.du j), T.int IntKind.i64 (L.af j),
              T.int IntKind.u32 (L.on j)])
          true false]))) from by kernel_rfl) ?_) (.refl _)
    (repeat (first | (refine bift (by first | assumption | omega | (simp (disch := omega) only [wr64, wr8, wr16, wr32, ofNatE, toNatE, toNatE1, Bool.and_eq_true, Bool.or_eq_true, Bool.not_eq_true', decide_eq_true_eq, decide_eq_false_iff_not, nble, nblt, nbeq, Nat.zero_add, Nat.add_zero, Int.zero_add, Int.add_zero, List.length_cons, List.length_nil, true_and, and_true, Nat.reduceAdd, and_self]; done) | (simp (disch := omega) only [wr64, wr8, wr16, wr32, ofNatE, toNatE, toNatE1, Bool.and_eq_true, Bool.or_eq_true, Bool.not_eq_true', decide_eq_true_eq, decide_eq_false_iff_not, nble, nblt, nbeq, Nat.zero_add, Nat.add_zero, Int.zero_add, Int.add_zero, List.length_cons, List.length_nil, true_and, and_true, Nat.reduceAdd, and_self]; omega)) ?_) | (refine biff (by first | assumption | (simp (disch := omega) only [wr64, wr8, wr16, wr32, ofNatE, toNatE, toNatE1, Bool.and_eq_true, Bool.or_eq_true, Bool.not_eq_true', decide_eq_true_eq, decide_eq_false_iff_not, nble, nblt, nbeq, Nat.zero_add, Nat.add_zero, Int.zero_add, Int.add_zero, List.length_cons, List.length_nil, true_and, and_true, Nat.reduceAdd, and_self]; done) | (simp (disch := omega) only [wr64, wr8, wr16, wr32, ofNatE, toNatE, toNatE1, Bool.and_eq_true, Bool.or_eq_true, Bool.not_eq_true', decide_eq_true_eq, decide_eq_false_iff_not, nble, nblt, nbeq, Nat.zero_add, Nat.add_zero, Int.zero_add, Int.add_zero, List.length_cons, List.length_nil, true_and, and_true, Nat.reduceAdd, and_self]; omega)) ?_)))
    first | rfl | (simp (disch := omega) only [wr64, wr8, wr16, wr32, ofNatE, Nat.zero_add, bleT, bltT, dT, dF, Bool.true_and, Bool.and_true, Bool.and_self, cond_true, cond_false, Nat.sub_zero, beq_self_eq_true]; done) | (simp (disch := omega) only [wr64, wr8, wr16, wr32, ofNatE, Nat.zero_add, bleT, bltT, dT, dF, Bool.true_and, Bool.and_true, Bool.and_self, cond_true, cond_false, Nat.sub_zero, beq_self_eq_true]; rfl)
theorem l24 (x2 x7 x9 x10 x12 x14 x17 x18 : T) (m : Nat) (hm : m ≤ 16) (a b d on : Int) (hon : 0 ≤ on ∧ on ≤ 7) (rd : Nat → Int) (b0 : Blk) :
    LoopOk P41 G41 (A41 6) 6 24 (litS (v24 x2 x7 x9 x10 x12 x14 x17 x18 m a b d on (-1) 0 0) [b0, rb16 rd] (.exit 4) (e24 x2 x7 x9 x10 x12 x14 x17 x18 m a b d on (gvR rd a d on m).1 (gvR rd a d on m).2.1) [b0, rb16 rd]) := by
  refine loop_steps hm41 (by kernel_rfl) (fun k => v24 x2 x7 x9 x10 x12 x14 x17 x18 m a b d on (gvR rd a d on k).1 (gvR rd a d on k).2.1 k) (fun _ => [b0, rb16 rd]) (n := m) (fun k hk => ?_) ?_
  · have ha := able_iff hon k (by omega)
    have hs := gvR_succ rd a d on k
    unfold gvst at hs
    rw [hs]
    generalize hG : gvR rd a d on k = G at *
    obtain ⟨s1, s2, s3⟩ := G
    refine Step.mk0 (A := A41) (m := 0) none_ok rfl rfl loops0 (h1 := [b0, rb16 rd]) (Eq.trans (show iterR P41 G41 A41 noneO 0 6 [] 24 (v24 x2 x7 x9 x10 x12 x14 x17 x18 m a b d on s1 s2 k) [b0, rb16 rd] =
(    bif decide (Int.ofNat k < Int.ofNat m) then
    bif !decide (on = (0 : Int)) then
    bif decide ((on.fdiv ((2 : Int) ^ min k (32 : Nat))).tmod (2 : Int) = (0 : Int)) then
    some ((Ex.normal,
      [x2, x7, T.int IntKind.i64 (Int.ofNat m), x9, x10, x12, x14, T.ptr (1 : Nat) (0 : Nat) (0 : Nat) (0 : Nat), x17, x18,
        T.reg [T.int IntKind.i64 a, T.int IntKind.i64 b, T.int IntKind.i64 d, T.int IntKind.u32 on], T.int IntKind.i64 s1,
        T.int IntKind.i64 s2, T.int IntKind.i64 (IntKind.i64.wrap (Int.ofNat k + (1 : Int)))],
      [b0, Blk.mk (0 : Nat) (1 : Nat) (16 : Nat) (fun j => [T.int IntKind.i64 (rd j)]) true false]))
    else
    bif decide ((0 : Int) ≤ Int.ofNat k) && decide (Int.ofNat k < (16 : Int)) then
    bif ((0 : Nat) + k).blt (16 : Nat) then
    bif decide (s1 < (0 : Int)) then
    some ((Ex.normal,
      [x2, x7, T.int IntKind.i64 (Int.ofNat m), x9, x10, x12, x14, T.ptr (1 : Nat) (0 : Nat) (0 : Nat) (0 : Nat), x17, x18,
        T.reg [T.int IntKind.i64 a, T.int IntKind.i64 b, T.int IntKind.i64 d, T.int IntKind.u32 on],
        T.int IntKind.i64 (Int.ofNat k),
        T.int IntKind.i64 (bif decide (rd ((0 : Nat) + k) < d) then d else rd ((0 : Nat) + k)),
        T.int IntKind.i64 (IntKind.i64.wrap (Int.ofNat k + (1 : Int)))],
      [b0, Blk.mk (0 : Nat) (1 : Nat) (16 : Nat) (fun j => [T.int IntKind.i64 (rd j)]) true false]))
    else
    bif decide ((bif decide (rd ((0 : Nat) + k) < d) then d else rd ((0 : Nat) + k)) < s2) then
    some ((Ex.normal,
      [x2, x7, T.int IntKind.i64 (Int.ofNat m), x9, x10, x12, x14, T.ptr (1 : Nat) (0 : Nat) (0 : Nat) (0 : Nat), x17, x18,
        T.reg [T.int IntKind.i64 a, T.int IntKind.i64 b, T.int IntKind.i64 d, T.int IntKind.u32 on],
        T.int IntKind.i64 (Int.ofNat k),
        T.int IntKind.i64 (bif decide (rd ((0 : Nat) + k) < d) then d else rd ((0 : Nat) + k)),
        T.int IntKind.i64 (IntKind.i64.wrap (Int.ofNat k + (1 : Int)))],
      [b0, Blk.mk (0 : Nat) (1 : Nat) (16 : Nat) (fun j => [T.int IntKind.i64 (rd j)]) true false]))
    else
    some ((Ex.normal,
      [x2, x7, T.int IntKind.i64 (Int.ofNat m), x9, x10, x12, x14, T.ptr (1 : Nat) (0 : Nat) (0 : Nat) (0 : Nat), x17, x18,
        T.reg [T.int IntKind.i64 a, T.int IntKind.i64 b, T.int IntKind.i64 d, T.int IntKind.u32 on], T.int IntKind.i64 s1,
        T.int IntKind.i64 s2, T.int IntKind.i64 (IntKind.i64.wrap (Int.ofNat k + (1 : Int)))],
      [b0, Blk.mk (0 : Nat) (1 : Nat) (16 : Nat) (fun j => [T.int IntKind.i64 (rd j)]) true false]))
    else
    none
    else
    none
    else
    bif decide ((0 : Int) ≤ Int.ofNat k) && decide (Int.ofNat k < (16 : Int)) then
    bif ((0 : Nat) + k).blt (16 : Nat) then
    bif decide (s1 < (0 : Int)) then
    some ((Ex.normal,
      [x2, x7, T.int IntKind.i64 (Int.ofNat m), x9, x10, x12, x14, T.ptr (1 : Nat) (0 : Nat) (0 : Nat) (0 : Nat), x17, x18,
        T.reg [T.int IntKind.i64 a, T.int IntKind.i64 b, T.int IntKind.i64 d, T.int IntKind.u32 on],
        T.int IntKind.i64 (Int.ofNat k),
        T.int IntKind.i64 (bif decide (rd ((0 : Nat) + k) < d) then d else rd ((0 : Nat) + k)),
        T.int IntKind.i64 (IntKind.i64.wrap (Int.ofNat k + (1 : Int)))],
      [b0, Blk.mk (0 : Nat) (1 : Nat) (16 : Nat) (fun j => [T.int IntKind.i64 (rd j)]) true false]))
    else
    bif decide ((bif decide (rd ((0 : Nat) + k) < d) then d else rd ((0 : Nat) + k)) < s2) then
    some ((Ex.normal,
      [x2, x7, T.int IntKind.i64 (Int.ofNat m), x9, x10, x12, x14, T.ptr (1 : Nat) (0 : Nat) (0 : Nat) (0 : Nat), x17, x18,
        T.reg [T.int IntKind.i64 a, T.int IntKind.i64 b, T.int IntKind.i64 d, T.int IntKind.u32 on],
        T.int IntKind.i64 (Int.ofNat k),
        T.int IntKind.i64 (bif decide (rd ((0 : Nat) + k) < d) then d else rd ((0 : Nat) + k)),
        T.int IntKind.i64 (IntKind.i64.wrap (Int.ofNat k + (1 : Int)))],
      [b0, Blk.mk (0 : Nat) (1 : Nat) (16 : Nat) (fun j => [T.int IntKind.i64 (rd j)]) true false]))
    else
    some ((Ex.normal,
      [x2, x7, T.int IntKind.i64 (Int.ofNat m), x9, x10, x12, x14, T.ptr (1 : Nat) (0 : Nat) (0 : Nat) (0 : Nat), x17, x18,
        T.reg [T.int IntKind.i64 a, T.int IntKind.i64 b, T.int IntKind.i64 d, T.int IntKind.u32 on], T.int IntKind.i64 s1,
        T.int IntKind.i64 s2, T.int IntKind.i64 (IntKind.i64.wrap (Int.ofNat k + (1 : Int)))],
      [b0, Blk.mk (0 : Nat) (1 : Nat) (16 : Nat) (fun j => [T.int IntKind.i64 (rd j)]) true false]))
    else
    none
    else
    none
    else
    some ((Ex.exit (4 : Nat),
      [x2, x7, T.int IntKind.i64 (Int.ofNat m), x9, x10, x12, x14, T.ptr (1 : Nat) (0 : Nat) (0 : Nat) (0 : Nat), x17, x18,
        T.reg [T.int IntKind.i64 a, T.int IntKind.i64 b, T.int IntKind.i64 d, T.int IntKind.u32 on], T.int IntKind.i64 s1,
        T.int IntKind.i64 s2],
      [b0, Blk.mk (0 : Nat) (1 : Nat) (16 : Nat) (fun j => [T.int IntKind.i64 (rd j)]) true false]))) from by kernel_rfl) ?_) (.refl _)
    simp only [Nat.zero_add]
    rw [show IntKind.i64.wrap (Int.ofNat k + (1 : Int)) = ((k + 1 : Nat) : Int) by rw [wr64 (by rw [ofNatE]; omega) (by rw [ofNatE]; omega)]; rfl]
    refine bift (by simp only [ofNatE, decide_eq_true_eq]; omega) ?_
    change _ = some (Ex.normal, v24 x2 x7 x9 x10 x12 x14 x17 x18 m a b d on (if ableB on k = true then (if s1 < 0 ∨ maxB (rd k) d < s2 then ((k : Int), maxB (rd k) d, maxB (rd k) d + a) else (s1, s2, s3)) else (s1, s2, s3)).1 (if ableB on k = true then (if s1 < 0 ∨ maxB (rd k) d < s2 then ((k : Int), maxB (rd k) d, maxB (rd k) d + a) else (s1, s2, s3)) else (s1, s2, s3)).2.1 ((k + 1 : Nat) : Int), [b0, rb16 rd])
    have rest : ∀ (P : Prop), ((ableB on k = true) → (bif decide ((0 : Int) ≤ Int.ofNat k) && decide (Int.ofNat k < (16 : Int)) then
        bif k.blt (16 : Nat) then
        bif decide (s1 < (0 : Int)) then some (Ex.normal, v24 x2 x7 x9 x10 x12 x14 x17 x18 m a b d on k (maxB (rd k) d) ((k + 1 : Nat) : Int), [b0, rb16 rd])
        else bif decide (maxB (rd k) d < s2) then some (Ex.normal, v24 x2 x7 x9 x10 x12 x14 x17 x18 m a b d on k (maxB (rd k) d) ((k + 1 : Nat) : Int), [b0, rb16 rd])
        else some (Ex.normal, v24 x2 x7 x9 x10 x12 x14 x17 x18 m a b d on s1 s2 ((k + 1 : Nat) : Int), [b0, rb16 rd]) else none else none) = some (Ex.normal, v24 x2 x7 x9 x10 x12 x14 x17 x18 m a b d on (if ableB on k = true then (if s1 < 0 ∨ maxB (rd k) d < s2 then ((k : Int), maxB (rd k) d, maxB (rd k) d + a) else (s1, s2, s3)) else (s1, s2, s3)).1 (if ableB on k = true then (if s1 < 0 ∨ maxB (rd k) d < s2 then ((k : Int), maxB (rd k) d, maxB (rd k) d + a) else (s1, s2, s3)) else (s1, s2, s3)).2.1 ((k + 1 : Nat) : Int), [b0, rb16 rd])) := by
      intro _ qa
      rw [if_pos qa]
      refine bift (by simp only [ofNatE, Bool.and_eq_true, decide_eq_true_eq]; omega) ?_
      refine bift (bltT (by omega)) ?_
      refine bifd (fun q => ?_) fun q => ?_
      · rw [if_pos (.inl q)]
      · refine bifd (fun q2 => ?_) fun q2 => ?_
        · rw [if_pos (.inr q2)]
        · rw [if_neg (by omega)]
    by_cases q0 : on = 0
    · refine biff (by simp [q0]) ?_
      exact rest True (ha.2 (by omega))
    · refine bift (by simp [q0]) ?_
      refine bifd (fun q1 => ?_) fun q1 => ?_
      · rw [if_neg (fun h => (ha.1 h) ⟨q0, q1⟩)]
        rfl
      · exact rest True (ha.2 (fun h => q1 h.2))
  · generalize (gvR rd a d on m).1 = s1
    generalize (gvR rd a d on m).2.1 = s2
    refine Last.mk0 (A := A41) (m := 0) none_ok rfl rfl loops0 (by simp) (h1 := [b0, rb16 rd]) (Eq.trans (show iterR P41 G41 A41 noneO 0 6 [] 24 (v24 x2 x7 x9 x10 x12 x14 x17 x18 m a b d on s1 s2 m) [b0, rb16 rd] =
(    bif decide (Int.ofNat m < Int.ofNat m) then
    bif !decide (on = (0 : Int)) then
    bif decide ((on.fdiv ((2 : Int) ^ min m (32 : Nat))).tmod (2 : Int) = (0 : Int)) then
    some ((Ex.normal,
      [x2, x7, T.int IntKind.i64 (Int.ofNat m), x9, x10, x12, x14, T.ptr (1 : Nat) (0 : Nat) (0 : Nat) (0 : Nat), x17, x18,
        T.reg [T.int IntKind.i64 a, T.int IntKind.i64 b, T.int IntKind.i64 d, T.int IntKind.u32 on], T.int IntKind.i64 s1,
        T.int IntKind.i64 s2, T.int IntKind.i64 (IntKind.i64.wrap (Int.ofNat m + (1 : Int)))],
      [b0, Blk.mk (0 : Nat) (1 : Nat) (16 : Nat) (fun j => [T.int IntKind.i64 (rd j)]) true false]))
    else
    bif decide ((0 : Int) ≤ Int.ofNat m) && decide (Int.ofNat m < (16 : Int)) then
    bif ((0 : Nat) + m).blt (16 : Nat) then
    bif decide (s1 < (0 : Int)) then
    some ((Ex.normal,
      [x2, x7, T.int IntKind.i64 (Int.ofNat m), x9, x10, x12, x14, T.ptr (1 : Nat) (0 : Nat) (0 : Nat) (0 : Nat), x17, x18,
        T.reg [T.int IntKind.i64 a, T.int IntKind.i64 b, T.int IntKind.i64 d, T.int IntKind.u32 on],
        T.int IntKind.i64 (Int.ofNat m),
        T.int IntKind.i64 (bif decide (rd ((0 : Nat) + m) < d) then d else rd ((0 : Nat) + m)),
        T.int IntKind.i64 (IntKind.i64.wrap (Int.ofNat m + (1 : Int)))],
      [b0, Blk.mk (0 : Nat) (1 : Nat) (16 : Nat) (fun j => [T.int IntKind.i64 (rd j)]) true false]))
    else
    bif decide ((bif decide (rd ((0 : Nat) + m) < d) then d else rd ((0 : Nat) + m)) < s2) then
    some ((Ex.normal,
      [x2, x7, T.int IntKind.i64 (Int.ofNat m), x9, x10, x12, x14, T.ptr (1 : Nat) (0 : Nat) (0 : Nat) (0 : Nat), x17, x18,
        T.reg [T.int IntKind.i64 a, T.int IntKind.i64 b, T.int IntKind.i64 d, T.int IntKind.u32 on],
        T.int IntKind.i64 (Int.ofNat m),
        T.int IntKind.i64 (bif decide (rd ((0 : Nat) + m) < d) then d else rd ((0 : Nat) + m)),
        T.int IntKind.i64 (IntKind.i64.wrap (Int.ofNat m + (1 : Int)))],
      [b0, Blk.mk (0 : Nat) (1 : Nat) (16 : Nat) (fun j => [T.int IntKind.i64 (rd j)]) true false]))
    else
    some ((Ex.normal,
      [x2, x7, T.int IntKind.i64 (Int.ofNat m), x9, x10, x12, x14, T.ptr (1 : Nat) (0 : Nat) (0 : Nat) (0 : Nat), x17, x18,
        T.reg [T.int IntKind.i64 a, T.int IntKind.i64 b, T.int IntKind.i64 d, T.int IntKind.u32 on], T.int IntKind.i64 s1,
        T.int IntKind.i64 s2, T.int IntKind.i64 (IntKind.i64.wrap (Int.ofNat m + (1 : Int)))],
      [b0, Blk.mk (0 : Nat) (1 : Nat) (16 : Nat) (fun j => [T.int IntKind.i64 (rd j)]) true false]))
    else
    none
    else
    none
    else
    bif decide ((0 : Int) ≤ Int.ofNat m) && decide (Int.ofNat m < (16 : Int)) then
    bif ((0 : Nat) + m).blt (16 : Nat) then
    bif decide (s1 < (0 : Int)) then
    some ((Ex.normal,
      [x2, x7, T.int IntKind.i64 (Int.ofNat m), x9, x10, x12, x14, T.ptr (1 : Nat) (0 : Nat) (0 : Nat) (0 : Nat), x17, x18,
        T.reg [T.int IntKind.i64 a, T.int IntKind.i64 b, T.int IntKind.i64 d, T.int IntKind.u32 on],
        T.int IntKind.i64 (Int.ofNat m),
        T.int IntKind.i64 (bif decide (rd ((0 : Nat) + m) < d) then d else rd ((0 : Nat) + m)),
        T.int IntKind.i64 (IntKind.i64.wrap (Int.ofNat m + (1 : Int)))],
      [b0, Blk.mk (0 : Nat) (1 : Nat) (16 : Nat) (fun j => [T.int IntKind.i64 (rd j)]) true false]))
    else
    bif decide ((bif decide (rd ((0 : Nat) + m) < d) then d else rd ((0 : Nat) + m)) < s2) then
    some ((Ex.normal,
      [x2, x7, T.int IntKind.i64 (Int.ofNat m), x9, x10, x12, x14, T.ptr (1 : Nat) (0 : Nat) (0 : Nat) (0 : Nat), x17, x18,
        T.reg [T.int IntKind.i64 a, T.int IntKind.i64 b, T.int IntKind.i64 d, T.int IntKind.u32 on],
        T.int IntKind.i64 (Int.ofNat m),
        T.int IntKind.i64 (bif decide (rd ((0 : Nat) + m) < d) then d else rd ((0 : Nat) + m)),
        T.int IntKind.i64 (IntKind.i64.wrap (Int.ofNat m + (1 : Int)))],
      [b0, Blk.mk (0 : Nat) (1 : Nat) (16 : Nat) (fun j => [T.int IntKind.i64 (rd j)]) true false]))
    else
    some ((Ex.normal,
      [x2, x7, T.int IntKind.i64 (Int.ofNat m), x9, x10, x12, x14, T.ptr (1 : Nat) (0 : Nat) (0 : Nat) (0 : Nat), x17, x18,
        T.reg [T.int IntKind.i64 a, T.int IntKind.i64 b, T.int IntKind.i64 d, T.int IntKind.u32 on], T.int IntKind.i64 s1,
        T.int IntKind.i64 s2, T.int IntKind.i64 (IntKind.i64.wrap (Int.ofNat m + (1 : Int)))],
      [b0, Blk.mk (0 : Nat) (1 : Nat) (16 : Nat) (fun j => [T.int IntKind.i64 (rd j)]) true false]))
    else
    none
    else
    none
    else
    some ((Ex.exit (4 : Nat),
      [x2, x7, T.int IntKind.i64 (Int.ofNat m), x9, x10, x12, x14, T.ptr (1 : Nat) (0 : Nat) (0 : Nat) (0 : Nat), x17, x18,
        T.reg [T.int IntKind.i64 a, T.int IntKind.i64 b, T.int IntKind.i64 d, T.int IntKind.u32 on], T.int IntKind.i64 s1,
        T.int IntKind.i64 s2],
      [b0, Blk.mk (0 : Nat) (1 : Nat) (16 : Nat) (fun j => [T.int IntKind.i64 (rd j)]) true false]))) from by kernel_rfl) ?_) (.refl _)
    (repeat (first | (refine bift (by first | assumption | omega | (simp (disch := omega) only [wr64, wr8, wr16, wr32, ofNatE, toNatE, toNatE1, Bool.and_eq_true, Bool.or_eq_true, Bool.not_eq_true', decide_eq_true_eq, decide_eq_false_iff_not, nble, nblt, nbeq, Nat.zero_add, Nat.add_zero, Int.zero_add, Int.add_zero, List.length_cons, List.length_nil, true_and, and_true, Nat.reduceAdd, and_self]; done) | (simp (disch := omega) only [wr64, wr8, wr16, wr32, ofNatE, toNatE, toNatE1, Bool.and_eq_true, Bool.or_eq_true, Bool.not_eq_true', decide_eq_true_eq, decide_eq_false_iff_not, nble, nblt, nbeq, Nat.zero_add, Nat.add_zero, Int.zero_add, Int.add_zero, List.length_cons, List.length_nil, true_and, and_true, Nat.reduceAdd, and_self]; omega)) ?_) | (refine biff (by first | assumption | (simp (disch := omega) only [wr64, wr8, wr16, wr32, ofNatE, toNatE, toNatE1, Bool.and_eq_true, Bool.or_eq_true, Bool.not_eq_true', decide_eq_true_eq, decide_eq_false_iff_not, nble, nblt, nbeq, Nat.zero_add, Nat.add_zero, Int.zero_add, Int.add_zero, List.length_cons, List.length_nil, true_and, and_true, Nat.reduceAdd, and_self]; done) | (simp (disch := omega) only [wr64, wr8, wr16, wr32, ofNatE, toNatE, toNatE1, Bool.and_eq_true, Bool.or_eq_true, Bool.not_eq_true', decide_eq_true_eq, decide_eq_false_iff_not, nble, nblt, nbeq, Nat.zero_add, Nat.add_zero, Int.zero_add, Int.add_zero, List.length_cons, List.length_nil, true_and, and_true, Nat.reduceAdd, and_self]; omega)) ?_)))
    first | rfl | (simp (disch := omega) only [wr64, wr8, wr16, wr32, ofNatE, Nat.zero_add, bleT, bltT, dT, dF, Bool.true_and, Bool.and_true, Bool.and_self, cond_true, cond_false, Nat.sub_zero, beq_self_eq_true]; done) | (simp (disch := omega) only [wr64, wr8, wr16, wr32, ofNatE, Nat.zero_add, bleT, bltT, dT, dF, Bool.true_and, Bool.and_true, Bool.and_self, cond_true, cond_false, Nat.sub_zero, beq_self_eq_true]; rfl)
end Go.Ab

namespace Go.Ab
open Go.Proofs
theorem slt_bd (L : JL) (hL : L.Ok) (m : Nat) (hab : ∀ i, i < L.n → 0 < (abL (L.on i) m).length) (i : Nat) (hi : i < L.n) : ∃ (g : Nat) (f : Int), g < m ∧ slt L (oN L) m i = ((g : Int), f, f + L.tm (oN L i)) ∧ 0 ≤ f ∧ f ≤ 51300000 := by
  have hn := hL.n
  have ho := oN_lt (L := L) hi
  obtain ⟨g, g1, g2, g3⟩ := gvR_some (plst L (oN L) m i) (L.tm (oN L i)) (L.af (oN L i)) (L.on (oN L i)) m (hab _ ho)
  have h2 := plst_bd hL (o := oN L) (mm := m) i (fun j hj => oN_lt (by omega)) g g1
  have h3 := hL.af _ ho
  have h4 := maxB_ge (plst L (oN L) m i g) (L.af (oN L i))
  exact ⟨g, _, g1, g3, by omega, by omega⟩
theorem l19' (L : JL) (hL : L.Ok) (b : Bool) (m : Nat) (hm : 1 ≤ m ∧ m ≤ 16) (hab : ∀ i, i < L.n → 0 < (abL (L.on i) m).length) (t lg : Int) :
    LoopOk P41 G41 (A41 6) 6 19 (litS (v19' b L.n m t lg (oN L) (fun j => (slt L (oN L) m j).1) (fun j => (slt L (oN L) m j).2.1) (fun j => (slt L (oN L) m j).2.2) 0 0) [jblk L, rb16 fun _ => 0] (.exit 2) (e19' b m t lg (lstU L (oN L) m L.n)) [jblk L, rb16 (plst L (oN L) m L.n)]) := by
  have hn := hL.n
  refine loop_steps hm41 (by kernel_rfl) (fun i => v19' b L.n m t lg (oN L) (fun j => (slt L (oN L) m j).1) (fun j => (slt L (oN L) m j).2.1) (fun j => (slt L (oN L) m j).2.2) (lstU L (oN L) m i) i) (fun i => [jblk L, rb16 (plst L (oN L) m i)]) (n := L.n) (fun i hi => ?_) ?_
  · have ho := oN_lt (L := L) hi
    have ht := hL.tm _ ho
    have hon := hL.on _ ho
    obtain ⟨g, f, g1, g2, f0, f1⟩ := slt_bd L hL m hab i hi
    have hlst := lstU_le L (oN L) m 60000000 (by omega) i (fun j hj => by
      obtain ⟨g', f', _, q, _, q2⟩ := slt_bd L hL m hab j (by omega)
      have := hL.tm _ (oN_lt (L := L) (j := j) (by omega))
      rw [q]; dsimp only; omega)
    have e1 : lstU L (oN L) m (i + 1) = maxB (lstU L (oN L) m i) (f + L.tm (oN L i)) := by
      show maxB (lstU L (oN L) m i) ((slt L (oN L) m i).2.1 + L.tm (oN L i)) = _
      rw [g2]
    have e2 : ∀ k : Nat, plst L (oN L) m (i + 1) k = if (k : Int) = g then f + L.tm (oN L i) else plst L (oN L) m i k := by
      intro k
      show (if (k : Int) = (slt L (oN L) m i).1 then (slt L (oN L) m i).2.2 else _) = _
      rw [g2]
    rw [e1]
    have hl := l24 (.bool b) (.own 0 0 0 L.n none) (.int .i64 t) (.int .i64 lg) (ov L.n (oN L) (some L.n)) (.view 4 L.n (sv4 (fun j => (oN L j : Nat)) (fun j => (slt L (oN L) m j).1) (fun j => (slt L (oN L) m j).2.1) (fun j => (slt L (oN L) m j).2.2)) (some L.n)) (.int .i64 (lstU L (oN L) m i)) (.int .i64 i) m hm.2 (L.tm (0 + oN L i)) (L.du (0 + oN L i)) (L.af (0 + oN L i)) (L.on (0 + oN L i)) (by rw [Nat.zero_add]; exact hon) (plst L (oN L) m i) (jblk L)
    have e3 : gvR (plst L (oN L) m i) (L.tm (0 + oN L i)) (L.af (0 + oN L i)) (L.on (0 + oN L i)) m = ((g : Int), f, f + L.tm (oN L i)) := by rw [Nat.zero_add]; exact g2
    rw [e3] at hl
    have y1e : (fun j => (slt L (oN L) m j).1) i = (g : Int) := by show (slt L (oN L) m i).1 = _; rw [g2]
    have y2e : (fun j => (slt L (oN L) m j).2.1) i = f := by show (slt L (oN L) m i).2.1 = _; rw [g2]
    have y3e : (fun j => (slt L (oN L) m j).2.2) i = f + L.tm (oN L i) := by show (slt L (oN L) m i).2.2 = _; rw [g2]
    generalize (fun j => (slt L (oN L) m j).1) = y1 at *
    generalize (fun j => (slt L (oN L) m j).2.1) = y2 at *
    generalize (fun j => (slt L (oN L) m j).2.2) = y3 at *
    generalize lstU L (oN L) m i = l at *
    generalize plst L (oN L) m (i + 1) = rd' at *
    generalize plst L (oN L) m i = rd at *
    generalize oN L = o at *
    have gg : g < 16 := by omega
    have ew : IntKind.i64.wrap (f + L.tm (o i)) = f + L.tm (o i) := wr64 (by omega) (by omega)
    refine Step.mk0 (A := A41) (m := 0) none_ok rfl rfl (loops1 hl) (h1 := [jblk L, ⟨0, 1, 16, fun e => [.int .i64 (bif e == g then f + L.tm (o i) else rd e)], true, false⟩]) (Eq.trans (show iterR P41 G41 A41 noneO 0 6 [(24, litS (v24 (.bool b) (.own 0 0 0 L.n none) (.int .i64 t) (.int .i64 lg) (ov L.n o (some L.n)) (.view 4 L.n (sv4 (fun j => (o j : Nat)) y1 y2 y3) (some L.n)) (.int .i64 l) (.int .i64 i) m (L.tm (0 + o i)) (L.du (0 + o i)) (L.af (0 + o i)) (L.on (0 + o i)) (-1) 0 0) [jblk L, rb16 rd] (.exit 4) (e24 (.bool b) (.own 0 0 0 L.n none) (.int .i64 t) (.int .i64 lg) (ov L.n o (some L.n)) (.view 4 L.n (sv4 (fun j => (o j : Nat)) y1 y2 y3) (some L.n)) (.int .i64 l) (.int .i64 i) m (L.tm (0 + o i)) (L.du (0 + o i)) (L.af (0 + o i)) (L.on (0 + o i)) (g : Nat) f) [jblk L, rb16 rd])] 19 (v19' b L.n m t lg o y1 y2 y3 l i) [jblk L, rb16 rd] =
(    bif decide (Int.ofNat i < Int.ofNat L.n) then
    bif decide ((0 : Int) ≤ Int.ofNat i) && decide (Int.ofNat i < Int.ofNat L.n) then
    bif decide ((0 : Int) ≤ Int.ofNat (o i)) && decide (Int.ofNat (o i) < Int.ofNat L.n) then
    bif ((0 : Nat) + o i).blt L.n then
    bif weakF
      [T.bool b, T.own (0 : Nat) (0 : Nat) (0 : Nat) L.n none, T.int IntKind.i64 (Int.ofNat m), T.int IntKind.i64 t,
        T.int IntKind.i64 lg, T.view (1 : Nat) L.n (fun j => [T.int IntKind.i64 (Int.ofNat (o j))]) (some L.n),
        T.view (4 : Nat) L.n
          (fun j =>
            [T.int IntKind.i64 (Int.ofNat (o j)), T.int IntKind.i64 (y1 j), T.int IntKind.i64 (y2 j),
              T.int IntKind.i64 (y3 j)])
          (some L.n),
        T.ptr (1 : Nat) (0 : Nat) (0 : Nat) (0 : Nat), T.int IntKind.i64 l, T.int IntKind.i64 (Int.ofNat i),
        T.reg
          [T.int IntKind.i64 (L.tm ((0 : Nat) + o i)), T.int IntKind.i64 (L.du ((0 : Nat) + o i)),
            T.int IntKind.i64 (L.af ((0 : Nat) + o i)), T.int IntKind.u32 (L.on ((0 : Nat) + o i))],
        T.int IntKind.i64 (-1 : Int), T.int IntKind.i64 (0 : Int), T.int IntKind.i64 (0 : Int)]
      [Blk.mk (0 : Nat) (4 : Nat) L.n
          (fun j =>
            [T.int IntKind.i64 (L.tm j), T.int IntKind.i64 (L.du j), T.int IntKind.i64 (L.af j),
              T.int IntKind.u32 (L.on j)])
          true false,
        Blk.mk (0 : Nat) (1 : Nat) (16 : Nat) (fun j => [T.int IntKind.i64 (rd j)]) true false]
      [T.bool b, T.own (0 : Nat) (0 : Nat) (0 : Nat) L.n none, T.int IntKind.i64 (Int.ofNat m), T.int IntKind.i64 t,
        T.int IntKind.i64 lg, T.view (1 : Nat) L.n (fun j => [T.int IntKind.i64 (Int.ofNat (o j))]) (some L.n),
        T.view (4 : Nat) L.n
          (fun j =>
            [T.int IntKind.i64 (Int.ofNat (o j)), T.int IntKind.i64 (y1 j), T.int IntKind.i64 (y2 j),
              T.int IntKind.i64 (y3 j)])
          (some L.n),
        T.ptr (1 : Nat) (0 : Nat) (0 : Nat) (0 : Nat), T.int IntKind.i64 l, T.int IntKind.i64 (Int.ofNat i),
        T.reg
          [T.int IntKind.i64 (L.tm ((0 : Nat) + o i)), T.int IntKind.i64 (L.du ((0 : Nat) + o i)),
            T.int IntKind.i64 (L.af ((0 : Nat) + o i)), T.int IntKind.u32 (L.on ((0 : Nat) + o i))],
        T.int IntKind.i64 (-1 : Int), T.int IntKind.i64 (0 : Int), T.int IntKind.i64 (0 : Int)]
      [Blk.mk (0 : Nat) (4 : Nat) L.n
          (fun j =>
            [T.int IntKind.i64 (L.tm j), T.int IntKind.i64 (L.du j), T.int IntKind.i64 (L.af j),
              T.int IntKind.u32 (L.on j)])
          true false,
        Blk.mk (0 : Nat) (1 : Nat) (16 : Nat) (fun j => [T.int IntKind.i64 (rd j)]) true false] then
    bif decide ((0 : Int) ≤ Int.ofNat i) && decide (Int.ofNat i < Int.ofNat L.n) then
    bif decide ((0 : Int) ≤ Int.ofNat i) && decide (Int.ofNat i < Int.ofNat L.n) then
    bif decide (Int.ofNat (o i) = Int.ofNat (o i)) then
    bif decide (y1 i = Int.ofNat g) then
    bif decide (y2 i = f) then
    bif decide (y3 i = IntKind.i64.wrap (f + L.tm ((0 : Nat) + o i))) then
    bif decide ((0 : Int) ≤ Int.ofNat g) && decide (Int.ofNat g < (16 : Int)) then
    bif ((0 : Nat) + g).blt (16 : Nat) &&
          [T.int IntKind.i64 (IntKind.i64.wrap (f + L.tm ((0 : Nat) + o i)))].length == (1 : Nat) &&
        true &&
      true then
    some ((Ex.normal,
      [T.bool b, T.own (0 : Nat) (0 : Nat) (0 : Nat) L.n none, T.int IntKind.i64 (Int.ofNat m), T.int IntKind.i64 t,
        T.int IntKind.i64 lg, T.view (1 : Nat) L.n (fun j => [T.int IntKind.i64 (Int.ofNat (o j))]) (some L.n),
        T.view (4 : Nat) L.n
          (fun j =>
            [T.int IntKind.i64 (Int.ofNat (o j)), T.int IntKind.i64 (y1 j), T.int IntKind.i64 (y2 j),
              T.int IntKind.i64 (y3 j)])
          (some L.n),
        T.ptr (1 : Nat) (0 : Nat) (0 : Nat) (0 : Nat),
        T.int IntKind.i64
          (bif decide (l < IntKind.i64.wrap (f + L.tm ((0 : Nat) + o i))) then IntKind.i64.wrap (f + L.tm ((0 : Nat) + o i))
          else l),
        T.int IntKind.i64 (IntKind.i64.wrap (Int.ofNat i + (1 : Int)))],
      [Blk.mk (0 : Nat) (4 : Nat) L.n
          (fun j =>
            [T.int IntKind.i64 (L.tm j), T.int IntKind.i64 (L.du j), T.int IntKind.i64 (L.af j),
              T.int IntKind.u32 (L.on j)])
          true false,
        Blk.mk (0 : Nat) (1 : Nat) (16 : Nat)
          (fun e =>
            [T.int IntKind.i64 (bif e == (0 : Nat) + g then IntKind.i64.wrap (f + L.tm ((0 : Nat) + o i)) else rd e)])
          true false]))
    else
    none
    else
    none
    else
    some ((Ex.ret,
      [T.bool b, T.bool false, T.int IntKind.i64 (Int.ofNat m), T.int IntKind.i64 t, T.int IntKind.i64 lg,
        T.int IntKind.i64 l],
      [Blk.mk (0 : Nat) (4 : Nat) L.n
          (fun j =>
            [T.int IntKind.i64 (L.tm j), T.int IntKind.i64 (L.du j), T.int IntKind.i64 (L.af j),
              T.int IntKind.u32 (L.on j)])
          true false,
        Blk.mk (0 : Nat) (1 : Nat) (16 : Nat) (fun j => [T.int IntKind.i64 (rd j)]) true false]))
    else
    some ((Ex.ret,
      [T.bool b, T.bool false, T.int IntKind.i64 (Int.ofNat m), T.int IntKind.i64 t, T.int IntKind.i64 lg,
        T.int IntKind.i64 l],
      [Blk.mk (0 : Nat) (4 : Nat) L.n
          (fun j =>
            [T.int IntKind.i64 (L.tm j), T.int IntKind.i64 (L.du j), T.int IntKind.i64 (L.af j),
              T.int IntKind.u32 (L.on j)])
          true false,
        Blk.mk (0 : Nat) (1 : Nat) (16 : Nat) (fun j => [T.int IntKind.i64 (rd j)]) true false]))
    else
    some ((Ex.ret,
      [T.bool b, T.bool false, T.int IntKind.i64 (Int.ofNat m), T.int IntKind.i64 t, T.int IntKind.i64 lg,
        T.int IntKind.i64 l],
      [Blk.mk (0 : Nat) (4 : Nat) L.n
          (fun j =>
            [T.int IntKind.i64 (L.tm j), T.int IntKind.i64 (L.du j), T.int IntKind.i64 (L.af j),
              T.int IntKind.u32 (L.on j)])
          true false,
        Blk.mk (0 : Nat) (1 : Nat) (16 : Nat) (fun j => [T.int IntKind.i64 (rd j)]) true false]))
    else
    some ((Ex.ret,
      [T.bool b, T.bool false, T.int IntKind.i64 (Int.ofNat m), T.int IntKind.i64 t, T.int IntKind.i64 lg,
        T.int IntKind.i64 l],
      [Blk.mk (0 : Nat) (4 : Nat) L.n
          (fun j =>
            [T.int IntKind.i64 (L.tm j), T.int IntKind.i64 (L.du j), T.int IntKind.i64 (L.af j),
              T.int IntKind.u32 (L.on j)])
          true false,
        Blk.mk (0 : Nat) (1 : Nat) (16 : Nat) (fun j => [T.int IntKind.i64 (rd j)]) true false]))
    else
    none
    else
    none
    else
    none
    else
    none
    else
    none
    else
    none
    else
    some ((Ex.exit (2 : Nat),
      [T.bool b, T.undef, T.int IntKind.i64 (Int.ofNat m), T.int IntKind.i64 t, T.int IntKind.i64 lg, T.int IntKind.i64 l],
      [Blk.mk (0 : Nat) (4 : Nat) L.n
          (fun j =>
            [T.int IntKind.i64 (L.tm j), T.int IntKind.i64 (L.du j), T.int IntKind.i64 (L.af j),
              T.int IntKind.u32 (L.on j)])
          true false,
        Blk.mk (0 : Nat) (1 : Nat) (16 : Nat) (fun j => [T.int IntKind.i64 (rd j)]) true false]))) from by kernel_rfl) ?_) ?_
    · refine bift (by simp only [ofNatE, decide_eq_true_eq]; omega) ?_
      refine bift (by simp only [ofNatE, Bool.and_eq_true, decide_eq_true_eq]; omega) ?_
      refine bift (by simp only [ofNatE, Bool.and_eq_true, decide_eq_true_eq]; omega) ?_
      refine bift (by rw [nblt]; omega) ?_
      refine bift (weakF_of ⟨rfl, .refl _⟩) ?_
      simp only [Nat.zero_add, ew, y1e, y2e, y3e]
      (repeat (first | (refine bift (by first | assumption | omega | (simp (disch := omega) only [wr64, wr8, wr16, wr32, ofNatE, toNatE, toNatE1, Bool.and_eq_true, Bool.or_eq_true, Bool.not_eq_true', decide_eq_true_eq, decide_eq_false_iff_not, nble, nblt, nbeq, Nat.zero_add, Nat.add_zero, Int.zero_add, Int.add_zero, List.length_cons, List.length_nil, true_and, and_true, Nat.reduceAdd, and_self]; done) | (simp (disch := omega) only [wr64, wr8, wr16, wr32, ofNatE, toNatE, toNatE1, Bool.and_eq_true, Bool.or_eq_true, Bool.not_eq_true', decide_eq_true_eq, decide_eq_false_iff_not, nble, nblt, nbeq, Nat.zero_add, Nat.add_zero, Int.zero_add, Int.add_zero, List.length_cons, List.length_nil, true_and, and_true, Nat.reduceAdd, and_self]; omega)) ?_) | (refine biff (by first | assumption | (simp (disch := omega) only [wr64, wr8, wr16, wr32, ofNatE, toNatE, toNatE1, Bool.and_eq_true, Bool.or_eq_true, Bool.not_eq_true', decide_eq_true_eq, decide_eq_false_iff_not, nble, nblt, nbeq, Nat.zero_add, Nat.add_zero, Int.zero_add, Int.add_zero, List.length_cons, List.length_nil, true_and, and_true, Nat.reduceAdd, and_self]; done) | (simp (disch := omega) only [wr64, wr8, wr16, wr32, ofNatE, toNatE, toNatE1, Bool.and_eq_true, Bool.or_eq_true, Bool.not_eq_true', decide_eq_true_eq, decide_eq_false_iff_not, nble, nblt, nbeq, Nat.zero_add, Nat.add_zero, Int.zero_add, Int.add_zero, List.length_cons, List.length_nil, true_and, and_true, Nat.reduceAdd, and_self]; omega)) ?_)))
      unfold maxB
      first | rfl | (simp (disch := omega) only [wr64, wr8, wr16, wr32, ofNatE, Nat.zero_add, bleT, bltT, dT, dF, Bool.true_and, Bool.and_true, Bool.and_self, cond_true, cond_false, Nat.sub_zero, beq_self_eq_true]; done) | (simp (disch := omega) only [wr64, wr8, wr16, wr32, ofNatE, Nat.zero_add, bleT, bltT, dT, dF, Bool.true_and, Bool.and_true, Bool.and_self, cond_true, cond_false, Nat.sub_zero, beq_self_eq_true]; rfl)
    · refine .cons ⟨rfl, rfl, rfl, id, fun _ _ => rfl⟩ (.cons ⟨rfl, rfl, rfl, id, fun j hj => ?_⟩ .nil)
      show [T.int .i64 (rd' j)] = [.int .i64 (bif j == g then f + L.tm (o i) else rd j)]
      rw [e2 j]
      by_cases q : j = g
      · subst q; simp
      · rw [beq_eq_false_iff_ne.2 q, if_neg (by omega)]; rfl
  · generalize lstU L (oN L) m L.n = l at *
    generalize plst L (oN L) m L.n = rd at *
    generalize (fun j => (slt L (oN L) m j).1) = y1 at *
    generalize (fun j => (slt L (oN L) m j).2.1) = y2 at *
    generalize (fun j => (slt L (oN L) m j).2.2) = y3 at *
    generalize oN L = o at *
    refine Last.mk0 (A := A41) (m := 0) none_ok rfl rfl loops0 (by simp) (h1 := [jblk L, rb16 rd]) (Eq.trans (show iterR P41 G41 A41 noneO 0 6 [] 19 (v19' b L.n m t lg o y1 y2 y3 l L.n) [jblk L, rb16 rd] =
(    bif decide (Int.ofNat L.n < Int.ofNat L.n) then
    bif decide ((0 : Int) ≤ Int.ofNat L.n) && decide (Int.ofNat L.n < Int.ofNat L.n) then
    bif decide ((0 : Int) ≤ Int.ofNat (o L.n)) && decide (Int.ofNat (o L.n) < Int.ofNat L.n) then
    bif ((0 : Nat) + o L.n).blt L.n then
    none
    else
    none
    else
    none
    else
    none
    else
    some ((Ex.exit (2 : Nat),
      [T.bool b, T.undef, T.int IntKind.i64 (Int.ofNat m), T.int IntKind.i64 t, T.int IntKind.i64 lg, T.int IntKind.i64 l],
      [Blk.mk (0 : Nat) (4 : Nat) L.n
          (fun j =>
            [T.int IntKind.i64 (L.tm j), T.int IntKind.i64 (L.du j), T.int IntKind.i64 (L.af j),
              T.int IntKind.u32 (L.on j)])
          true false,
        Blk.mk (0 : Nat) (1 : Nat) (16 : Nat) (fun j => [T.int IntKind.i64 (rd j)]) true false]))) from by kernel_rfl) ?_) (.refl _)
    (repeat (first | (refine bift (by first | assumption | omega | (simp (disch := omega) only [wr64, wr8, wr16, wr32, ofNatE, toNatE, toNatE1, Bool.and_eq_true, Bool.or_eq_true, Bool.not_eq_true', decide_eq_true_eq, decide_eq_false_iff_not, nble, nblt, nbeq, Nat.zero_add, Nat.add_zero, Int.zero_add, Int.add_zero, List.length_cons, List.length_nil, true_and, and_true, Nat.reduceAdd, and_self]; done) | (simp (disch := omega) only [wr64, wr8, wr16, wr32, ofNatE, toNatE, toNatE1, Bool.and_eq_true, Bool.or_eq_true, Bool.not_eq_true', decide_eq_true_eq, decide_eq_false_iff_not, nble, nblt, nbeq, Nat.zero_add, Nat.add_zero, Int.zero_add, Int.add_zero, List.length_cons, List.length_nil, true_and, and_true, Nat.reduceAdd, and_self]; omega)) ?_) | (refine biff (by first | assumption | (simp (disch := omega) only [wr64, wr8, wr16, wr32, ofNatE, toNatE, toNatE1, Bool.and_eq_true, Bool.or_eq_true, Bool.not_eq_true', decide_eq_true_eq, decide_eq_false_iff_not, nble, nblt, nbeq, Nat.zero_add, Nat.add_zero, Int.zero_add, Int.add_zero, List.length_cons, List.length_nil, true_and, and_true, Nat.reduceAdd, and_self]; done) | (simp (disch := omega) only [wr64, wr8, wr16, wr32, ofNatE, toNatE, toNatE1, Bool.and_eq_true, Bool.or_eq_true, Bool.not_eq_true', decide_eq_true_eq, decide_eq_false_iff_not, nble, nblt, nbeq, Nat.zero_add, Nat.add_zero, Int.zero_add, Int.add_zero, List.length_cons, List.length_nil, true_and, and_true, Nat.reduceAdd, and_self]; omega)) ?_)))
    first | rfl | (simp (disch := omega) only [wr64, wr8, wr16, wr32, ofNatE, Nat.zero_add, bleT, bltT, dT, dF, Bool.true_and, Bool.and_true, Bool.and_self, cond_true, cond_false, Nat.sub_zero, beq_self_eq_true]; done) | (simp (disch := omega) only [wr64, wr8, wr16, wr32, ofNatE, Nat.zero_add, bleT, bltT, dT, dF, Bool.true_and, Bool.and_true, Bool.and_self, cond_true, cond_false, Nat.sub_zero, beq_self_eq_true]; rfl)
theorem orderN (L : JL) (c : Option Nat) (hL : L.Ok) : ToldOk P41 G41 10 [jv L c] (.tup [.new (iv L.n (ordI L) (some L.n)), .int .i64 0]) := by
  have k1 : ∀ a ∈ [[jv L c, .int .i64 1]], ToldOk P41 G41 19 a (.int .i64 0) := fun z h => by obtain rfl := List.mem_singleton.1 h; exact limT L c 1 hL (by omega)
  have k2 : ∀ a ∈ [[jv L c]], ToldOk P41 G41 20 a (.fresh true 1 L.n (fun j => [.int .i64 (ordI L j)]) L.n (some L.n)) := fun z h => by obtain rfl := List.mem_singleton.1 h; exact byDueF L c hL
  have m1 := List.mem_singleton.2 (rfl : [jv L c, .int .i64 1] = _)
  have m2 := List.mem_singleton.2 (rfl : [jv L c] = _)
  generalize [[jv L c, .int .i64 1]] = l1 at k1 m1
  generalize [[jv L c]] = l2 at k2 m2
  generalize ordI L = x at *
  have := (stepV_told (P := P41) (Gl := G41) (f := 10) (args := [jv L c]) (r := .tup [.fresh true 1 L.n (fun j => [.int .i64 (x (0 + j))]) L.n (some L.n), .int .i64 0]) (K := KL l1 l2 (.fresh true 1 L.n (fun j => [.int .i64 (x j)]) L.n (some L.n))) hm41 hn41 (told_add (told_add okK41a (callS_told k1)) (callS_told k2)) (A := A41) (m := 0) ?_).frz
  · rw [show (fun j => [T.int .i64 (x (0 + j))]) = fun j => [T.int .i64 (x j)] from funext fun j => by rw [Nat.zero_add]] at this
    exact this
  · refine Eq.trans (show stepV P41 G41 A41 (KL l1 l2 (.fresh true 1 L.n (fun j => [.int .i64 (x j)]) L.n (some L.n))) 0 10 [jv L c] =
(    bif sameArgsF
      [T.view (4 : Nat) L.n
          (fun j =>
            [T.int IntKind.i64 (L.tm j), T.int IntKind.i64 (L.du j), T.int IntKind.i64 (L.af j),
              T.int IntKind.u32 (L.on j)])
          c,
        T.int IntKind.i64 (1 : Int)]
      l1 then
    bif sameArgsF
      [T.view (4 : Nat) L.n
          (fun j =>
            [T.int IntKind.i64 (L.tm j), T.int IntKind.i64 (L.du j), T.int IntKind.i64 (L.af j),
              T.int IntKind.u32 (L.on j)])
          c]
      l2 then
    some (T.tup
      [bif ((0 : Nat) + L.n).ble L.n then
          T.fresh true (1 : Nat) (L.n - (0 : Nat)) (fun j => [T.int IntKind.i64 (x ((0 : Nat) + j))]) L.n (some L.n)
        else T.undef,
        T.int IntKind.i64 (0 : Int)])
    else
    none
    else
    none) from by kernel_rfl) ?_
    refine bift (sameArgsF_iff.2 m1) ?_
    refine bift (sameArgsF_iff.2 m2) ?_
    first | rfl | (rw [show (Nat.ble (0 + L.n) L.n) = true from bleT (by omega)]; rfl)
end Go.Ab

namespace Go.Ab
open Go.Proofs
noncomputable def K6 (p9 p10 p16 p12 : List T → Prop) (xF : T) (n : Nat) (go sF : Nat → List T) : Orc :=
  (((noneO.add 9 (callP p9 xF)).add 10 (callP p10 (.tup [.new (.view 1 n go (some n)), .int .i64 0]))).add 16 (callP p16 (.tup [.new (.view 4 n sF (some n)), .int .i64 0]))).add 12 (callP p12 (.bool true))
theorem em15 (u : Nat) : IntKind.i64.wrap ((2 : Int) + IntKind.i64.wrap ((Int.ofNat u).tmod (15 : Int))) = ((2 + u % 15 : Nat) : Int) := by
  rw [show (Int.ofNat u).tmod (15 : Int) = ((u % 15 : Nat) : Int) from rfl, show IntKind.i64.wrap ((u % 15 : Nat) : Int) = ((u % 15 : Nat) : Int) from wr64 (by omega) (by omega), wr64 (by omega) (by omega)]
  omega
theorem mulB {x : Int} {m : Nat} {B : Int} (h : 0 ≤ x ∧ x ≤ B) (hm : m ≤ 16) : 0 ≤ x * (m : Int) ∧ x * (m : Int) ≤ B * 16 := by
  have h1 := Int.mul_nonneg h.1 (by omega : (0 : Int) ≤ (m : Int))
  have h2 := Int.mul_le_mul h.2 (by omega : (m : Int) ≤ 16) (by omega) (by omega : 0 ≤ B)
  exact ⟨h1, h2⟩
theorem law6p (R : JR) (c : Option Nat) (u : Nat) (b : Bool) (L : JL) (af2 on2 : Nat → Int) (hn40 : L.n ≤ 40) (h9 : ToldOk P41 G41 9 [R.v c] (.fresh true 4 L.n (jcl L) L.n none)) (hL : JL.Ok ⟨L.tm, L.du, af2, on2, L.n⟩)
    (hab : ∀ i, i < L.n → 0 < (abL (on2 i) (2 + u % 15)).length)
    (l5 : LoopOk P41 G41 (A41 6) 6 5 (litS (v5 b L.n (2 + u % 15 : Nat) 0 0 0) [jblk L] (.exit 0) (e5 b L.n (2 + u % 15 : Nat) (totU ⟨L.tm, L.du, af2, on2, L.n⟩ L.n) (mxU ⟨L.tm, L.du, af2, on2, L.n⟩ L.n)) [jblk ⟨L.tm, L.du, af2, on2, L.n⟩]))
    (hfree : b = true → (∀ j, j < L.n → af2 j = 0) ∧ ∀ j, j < L.n → on2 j = 0) : ToldOk P41 G41 6 [R.v c, .int .u8 u, .bool b] (.bool true) := by
  have hm : 1 ≤ 2 + u % 15 ∧ 2 + u % 15 ≤ 16 := by omega
  have h10 : ToldOk P41 G41 10 [jv ⟨L.tm, L.du, af2, on2, L.n⟩ none] (.tup [.new (.view 1 L.n (fun j => [.int .i64 (oN ⟨L.tm, L.du, af2, on2, L.n⟩ j : Nat)]) (some L.n)), .int .i64 0]) := orderN ⟨L.tm, L.du, af2, on2, L.n⟩ none hL
  have h16 : ToldOk P41 G41 16 [jv ⟨L.tm, L.du, af2, on2, L.n⟩ none, .int .i64 (2 + u % 15 : Nat)] (.tup [.new (.view 4 L.n (sv4 (fun j => (oN ⟨L.tm, L.du, af2, on2, L.n⟩ j : Nat)) (fun j => (slt ⟨L.tm, L.du, af2, on2, L.n⟩ (oN ⟨L.tm, L.du, af2, on2, L.n⟩) (2 + u % 15) j).1) (fun j => (slt ⟨L.tm, L.du, af2, on2, L.n⟩ (oN ⟨L.tm, L.du, af2, on2, L.n⟩) (2 + u % 15) j).2.1) (fun j => (slt ⟨L.tm, L.du, af2, on2, L.n⟩ (oN ⟨L.tm, L.du, af2, on2, L.n⟩) (2 + u % 15) j).2.2)) (some L.n)), .int .i64 0]) := PlanN ⟨L.tm, L.du, af2, on2, L.n⟩ none (2 + u % 15) hL hm hab
  have hl := l19' ⟨L.tm, L.du, af2, on2, L.n⟩ hL b (2 + u % 15) hm hab (totU ⟨L.tm, L.du, af2, on2, L.n⟩ L.n) (mxU ⟨L.tm, L.du, af2, on2, L.n⟩ L.n)
  have hbound : b = true → lstU ⟨L.tm, L.du, af2, on2, L.n⟩ (oN ⟨L.tm, L.du, af2, on2, L.n⟩) (2 + u % 15) L.n * ((2 + u % 15 : Nat) : Int) ≤ totU ⟨L.tm, L.du, af2, on2, L.n⟩ L.n + mxU ⟨L.tm, L.du, af2, on2, L.n⟩ L.n * ((2 + u % 15 : Nat) : Int) := fun hb => plan_bound ⟨L.tm, L.du, af2, on2, L.n⟩ hL (2 + u % 15) hm.1 (hfree hb).1 (hfree hb).2
  have ht := totU_bd ⟨L.tm, L.du, af2, on2, L.n⟩ hL L.n (Nat.le_refl _)
  have hg := mxU_nonneg ⟨L.tm, L.du, af2, on2, L.n⟩ hL L.n (Nat.le_refl _)
  have hlst := lstU_le ⟨L.tm, L.du, af2, on2, L.n⟩ (oN ⟨L.tm, L.du, af2, on2, L.n⟩) (2 + u % 15) 60000000 (by omega) L.n (fun j hj => by
    obtain ⟨g', f', _, q, _, q2⟩ := slt_bd ⟨L.tm, L.du, af2, on2, L.n⟩ hL (2 + u % 15) hab j hj
    have := hL.tm _ (oN_lt (L := ⟨L.tm, L.du, af2, on2, L.n⟩) (j := j) hj)
    rw [q]; dsimp only at *; omega)
  generalize (fun j => (slt ⟨L.tm, L.du, af2, on2, L.n⟩ (oN ⟨L.tm, L.du, af2, on2, L.n⟩) (2 + u % 15) j).1) = y1 at *
  generalize (fun j => (slt ⟨L.tm, L.du, af2, on2, L.n⟩ (oN ⟨L.tm, L.du, af2, on2, L.n⟩) (2 + u % 15) j).2.1) = y2 at *
  generalize (fun j => (slt ⟨L.tm, L.du, af2, on2, L.n⟩ (oN ⟨L.tm, L.du, af2, on2, L.n⟩) (2 + u % 15) j).2.2) = y3 at *
  generalize lstU ⟨L.tm, L.du, af2, on2, L.n⟩ (oN ⟨L.tm, L.du, af2, on2, L.n⟩) (2 + u % 15) L.n = lst at *
  generalize plst ⟨L.tm, L.du, af2, on2, L.n⟩ (oN ⟨L.tm, L.du, af2, on2, L.n⟩) (2 + u % 15) L.n = rd at *
  generalize totU ⟨L.tm, L.du, af2, on2, L.n⟩ L.n = t at *
  generalize mxU ⟨L.tm, L.du, af2, on2, L.n⟩ L.n = lg at *
  generalize oN ⟨L.tm, L.du, af2, on2, L.n⟩ = o at *
  obtain ⟨p9, e9⟩ := told_pred P41 G41 9 (.fresh true 4 L.n (jcl L) L.n none)
  obtain ⟨p10, e10⟩ := told_pred P41 G41 10 (.tup [.new (.view 1 L.n (fun j => [.int .i64 (o j : Nat)]) (some L.n)), .int .i64 0])
  obtain ⟨p16, e16⟩ := told_pred P41 G41 16 (.tup [.new (.view 4 L.n (sv4 (fun j => (o j : Nat)) y1 y2 y3) (some L.n)), .int .i64 0])
  obtain ⟨p12, e12⟩ := told_pred P41 G41 12 (.bool true)
  refine stepL_told hm41 hn41 (K := K6 p9 p10 p16 p12 (.fresh true 4 L.n (jcl L) L.n none) L.n (fun j => [.int .i64 (o j : Nat)]) (sv4 (fun j => (o j : Nat)) y1 y2 y3)) (told_add (told_add (told_add (told_add none_ok (callP_told (told_predT e9))) (callP_told (told_predT e10))) (callP_told (told_predT e16))) (callP_told (told_predT e12))) (A := A41) (m := 0) (by kernel_rfl) (loopsC l5 (loops1 hl)) ?_
  refine Eq.trans (show stepL P41 G41 A41 (K6 p9 p10 p16 p12 (.fresh true 4 L.n (jcl L) L.n none) L.n (fun j => [.int .i64 (o j : Nat)]) (sv4 (fun j => (o j : Nat)) y1 y2 y3)) 0 6 [(5, litS (v5 b L.n (2 + u % 15 : Nat) 0 0 0) [jblk L] (.exit 0) (e5 b L.n (2 + u % 15 : Nat) t lg) [jblk ⟨L.tm, L.du, af2, on2, L.n⟩]), (19, litS (v19' b L.n (2 + u % 15 : Nat) t lg o y1 y2 y3 0 0) [jblk ⟨L.tm, L.du, af2, on2, L.n⟩, rb16 fun _ => 0] (.exit 2) (e19' b (2 + u % 15 : Nat) t lg lst) [jblk ⟨L.tm, L.du, af2, on2, L.n⟩, rb16 rd])] [R.v c, .int .u8 u, .bool b] =
(    bif propF p9
      [T.view (4 : Nat) R.n
          (fun j =>
            [T.int IntKind.u8 (Int.ofNat (R.t j)), T.int IntKind.u8 (Int.ofNat (R.d j)),
              T.int IntKind.u8 (Int.ofNat (R.a j)), T.int IntKind.u8 (Int.ofNat (R.o j))])
          c] then
    bif weakF
      [T.bool b, T.own (0 : Nat) (0 : Nat) (0 : Nat) L.n none,
        T.int IntKind.i64 (IntKind.i64.wrap ((2 : Int) + IntKind.i64.wrap ((Int.ofNat u).tmod (15 : Int)))),
        T.int IntKind.i64 (0 : Int), T.int IntKind.i64 (0 : Int), T.int IntKind.i64 (0 : Int)]
      [Blk.mk (0 : Nat) (4 : Nat) L.n
          (fun j =>
            [T.int IntKind.i64 (L.tm j), T.int IntKind.i64 (L.du j), T.int IntKind.i64 (L.af j),
              T.int IntKind.u32 (L.on j)])
          true false]
      [T.bool b, T.own (0 : Nat) (0 : Nat) (0 : Nat) L.n none, T.int IntKind.i64 (Int.ofNat ((2 : Nat) + u % (15 : Nat))),
        T.int IntKind.i64 (0 : Int), T.int IntKind.i64 (0 : Int), T.int IntKind.i64 (0 : Int)]
      [Blk.mk (0 : Nat) (4 : Nat) L.n
          (fun j =>
            [T.int IntKind.i64 (L.tm j), T.int IntKind.i64 (L.du j), T.int IntKind.i64 (L.af j),
              T.int IntKind.u32 (L.on j)])
          true false] then
    bif propF p10
      [bif ((0 : Nat) + L.n).ble L.n then
          T.view (4 : Nat) L.n
            (fun j =>
              [T.int IntKind.i64 (L.tm ((0 : Nat) + j)), T.int IntKind.i64 (L.du ((0 : Nat) + j)),
                T.int IntKind.i64 (af2 ((0 : Nat) + j)), T.int IntKind.u32 (on2 ((0 : Nat) + j))])
            none
        else T.undef] then
    bif propF p16
      [bif ((0 : Nat) + L.n).ble L.n then
          T.view (4 : Nat) L.n
            (fun j =>
              [T.int IntKind.i64 (L.tm ((0 : Nat) + j)), T.int IntKind.i64 (L.du ((0 : Nat) + j)),
                T.int IntKind.i64 (af2 ((0 : Nat) + j)), T.int IntKind.u32 (on2 ((0 : Nat) + j))])
            none
        else T.undef,
        T.int IntKind.i64 (Int.ofNat ((2 : Nat) + u % (15 : Nat)))] then
    bif !decide (Int.ofNat L.n = Int.ofNat L.n) then
    some (T.bool false)
    else
    bif !decide (Int.ofNat L.n = Int.ofNat L.n) then
    some (T.bool false)
    else
    bif weakF
      [T.bool b, T.own (0 : Nat) (0 : Nat) (0 : Nat) L.n none, T.int IntKind.i64 (Int.ofNat ((2 : Nat) + u % (15 : Nat))),
        T.int IntKind.i64 t, T.int IntKind.i64 lg,
        T.view (1 : Nat) L.n (fun j => [T.int IntKind.i64 (Int.ofNat (o j))]) (some L.n),
        T.view (4 : Nat) L.n
          (fun j =>
            [T.int IntKind.i64 (Int.ofNat (o j)), T.int IntKind.i64 (y1 j), T.int IntKind.i64 (y2 j),
              T.int IntKind.i64 (y3 j)])
          (some L.n),
        T.ptr
          [Blk.mk (0 : Nat) (4 : Nat) L.n
                (fun j =>
                  [T.int IntKind.i64 (L.tm j), T.int IntKind.i64 (L.du j), T.int IntKind.i64 (af2 j),
                    T.int IntKind.u32 (on2 j)])
                true false].length
          (0 : Nat) (0 : Nat) (0 : Nat),
        T.int IntKind.i64 (0 : Int), T.int IntKind.i64 (0 : Int)]
      [Blk.mk (0 : Nat) (4 : Nat) L.n
          (fun j =>
            [T.int IntKind.i64 (L.tm j), T.int IntKind.i64 (L.du j), T.int IntKind.i64 (af2 j), T.int IntKind.u32 (on2 j)])
          true false,
        Blk.mk (0 : Nat) (1 : Nat) (16 : Nat) (fun x => [T.int IntKind.i64 (0 : Int)]) true false]
      [T.bool b, T.own (0 : Nat) (0 : Nat) (0 : Nat) L.n none, T.int IntKind.i64 (Int.ofNat ((2 : Nat) + u % (15 : Nat))),
        T.int IntKind.i64 t, T.int IntKind.i64 lg,
        T.view (1 : Nat) L.n (fun j => [T.int IntKind.i64 (Int.ofNat (o j))]) (some L.n),
        T.view (4 : Nat) L.n
          (fun j =>
            [T.int IntKind.i64 (Int.ofNat (o j)), T.int IntKind.i64 (y1 j), T.int IntKind.i64 (y2 j),
              T.int IntKind.i64 (y3 j)])
          (some L.n),
        T.ptr (1 : Nat) (0 : Nat) (0 : Nat) (0 : Nat), T.int IntKind.i64 (0 : Int), T.int IntKind.i64 (0 : Int)]
      [Blk.mk (0 : Nat) (4 : Nat) L.n
          (fun j =>
            [T.int IntKind.i64 (L.tm j), T.int IntKind.i64 (L.du j), T.int IntKind.i64 (af2 j), T.int IntKind.u32 (on2 j)])
          true false,
        Blk.mk (0 : Nat) (1 : Nat) (16 : Nat) (fun j => [T.int IntKind.i64 (0 : Int)]) true false] then
    bif b then
    bif decide
      (IntKind.i64.wrap (lst * Int.ofNat ((2 : Nat) + u % (15 : Nat))) ≤
        IntKind.i64.wrap (t + IntKind.i64.wrap (lg * Int.ofNat ((2 : Nat) + u % (15 : Nat))))) then
    bif propF p12 [] then
    some (T.bool true)
    else
    none
    else
    some (T.bool false)
    else
    bif propF p12 [] then
    some (T.bool true)
    else
    none
    else
    none
    else
    none
    else
    none
    else
    none
    else
    none) from by kernel_rfl) ?_
  rw [em15, show Nat.ble (0 + L.n) L.n = true from bleT (by omega)]
  simp only [Nat.zero_add, cond_true]
  refine bift (pred_yes e9 h9) ?_
  refine bift (weakF_of ⟨rfl, .refl _⟩) ?_
  refine bift (pred_yes e10 h10) ?_
  refine bift (pred_yes e16 h16) ?_
  refine biff (by simp) ?_
  refine biff (by simp) ?_
  refine bift (weakF_of ⟨rfl, .refl _⟩) ?_
  have b1 := mulB (m := 2 + u % 15) hlst hm.2
  have b2 := mulB (m := 2 + u % 15) hg hm.2
  cases b with
  | false => exact biff (by simp) (bift (pred_yes e12 livesT) rfl)
  | true =>
    refine bift rfl (bift (dT ?_) (bift (pred_yes e12 livesT) rfl))
    have h := hbound rfl
    rw [ofNatE]
    generalize lst * ((2 + u % 15 : Nat) : Int) = z1 at *
    generalize lg * ((2 + u % 15 : Nat) : Int) = z2 at *
    rw [wr64 (x := z1) (by omega) (by omega), wr64 (x := z2) (by omega) (by omega), wr64 (x := t + z2) (by omega) (by omega)]
    exact h
theorem totU_same (L L2 : JL) (h : L2.tm = L.tm) : ∀ i, totU L2 i = totU L i := by
  intro i
  induction i with
  | zero => rfl
  | succ i ih => simp only [totU, ih, h]
theorem mxU_same (L L2 : JL) (h : L2.tm = L.tm) : ∀ i, mxU L2 i = mxU L i := by
  intro i
  induction i with
  | zero => rfl
  | succ i ih => simp only [mxU, ih, h]
theorem law6z (R : JR) (c : Option Nat) (u : Nat) (b : Bool) (h0 : Nat.min R.n 40 = 0) : ToldOk P41 G41 6 [R.v c, .int .u8 u, .bool b] (.bool true) := by
  have h9 := listZ R c h0
  have hL : JL.Ok ⟨fun _ => 1, fun _ => 0, fun _ => 0, fun _ => 0, 0⟩ := ⟨(by decide), (fun j hj => by cases hj), (fun j hj => by cases hj), (fun j hj => by cases hj), (fun j hj => by cases hj)⟩
  have h10 := orderN ⟨fun _ => 1, fun _ => 0, fun _ => 0, fun _ => 0, 0⟩ none hL
  have h16 := PlanN ⟨fun _ => 1, fun _ => 0, fun _ => 0, fun _ => 0, 0⟩ none (2 + u % 15) hL (by omega) (fun i hi => by cases hi)
  have h10 : ToldOk P41 G41 10 [.nils] (.tup [.new (.view 1 0 (fun j => [.int .i64 (ordI ⟨fun _ => 1, fun _ => 0, fun _ => 0, fun _ => 0, 0⟩ j)]) (some 0)), .int .i64 0]) := h10.sim (.cons (.nilv _ _ (.inl rfl)) .nil)
  have h16 : ToldOk P41 G41 16 [.nils, .int .i64 (2 + u % 15 : Nat)] (.tup [.new (.view 4 0 (scells ⟨fun _ => 1, fun _ => 0, fun _ => 0, fun _ => 0, 0⟩ (oN ⟨fun _ => 1, fun _ => 0, fun _ => 0, fun _ => 0, 0⟩) (2 + u % 15)) (some 0)), .int .i64 0]) := h16.sim (.cons (.nilv _ _ (.inl rfl)) (.cons (.refl _) .nil))
  generalize (fun j => [T.int .i64 (ordI ⟨fun _ => 1, fun _ => 0, fun _ => 0, fun _ => 0, 0⟩ j)]) = go at *
  generalize scells ⟨fun _ => 1, fun _ => 0, fun _ => 0, fun _ => 0, 0⟩ (oN ⟨fun _ => 1, fun _ => 0, fun _ => 0, fun _ => 0, 0⟩) (2 + u % 15) = gs at *
  obtain ⟨p9, e9⟩ := told_pred P41 G41 9 .nils
  obtain ⟨p10, e10⟩ := told_pred P41 G41 10 (.tup [.new (.view 1 0 go (some 0)), .int .i64 0])
  obtain ⟨p16, e16⟩ := told_pred P41 G41 16 (.tup [.new (.view 4 0 gs (some 0)), .int .i64 0])
  obtain ⟨p12, e12⟩ := told_pred P41 G41 12 (.bool true)
  refine stepL_told hm41 hn41 (K := K6 p9 p10 p16 p12 .nils 0 go gs) (told_add (told_add (told_add (told_add none_ok (callP_told (told_predT e9))) (callP_told (told_predT e10))) (callP_told (told_predT e16))) (callP_told (told_predT e12))) (A := A41) (m := 1) (by kernel_rfl) loops0 ?_
  refine Eq.trans (show stepL P41 G41 A41 (K6 p9 p10 p16 p12 .nils 0 go gs) 1 6 [] [R.v c, .int .u8 u, .bool b] =
(    bif propF p9
      [T.view (4 : Nat) R.n
          (fun j =>
            [T.int IntKind.u8 (Int.ofNat (R.t j)), T.int IntKind.u8 (Int.ofNat (R.d j)),
              T.int IntKind.u8 (Int.ofNat (R.a j)), T.int IntKind.u8 (Int.ofNat (R.o j))])
          c] then
    bif propF p10 [T.nils] then
    bif propF p16
      [T.nils, T.int IntKind.i64 (IntKind.i64.wrap ((2 : Int) + IntKind.i64.wrap ((Int.ofNat u).tmod (15 : Int))))] then
    bif b then
    bif decide
      (IntKind.i64.wrap ((0 : Int) * IntKind.i64.wrap ((2 : Int) + IntKind.i64.wrap ((Int.ofNat u).tmod (15 : Int)))) ≤
        IntKind.i64.wrap
          ((0 : Int) +
            IntKind.i64.wrap
              ((0 : Int) * IntKind.i64.wrap ((2 : Int) + IntKind.i64.wrap ((Int.ofNat u).tmod (15 : Int)))))) then
    bif propF p12 [] then
    some (T.bool true)
    else
    none
    else
    some (T.bool false)
    else
    bif propF p12 [] then
    some (T.bool true)
    else
    none
    else
    none
    else
    none
    else
    none) from by kernel_rfl) ?_
  simp only [em15]
  refine bift (pred_yes e9 h9) ?_
  refine bift (pred_yes e10 h10) ?_
  refine bift (pred_yes e16 h16) ?_
  cases b with
  | false => exact biff (by simp) (bift (pred_yes e12 livesT) rfl)
  | true =>
    refine bift rfl (bift (dT ?_) (bift (pred_yes e12 livesT) rfl))
    simp only [Int.zero_mul, Int.zero_add]
    decide +kernel
theorem law6T (R : JR) (c : Option Nat) (hR : R.Ok) (u : Nat) (hu : u < 256) (b : Bool) : ToldOk P41 G41 6 [R.v c, .int .u8 u, .bool b] (.bool true) := by
  rcases Nat.eq_zero_or_pos (Nat.min R.n 40) with h0 | h0
  · exact law6z R c u b h0
  · have hm := min40 R.n
    have hL := R.lok hR _ hm
    have h9 := listF R c hR h0
    have hn : (R.L (Nat.min R.n 40)).n = Nat.min R.n 40 := rfl
    have hab : ∀ i, i < (R.L (Nat.min R.n 40)).n → 0 < (abL ((R.L (Nat.min R.n 40)).on i) (2 + u % 15)).length := fun i _ => abV (R.o i) _ (by omega)
    generalize R.L (Nat.min R.n 40) = L at *
    generalize Nat.min R.n 40 = n40 at *
    subst hn
    cases b with
    | false => exact law6p R c u false L L.af L.on hm h9 hL hab (l6not L hL _) fun h => by cases h
    | true =>
      have hz : ∀ j, j < L.n → (frU L L.n).af j = 0 ∧ (frU L L.n).on j = 0 := fun j hj => by
        show (bif Nat.blt j L.n then 0 else L.af j) = 0 ∧ (bif Nat.blt j L.n then 0 else L.on j) = 0
        rw [bltT hj]; exact ⟨rfl, rfl⟩
      have hL2 : JL.Ok ⟨L.tm, L.du, (frU L L.n).af, (frU L L.n).on, L.n⟩ := by
        refine ⟨hL.n, hL.tm, hL.du, fun j hj => ?_, fun j hj => ?_⟩
        · show _ ≤ (frU L L.n).af j ∧ (frU L L.n).af j ≤ _
          rw [(hz j hj).1]; omega
        · show _ ≤ (frU L L.n).on j ∧ (frU L L.n).on j ≤ _
          rw [(hz j hj).2]; omega
      refine law6p R c u true L (frU L L.n).af (frU L L.n).on hm h9 hL2 (fun i hi => ?_) ?_ fun _ => ⟨fun j hj => (hz j hj).1, fun j hj => (hz j hj).2⟩
      · rw [(hz i hi).2]
        exact abV 0 _ (by omega)
      · rw [totU_same L ⟨L.tm, L.du, (frU L L.n).af, (frU L L.n).on, L.n⟩ rfl, mxU_same L ⟨L.tm, L.du, (frU L L.n).af, (frU L L.n).on, L.n⟩ rfl]
        exact l6free L hL _
end Go.Ab

/- The laws' typed arguments. -/
namespace Go.Ab
open Go.Proofs
section
variable {Hp : Type}
theorem agg22 : aggTy P41 22 = false := by kernel_rfl
theorem agg23 : aggTy P41 23 = false := by kernel_rfl
theorem cells52 : P41.cellsOf 52 = 4 := by kernel_rfl
theorem cells5_41 : P41.cellsOf 5 = 1 := by kernel_rfl
def cN (l : List T) (k : Nat) : Nat := match l[k]? with | some (.int _ z) => z.toNat | _ => 0
theorem inv52 {ts : List T} {d : DataW Hp} (h : CT P41 52 ts d) : ∃ a b c e : Nat, ts = uJ a b c e ∧ a < 256 ∧ b < 256 ∧ c < 256 ∧ e < 256 := by
  obtain ⟨parts, ds, rfl, rfl, hs⟩ := CT.struct_inv Try.underlying52 h; clear h; rename _ => h
  change CTs P41 [5, 5, 5, 5] parts ds at h
  obtain ⟨p1, _, d1, _, rfl, rfl, h1, h⟩ := h.cons
  obtain ⟨p2, _, d2, _, rfl, rfl, h2, h⟩ := h.cons
  obtain ⟨p3, _, d3, _, rfl, rfl, h3, h⟩ := h.cons
  obtain ⟨p4, _, d4, _, rfl, rfl, h4, h⟩ := h.cons
  obtain ⟨rfl, rfl⟩ := h.nil
  obtain ⟨a, rfl, rfl, w1⟩ := h1.int_inv Try.underlying5
  obtain ⟨b, rfl, rfl, w2⟩ := h2.int_inv Try.underlying5
  obtain ⟨c, rfl, rfl, w3⟩ := h3.int_inv Try.underlying5
  obtain ⟨e, rfl, rfl, w4⟩ := h4.int_inv Try.underlying5
  have w1 := wf_u8 w1
  have w2 := wf_u8 w2
  have w3 := wf_u8 w3
  have w4 := wf_u8 w4
  refine ⟨a.toNat, b.toNat, c.toNat, e.toNat, ?_, by omega, by omega, by omega, by omega⟩
  unfold uJ
  rw [Int.toNat_of_nonneg w1.1, Int.toNat_of_nonneg w2.1, Int.toNat_of_nonneg w3.1, Int.toNat_of_nonneg w4.1]
  simp
theorem inv22 {ts : List T} {d : DataW Hp} (h : CT P41 22 ts d) : ∃ R : JR, R.Ok ∧ Sim (topT P41 22 ts) (R.v none) := by
  rcases h.slice_inv Try.underlying22 (by rw [cells52]; omega) with ⟨rfl, rfl⟩ | ⟨n, c, g, elems, spare, rfl, rfl, he, hs, hn, hc, hg⟩
  · refine ⟨⟨fun _ => 0, fun _ => 0, fun _ => 0, fun _ => 0, 0⟩, ⟨fun _ => Nat.zero_lt_succ 255, fun _ => Nat.zero_lt_succ 255, fun _ => Nat.zero_lt_succ 255, fun _ => Nat.zero_lt_succ 255⟩, ?_⟩
    rw [show topT P41 22 [.nils] = .nils by simp [topT, agg22]]
    exact .nilv _ _ (.inl rfl)
  · have key : ∀ j, j < n → ∃ a b c e : Nat, g j = uJ a b c e ∧ a < 256 ∧ b < 256 ∧ c < 256 ∧ e < 256 := fun j hj => inv52 (hg j elems[j] (by simp [show j < elems.length by omega]))
    have b : ∀ j k, (if j < n then cN (g j) k else 0) < 256 := fun j k => by
      split
      · rename_i hj
        obtain ⟨a, b, c, e, q, q1, q2, q3, q4⟩ := key j hj
        rw [q]
        unfold uJ cN
        match k with
        | 0 => simpa using q1
        | 1 => simpa using q2
        | 2 => simpa using q3
        | 3 => simpa using q4
        | k + 4 => simp
      · omega
    refine ⟨⟨fun j => if j < n then cN (g j) 0 else 0, fun j => if j < n then cN (g j) 1 else 0, fun j => if j < n then cN (g j) 2 else 0, fun j => if j < n then cN (g j) 3 else 0, n⟩, ⟨fun j => b j 0, fun j => b j 1, fun j => b j 2, fun j => b j 3⟩, ?_⟩
    have e : topT P41 22 [.view (P41.cellsOf 52) n g (some c)] = .view 4 n g (some c) := by simp [topT, agg22, cells52]
    rw [e]
    refine .view (.inr rfl) fun j hj => ?_
    obtain ⟨a, b, c, e, q, _⟩ := key j hj
    have e2 : g j = uJ (if j < n then cN (g j) 0 else 0) (if j < n then cN (g j) 1 else 0) (if j < n then cN (g j) 2 else 0) (if j < n then cN (g j) 3 else 0) := by
      rw [if_pos hj, if_pos hj, if_pos hj, if_pos hj, q]
      rfl
    show Sims (g j) (uJ _ _ _ _)
    rw [← e2]
    exact .refl _
theorem inv23 {ts : List T} {d : DataW Hp} (h : CT P41 23 ts d) : ∃ (n : Nat) (m : Nat → Nat), (∀ j, m j < 256) ∧ Sim (topT P41 23 ts) (.view 1 n (fun j => [.int .u8 (m j)]) none) := by
  rcases h.slice_inv Try.underlying23 (by rw [cells5_41]; omega) with ⟨rfl, rfl⟩ | ⟨n, c, g, elems, spare, rfl, rfl, he, hs, hn, hc, hg⟩
  · refine ⟨0, fun _ => 0, fun _ => Nat.zero_lt_succ 255, ?_⟩
    rw [show topT P41 23 [.nils] = .nils by simp [topT, agg23]]
    exact .nilv _ _ (.inl rfl)
  · have key : ∀ j, j < n → ∃ a : Nat, g j = [.int .u8 a] ∧ a < 256 := fun j hj => by
      obtain ⟨v, hv, _, w⟩ := (hg j elems[j] (by simp [show j < elems.length by omega])).int_inv Try.underlying5
      have w := wf_u8 w
      exact ⟨v.toNat, by rw [hv, Int.toNat_of_nonneg w.1], by omega⟩
    refine ⟨n, fun j => if j < n then cN (g j) 0 else 0, fun j => ?_, ?_⟩
    · dsimp only
      split
      · rename_i hj
        obtain ⟨a, q, q1⟩ := key j hj
        rw [q]
        simpa [cN] using q1
      · omega
    · have e : topT P41 23 [.view (P41.cellsOf 5) n g (some c)] = .view 1 n g (some c) := by simp [topT, agg23, cells5_41]
      rw [e]
      refine .view (.inr rfl) fun j hj => ?_
      obtain ⟨a, q, _⟩ := key j hj
      have e2 : g j = [.int .u8 (if j < n then cN (g j) 0 else 0 : Nat)] := by
        rw [if_pos hj, q]
        rfl
      show Sims (g j) [T.int .u8 _]
      rw [← e2]
      exact .refl _
end
end Go.Ab

