/- A part of the proof: nothing is assumed. -/
import Derived.Test.YtjjnbjkbgjgpoaaP10
set_option linter.all false
namespace Go.Ab
open Go.Proofs
noncomputable def A4 : FuncId → Ann := annWith A37 4 [(5, 58, false), (13, 98, true)]
theorem round_spec {a b : Int} (h : 1 ≤ b) : 2 * (b * roundF a b) ≤ 2 * a + b ∧ 2 * a + b < 2 * (b * roundF a b) + 2 * b := by
  unfold roundF
  have e := Int.mul_ediv_add_emod (2 * a + b) (2 * b)
  have r1 := Int.emod_nonneg (2 * a + b) (show (2 * b : Int) ≠ 0 by omega)
  have r2 := Int.emod_lt_of_pos (2 * a + b) (show (0 : Int) < 2 * b by omega)
  rw [Int.mul_assoc] at e
  omega
theorem roundF_nn {a b : Int} (h1 : 0 ≤ a) (h3 : 1 ≤ b) : 0 ≤ roundF a b := (roundF_bd h1 h3).1
theorem round_le {a b n : Int} (h : 1 ≤ b) (hn : 2 * a + b < 2 * (b * n) + 2 * b) (h0 : 0 ≤ a) : roundF a b ≤ n := by
  unfold roundF
  rw [← Int.lt_add_one_iff, Int.ediv_lt_iff_lt_mul (by omega)]
  have : (n + 1) * (2 * b) = 2 * (b * n) + 2 * b := by rw [Int.add_mul, Int.mul_comm n, Int.mul_assoc]; omega
  omega
theorem law4 (a b c : Int) (ha : 0 ≤ a ∧ a ≤ 65535) (hb : 0 ≤ b ∧ b ≤ 65535) (hc : 0 ≤ c ∧ c ≤ 65535) : stepV P37 G37 A4 K37b 0 4 [.int .u16 a, .int .u16 b, .int .u16 c] = some (.bool true) := by
  rw [(show stepV P37 G37 A4 K37b 0 4 [.int .u16 a, .int .u16 b, .int .u16 c] =
(    bif cntF (IntKind.i64.wrap ((1 : Int) + IntKind.i64.wrap (a.tmod (400 : Int))))
      (IntKind.i64.wrap
        ((IntKind.i64.wrap
              ((IntKind.i64.wrap b).tmod (20001 : Int) *
                IntKind.i64.wrap ((1 : Int) + IntKind.i64.wrap (a.tmod (400 : Int))))).tdiv
          (100 : Int)))
      (80000 : Int) then
    bif cntF (IntKind.i64.wrap ((1 : Int) + IntKind.i64.wrap (a.tmod (400 : Int))))
      (bif
          decide
            ((20000 : Int) <
              roundF
                ((100 : Int) *
                  IntKind.i64.wrap
                    ((IntKind.i64.wrap
                          ((IntKind.i64.wrap b).tmod (20001 : Int) *
                            IntKind.i64.wrap ((1 : Int) + IntKind.i64.wrap (a.tmod (400 : Int))))).tdiv
                      (100 : Int)))
                (IntKind.i64.wrap ((1 : Int) + IntKind.i64.wrap (a.tmod (400 : Int))))) then
        (20000 : Int)
      else
        roundF
          ((100 : Int) *
            IntKind.i64.wrap
              ((IntKind.i64.wrap
                    ((IntKind.i64.wrap b).tmod (20001 : Int) *
                      IntKind.i64.wrap ((1 : Int) + IntKind.i64.wrap (a.tmod (400 : Int))))).tdiv
                (100 : Int)))
          (IntKind.i64.wrap ((1 : Int) + IntKind.i64.wrap (a.tmod (400 : Int)))))
      (20000 : Int) then
    bif decide (IntKind.i64.wrap ((1 : Int) + IntKind.i64.wrap (a.tmod (400 : Int))) ≤ (100 : Int)) then
    bif decide
      (roundF
          ((100 : Int) *
            IntKind.i64.wrap
              ((IntKind.i64.wrap
                    ((IntKind.i64.wrap b).tmod (20001 : Int) *
                      IntKind.i64.wrap ((1 : Int) + IntKind.i64.wrap (a.tmod (400 : Int))))).tdiv
                (100 : Int)))
          (IntKind.i64.wrap ((1 : Int) + IntKind.i64.wrap (a.tmod (400 : Int)))) ≤
        (20000 : Int)) then
    bif !decide
        (roundF
            (IntKind.i64.wrap ((1 : Int) + IntKind.i64.wrap (a.tmod (400 : Int))) *
              bif
                  decide
                    ((20000 : Int) <
                      roundF
                        ((100 : Int) *
                          IntKind.i64.wrap
                            ((IntKind.i64.wrap
                                  ((IntKind.i64.wrap b).tmod (20001 : Int) *
                                    IntKind.i64.wrap ((1 : Int) + IntKind.i64.wrap (a.tmod (400 : Int))))).tdiv
                              (100 : Int)))
                        (IntKind.i64.wrap ((1 : Int) + IntKind.i64.wrap (a.tmod (400 : Int))))) then
                (20000 : Int)
              else
                roundF
                  ((100 : Int) *
                    IntKind.i64.wrap
                      ((IntKind.i64.wrap
                            ((IntKind.i64.wrap b).tmod (20001 : Int) *
                              IntKind.i64.wrap ((1 : Int) + IntKind.i64.wrap (a.tmod (400 : Int))))).tdiv
                        (100 : Int)))
                  (IntKind.i64.wrap ((1 : Int) + IntKind.i64.wrap (a.tmod (400 : Int)))))
            (100 : Int) =
          IntKind.i64.wrap
            ((IntKind.i64.wrap
                  ((IntKind.i64.wrap b).tmod (20001 : Int) *
                    IntKind.i64.wrap ((1 : Int) + IntKind.i64.wrap (a.tmod (400 : Int))))).tdiv
              (100 : Int))) then
    none
    else
    bif cntF (IntKind.i64.wrap ((1 : Int) + IntKind.i64.wrap (a.tmod (400 : Int))))
      ((IntKind.i64.wrap c).tmod (20001 : Int)) (20000 : Int) then
    bif cntF (IntKind.i64.wrap ((1 : Int) + IntKind.i64.wrap (a.tmod (400 : Int))))
      (roundF
        (IntKind.i64.wrap ((1 : Int) + IntKind.i64.wrap (a.tmod (400 : Int))) * (IntKind.i64.wrap c).tmod (20001 : Int))
        (100 : Int))
      (80000 : Int) then
    bif decide
      (IntKind.i64.wrap
          (roundF
              ((100 : Int) *
                roundF
                  (IntKind.i64.wrap ((1 : Int) + IntKind.i64.wrap (a.tmod (400 : Int))) *
                    (IntKind.i64.wrap c).tmod (20001 : Int))
                  (100 : Int))
              (IntKind.i64.wrap ((1 : Int) + IntKind.i64.wrap (a.tmod (400 : Int)))) -
            (IntKind.i64.wrap c).tmod (20001 : Int)) <
        (0 : Int)) then
    bif decide
      (IntKind.i64.wrap
          (IntKind.i64.wrap
              ((2 : Int) *
                IntKind.i64.wrap
                  ((0 : Int) -
                    IntKind.i64.wrap
                      (roundF
                          ((100 : Int) *
                            roundF
                              (IntKind.i64.wrap ((1 : Int) + IntKind.i64.wrap (a.tmod (400 : Int))) *
                                (IntKind.i64.wrap c).tmod (20001 : Int))
                              (100 : Int))
                          (IntKind.i64.wrap ((1 : Int) + IntKind.i64.wrap (a.tmod (400 : Int)))) -
                        (IntKind.i64.wrap c).tmod (20001 : Int)))) *
            IntKind.i64.wrap ((1 : Int) + IntKind.i64.wrap (a.tmod (400 : Int)))) ≤
        IntKind.i64.wrap ((100 : Int) + IntKind.i64.wrap ((1 : Int) + IntKind.i64.wrap (a.tmod (400 : Int))))) then
    some (T.bool true)
    else
    none
    else
    bif decide
      (IntKind.i64.wrap
          (IntKind.i64.wrap
              ((2 : Int) *
                IntKind.i64.wrap
                  (roundF
                      ((100 : Int) *
                        roundF
                          (IntKind.i64.wrap ((1 : Int) + IntKind.i64.wrap (a.tmod (400 : Int))) *
                            (IntKind.i64.wrap c).tmod (20001 : Int))
                          (100 : Int))
                      (IntKind.i64.wrap ((1 : Int) + IntKind.i64.wrap (a.tmod (400 : Int)))) -
                    (IntKind.i64.wrap c).tmod (20001 : Int))) *
            IntKind.i64.wrap ((1 : Int) + IntKind.i64.wrap (a.tmod (400 : Int)))) ≤
        IntKind.i64.wrap ((100 : Int) + IntKind.i64.wrap ((1 : Int) + IntKind.i64.wrap (a.tmod (400 : Int))))) then
    some (T.bool true)
    else
    none
    else
    bif decide (IntKind.i64.wrap ((0 : Int) - (IntKind.i64.wrap c).tmod (20001 : Int)) < (0 : Int)) then
    none
    else
    none
    else
    bif cntF (IntKind.i64.wrap ((1 : Int) + IntKind.i64.wrap (a.tmod (400 : Int)))) (0 : Int) (80000 : Int) then
    bif decide
      (IntKind.i64.wrap
          (roundF (0 : Int) (IntKind.i64.wrap ((1 : Int) + IntKind.i64.wrap (a.tmod (400 : Int)))) -
            (IntKind.i64.wrap c).tmod (20001 : Int)) <
        (0 : Int)) then
    none
    else
    none
    else
    bif decide (IntKind.i64.wrap ((0 : Int) - (IntKind.i64.wrap c).tmod (20001 : Int)) < (0 : Int)) then
    none
    else
    none
    else
    bif cntF (IntKind.i64.wrap ((1 : Int) + IntKind.i64.wrap (a.tmod (400 : Int))))
      ((IntKind.i64.wrap c).tmod (20001 : Int)) (20000 : Int) then
    bif cntF (IntKind.i64.wrap ((1 : Int) + IntKind.i64.wrap (a.tmod (400 : Int))))
      (roundF
        (IntKind.i64.wrap ((1 : Int) + IntKind.i64.wrap (a.tmod (400 : Int))) * (IntKind.i64.wrap c).tmod (20001 : Int))
        (100 : Int))
      (80000 : Int) then
    bif decide
      (IntKind.i64.wrap
          (roundF
              ((100 : Int) *
                roundF
                  (IntKind.i64.wrap ((1 : Int) + IntKind.i64.wrap (a.tmod (400 : Int))) *
                    (IntKind.i64.wrap c).tmod (20001 : Int))
                  (100 : Int))
              (IntKind.i64.wrap ((1 : Int) + IntKind.i64.wrap (a.tmod (400 : Int)))) -
            (IntKind.i64.wrap c).tmod (20001 : Int)) <
        (0 : Int)) then
    bif decide
      (IntKind.i64.wrap
          (IntKind.i64.wrap
              ((2 : Int) *
                IntKind.i64.wrap
                  ((0 : Int) -
                    IntKind.i64.wrap
                      (roundF
                          ((100 : Int) *
                            roundF
                              (IntKind.i64.wrap ((1 : Int) + IntKind.i64.wrap (a.tmod (400 : Int))) *
                                (IntKind.i64.wrap c).tmod (20001 : Int))
                              (100 : Int))
                          (IntKind.i64.wrap ((1 : Int) + IntKind.i64.wrap (a.tmod (400 : Int)))) -
                        (IntKind.i64.wrap c).tmod (20001 : Int)))) *
            IntKind.i64.wrap ((1 : Int) + IntKind.i64.wrap (a.tmod (400 : Int)))) ≤
        IntKind.i64.wrap ((100 : Int) + IntKind.i64.wrap ((1 : Int) + IntKind.i64.wrap (a.tmod (400 : Int))))) then
    some (T.bool true)
    else
    none
    else
    bif decide
      (IntKind.i64.wrap
          (IntKind.i64.wrap
              ((2 : Int) *
                IntKind.i64.wrap
                  (roundF
                      ((100 : Int) *
                        roundF
                          (IntKind.i64.wrap ((1 : Int) + IntKind.i64.wrap (a.tmod (400 : Int))) *
                            (IntKind.i64.wrap c).tmod (20001 : Int))
                          (100 : Int))
                      (IntKind.i64.wrap ((1 : Int) + IntKind.i64.wrap (a.tmod (400 : Int)))) -
                    (IntKind.i64.wrap c).tmod (20001 : Int))) *
            IntKind.i64.wrap ((1 : Int) + IntKind.i64.wrap (a.tmod (400 : Int)))) ≤
        IntKind.i64.wrap ((100 : Int) + IntKind.i64.wrap ((1 : Int) + IntKind.i64.wrap (a.tmod (400 : Int))))) then
    some (T.bool true)
    else
    none
    else
    bif decide (IntKind.i64.wrap ((0 : Int) - (IntKind.i64.wrap c).tmod (20001 : Int)) < (0 : Int)) then
    none
    else
    none
    else
    bif cntF (IntKind.i64.wrap ((1 : Int) + IntKind.i64.wrap (a.tmod (400 : Int)))) (0 : Int) (80000 : Int) then
    bif decide
      (IntKind.i64.wrap
          (roundF (0 : Int) (IntKind.i64.wrap ((1 : Int) + IntKind.i64.wrap (a.tmod (400 : Int)))) -
            (IntKind.i64.wrap c).tmod (20001 : Int)) <
        (0 : Int)) then
    none
    else
    none
    else
    bif decide (IntKind.i64.wrap ((0 : Int) - (IntKind.i64.wrap c).tmod (20001 : Int)) < (0 : Int)) then
    none
    else
    none
    else
    bif cntF (IntKind.i64.wrap ((1 : Int) + IntKind.i64.wrap (a.tmod (400 : Int))))
      ((IntKind.i64.wrap c).tmod (20001 : Int)) (20000 : Int) then
    bif cntF (IntKind.i64.wrap ((1 : Int) + IntKind.i64.wrap (a.tmod (400 : Int))))
      (roundF
        (IntKind.i64.wrap ((1 : Int) + IntKind.i64.wrap (a.tmod (400 : Int))) * (IntKind.i64.wrap c).tmod (20001 : Int))
        (100 : Int))
      (80000 : Int) then
    bif decide
      (IntKind.i64.wrap
          (roundF
              ((100 : Int) *
                roundF
                  (IntKind.i64.wrap ((1 : Int) + IntKind.i64.wrap (a.tmod (400 : Int))) *
                    (IntKind.i64.wrap c).tmod (20001 : Int))
                  (100 : Int))
              (IntKind.i64.wrap ((1 : Int) + IntKind.i64.wrap (a.tmod (400 : Int)))) -
            (IntKind.i64.wrap c).tmod (20001 : Int)) <
        (0 : Int)) then
    bif decide
      (IntKind.i64.wrap
          (IntKind.i64.wrap
              ((2 : Int) *
                IntKind.i64.wrap
                  ((0 : Int) -
                    IntKind.i64.wrap
                      (roundF
                          ((100 : Int) *
                            roundF
                              (IntKind.i64.wrap ((1 : Int) + IntKind.i64.wrap (a.tmod (400 : Int))) *
                                (IntKind.i64.wrap c).tmod (20001 : Int))
                              (100 : Int))
                          (IntKind.i64.wrap ((1 : Int) + IntKind.i64.wrap (a.tmod (400 : Int)))) -
                        (IntKind.i64.wrap c).tmod (20001 : Int)))) *
            IntKind.i64.wrap ((1 : Int) + IntKind.i64.wrap (a.tmod (400 : Int)))) ≤
        IntKind.i64.wrap ((100 : Int) + IntKind.i64.wrap ((1 : Int) + IntKind.i64.wrap (a.tmod (400 : Int))))) then
    some (T.bool true)
    else
    none
    else
    bif decide
      (IntKind.i64.wrap
          (IntKind.i64.wrap
              ((2 : Int) *
                IntKind.i64.wrap
                  (roundF
                      ((100 : Int) *
                        roundF
                          (IntKind.i64.wrap ((1 : Int) + IntKind.i64.wrap (a.tmod (400 : Int))) *
                            (IntKind.i64.wrap c).tmod (20001 : Int))
                          (100 : Int))
                      (IntKind.i64.wrap ((1 : Int) + IntKind.i64.wrap (a.tmod (400 : Int)))) -
                    (IntKind.i64.wrap c).tmod (20001 : Int))) *
            IntKind.i64.wrap ((1 : Int) + IntKind.i64.wrap (a.tmod (400 : Int)))) ≤
        IntKind.i64.wrap ((100 : Int) + IntKind.i64.wrap ((1 : Int) + IntKind.i64.wrap (a.tmod (400 : Int))))) then
    some (T.bool true)
    else
    none
    else
    bif decide (IntKind.i64.wrap ((0 : Int) - (IntKind.i64.wrap c).tmod (20001 : Int)) < (0 : Int)) then
    none
    else
    none
    else
    bif cntF (IntKind.i64.wrap ((1 : Int) + IntKind.i64.wrap (a.tmod (400 : Int)))) (0 : Int) (80000 : Int) then
    bif decide
      (IntKind.i64.wrap
          (roundF (0 : Int) (IntKind.i64.wrap ((1 : Int) + IntKind.i64.wrap (a.tmod (400 : Int)))) -
            (IntKind.i64.wrap c).tmod (20001 : Int)) <
        (0 : Int)) then
    none
    else
    none
    else
    bif decide (IntKind.i64.wrap ((0 : Int) - (IntKind.i64.wrap c).tmod (20001 : Int)) < (0 : Int)) then
    none
    else
    none
    else
    none
    else
    bif cntF (IntKind.i64.wrap ((1 : Int) + IntKind.i64.wrap (a.tmod (400 : Int)))) (0 : Int) (20000 : Int) then
    none
    else
    none) from by kernel_rfl)]
  have ea : IntKind.i64.wrap (1 + IntKind.i64.wrap (a.tmod 400)) = 1 + a % 400 := by
    rw [Int.tmod_eq_emod_of_nonneg ha.1, wr64 (x := a % 400) (by omega) (by omega), wr64 (by omega) (by omega)]
  have eb0 : (IntKind.i64.wrap b).tmod 20001 = b % 20001 := by rw [wr64 (by omega) (by omega), Int.tmod_eq_emod_of_nonneg hb.1]
  have ec0 : (IntKind.i64.wrap c).tmod 20001 = c % 20001 := by rw [wr64 (by omega) (by omega), Int.tmod_eq_emod_of_nonneg hc.1]
  rw [ea, eb0, ec0]
  generalize hp : 1 + a % 400 = p
  have hp1 : 1 ≤ p ∧ p ≤ 400 := by omega
  have hbp := mul_bd (p := b % 20001) (m := p) (a := 20000) (b := 400) (by omega) (by omega) (by omega) (by omega)
  have ek : IntKind.i64.wrap ((IntKind.i64.wrap (b % 20001 * p)).tdiv 100) = b % 20001 * p / 100 := by
    rw [wr64 (x := b % 20001 * p) (by omega) (by omega), Int.tdiv_eq_ediv_of_nonneg (by omega), wr64 (by omega) (by omega)]
  rw [ek]
  generalize hk : b % 20001 * p / 100 = k
  have hk1 : 0 ≤ k ∧ k ≤ 80000 := by omega
  generalize hm : c % 20001 = m
  have hm1 : 0 ≤ m ∧ m ≤ 20000 := by omega
  clear ea eb0 ec0 ek hbp
  have hl0 := roundF_nn (a := 100 * k) (b := p) (by omega) (by omega)
  have hl := round_spec (a := 100 * k) (b := p) (by omega)
  generalize roundF (100 * k) p = l at hl hl0 ⊢
  have hpl : 0 ≤ p * l := Int.mul_nonneg (by omega) hl0
  have f1 : p ≤ 100 → roundF (p * l) 100 = k := by
    intro h
    have e100 : p = 100 → p * l = 100 * l := fun h => by rw [h]
    unfold roundF
    have : (2 * (p * l) + 100) / (2 * 100) = k := by
      by_cases q : p = 100
      · have := e100 q; omega
      · omega
    exact this
  have hmm := mul_bd (p := p) (m := m) (a := 400) (b := 20000) (by omega) (by omega) (by omega) (by omega)
  have hc0 := roundF_nn (a := p * m) (b := 100) (by omega) (by omega)
  have hc1 := round_spec (a := p * m) (b := 100) (by omega)
  generalize roundF (p * m) 100 = n at hc0 hc1 ⊢
  have hb0 := roundF_nn (a := 100 * n) (b := p) (by omega) (by omega)
  have hb1 := round_spec (a := 100 * n) (b := p) (by omega)
  generalize roundF (100 * n) p = q at hb0 hb1 ⊢
  have e2 : p * (q - m) = p * q - p * m := by rw [Int.mul_sub]
  have hd : -500 ≤ q - m ∧ q - m ≤ 500 := by
    constructor
    · apply Int.not_lt.1
      intro h
      have : p * (q - m) ≤ 1 * (q - m) := by
        have := Int.mul_le_mul_of_nonpos_right (a := p) (b := 1) (c := q - m) (by omega) (by omega)
        omega
      omega
    · apply Int.not_lt.1
      intro h
      have : 1 * (q - m) ≤ p * (q - m) := Int.mul_le_mul_of_nonneg_right (by omega) (by omega)
      omega
  have e3 : (2 * (q - m)) * p = 2 * (p * q) - 2 * (p * m) := by rw [Int.mul_comm, Int.mul_comm 2, ← Int.mul_assoc, e2]; omega
  have e4 : (2 * (0 - (q - m))) * p = 2 * (p * m) - 2 * (p * q) := by
    have : 2 * (0 - (q - m)) = - (2 * (q - m)) := by omega
    rw [this, Int.neg_mul, e3]; omega
  rw [wr64 (x := q - m) (by omega) (by omega), wr64 (x := 0 - (q - m)) (by omega) (by omega), wr64 (x := 2 * (0 - (q - m))) (by omega) (by omega), wr64 (x := 2 * (q - m)) (by omega) (by omega), e3, e4, wr64 (x := 2 * (p * q) - 2 * (p * m)) (by omega) (by omega),
    wr64 (x := 2 * (p * m) - 2 * (p * q)) (by omega) (by omega), wr64 (x := 100 + p) (by omega) (by omega)]
  by_cases g : 20000 < l
  · simp only [dT g, cond_true]
    repeat' first
      | refine bifi cntF_iff (fun _ => ?_) (fun _ => ?_)
      | refine bifd (fun _ => ?_) (fun _ => ?_)
      | rfl
      | (refine bifc (fun _ => ?_) (fun _ => ?_))
    all_goals exfalso
    all_goals first | omega | simp_all
  · simp only [dF g, cond_false]
    repeat' first
      | refine bifi cntF_iff (fun _ => ?_) (fun _ => ?_)
      | refine bifd (fun _ => ?_) (fun _ => ?_)
      | rfl
      | (refine bifc (fun _ => ?_) (fun _ => ?_))
    all_goals exfalso
    all_goals first | omega | (have := f1 (by omega); simp_all)
end Go.Ab

