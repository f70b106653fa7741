/- A part of the proof: nothing is assumed. -/
import Derived.Test.YtjjnbjkbgjgpoaaP10
set_option linter.all false
namespace Go.Ab
open Go.Proofs
noncomputable def A4 : FuncId → Ann := annWith A37 4 [(5, 58, false), (13, 98, true)]
theorem round_spec {a b : Int} (h : 1 ≤ b) : 2 * (b * roundF a b) ≤ 2 * a + b ∧ 2 * a + b < 2 * (b * roundF a b) + 2 * b := by
  unfold roundF
  have e := Int.mul_ediv_add_emod (2 * a + b) (2 * b)
  have r1 := Int.emod_nonneg (2 * a + b) (show (2 * b : Int) ≠ 0 by omega)
  have r2 := Int.emod_lt_of_pos (2 * a + b) (show (0 : Int) < 2 * b by omega)
  rw [Int.mul_assoc] at e
  omega
theorem roundF_nn {a b : Int} (h1 : 0 ≤ a) (h3 : 1 ≤ b) : 0 ≤ roundF a b := (roundF_bd h1 h3).1
theorem round_le {a b n : Int} (h : 1 ≤ b) (hn : 2 * a + b < 2 * (b * n) + 2 * b) (h0 : 0 ≤ a) : roundF a b ≤ n := by
  unfold roundF
  rw [← Int.lt_add_one_iff, Int.ediv_lt_iff_lt_mul (by omega)]
  have : (n + 1) * (2 * b) = 2 * (b * n) + 2 * b := by rw [Int.add_mul, Int.mul_comm n, Int.mul_assoc]; omega
  omega
theorem law4 (a b c : Int) (ha : 0 ≤ a ∧ a ≤ 65535) (hb : 0 ≤ b ∧ b ≤ 65535) (hc : 0 ≤ c ∧ c ≤ 65535) : stepV P37 G37 A4 K37b 0 4 [.int .u16 a, .int .u16 b, .int .u16 c] = some (.bool true) := by
  rw [(show stepV P37 G37 A4 K37b 0 4 [.int .u16 a, .int .u16 b, .int .u16 c] =
(    bif cntF (IntKind.i64.wrap ((1 : Int) + IntKind.i64.wrap (a.tmod (400 : Int))))
      (IntKind.i64.wrap
        ((IntKind.i64.wrap
              ((IntKind.i64.wrap b).tmod (20001 : Int) *
                IntKind.i64.wrap ((1 : Int) + IntKind.i64.wrap (a.tmod (400 : Int))))).tdiv
          (100 : Int)))
      (80000 : Int) then
    bif cntF (IntKind.i64.wrap ((1 : Int) + IntKind.i64.wrap (a.tmod (400 : Int))))
      (bif
          decide
            ((20000 : Int) <
              roundF
                ((100 : Int) *
                  IntKind.i64.wrap
                    ((IntKind.i64.wrap
                          ((IntKind.i64.wrap b).tmod (20001 : Int) *
                            IntKind.i64.wrap ((1 : Int) + IntKind.i64.wrap (a.tmod (400 : Int))))).tdiv
                      (100 : Int)))
                (IntKind.i64.wrap ((1 : Int) + IntKind.i64.wrap (a.tmod (400 : Int))))) then
        (20000 : Int)
      else
        roundF
          ((100 : Int) *
            IntKind.i64.wrap
              ((IntKind.i64.wrap
                    ((IntKind.i64.wrap b).tmod (20001 : Int) *
                      IntKind.i64.wrap ((1 : Int) + IntKind.i64.wrap (a.tmod (400 : Int))))).tdiv
                (100 : Int)))
          (IntKind.i64.wrap ((1 : Int) + IntKind.i64.wrap (a.tmod (400 : Int)))))
      (20000 : Int) then
    bif decide (IntKind.i64.wrap ((1 : Int) + IntKind.i64.wrap (a.tmod (400 : Int))) ≤ (100 : Int)) then
    bif decide
      (roundF
          ((100 : Int) *
            IntKind.i64.wrap
              ((IntKind.i64.wrap
                    ((IntKind.i64.wrap b).tmod (20001 : Int) *
                      IntKind.i64.wrap ((1 : Int) + IntKind.i64.wrap (a.tmod (400 : Int))))).tdiv
                (100 : Int)))
          (IntKind.i64.wrap ((1 : Int) + IntKind.i64.wrap (a.tmod (400 : Int)))) ≤
        (20000 : Int)) then
    bif !decide
        (roundF
            (IntKind.i64.wrap ((1 : Int) + IntKind.i64.wrap (a.tmod (400 : Int))) *
              bif
                  decide
                    ((20000 : Int) <
                      roundF
                        ((100 : Int) *
                          IntKind.i64.wrap
                            ((IntKind.i64.wrap
                                  ((IntKind.i64.wrap b).tmod (20001 : Int) *
                                    IntKind.i64.wrap ((1 : Int) + IntKind.i64.wrap (a.tmod (400 : Int))))).tdiv
                              (100 : Int)))
                        (IntKind.i64.wrap ((1 : Int) + IntKind.i64.wrap (a.tmod (400 : Int))))) then
                (20000 : Int)
              else
                roundF
                  ((100 : Int) *
                    IntKind.i64.wrap
                      ((IntKind.i64.wrap
                            ((IntKind.i64.wrap b).tmod (20001 : Int) *
                              IntKind.i64.wrap ((1 : Int) + IntKind.i64.wrap (a.tmod (400 : Int))))).tdiv
                        (100 : Int)))
                  (IntKind.i64.wrap ((1 : Int) + IntKind.i64.wrap (a.tmod (400 : Int)))))
            (100 : Int) =
          IntKind.i64.wrap
            ((IntKind.i64.wrap
                  ((IntKind.i64.wrap b).tmod (20001 : Int) *
                    IntKind.i64.wrap ((1 : Int) + IntKind.i64.wrap (a.tmod (400 : Int))))).tdiv
              (100 : Int))) then
    none
    else
    bif cntF (IntKind.i64.wrap ((1 : Int) + IntKind.i64.wrap (a.tmod (400 : Int))))
      ((IntKind.i64.wrap c).tmod (20001 : Int)) (20000 : Int) then
    bif cntF (IntKind.i64.wrap ((1 : Int) + IntKind.i64.wrap (a.tmod (400 : Int))))
      (roundF
        (IntKind.i64.wrap ((1 : Int) + IntKind.i64.wrap (a.tmod (400 : Int))) * (IntKind.i64.wrap c).tmod (20001 : Int))
        (100 : Int))
      (80000 : Int) then
    bif decide
      (IntKind.i64.wrap
          (roundF
              ((100 : Int) *
                roundF
                  (IntKind.i64.wrap ((1 : Int) + IntKind.i64.wrap (a.tmod (400 : Int))) *
                    (IntKind.i64.wrap c).tmod (20001 : Int))
                  (100 : Int))
              (IntKind.i64.wrap ((1 : Int) + IntKind.i64.wrap (a.tmod (400 : Int)))) -
            (IntKind.i64.wrap c).tmod (20001 : Int)) <
        (0 : Int)) then
    bif decide
      (IntKind.i64.wrap
          (IntKind.i64.wrap
              ((2 : Int) *
                IntKind.i64.wrap
                  ((0 : Int) -
                    IntKind.i64.wrap
                      (roundF
                          ((100 : Int) *
                            roundF
                              (IntKind.i64.wrap ((1 : Int) + IntKind.i64.wrap (a.tmod (400 : Int))) *
                                (IntKind.i64.wrap c).tmod (20001 : Int))
                              (100 : Int))
                          (IntKind.i64.wrap ((1 : Int) + IntKind.i64.wrap (a.tmod (400 : Int)))) -
                        (IntKind.i64.wrap c).tmod (20001 : Int)))) *
            IntKind.i64.wrap ((1 : Int) + IntKind.i64.wrap (a.tmod (400 : Int)))) ≤
        IntKind.i64.wrap ((100 : Int) + IntKind.i64.wrap ((1 : Int) + IntKind.i64.wrap (a.tmod (400 : Int))))) then
    some (T.bool true)
    else
    none
    else
    bif decide
      (IntKind.i64.wrap
          (IntKind.i64.wrap
              ((2 : Int) *
                IntKind.i64.wrap
                  (roundF
                      ((100 : Int) *
                        roundF
                          (IntKind.i64.wrap ((1 : Int) + IntKind.i64.wrap (a.tmod (400 : Int))) *
                            (IntKind.i64.wrap c).tmod (20001 : Int))
                          (100 : Int))
                      (IntKind.i64.wrap ((1 : Int) + IntKind.i64.wrap (a.tmod (400 : Int)))) -
                    (IntKind.i64.wrap c).tmod (20001 : Int))) *
            IntKind.i64.wrap ((1 : Int) + IntKind.i64.wrap (a.tmod (400 : Int)))) ≤
        IntKind.i64.wrap ((100 : Int) + IntKind.i64.wrap ((1 : Int) + IntKind.i64.wrap (a.tmod (400 : Int))))) then
    some (T.bool true)
    else
    none
    else
    bif decide (IntKind.i64.wrap ((0 : Int) - (IntKind.i64.wrap c).tmod (20001 : Int)) < (0 : Int)) then
    none
    else
    none
    else
    bif cntF (IntKind.i64.wrap ((1 : Int) + IntKind.i64.wrap (a.tmod (400 : Int)))) (0 : Int) (80000 : Int) then
    bif decide
      (IntKind.i64.wrap
          (roundF (0 : Int) (IntKind.i64.wrap ((1 : Int) + IntKind.i64.wrap (a.tmod (400 : Int)))) -
            (IntKind.i64.wrap c).tmod (20001 : Int)) <
        (0 : Int)) then
    none
    else
    none
    else
    bif decide (IntKind.i64.wrap ((0 : Int) - (IntKind.i64.wrap c).tmod (20001 : Int)) < (0 : Int)) then
    none
    else
    none
    else
    bif cntF (IntKind.i64.wrap ((1 : Int) + IntKind.i64.wrap (a.tmod (400 : Int))))
      ((IntKind.i64.wrap c).tmod (20001 : Int)) (20000 : Int) then
    bif cntF (IntKind.i64.wrap ((1 : Int) + IntKind.i64.wrap (a.tmod (400 : Int))))
      (roundF
        (IntKind.i64.wrap ((1 : Int) + IntKind.i64.wrap (a.tmod (400 : Int))) * (IntKind.i64.wrap c).tmod (20001 : Int))
        (100 : Int))
      (80000 : Int) then
    bif decide
      (IntKind.i64.wrap
          (roundF
              ((100 : Int) *
                roundF
                  (IntKind.i64.wrap ((1 : Int) + IntKind.i64.wrap (a.tmod (400 : Int))) *
                    (IntKind.i64.wrap c).tmod (20001 : Int))
                  (100 : Int))
              (IntKind.i64.wrap ((1 : Int) + IntKind.i64.wrap (a.tmod (400 : Int)))) -
            (IntKind.i64.wrap c).tmod (20001 : Int)) <
        (0 : Int)) then
    bif decide
      (IntKind.i64.wrap
          (IntKind.i64.wrap
              ((2 : Int) *
                IntKind.i64.wrap
                  ((0 : Int) -
                    IntKind.i64.wrap
                      (roundF
                          ((100 : Int) *
                            roundF
                              (IntKind.i64.wrap ((1 : Int) + IntKind.i64.wrap (a.tmod (400 : Int))) *
                                (IntKind.i64.wrap c).tmod (20001 : Int))
                              (100 : Int))
                          (IntKind.i64.wrap ((1 : Int) + IntKind.i64.wrap (a.tmod (400 : Int)))) -
                        (IntKind.i64.wrap c).tmod (20001 : Int)))) *
            IntKind.i64.wrap ((1 : Int) + IntKind.i64.wrap (a.tmod (400 : Int)))) ≤
        IntKind.i64.wrap ((100 : Int) + IntKind.i64.wrap ((1 : Int) + IntKind.i64.wrap (a.tmod (400 : Int))))) then
    some (T.bool true)
    else
    none
    else
    bif decide
      (IntKind.i64.wrap
          (IntKind.i64.wrap
              ((2 : Int) *
                IntKind.i64.wrap
                  (roundF
                      ((100 : Int) *
                        roundF
                          (IntKind.i64.wrap ((1 : Int) + IntKind.i64.wrap (a.tmod (400 : Int))) *
                            (IntKind.i64.wrap c).tmod (20001 : Int))
                          (100 : Int))
                      (IntKind.i64.wrap ((1 : Int) + IntKind.i64.wrap (a.tmod (400 : Int)))) -
                    (IntKind.i64.wrap c).tmod (20001 : Int))) *
            IntKind.i64.wrap ((1 : Int) + IntKind.i64.wrap (a.tmod (400 : Int)))) ≤
        IntKind.i64.wrap ((100 : Int) + IntKind.i64.wrap ((1 : Int) + IntKind.i64.wrap (a.tmod (400 : Int))))) then
    some (T.bool true)
    else
    none
    else
    bif decide (IntKind.i64.wrap ((0 : Int) - (IntKind.i64.wrap c).tmod (20001 : Int)) < (0 : Int)) then
    none
    else
    none
    else
    bif cntF (IntKind.i64.wrap ((1 : Int) + IntKind.i64.wrap (a.tmod (400 : Int)))) (0 : Int) (80000 : Int) then
    bif decide
      (IntKind.i64.wrap
          (roundF (0 : Int) (IntKind.i64.wrap ((1 : Int) + IntKind.i64.wrap (a.tmod (400 : Int)))) -
            (IntKind.i64.wrap c).tmod (20001 : Int)) <
        (0 : Int)) then
    none
    else
    none
    else
    bif decide (IntKind.i64.wrap ((0 : Int) - (IntKind.i64.wrap c).tmod (20001 : Int)) < (0 : Int)) then
    none
    else
    none
    else
    bif cntF (IntKind.i64.wrap ((1 : Int) + IntKind.i64.wrap (a.tmod (400 : Int))))
      ((IntKind.i64.wrap c).tmod (20001 : Int)) (20000 : Int) then
    bif cntF (IntKind.i64.wrap ((1 : Int) + IntKind.i64.wrap (a.tmod (400 : Int))))
      (roundF
        (IntKind.i64.wrap ((1 : Int) + IntKind.i64.wrap (a.tmod (400 : Int))) * (IntKind.i64.wrap c).tmod (20001 : Int))
        (100 : Int))
      (80000 : Int) then
    bif decide
      (IntKind.i64.wrap
          (roundF
              ((100 : Int) *
                roundF
                  (IntKind.i64.wrap ((1 : Int) + IntKind.i64.wrap (a.tmod (400 : Int))) *
                    (IntKind.i64.wrap c).tmod (20001 : Int))
                  (100 : Int))
              (IntKind.i64.wrap ((1 : Int) + IntKind.i64.wrap (a.tmod (400 : Int)))) -
            (IntKind.i64.wrap c).tmod (20001 : Int)) <
        (0 : Int)) then
    bif decide
      (IntKind.i64.wrap
          (IntKind.i64.wrap
              ((2 : Int) *
                IntKind.i64.wrap
                  ((0 : Int) -
                    IntKind.i64.wrap
                      (roundF
                          ((100 : Int) *
                            roundF
                              (IntKind.i64.wrap ((1 : Int) + IntKind.i64.wrap (a.tmod (400 : Int))) *
                                (IntKind.i64.wrap c).tmod (20001 : Int))
                              (100 : Int))
                          (IntKind.i64.wrap ((1 : Int) + IntKind.i64.wrap (a.tmod (400 : Int)))) -
                        (IntKind.i64.wrap c).tmod (20001 : Int)))) *
            IntKind.i64.wrap ((1 : Int) + IntKind.i64.wrap (a.tmod (400 : Int)))) ≤
        IntKind.i64.wrap ((100 : Int) + IntKind.i64.wrap ((1 : Int) + IntKind.i64.wrap (a.tmod (400 : Int))))) then
    some (T.bool true)
    else
    none
    else
    bif decide
      (IntKind.i64.wrap
          (IntKind.i64.wrap
              ((2 : Int) *
                IntKind.i64.wrap
                  (roundF
                      ((100 : Int) *
                        roundF
                          (IntKind.i64.wrap ((1 : Int) + IntKind.i64.wrap (a.tmod (400 : Int))) *
                            (IntKind.i64.wrap c).tmod (20001 : Int))
                          (100 : Int))
                      (IntKind.i64.wrap ((1 : Int) + IntKind.i64.wrap (a.tmod (400 : Int)))) -
                    (IntKind.i64.wrap c).tmod (20001 : Int))) *
            IntKind.i64.wrap ((1 : Int) + IntKind.i64.wrap (a.tmod (400 : Int)))) ≤
        IntKind.i64.wrap ((100 : Int) + IntKind.i64.wrap ((1 : Int) + IntKind.i64.wrap (a.tmod (400 : Int))))) then
    some (T.bool true)
    else
    none
    else
    bif decide (IntKind.i64.wrap ((0 : Int) - (IntKind.i64.wrap c).tmod (20001 : Int)) < (0 : Int)) then
    none
    else
    none
    else
    bif cntF (IntKind.i64.wrap ((1 : Int) + IntKind.i64.wrap (a.tmod (400 : Int)))) (0 : Int) (80000 : Int) then
    bif decide
      (IntKind.i64.wrap
          (roundF (0 : Int) (IntKind.i64.wrap ((1 : Int) + IntKind.i64.wrap (a.tmod (400 : Int)))) -
            (IntKind.i64.wrap c).tmod (20001 : Int)) <
        (0 : Int)) then
    none
    else
    none
    else
    bif decide (IntKind.i64.wrap ((0 : Int) - (IntKind.i64.wrap c).tmod (20001 : Int)) < (0 : Int)) then
    none
    else
    none
    else
    none
    else
    bif cntF (IntKind.i64.wrap ((1 : Int) + IntKind.i64.wrap (a.tmod (400 : Int)))) (0 : Int) (20000 : Int) then
    none
    else
    none) from by kernel_rfl)]
  have ea : IntKind.i64.wrap (1 + IntKind.i64.wrap (a.tmod 400)) = 1 + a % 400 := by
    rw [Int.tmod_eq_emod_of_nonneg ha.1, wr64 (x := a % 400) (by omega) (by omega), wr64 (by omega) (by omega)]
  have eb0 : (IntKind.i64.wrap b).tmod 20001 = b % 20001 := by rw [wr64 (by omega) (by omega), Int.tmod_eq_emod_of_nonneg hb.1]
  have ec0 : (IntKind.i64.wrap c).tmod 20001 = c % 20001 := by rw [wr64 (by omega) (by omega), Int.tmod_eq_emod_of_nonneg hc.1]
  rw [ea, eb0, ec0]
  generalize hp : 1 + a % 400 = p
  have hp1 : 1 ≤ p ∧ p ≤ 400 := by omega
  have hbp := mul_bd (p := b % 20001) (m := p) (a := 20000) (b := 400) (by omega) (by omega) (by omega) (by omega)
  have ek : IntKind.i64.wrap ((IntKind.i64.wrap (b % 20001 * p)).tdiv 100) = b % 20001 * p / 100 := by
    rw [wr64 (x := b % 20001 * p) (by omega) (by omega), Int.tdiv_eq_ediv_of_nonneg (by omega), wr64 (by omega) (by omega)]
  rw [ek]
  generalize hk : b % 20001 * p / 100 = k
  have hk1 : 0 ≤ k ∧ k ≤ 80000 := by omega
  generalize hm : c % 20001 = m
  have hm1 : 0 ≤ m ∧ m ≤ 20000 := by omega
  clear ea eb0 ec0 ek hbp
  have hl0 := roundF_nn (a := 100 * k) (b := p) (by omega) (by omega)
  have hl := round_spec (a := 100 * k) (b := p) (by omega)
  generalize roundF (100 * k) p = l at hl hl0 ⊢
  have hpl : 0 ≤ p * l := Int.mul_nonneg (by omega) hl0
  have f1 : p ≤ 100 → roundF (p * l) 100 = k := by
    intro h
    have e100 : p = 100 → p * l = 100 * l := fun h => by rw [h]
    unfold roundF
    have : (2 * (p * l) + 100) / (2 * 100) = k := by
      by_cases q : p = 100
      · have := e100 q; omega
      · omega
    exact this
  have hmm := mul_bd (p := p) (m := m) (a := 400) (b := 20000) (by omega) (by omega) (by omega) (by omega)
  have hc0 := roundF_nn (a := p * m) (b := 100) (by omega) (by omega)
  have hc1 := round_spec (a := p * m) (b := 100) (by omega)
  generalize roundF (p * m) 100 = n at hc0 hc1 ⊢
  have hb0 := roundF_nn (a := 100 * n) (b := p) (by omega) (by omega)
  have hb1 := round_spec (a := 100 * n) (b := p) (by omega)
  generalize roundF (100 * n) p = q at hb0 hb1 ⊢
  have e2 : p * (q - m) = p * q - p * m := by rw [Int.mul_sub]
  have hd : -500 ≤ q - m ∧ q - m ≤ 500 := by
    constructor
    · apply Int.not_lt.1
      intro h
      have : p * (q - m) ≤ 1 * (q - m) := by
        have := Int.mul_le_mul_of_nonpos_right (a := p) (b := 1) (c := q - m) (by omega) (by omega)
        omega
      omega
    · apply Int.not_lt.1
      intro h
      have : 1 * (q - m) ≤ p * (q - m) := Int.mul_le_mul_of_nonneg_right (by omega) (by omega)
      omega
  have e3 : (2 * (q - m)) * p = 2 * (p * q) - 2 * (p * m) := by rw [Int.mul_comm, Int.mul_comm 2, ← Int.mul_assoc, e2]; omega
  have e4 : (2 * (0 - (q - m))) * p = 2 * (p * m) - 2 * (p * q) := by
    have : 2 * (0 - (q - m)) = - (2 * (q - m)) := by omega
    rw [this, Int.neg_mul, e3]; omega
  rw [wr64 (x := q - m) (by omega) (by omega), wr64 (x := 0 - (q - m)) (by omega) (by omega), wr64 (x := 2 * (0 - (q - m))) (by omega) (by omega), wr64 (x := 2 * (q - m)) (by omega) (by omega), e3, e4, wr64 (x := 2 * (p * q) - 2 * (p * m)) (by omega) (by omega),
    wr64 (x := 2 * (p * m) - 2 * (p * q)) (by omega) (by omega), wr64 (x := 100 + p) (by omega) (by omega)]
  by_cases g : 20000 < l
  · simp only [dT g, cond_true]
    repeat' first
      | refine bifi cntF_iff (fun _ => ?_) (fun _ => ?_)
      | refine bifd (fun _ => ?_) (fun _ => ?_)
      | rfl
      | (refine bifc (fun _ => ?_) (fun _ => ?_))
    all_goals exfalso
    all_goals first | omega | simp_all
  · simp only [dF g, cond_false]
    repeat' first
      | refine bifi cntF_iff (fun _ => ?_) (fun _ => ?_)
      | refine bifd (fun _ => ?_) (fun _ => ?_)
      | rfl
      | (refine bifc (fun _ => ?_) (fun _ => ?_))
    all_goals exfalso
    all_goals first | omega | (have := f1 (by omega); simp_all)
end Go.Ab

namespace Go.Ab
open Go.Proofs
noncomputable def A5 : FuncId → Ann := annWith A37 5 [(12, 110, false)]
def spVF (t p : Int) (j : Nat) : Int := if 0 + j < p.toNat then sumS p t (0 + j + 1) - sumS p t (0 + j) else 0
def spB (t p : Int) : Blk := ⟨0, 1, p.toNat, fun j => [.int .i64 (spVF t p j)], true, false⟩
theorem spVF_eq {t p : Int} {j : Nat} (h : j < p.toNat) : spVF t p j = sumS p t (j + 1) - sumS p t j := by simp [spVF, h]
def smF (t p f o : Int) (i : Nat) : Int := if f < o then sumS p t (min i o.toNat) - sumS p t (min i f.toNat) else 0
def vs5 (t p f o : Int) (i : Nat) : List T := [.int .i64 t, .int .i64 p, .own 0 0 0 p.toNat (some p.toNat), .int .i64 f, .int .i64 o, .int .i64 (sumS p t i), .int .i64 (smF t p f o i), .int .i64 i]
noncomputable def g5F (t p f o : Int) (n : Nat) (c : Option Nat) (h : Heap) : Bool := spOkF t p && (decide (0 ≤ f) && (decide (f ≤ p) && (decide (0 ≤ o) && (decide (o ≤ p) && (decide (n = p.toNat) && (decide (c = some p.toNat) && sameF h [spB t p]))))))
noncomputable def spec5 (vs : List T) (h : Heap) : LT := match vs with
  | [.int .i64 t, .int .i64 p, .own 0 0 0 n c, .int .i64 f, .int .i64 o, .int .i64 0, .int .i64 0, .int .i64 0] => .ite (g5F t p f o n c h) (.ret (.exit 0) [.int .i64 t, .int .i64 p, .undef, .int .i64 f, .int .i64 o, .int .i64 (smF t p f o p.toNat)] [spB t p]) .none
  | _ => .none
theorem sumS_sp {t p : Int} (hp : 1 ≤ p) (i : Nat) : p * sumS p t i ≤ i * t ∧ i * t < p * sumS p t i + p := by
  unfold sumS
  have e := Int.mul_ediv_add_emod (i * t) p
  have r1 := Int.emod_nonneg (i * t) (show p ≠ 0 by omega)
  have r2 := Int.emod_lt_of_pos (i * t) (show 0 < p by omega)
  omega
theorem part_bd {t p : Int} (hp : 1 ≤ p) (_ht : 0 ≤ t) (i : Nat) : t / p ≤ sumS p t (i + 1) - sumS p t i ∧ sumS p t (i + 1) - sumS p t i ≤ t / p + 1 := by
  have e := Int.mul_ediv_add_emod t p
  have r1 := Int.emod_nonneg t (show p ≠ 0 by omega)
  have r2 := Int.emod_lt_of_pos t (show 0 < p by omega)
  obtain ⟨a1, a2⟩ := sumS_sp (t := t) hp i
  obtain ⟨b1, b2⟩ := sumS_sp (t := t) hp (i + 1)
  have e1 : ((i + 1 : Nat) : Int) * t = i * t + t := by rw [Int.natCast_add, Int.add_mul]; simp
  rw [e1] at b1 b2
  generalize sumS p t (i + 1) = y at *
  generalize sumS p t i = x at *
  generalize t / p = q at *
  have k1 : p * (y - x - q) = p * y - p * x - p * q := by rw [Int.mul_sub, Int.mul_sub]
  constructor
  · apply Int.not_lt.1
    intro h
    have : p * (y - x - q) ≤ p * (-1) := Int.mul_le_mul_of_nonneg_left (by omega) (by omega)
    omega
  · apply Int.not_lt.1
    intro h
    have : p * 2 ≤ p * (y - x - q) := Int.mul_le_mul_of_nonneg_left (by omega) (by omega)
    omega
theorem r5 (t p f o : Int) (h1 : 1 ≤ p) (h2 : p ≤ 400) (h3 : 0 ≤ t) (h4 : t ≤ 80000) (hf : 0 ≤ f) (_hf' : f ≤ p) (_ho : 0 ≤ o) (_ho' : o ≤ p) (i : Nat) (hi : i < p.toNat) :
    iterR P37 G37 A5 K37b 0 5 [] 9 (vs5 t p f o i) [spB t p] = some (.normal, vs5 t p f o (i + 1), [spB t p]) := by
  unfold vs5
  generalize hs : sumS p t i = s
  generalize hm : smF t p f o i = m
  rw [(show iterR P37 G37 A5 K37b 0 5 [] 9 [.int .i64 t, .int .i64 p, .own 0 0 0 p.toNat (some p.toNat), .int .i64 f, .int .i64 o, .int .i64 s, .int .i64 m, .int .i64 i] [spB t p] =
(    bif decide (Int.ofNat i < p) then
    bif decide ((0 : Int) ≤ Int.ofNat i) && decide (Int.ofNat i < Int.ofNat p.toNat) then
    bif ((0 : Nat) + i).blt p.toNat then
    bif decide (p = (0 : Int)) then
    none
    else
    bif !decide
        (IntKind.i64.wrap (s + spVF t p ((0 : Nat) + i)) =
          IntKind.i64.wrap ((IntKind.i64.wrap (IntKind.i64.wrap (Int.ofNat i + (1 : Int)) * t)).tdiv p)) then
    none
    else
    bif decide ((0 : Int) ≤ Int.ofNat i) && decide (Int.ofNat i < Int.ofNat p.toNat) then
    bif ((0 : Nat) + i).blt p.toNat then
    bif decide (p = (0 : Int)) then
    none
    else
    bif decide (spVF t p ((0 : Nat) + i) < IntKind.i64.wrap (t.tdiv p)) then
    none
    else
    bif decide ((0 : Int) ≤ Int.ofNat i) && decide (Int.ofNat i < Int.ofNat p.toNat) then
    bif ((0 : Nat) + i).blt p.toNat then
    bif decide (p = (0 : Int)) then
    none
    else
    bif decide (IntKind.i64.wrap (IntKind.i64.wrap (t.tdiv p) + (1 : Int)) < spVF t p ((0 : Nat) + i)) then
    none
    else
    bif decide (f ≤ Int.ofNat i) then
    bif decide (Int.ofNat i < o) then
    bif decide ((0 : Int) ≤ Int.ofNat i) && decide (Int.ofNat i < Int.ofNat p.toNat) then
    bif ((0 : Nat) + i).blt p.toNat then
    some ((Ex.normal,
      [T.int IntKind.i64 t, T.int IntKind.i64 p, T.own (0 : Nat) (0 : Nat) (0 : Nat) p.toNat (some p.toNat),
        T.int IntKind.i64 f, T.int IntKind.i64 o, T.int IntKind.i64 (IntKind.i64.wrap (s + spVF t p ((0 : Nat) + i))),
        T.int IntKind.i64 (IntKind.i64.wrap (m + spVF t p ((0 : Nat) + i))),
        T.int IntKind.i64 (IntKind.i64.wrap (Int.ofNat i + (1 : Int)))],
      [Blk.mk (0 : Nat) (1 : Nat) p.toNat (fun j => [T.int IntKind.i64 (spVF t p j)]) true false]))
    else
    none
    else
    none
    else
    some ((Ex.normal,
      [T.int IntKind.i64 t, T.int IntKind.i64 p, T.own (0 : Nat) (0 : Nat) (0 : Nat) p.toNat (some p.toNat),
        T.int IntKind.i64 f, T.int IntKind.i64 o, T.int IntKind.i64 (IntKind.i64.wrap (s + spVF t p ((0 : Nat) + i))),
        T.int IntKind.i64 m, T.int IntKind.i64 (IntKind.i64.wrap (Int.ofNat i + (1 : Int)))],
      [Blk.mk (0 : Nat) (1 : Nat) p.toNat (fun j => [T.int IntKind.i64 (spVF t p j)]) true false]))
    else
    some ((Ex.normal,
      [T.int IntKind.i64 t, T.int IntKind.i64 p, T.own (0 : Nat) (0 : Nat) (0 : Nat) p.toNat (some p.toNat),
        T.int IntKind.i64 f, T.int IntKind.i64 o, T.int IntKind.i64 (IntKind.i64.wrap (s + spVF t p ((0 : Nat) + i))),
        T.int IntKind.i64 m, T.int IntKind.i64 (IntKind.i64.wrap (Int.ofNat i + (1 : Int)))],
      [Blk.mk (0 : Nat) (1 : Nat) p.toNat (fun j => [T.int IntKind.i64 (spVF t p j)]) true false]))
    else
    none
    else
    none
    else
    none
    else
    none
    else
    none
    else
    none
    else
    some ((Ex.exit (0 : Nat),
      [T.int IntKind.i64 t, T.int IntKind.i64 p, T.undef, T.int IntKind.i64 f, T.int IntKind.i64 o, T.int IntKind.i64 m],
      [Blk.mk (0 : Nat) (1 : Nat) p.toNat (fun j => [T.int IntKind.i64 (spVF t p j)]) true false]))) from by kernel_rfl)]
  have ei : (Int.ofNat i).toNat = i := rfl
  have eo : (Int.ofNat i : Int) = (i : Int) := rfl
  have ep : (Int.ofNat p.toNat : Int) = p := by show ((p.toNat : Nat) : Int) = p; omega
  have a1 := sumS_mono p t h1 h3 i
  have a2 := sumS_le p t h1 h3 (i + 1) (by omega)
  have a3 := part_bd h1 h3 (t := t) (p := p) i
  have b1 : 0 ≤ ((i : Int) + 1) * t := Int.mul_nonneg (by omega) h3
  have b2 : ((i : Int) + 1) * t ≤ 400 * 80000 := Int.mul_le_mul (by omega) h4 h3 (by omega)
  have b3 : ((i : Int) + 1) * t / p = sumS p t (i + 1) := by simp [sumS]
  have b4 : 0 ≤ t / p := Int.ediv_nonneg h3 (by omega)
  have b5 : t / p ≤ t := Int.ediv_le_self _ h3
  have hv : spVF t p (0 + i) = sumS p t (i + 1) - s := by rw [Nat.zero_add, spVF_eq hi, hs]
  have hm1 : 0 ≤ m ∧ m ≤ s := by
    rw [← hm, ← hs]
    unfold smF
    split
    · rename_i hfo
      have m1 : ∀ (a b : Nat), a ≤ b → sumS p t a ≤ sumS p t b := by
        intro a b hab
        induction b with
        | zero => obtain rfl : a = 0 := by omega
                  omega
        | succ b ih =>
          by_cases hb : a = b + 1
          · rw [hb]; omega
          · have := ih (by omega)
            have := (sumS_mono p t h1 h3 b).2
            omega
      have c1 := m1 (min i f.toNat) (min i o.toNat) (by omega)
      have c2 := m1 (min i o.toNat) i (by omega)
      have c3 := (sumS_mono p t h1 h3 (min i f.toNat)).1
      omega
    · omega
  simp only [eo, ei, ep, hv]
  rw [wr64 (x := (i : Int) + 1) (by omega) (by omega), wr64 (x := ((i : Int) + 1) * t) (by omega) (by omega), Int.tdiv_eq_ediv_of_nonneg b1, b3, wr64 (x := s + (sumS p t (i + 1) - s)) (by omega) (by omega), wr64 (x := sumS p t (i + 1)) (by omega) (by omega), Int.tdiv_eq_ediv_of_nonneg h3, wr64 (x := t / p) (by omega) (by omega),
    wr64 (x := t / p + 1) (by omega) (by omega), wr64 (x := m + (sumS p t (i + 1) - s)) (by omega) (by omega), show s + (sumS p t (i + 1) - s) = sumS p t (i + 1) by omega]
  have d1 : decide ((i : Int) < p) = true := dT (by omega)
  have d2 : decide (0 ≤ (i : Int)) = true := dT (by omega)
  have d3 : (0 + i).blt p.toNat = true := bltT (by omega)
  have d4 : decide (p = 0) = false := dF (by omega)
  have d5 : decide (sumS p t (i + 1) - s < t / p) = false := dF (by omega)
  have d6 : decide (t / p + 1 < sumS p t (i + 1) - s) = false := dF (by omega)
  simp only [d1, d2, d3, d4, d5, d6, decide_true, Bool.not_true, Bool.and_self, cond_true, cond_false]
  have e6 : smF t p f o (i + 1) = if f ≤ i ∧ (i : Int) < o then m + (sumS p t (i + 1) - s) else m := by
    rw [← hm, ← hs]
    unfold smF
    by_cases hfo : f < o
    · rw [if_pos hfo, if_pos hfo]
      by_cases g1 : f ≤ i
      · by_cases g2 : (i : Int) < o
        · rw [if_pos ⟨g1, g2⟩, show min (i + 1) o.toNat = i + 1 by omega, show min (i + 1) f.toNat = f.toNat by omega, show min i o.toNat = i by omega, show min i f.toNat = f.toNat by omega]
          omega
        · rw [if_neg (by omega), show min (i + 1) o.toNat = o.toNat by omega, show min (i + 1) f.toNat = f.toNat by omega, show min i o.toNat = o.toNat by omega, show min i f.toNat = f.toNat by omega]
      · rw [if_neg (by omega), show min (i + 1) o.toNat = i + 1 by omega, show min (i + 1) f.toNat = i + 1 by omega, show min i o.toNat = i by omega, show min i f.toNat = i by omega]
        omega
    · rw [if_neg hfo, if_neg hfo, if_neg (by omega)]
  by_cases g1 : f ≤ i
  · by_cases g2 : (i : Int) < o
    · rw [dT g1, dT g2, e6, if_pos ⟨g1, g2⟩]; rfl
    · rw [dT g1, dF g2, e6, if_neg (by omega)]; rfl
  · rw [dF g1, e6, if_neg (by omega)]; rfl
theorem r5' (t p f o : Int) (h1 : 1 ≤ p) : iterR P37 G37 A5 K37b 0 5 [] 9 (vs5 t p f o p.toNat) [spB t p] = some (.exit 0, [.int .i64 t, .int .i64 p, .undef, .int .i64 f, .int .i64 o, .int .i64 (smF t p f o p.toNat)], [spB t p]) := by
  unfold vs5
  generalize sumS p t p.toNat = s
  generalize smF t p f o p.toNat = m
  rw [show ((p.toNat : Nat) : Int) = p by omega]
  rw [(show iterR P37 G37 A5 K37b 0 5 [] 9 [.int .i64 t, .int .i64 p, .own 0 0 0 p.toNat (some p.toNat), .int .i64 f, .int .i64 o, .int .i64 s, .int .i64 m, .int .i64 p] [spB t p] =
(    bif decide (p < p) then
    bif decide ((0 : Int) ≤ p) && decide (p < Int.ofNat p.toNat) then
    bif ((0 : Nat) + p.toNat).blt p.toNat then
    bif decide (p = (0 : Int)) then
    none
    else
    bif !decide
        (IntKind.i64.wrap (s + spVF t p ((0 : Nat) + p.toNat)) =
          IntKind.i64.wrap ((IntKind.i64.wrap (IntKind.i64.wrap (p + (1 : Int)) * t)).tdiv p)) then
    none
    else
    bif decide ((0 : Int) ≤ p) && decide (p < Int.ofNat p.toNat) then
    bif ((0 : Nat) + p.toNat).blt p.toNat then
    bif decide (p = (0 : Int)) then
    none
    else
    bif decide (spVF t p ((0 : Nat) + p.toNat) < IntKind.i64.wrap (t.tdiv p)) then
    none
    else
    bif decide ((0 : Int) ≤ p) && decide (p < Int.ofNat p.toNat) then
    bif ((0 : Nat) + p.toNat).blt p.toNat then
    bif decide (p = (0 : Int)) then
    none
    else
    bif decide (IntKind.i64.wrap (IntKind.i64.wrap (t.tdiv p) + (1 : Int)) < spVF t p ((0 : Nat) + p.toNat)) then
    none
    else
    bif decide (f ≤ p) then
    bif decide (p < o) then
    bif decide ((0 : Int) ≤ p) && decide (p < Int.ofNat p.toNat) then
    bif ((0 : Nat) + p.toNat).blt p.toNat then
    some ((Ex.normal,
      [T.int IntKind.i64 t, T.int IntKind.i64 p, T.own (0 : Nat) (0 : Nat) (0 : Nat) p.toNat (some p.toNat),
        T.int IntKind.i64 f, T.int IntKind.i64 o, T.int IntKind.i64 (IntKind.i64.wrap (s + spVF t p ((0 : Nat) + p.toNat))),
        T.int IntKind.i64 (IntKind.i64.wrap (m + spVF t p ((0 : Nat) + p.toNat))),
        T.int IntKind.i64 (IntKind.i64.wrap (p + (1 : Int)))],
      [Blk.mk (0 : Nat) (1 : Nat) p.toNat (fun j => [T.int IntKind.i64 (spVF t p j)]) true false]))
    else
    none
    else
    none
    else
    some ((Ex.normal,
      [T.int IntKind.i64 t, T.int IntKind.i64 p, T.own (0 : Nat) (0 : Nat) (0 : Nat) p.toNat (some p.toNat),
        T.int IntKind.i64 f, T.int IntKind.i64 o, T.int IntKind.i64 (IntKind.i64.wrap (s + spVF t p ((0 : Nat) + p.toNat))),
        T.int IntKind.i64 m, T.int IntKind.i64 (IntKind.i64.wrap (p + (1 : Int)))],
      [Blk.mk (0 : Nat) (1 : Nat) p.toNat (fun j => [T.int IntKind.i64 (spVF t p j)]) true false]))
    else
    some ((Ex.normal,
      [T.int IntKind.i64 t, T.int IntKind.i64 p, T.own (0 : Nat) (0 : Nat) (0 : Nat) p.toNat (some p.toNat),
        T.int IntKind.i64 f, T.int IntKind.i64 o, T.int IntKind.i64 (IntKind.i64.wrap (s + spVF t p ((0 : Nat) + p.toNat))),
        T.int IntKind.i64 m, T.int IntKind.i64 (IntKind.i64.wrap (p + (1 : Int)))],
      [Blk.mk (0 : Nat) (1 : Nat) p.toNat (fun j => [T.int IntKind.i64 (spVF t p j)]) true false]))
    else
    none
    else
    none
    else
    none
    else
    none
    else
    none
    else
    none
    else
    some ((Ex.exit (0 : Nat),
      [T.int IntKind.i64 t, T.int IntKind.i64 p, T.undef, T.int IntKind.i64 f, T.int IntKind.i64 o, T.int IntKind.i64 m],
      [Blk.mk (0 : Nat) (1 : Nat) p.toNat (fun j => [T.int IntKind.i64 (spVF t p j)]) true false]))) from by kernel_rfl)]
  rw [dF (by omega)]; rfl
theorem loop5 : LoopOk P37 G37 (A5 5) 5 9 spec5 := by
  intro fn hf hnt vs h e vs' h' hk
  unfold spec5 at hk
  split at hk
  · rename_i t p n c f o
    obtain ⟨hc, rfl, rfl, rfl⟩ := LT.ite_some hk
    simp only [g5F, Bool.and_eq_true, decide_eq_true_eq, sameF_iff, spOkF_iff] at hc
    obtain ⟨⟨h1, h2, h3, h4⟩, f1, f2, o1, o2, rfl, rfl, hs⟩ := hc
    refine CodeGoes.weak ?_ (WeakTo.same hs)
    have e0 : vs5 t p f o 0 = [.int .i64 t, .int .i64 p, .own 0 0 0 p.toNat (some p.toNat), .int .i64 f, .int .i64 o, .int .i64 0, .int .i64 0, .int .i64 0] := by
      simp [vs5, sumS, smF]
    rw [← e0]
    refine loop_seq hm37 (by kernel_rfl) hf hnt (vs5 t p f o) (fun _ => [spB t p]) (n := p.toNat) (fun i hi => ?_) ⟨by simp, _, _, Rnd.of A5 okK37b rfl rfl (r5' t p f o h1), .refl _ _⟩
    exact ⟨_, _, Rnd.of A5 okK37b rfl rfl (r5 t p f o h1 h2 h3 h4 f1 f2 o1 o2 i hi), .refl _ _⟩
  · cases hk
end Go.Ab

namespace Go.Ab
open Go.Proofs
noncomputable def A5b : FuncId → Ann := annWith A37 5 [(3, 44, true), (4, 58, false), (18, 148, true)]
theorem law5 (t p a b : Int) (ha : 0 ≤ a ∧ a ≤ 65535) (hb : 0 ≤ b ∧ b ≤ 65535) : stepL P37 G37 A5b K37b 0 5 [(9, spec5)] [.int .i64 t, .int .i64 p, .agg [.int .u16 a, .int .u16 b]] = some (.bool true) := by
  rw [(show stepL P37 G37 A5b K37b 0 5 [(9, spec5)] [.int .i64 t, .int .i64 p, .agg [.int .u16 a, .int .u16 b]] =
(    bif spOkF t p then
    bif decide (t < (0 : Int)) then
    none
    else
    bif decide ((80000 : Int) < t) then
    none
    else
    bif decide (p < (1 : Int)) then
    none
    else
    bif decide ((400 : Int) < p) then
    none
    else
    bif !decide (Int.ofNat p.toNat = p) then
    none
    else
    bif !decide (Int.ofNat p.toNat = p) then
    none
    else
    bif decide (IntKind.i64.wrap (p + (1 : Int)) = (0 : Int)) then
    none
    else
    bif decide (IntKind.i64.wrap (p + (1 : Int)) = (0 : Int)) then
    none
    else
    bif g5F t p ((IntKind.i64.wrap a).tmod (IntKind.i64.wrap (p + (1 : Int))))
      ((IntKind.i64.wrap b).tmod (IntKind.i64.wrap (p + (1 : Int)))) p.toNat (some p.toNat)
      [Blk.mk (0 : Nat) (1 : Nat) p.toNat
          (fun j =>
            [T.int IntKind.i64
                (Decidable.rec (fun h => (fun x => (0 : Int)) h)
                  (fun h => (fun x => sumS p t ((0 : Nat) + j + (1 : Nat)) - sumS p t ((0 : Nat) + j)) h)
                  (((0 : Nat) + j).decLt p.toNat))])
          true false] then
    bif decide
      ((IntKind.i64.wrap a).tmod (IntKind.i64.wrap (p + (1 : Int))) <
        (IntKind.i64.wrap b).tmod (IntKind.i64.wrap (p + (1 : Int)))) then
    bif decide
      (IntKind.i64.wrap ((0 : Int) - p) <
        IntKind.i64.wrap
          (IntKind.i64.wrap
              (smF t p ((IntKind.i64.wrap a).tmod (IntKind.i64.wrap (p + (1 : Int))))
                  ((IntKind.i64.wrap b).tmod (IntKind.i64.wrap (p + (1 : Int)))) p.toNat *
                p) -
            IntKind.i64.wrap
              (IntKind.i64.wrap
                  ((IntKind.i64.wrap b).tmod (IntKind.i64.wrap (p + (1 : Int))) -
                    (IntKind.i64.wrap a).tmod (IntKind.i64.wrap (p + (1 : Int)))) *
                t))) then
    bif decide
      (IntKind.i64.wrap
          (IntKind.i64.wrap
              (smF t p ((IntKind.i64.wrap a).tmod (IntKind.i64.wrap (p + (1 : Int))))
                  ((IntKind.i64.wrap b).tmod (IntKind.i64.wrap (p + (1 : Int)))) p.toNat *
                p) -
            IntKind.i64.wrap
              (IntKind.i64.wrap
                  ((IntKind.i64.wrap b).tmod (IntKind.i64.wrap (p + (1 : Int))) -
                    (IntKind.i64.wrap a).tmod (IntKind.i64.wrap (p + (1 : Int)))) *
                t)) <
        p) then
    some (T.bool true)
    else
    none
    else
    none
    else
    some (T.bool true)
    else
    none
    else
    bif decide (t < (0 : Int)) then
    some (T.bool true)
    else
    bif decide ((80000 : Int) < t) then
    some (T.bool true)
    else
    bif decide (p < (1 : Int)) then
    some (T.bool true)
    else
    bif decide ((400 : Int) < p) then
    some (T.bool true)
    else
    none) from by kernel_rfl)]
  refine bifi spOkF_iff (fun hc => ?_) (fun hc => ?_)
  · obtain ⟨h1, h2, h3, h4⟩ := hc
    have ep : (Int.ofNat p.toNat : Int) = p := by show ((p.toNat : Nat) : Int) = p; omega
    rw [wr64 (x := p + 1) (by omega) (by omega), wr64 (x := a) (by omega) (by omega), wr64 (x := b) (by omega) (by omega), Int.tmod_eq_emod_of_nonneg ha.1, Int.tmod_eq_emod_of_nonneg hb.1, ep]
    have hf1 := Int.emod_nonneg a (show p + 1 ≠ 0 by omega)
    have hf2 := Int.emod_lt_of_pos a (show 0 < p + 1 by omega)
    have ho1 := Int.emod_nonneg b (show p + 1 ≠ 0 by omega)
    have ho2 := Int.emod_lt_of_pos b (show 0 < p + 1 by omega)
    generalize a % (p + 1) = f at *
    generalize b % (p + 1) = o at *
    rw [dF (show ¬ t < 0 by omega), dF (show ¬ 80000 < t by omega), dF (show ¬ p < 1 by omega), dF (show ¬ 400 < p by omega), dT (rfl : p = p), dF (show ¬ p + 1 = 0 by omega)]
    simp only [Bool.not_true, cond_false]
    refine bift ?_ ?_
    · simp only [g5F, Bool.and_eq_true, decide_eq_true_eq, sameF_iff, spOkF_iff]
      exact ⟨⟨h1, h2, h3, h4⟩, hf1, by omega, ho1, by omega, trivial, trivial, .cons ⟨rfl, rfl, rfl, fun _ => rfl, fun j _ => rfl⟩ .nil⟩
    refine bifd (fun hfo => ?_) (fun _ => rfl)
    have e1 : smF t p f o p.toNat = sumS p t o.toNat - sumS p t f.toNat := by
      unfold smF
      rw [if_pos hfo, show min p.toNat o.toNat = o.toNat by omega, show min p.toNat f.toNat = f.toNat by omega]
    rw [e1]
    obtain ⟨a1, a2⟩ := sumS_sp (t := t) h1 o.toNat
    obtain ⟨b1, b2⟩ := sumS_sp (t := t) h1 f.toNat
    have c1 := sumS_mono p t h1 h3 o.toNat
    have c2 := sumS_mono p t h1 h3 f.toNat
    have c3 := sumS_le p t h1 h3 o.toNat (by omega)
    have c4 := sumS_le p t h1 h3 f.toNat (by omega)
    rw [show ((o.toNat : Nat) : Int) = o by omega] at a1 a2
    rw [show ((f.toNat : Nat) : Int) = f by omega] at b1 b2
    have e2 : (sumS p t o.toNat - sumS p t f.toNat) * p = p * sumS p t o.toNat - p * sumS p t f.toNat := by rw [Int.mul_comm, Int.mul_sub]
    have e3 : (o - f) * t = o * t - f * t := Int.sub_mul _ _ _
    have b0 : 0 ≤ (o - f) * t := Int.mul_nonneg (by omega) h3
    have b0' : (o - f) * t ≤ 400 * 80000 := Int.mul_le_mul (by omega) h4 h3 (by omega)
    rw [wr64 (x := o - f) (by omega) (by omega), wr64 (x := (o - f) * t) (by omega) (by omega), e2, wr64 (x := p * sumS p t o.toNat - p * sumS p t f.toNat) (by omega) (by omega), wr64 (x := 0 - p) (by omega) (by omega), wr64 (by omega) (by omega)]
    rw [dT (by omega), dT (by omega)]; rfl
  · repeat' first
      | refine bifd (fun _ => ?_) (fun _ => ?_)
      | rfl
    all_goals exfalso
    all_goals omega
theorem law5T (t p a b : Int) (ha : 0 ≤ a ∧ a ≤ 65535) (hb : 0 ≤ b ∧ b ≤ 65535) : ToldOk P37 G37 5 [.int .i64 t, .int .i64 p, .agg [.int .u16 a, .int .u16 b]] (.bool true) :=
  stepL_told hm37 hn37 okK37b (A := A5b) (m := 0) (l := [(9, spec5)]) (by kernel_rfl) (fun q hq => by simp only [List.mem_singleton] at hq; subst hq; exact loop5) (law5 t p a b ha hb)
end Go.Ab

