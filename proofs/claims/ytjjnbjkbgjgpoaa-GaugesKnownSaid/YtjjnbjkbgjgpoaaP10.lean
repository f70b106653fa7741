/- A part of the proof: nothing is assumed. -/
import Derived.Test.YtjjnbjkbgjgpoaaP9
set_option linter.all false
namespace Go.Ab
open Go.Proofs
noncomputable def KL37 : Nat → Orc
  | 0 => noneO
  | n + 1 => (stepO P37 G37 A37 20 (KL37 n)).add 15 spreadS
theorem okKL37 : ∀ n, OrcOk P37 G37 (KL37 n)
  | 0 => none_ok
  | n + 1 => told_add (stepO_ok hm37 hn37 (okKL37 n) 20) fun _ _ => spreadT
theorem livesR : stepV P37 G37 A37 (KL37 3) 20 14 [] = some (.bool true) := by kernel_rfl
theorem livesT : ToldOk P37 G37 14 [] (.bool true) := stepV_told hm37 hn37 (okKL37 3) livesR
end Go.Ab

namespace Go.Ab
open Go.Proofs
def cntF (p m l : Int) : Bool := decide (1 ≤ p) && (decide (p ≤ 400) && (decide (0 ≤ m) && decide (m ≤ l)))
theorem cntF_iff {p m l : Int} : cntF p m l = true ↔ 1 ≤ p ∧ p ≤ 400 ∧ 0 ≤ m ∧ m ≤ l := by simp [cntF]
theorem cnt_bif {R : Type} {p m l : Int} {x y : R} : (bif decide (1 ≤ p) && decide (p ≤ 400) then (bif decide (0 ≤ m) && decide (m ≤ l) then x else y) else y) = bif cntF p m l then x else y := by
  unfold cntF
  cases decide (1 ≤ p) <;> cases decide (p ≤ 400) <;> rfl
theorem mul_bd {p m a b : Int} (h1 : 0 ≤ p) (h2 : p ≤ a) (h3 : 0 ≤ m) (h4 : m ≤ b) : 0 ≤ p * m ∧ p * m ≤ a * b := ⟨Int.mul_nonneg h1 h3, Int.mul_le_mul h2 h4 h3 (by omega)⟩
def countS : List T → Tree
  | [.int .i64 p, .int .i64 m] => .ite (cntF p m 20000) (.ret (.tup [.int .i64 (roundF (p * m) 100), .int .i64 0])) (.ret (.tup [.int .i64 0, .int .i64 1]))
  | _ => .none
theorem countT {args : List T} {r : T} (h : (countS args).run some = some r) : ToldOk P37 G37 10 args r := by
  unfold countS at h
  split at h
  · rename_i p m
    refine stepV_told hm37 hn37 okK37a (A := A37) (m := 0) ?_
    rw [(show stepV P37 G37 A37 K37a 0 10 [.int .i64 p, .int .i64 m] =
(    bif decide ((1 : Int) ≤ p) && decide (p ≤ (400 : Int)) then
    bif decide ((0 : Int) ≤ m) && decide (m ≤ (20000 : Int)) then
    bif rokF (IntKind.i64.wrap (p * m)) (100 : Int) then
    some (T.tup [T.int IntKind.i64 (roundF (IntKind.i64.wrap (p * m)) (100 : Int)), T.int IntKind.i64 (0 : Int)])
    else
    none
    else
    some (T.tup [T.int IntKind.i64 (0 : Int), T.int IntKind.i64 (1 : Int)])
    else
    some (T.tup [T.int IntKind.i64 (0 : Int), T.int IntKind.i64 (1 : Int)])) from by kernel_rfl)]
    rw [cnt_bif]
    rcases Tree.ite_some h with ⟨hc, h⟩ | ⟨hc, h⟩
    · obtain rfl := Tree.ret_some h
      obtain ⟨h1, h2, h3, h4⟩ := cntF_iff.1 hc
      have hm := mul_bd (p := p) (m := m) (by omega) h2 h3 h4
      rw [hc, wr64 (by omega) (by omega), rokF_iff.2 (by omega)]
      rfl
    · obtain rfl := Tree.ret_some h
      rw [hc]; rfl
  · cases h
def lengthS : List T → Tree
  | [.int .i64 p, .int .i64 m] => .ite (cntF p m 80000) (.ret (.tup [.int .i64 (roundF (100 * m) p), .int .i64 0])) (.ret (.tup [.int .i64 0, .int .i64 1]))
  | _ => .none
theorem lengthT {args : List T} {r : T} (h : (lengthS args).run some = some r) : ToldOk P37 G37 11 args r := by
  unfold lengthS at h
  split at h
  · rename_i p m
    refine stepV_told hm37 hn37 okK37a (A := A37) (m := 0) ?_
    rw [(show stepV P37 G37 A37 K37a 0 11 [.int .i64 p, .int .i64 m] =
(    bif decide ((1 : Int) ≤ p) && decide (p ≤ (400 : Int)) then
    bif decide ((0 : Int) ≤ m) && decide (m ≤ (80000 : Int)) then
    bif rokF (IntKind.i64.wrap ((100 : Int) * m)) p then
    some (T.tup [T.int IntKind.i64 (roundF (IntKind.i64.wrap ((100 : Int) * m)) p), T.int IntKind.i64 (0 : Int)])
    else
    none
    else
    some (T.tup [T.int IntKind.i64 (0 : Int), T.int IntKind.i64 (1 : Int)])
    else
    some (T.tup [T.int IntKind.i64 (0 : Int), T.int IntKind.i64 (1 : Int)])) from by kernel_rfl)]
    rw [cnt_bif]
    rcases Tree.ite_some h with ⟨hc, h⟩ | ⟨hc, h⟩
    · obtain rfl := Tree.ret_some h
      obtain ⟨h1, h2, h3, h4⟩ := cntF_iff.1 hc
      rw [hc, wr64 (by omega) (by omega), rokF_iff.2 (by omega)]
      rfl
    · obtain rfl := Tree.ret_some h
      rw [hc]; rfl
  · cases h
def msF (n m : Int) : Bool := decide (0 ≤ n) && (decide (n ≤ 80000) && (decide (1 ≤ m) && (decide (m ≤ 20000) && (decide (1 ≤ roundF (100 * n) m) && decide (roundF (100 * n) m ≤ 400)))))
theorem msF_iff {n m : Int} : msF n m = true ↔ 0 ≤ n ∧ n ≤ 80000 ∧ 1 ≤ m ∧ m ≤ 20000 ∧ 1 ≤ roundF (100 * n) m ∧ roundF (100 * n) m ≤ 400 := by simp [msF]
def measureS : List T → Tree
  | [.int .i64 n, .int .i64 m] => .ite (msF n m) (.ret (.tup [.int .i64 (roundF (100 * n) m), .int .i64 0])) (.ret (.tup [.int .i64 0, .int .i64 1]))
  | _ => .none
theorem measureT {args : List T} {r : T} (h : (measureS args).run some = some r) : ToldOk P37 G37 12 args r := by
  unfold measureS at h
  split at h
  · rename_i n m
    refine stepV_told hm37 hn37 okK37a (A := A37) (m := 0) ?_
    rw [(show stepV P37 G37 A37 K37a 0 12 [.int .i64 n, .int .i64 m] =
(    bif decide ((0 : Int) ≤ n) && decide (n ≤ (80000 : Int)) then
    bif decide ((1 : Int) ≤ m) && decide (m ≤ (20000 : Int)) then
    bif rokF (IntKind.i64.wrap ((100 : Int) * n)) m then
    bif decide ((1 : Int) ≤ roundF (IntKind.i64.wrap ((100 : Int) * n)) m) &&
      decide (roundF (IntKind.i64.wrap ((100 : Int) * n)) m ≤ (400 : Int)) then
    some (T.tup [T.int IntKind.i64 (roundF (IntKind.i64.wrap ((100 : Int) * n)) m), T.int IntKind.i64 (0 : Int)])
    else
    some (T.tup [T.int IntKind.i64 (0 : Int), T.int IntKind.i64 (1 : Int)])
    else
    none
    else
    some (T.tup [T.int IntKind.i64 (0 : Int), T.int IntKind.i64 (1 : Int)])
    else
    some (T.tup [T.int IntKind.i64 (0 : Int), T.int IntKind.i64 (1 : Int)])) from by kernel_rfl)]
    by_cases h1 : 0 ≤ n ∧ n ≤ 80000 ∧ 1 ≤ m ∧ m ≤ 20000
    · obtain ⟨h1, h2, h3, h4⟩ := h1
      rw [dT h1, dT h2, dT h3, dT h4, wr64 (by omega) (by omega), rokF_iff.2 (by omega)]
      simp only [Bool.and_true, cond_true]
      rcases Tree.ite_some h with ⟨hc, h⟩ | ⟨hc, h⟩
      · obtain rfl := Tree.ret_some h
        obtain ⟨_, _, _, _, h5, h6⟩ := msF_iff.1 hc
        rw [dT h5, dT h6]; rfl
      · obtain rfl := Tree.ret_some h
        have : ¬ (1 ≤ roundF (100 * n) m ∧ roundF (100 * n) m ≤ 400) := fun hh => by rw [msF_iff.2 ⟨h1, h2, h3, h4, hh⟩] at hc; cases hc
        rw [← Bool.decide_and, dF this]; rfl
    · have hc : msF n m = false := by
        rw [← Bool.not_eq_true, msF_iff]
        exact fun hh => h1 ⟨hh.1, hh.2.1, hh.2.2.1, hh.2.2.2.1⟩
      rw [hc] at h
      obtain rfl := Tree.ret_some h
      rw [← Bool.decide_and, ← Bool.decide_and]
      by_cases h2 : 0 ≤ n ∧ n ≤ 80000
      · rw [dT h2, dF (fun hh => h1 ⟨h2.1, h2.2, hh.1, hh.2⟩)]; rfl
      · rw [dF h2]; rfl
  · cases h
def nearF (n a b : Int) : Bool := decide (2 * b * n ≤ 2 * a + b) && decide (2 * a + b < 2 * b * n + 2 * b)
def nokF (n a b : Int) : Bool := decide (0 ≤ n) && (decide (n ≤ 100000000000) && (decide (0 ≤ a) && (decide (a ≤ 100000000000) && (decide (0 ≤ b) && decide (b ≤ 1000000)))))
theorem nokF_iff {n a b : Int} : nokF n a b = true ↔ 0 ≤ n ∧ n ≤ 100000000000 ∧ 0 ≤ a ∧ a ≤ 100000000000 ∧ 0 ≤ b ∧ b ≤ 1000000 := by simp [nokF]
theorem near_round {a b : Int} (_h1 : 0 ≤ a) (h2 : 1 ≤ b) : nearF (roundF a b) a b = true := by
  unfold nearF roundF
  have e := Int.mul_ediv_add_emod (2 * a + b) (2 * b)
  have r1 := Int.emod_nonneg (2 * a + b) (show (2 * b : Int) ≠ 0 by omega)
  have r2 := Int.emod_lt_of_pos (2 * a + b) (show (0 : Int) < 2 * b by omega)
  rw [dT (by omega), dT (by omega)]; rfl
def nearestS : List T → Tree
  | [.int .i64 n, .int .i64 a, .int .i64 b] => .ite (nokF n a b) (.ret (.bool (nearF n a b))) .none
  | _ => .none
theorem nearestT {args : List T} {r : T} (h : (nearestS args).run some = some r) : ToldOk P37 G37 13 args r := by
  unfold nearestS at h
  split at h
  · rename_i n a b
    refine stepV_told hm37 hn37 none_ok (K := noneO) (A := A37) (m := 0) ?_
    rw [(show stepV P37 G37 A37 noneO 0 13 [.int .i64 n, .int .i64 a, .int .i64 b] =
(    bif decide
      (IntKind.i64.wrap (IntKind.i64.wrap ((2 : Int) * b) * n) ≤
        IntKind.i64.wrap (IntKind.i64.wrap ((2 : Int) * a) + b)) then
    bif decide
      (IntKind.i64.wrap (IntKind.i64.wrap ((2 : Int) * a) + b) <
        IntKind.i64.wrap (IntKind.i64.wrap (IntKind.i64.wrap ((2 : Int) * b) * n) + IntKind.i64.wrap ((2 : Int) * b))) then
    some (T.bool true)
    else
    some (T.bool false)
    else
    some (T.bool false)) from by kernel_rfl)]
    rcases Tree.ite_some h with ⟨hc, h⟩ | ⟨_, h⟩
    · obtain rfl := Tree.ret_some h
      obtain ⟨h1, h2, h3, h4, h5, h6⟩ := nokF_iff.1 hc
      have hm := mul_bd (p := 2 * b) (m := n) (a := 2000000) (b := 100000000000) (by omega) (by omega) h1 h2
      rw [wr64 (x := 2 * b) (by omega) (by omega), wr64 (x := 2 * b * n) (by omega) (by omega), wr64 (x := 2 * a) (by omega) (by omega), wr64 (x := 2 * a + b) (by omega) (by omega), wr64 (x := 2 * b * n + 2 * b) (by omega) (by omega)]
      unfold nearF
      cases decide (2 * b * n ≤ 2 * a + b) <;> cases decide (2 * a + b < 2 * b * n + 2 * b) <;> rfl
    · cases h
  · cases h
def livesS : List T → Tree
  | [] => .ret (.bool true)
  | _ => .none
theorem livesS_told {args : List T} {r : T} (h : (livesS args).run some = some r) : ToldOk P37 G37 14 args r := by
  unfold livesS at h
  split at h
  · obtain rfl := Tree.ret_some h
    exact livesT
  · cases h
noncomputable def K37b : Orc := (((((K37a.add 10 countS).add 11 lengthS).add 12 measureS).add 13 nearestS).add 14 livesS).add 15 spreadS
theorem okK37b : OrcOk P37 G37 K37b := told_add (told_add (told_add (told_add (told_add (told_add okK37a fun _ _ => countT) fun _ _ => lengthT) fun _ _ => measureT) fun _ _ => nearestT) fun _ _ => livesS_told) fun _ _ => spreadT
end Go.Ab

