/- A part of the proof: nothing is assumed. -/
import Derived.Test.YtkiedolofnakoaaDoorS12i
namespace Go.Ab
open Go.Proofs
def A19 : FuncId → Ann := annWith A12 19 [(1, 7, true)]
def A21 : FuncId → Ann := annWith A12 21 [(1, 8, true)]
theorem e19 (k y a b : Int) (f : Bool) : ∃ A m K, OrcOk P12 G12 K ∧ (stepV P12 G12 A K m 19 [stT k y a b f] = some (.str (textF k y a b f)) ∨ stepC P12 G12 A K m 19 [stT k y a b f] = some (.str (textF k y a b f))) := by
  cases hv : valid k y a b f with
  | true => exact ⟨A12, 100, K19, stepO_ok hm12 hn12 (stepO_ok hm12 hn12 ok17 100) 100, .inl <| strIs_eq (of_all (p := fun k y a b f => strIs (stepV P12 G12 A12 K19 100 19 [stT k y a b f]) (textF k y a b f)) v19 hv)⟩
  | false =>
    refine ⟨A19, 100, K17, ok17, .inl ?_⟩
    rw [(show stepV P12 G12 A19 K17 100 19 [stT k y a b f] =
(    bif !decide (checkF k y a b f = (0 : Int)) then
    some (T.str [])
    else
    none) from by kernel_rfl)]
    simp [textF, checkF, hv]
theorem e21 (k y a b : Int) (f : Bool) (hp : posF k y = true) : ∃ A m K, OrcOk P12 G12 K ∧ (stepV P12 G12 A K m 21 [stT k y a b f] = some (.str (textF k y a b f)) ∨ stepC P12 G12 A K m 21 [stT k y a b f] = some (.str (textF k y a b f))) := by
  cases hv : valid k y a b f with
  | true => exact ⟨A12, 100, _, arun_ok hm12 hn12 100 3, .inl <| strIs_eq (of_all (p := fun k y a b f => strIs (stepV P12 G12 A12 (arunO P12 G12 A12 100 3) 100 21 [stT k y a b f]) (textF k y a b f)) v21 hv)⟩
  | false =>
    refine ⟨A21, 100, K22, ok22, .inl ?_⟩
    rw [(show stepV P12 G12 A21 K22 100 21 [stT k y a b f] =
(    bif posF k y then
    bif decide ((1 : Int) - checkF k y a b f = (0 : Int)) then
    some (T.str [])
    else
    none
    else
    none) from by kernel_rfl)]
    simp [textF, checkF, hv, hp]
/-- The stitch of a 'K'. -/
def kkF (k : Int) : Int := 1 + k.tmod 8
def yyF (y : Int) : Int := 1 + y.tmod 6
def aaF (k a : Int) : Int := bif decide (kkF k = 8) then ([1, 1, 2, 2, 1, 3] : List Int).getD (a.tmod 6).toNat 0 else 0
def bbF (k a : Int) : Int := bif decide (kkF k = 8) then ([1, 2, 1, 2, 3, 1] : List Int).getD (a.tmod 6).toNat 0 else 0
def ffF (k : Int) (f : Bool) : Bool := bif decide (kkF k = 8) then f else false
def kposF (k y a : Int) : Bool := decide (0 ≤ k) && decide (k ≤ 255) && decide (0 ≤ y) && decide (y ≤ 255) && decide (0 ≤ a)
theorem kk_bd {k : Int} (h : 0 ≤ k) : 1 ≤ kkF k ∧ kkF k ≤ 8 := by
  unfold kkF; rw [Int.tmod_eq_emod_of_nonneg h]; omega
theorem yy_bd {k : Int} (h : 0 ≤ k) : 1 ≤ yyF k ∧ yyF k ≤ 6 := by
  unfold yyF; rw [Int.tmod_eq_emod_of_nonneg h]; omega
theorem e13 (k y a : Int) (f : Bool) (h : kposF k y a = true) : stepV P12 G12 A12 noneO 100 13 [kT k y a f] = some (stT (kkF k) (yyF y) (aaF k a) (bbF k a) (ffF k f)) := by
  simp only [kposF, Bool.and_eq_true, decide_eq_true_eq] at h
  rw [(show stepV P12 G12 A12 noneO 100 13 [kT k y a f] =
(    bif decide (IntKind.u8.wrap ((1 : Int) + k.tmod (8 : Int)) = (8 : Int)) then
    bif decide ((0 : Int) ≤ a.tmod (6 : Int)) && decide (a.tmod (6 : Int) < (6 : Int)) then
    bif (0 : Nat) + (a.tmod (6 : Int)).toNat == (5 : Nat) then
    bif f then
    some (T.agg
      [T.int IntKind.u8 (IntKind.u8.wrap ((1 : Int) + k.tmod (8 : Int))),
        T.int IntKind.u8 (IntKind.u8.wrap ((1 : Int) + y.tmod (6 : Int))), T.int IntKind.i64 (3 : Int),
        T.int IntKind.i64 (1 : Int), T.bool true])
    else
    some (T.agg
      [T.int IntKind.u8 (IntKind.u8.wrap ((1 : Int) + k.tmod (8 : Int))),
        T.int IntKind.u8 (IntKind.u8.wrap ((1 : Int) + y.tmod (6 : Int))), T.int IntKind.i64 (3 : Int),
        T.int IntKind.i64 (1 : Int), T.bool false])
    else
    bif (0 : Nat) + (a.tmod (6 : Int)).toNat == (4 : Nat) then
    bif f then
    some (T.agg
      [T.int IntKind.u8 (IntKind.u8.wrap ((1 : Int) + k.tmod (8 : Int))),
        T.int IntKind.u8 (IntKind.u8.wrap ((1 : Int) + y.tmod (6 : Int))), T.int IntKind.i64 (1 : Int),
        T.int IntKind.i64 (3 : Int), T.bool true])
    else
    some (T.agg
      [T.int IntKind.u8 (IntKind.u8.wrap ((1 : Int) + k.tmod (8 : Int))),
        T.int IntKind.u8 (IntKind.u8.wrap ((1 : Int) + y.tmod (6 : Int))), T.int IntKind.i64 (1 : Int),
        T.int IntKind.i64 (3 : Int), T.bool false])
    else
    bif (0 : Nat) + (a.tmod (6 : Int)).toNat == (3 : Nat) then
    bif f then
    some (T.agg
      [T.int IntKind.u8 (IntKind.u8.wrap ((1 : Int) + k.tmod (8 : Int))),
        T.int IntKind.u8 (IntKind.u8.wrap ((1 : Int) + y.tmod (6 : Int))), T.int IntKind.i64 (2 : Int),
        T.int IntKind.i64 (2 : Int), T.bool true])
    else
    some (T.agg
      [T.int IntKind.u8 (IntKind.u8.wrap ((1 : Int) + k.tmod (8 : Int))),
        T.int IntKind.u8 (IntKind.u8.wrap ((1 : Int) + y.tmod (6 : Int))), T.int IntKind.i64 (2 : Int),
        T.int IntKind.i64 (2 : Int), T.bool false])
    else
    bif (0 : Nat) + (a.tmod (6 : Int)).toNat == (2 : Nat) then
    bif f then
    some (T.agg
      [T.int IntKind.u8 (IntKind.u8.wrap ((1 : Int) + k.tmod (8 : Int))),
        T.int IntKind.u8 (IntKind.u8.wrap ((1 : Int) + y.tmod (6 : Int))), T.int IntKind.i64 (2 : Int),
        T.int IntKind.i64 (1 : Int), T.bool true])
    else
    some (T.agg
      [T.int IntKind.u8 (IntKind.u8.wrap ((1 : Int) + k.tmod (8 : Int))),
        T.int IntKind.u8 (IntKind.u8.wrap ((1 : Int) + y.tmod (6 : Int))), T.int IntKind.i64 (2 : Int),
        T.int IntKind.i64 (1 : Int), T.bool false])
    else
    bif (0 : Nat) + (a.tmod (6 : Int)).toNat == (1 : Nat) then
    bif f then
    some (T.agg
      [T.int IntKind.u8 (IntKind.u8.wrap ((1 : Int) + k.tmod (8 : Int))),
        T.int IntKind.u8 (IntKind.u8.wrap ((1 : Int) + y.tmod (6 : Int))), T.int IntKind.i64 (1 : Int),
        T.int IntKind.i64 (2 : Int), T.bool true])
    else
    some (T.agg
      [T.int IntKind.u8 (IntKind.u8.wrap ((1 : Int) + k.tmod (8 : Int))),
        T.int IntKind.u8 (IntKind.u8.wrap ((1 : Int) + y.tmod (6 : Int))), T.int IntKind.i64 (1 : Int),
        T.int IntKind.i64 (2 : Int), T.bool false])
    else
    bif f then
    some (T.agg
      [T.int IntKind.u8 (IntKind.u8.wrap ((1 : Int) + k.tmod (8 : Int))),
        T.int IntKind.u8 (IntKind.u8.wrap ((1 : Int) + y.tmod (6 : Int))), T.int IntKind.i64 (1 : Int),
        T.int IntKind.i64 (1 : Int), T.bool true])
    else
    some (T.agg
      [T.int IntKind.u8 (IntKind.u8.wrap ((1 : Int) + k.tmod (8 : Int))),
        T.int IntKind.u8 (IntKind.u8.wrap ((1 : Int) + y.tmod (6 : Int))), T.int IntKind.i64 (1 : Int),
        T.int IntKind.i64 (1 : Int), T.bool false])
    else
    none
    else
    some (T.agg
      [T.int IntKind.u8 (IntKind.u8.wrap ((1 : Int) + k.tmod (8 : Int))),
        T.int IntKind.u8 (IntKind.u8.wrap ((1 : Int) + y.tmod (6 : Int))), T.int IntKind.i64 (0 : Int),
        T.int IntKind.i64 (0 : Int), T.bool false])) from by kernel_rfl)]
  have hk := kk_bd (k := k) (by omega)
  have hy := yy_bd (k := y) (by omega)
  rw [wr8 (x := (1 : Int) + k.tmod 8) (by unfold kkF at hk; omega) (by unfold kkF at hk; omega), wr8 (x := (1 : Int) + y.tmod 6) (by unfold yyF at hy; omega) (by unfold yyF at hy; omega)]
  have ha : 0 ≤ a.tmod 6 ∧ a.tmod 6 < 6 := by rw [Int.tmod_eq_emod_of_nonneg (by omega)]; omega
  have hr : a.tmod 6 = 0 ∨ a.tmod 6 = 1 ∨ a.tmod 6 = 2 ∨ a.tmod 6 = 3 ∨ a.tmod 6 = 4 ∨ a.tmod 6 = 5 := by omega
  by_cases h8 : (1 : Int) + k.tmod 8 = 8
  · rcases hr with h0 | h0 | h0 | h0 | h0 | h0 <;> cases f <;> simp [stT, aaF, bbF, ffF, yyF, kkF, h8, h0]
  · simp [stT, aaF, bbF, ffF, yyF, kkF, h8]
theorem ofK_valid {k y a : Int} {f : Bool} (h : kposF k y a = true) : valid (kkF k) (yyF y) (aaF k a) (bbF k a) (ffF k f) = true := by
  simp only [kposF, Bool.and_eq_true, decide_eq_true_eq] at h
  have hk := kk_bd (k := k) (by omega)
  have hy := yy_bd (k := y) (by omega)
  have hr : a.tmod 6 = 0 ∨ a.tmod 6 = 1 ∨ a.tmod 6 = 2 ∨ a.tmod 6 = 3 ∨ a.tmod 6 = 4 ∨ a.tmod 6 = 5 := by rw [Int.tmod_eq_emod_of_nonneg (by omega)]; omega
  by_cases h8 : kkF k = 8
  · rcases hr with h0 | h0 | h0 | h0 | h0 | h0 <;> simp [valid, aaF, bbF, ffF, h8, h0, hy.1, hy.2]
  · simp [valid, aaF, bbF, ffF, h8, hy.1, hy.2, hk.1, hk.2]
end Go.Ab
