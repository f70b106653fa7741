/- A part of the proof: nothing is assumed. -/
import Derived.Test.YtkiedolofnakoaaDoorS12l
namespace Go.Ab
open Go.Proofs
theorem e20nil : stepV P12 G12 A12 Kb 100 20 [.str []] = some (.tup [stT 0 0 0 0 false, .int .i64 4]) := by kernel_rfl
theorem e20a (c : UInt8) (t : List UInt8) (h : c ≠ 107 ∧ c ≠ 112 ∧ c ≠ 111 ∧ c ≠ 47 ∧ c ≠ 118 ∧ c ≠ 116 ∧ c ≠ 115 ∧ c ≠ 99) (hno : ∀ k y a b f, textF k y a b f ≠ c :: t) : stepV P12 G12 A20 Kb 100 20 [.str (c :: t)] = some (.tup [stT 0 0 0 0 false, .int .i64 4]) := by
  rw [(show stepV P12 G12 A20 Kb 100 20 [.str (c :: t)] =
(    bif true && decide ((0 : Int) < Int.ofNat (c :: t).length) then
    bif decide ((107 : Int) = Int.ofNat ((c :: t).getD (0 : Nat) (0 : UInt8)).toNat) then
    none
    else
    bif true && decide ((0 : Int) < Int.ofNat (c :: t).length) then
    bif decide ((112 : Int) = Int.ofNat ((c :: t).getD (0 : Nat) (0 : UInt8)).toNat) then
    none
    else
    bif true && decide ((0 : Int) < Int.ofNat (c :: t).length) then
    bif decide ((111 : Int) = Int.ofNat ((c :: t).getD (0 : Nat) (0 : UInt8)).toNat) then
    none
    else
    bif true && decide ((0 : Int) < Int.ofNat (c :: t).length) then
    bif decide ((47 : Int) = Int.ofNat ((c :: t).getD (0 : Nat) (0 : UInt8)).toNat) then
    none
    else
    bif true && decide ((0 : Int) < Int.ofNat (c :: t).length) then
    bif decide ((118 : Int) = Int.ofNat ((c :: t).getD (0 : Nat) (0 : UInt8)).toNat) then
    none
    else
    bif true && decide ((0 : Int) < Int.ofNat (c :: t).length) then
    bif decide ((116 : Int) = Int.ofNat ((c :: t).getD (0 : Nat) (0 : UInt8)).toNat) then
    none
    else
    bif true && decide ((0 : Int) < Int.ofNat (c :: t).length) then
    bif decide ((115 : Int) = Int.ofNat ((c :: t).getD (0 : Nat) (0 : UInt8)).toNat) then
    none
    else
    bif true && decide ((0 : Int) < Int.ofNat (c :: t).length) then
    bif decide ((99 : Int) = Int.ofNat ((c :: t).getD (0 : Nat) (0 : UInt8)).toNat) then
    none
    else
    bif true && decide ((1 : Int) ≤ Int.ofNat (c :: t).length) &&
      decide (Int.ofNat (c :: t).length ≤ Int.ofNat (c :: t).length) then
    bif decide (Int.ofNat (List.drop (1 : Nat) (List.take (c :: t).length (c :: t))).length = (1 : Int)) then
    bif true && decide ((0 : Int) < Int.ofNat (List.drop (1 : Nat) (List.take (c :: t).length (c :: t))).length) then
    bif !decide
        (textF (0 : Int)
            (IntKind.u8.wrap
              (Int.ofNat ((List.drop (1 : Nat) (List.take (c :: t).length (c :: t))).getD (0 : Nat) (0 : UInt8)).toNat -
                (48 : Int)))
            (0 : Int) (0 : Int) false =
          c :: t) then
    some (T.tup
      [T.agg
          [T.int IntKind.u8 (0 : Int), T.int IntKind.u8 (0 : Int), T.int IntKind.i64 (0 : Int), T.int IntKind.i64 (0 : Int),
            T.bool false],
        T.int IntKind.i64 (4 : Int)])
    else
    some (T.tup
      [T.agg
          [T.int IntKind.u8 (0 : Int),
            T.int IntKind.u8
              (IntKind.u8.wrap
                (Int.ofNat ((List.drop (1 : Nat) (List.take (c :: t).length (c :: t))).getD (0 : Nat) (0 : UInt8)).toNat -
                  (48 : Int))),
            T.int IntKind.i64 (0 : Int), T.int IntKind.i64 (0 : Int), T.bool false],
        T.int IntKind.i64 (0 : Int)])
    else
    none
    else
    some (T.tup
      [T.agg
          [T.int IntKind.u8 (0 : Int), T.int IntKind.u8 (0 : Int), T.int IntKind.i64 (0 : Int), T.int IntKind.i64 (0 : Int),
            T.bool false],
        T.int IntKind.i64 (4 : Int)])
    else
    none
    else
    none
    else
    none
    else
    none
    else
    none
    else
    none
    else
    none
    else
    none
    else
    none) from by kernel_rfl)]
  have hd : ∀ k y a b f, decide (textF k y a b f = c :: t) = false := fun k y a b f => decide_eq_false (hno k y a b f)
  have hc : ∀ n : UInt8, c ≠ n → ((n.toNat : Int) = (c.toNat : Int)) = False := fun n hn => by
    simp only [eq_iff_iff, iff_false]
    intro e
    exact hn (UInt8.toNat_inj.1 (by omega)).symm
  obtain ⟨h1, h2, h3, h4, h5, h6, h7, h8⟩ := h
  have k1 := hc _ h1
  have k2 := hc _ h2
  have k3 := hc _ h3
  have k4 := hc _ h4
  have k5 := hc _ h5
  have k6 := hc _ h6
  have k7 := hc _ h7
  have k8 := hc _ h8
  simp only [hd]
  simp [stT]
  simp at k1 k2 k3 k4 k5 k6 k7 k8
  grind
theorem e20k (t : List UInt8) (hno : ∀ k y a b f, textF k y a b f ≠ 107 :: t) : stepV P12 G12 A12 Kb 100 20 [.str (107 :: t)] = some (.tup [stT 0 0 0 0 false, .int .i64 4]) := by
  rw [(show stepV P12 G12 A12 Kb 100 20 [.str (107 :: t)] =
(    bif true && decide ((0 : Int) < Int.ofNat ((107 : UInt8) :: t).length) then
    bif true && decide ((0 : Int) < Int.ofNat ((107 : UInt8) :: t).length) then
    bif true && decide ((0 : Int) < Int.ofNat ((107 : UInt8) :: t).length) then
    bif true && decide ((0 : Int) < Int.ofNat ((107 : UInt8) :: t).length) then
    bif true && decide ((0 : Int) < Int.ofNat ((107 : UInt8) :: t).length) then
    bif true && decide ((0 : Int) < Int.ofNat ((107 : UInt8) :: t).length) then
    bif true && decide ((0 : Int) < Int.ofNat ((107 : UInt8) :: t).length) then
    bif true && decide ((0 : Int) < Int.ofNat ((107 : UInt8) :: t).length) then
    bif true && decide ((1 : Int) ≤ Int.ofNat ((107 : UInt8) :: t).length) &&
      decide (Int.ofNat ((107 : UInt8) :: t).length ≤ Int.ofNat ((107 : UInt8) :: t).length) then
    bif decide
      (Int.ofNat (List.drop (1 : Nat) (List.take ((107 : UInt8) :: t).length ((107 : UInt8) :: t))).length = (1 : Int)) then
    bif true &&
      decide
        ((0 : Int) <
          Int.ofNat (List.drop (1 : Nat) (List.take ((107 : UInt8) :: t).length ((107 : UInt8) :: t))).length) then
    bif !decide
        (textF (1 : Int)
            (IntKind.u8.wrap
              (Int.ofNat
                  ((List.drop (1 : Nat) (List.take ((107 : UInt8) :: t).length ((107 : UInt8) :: t))).getD (0 : Nat)
                      (0 : UInt8)).toNat -
                (48 : Int)))
            (0 : Int) (0 : Int) false =
          (107 : UInt8) :: t) then
    some (T.tup
      [T.agg
          [T.int IntKind.u8 (0 : Int), T.int IntKind.u8 (0 : Int), T.int IntKind.i64 (0 : Int), T.int IntKind.i64 (0 : Int),
            T.bool false],
        T.int IntKind.i64 (4 : Int)])
    else
    some (T.tup
      [T.agg
          [T.int IntKind.u8 (1 : Int),
            T.int IntKind.u8
              (IntKind.u8.wrap
                (Int.ofNat
                    ((List.drop (1 : Nat) (List.take ((107 : UInt8) :: t).length ((107 : UInt8) :: t))).getD (0 : Nat)
                        (0 : UInt8)).toNat -
                  (48 : Int))),
            T.int IntKind.i64 (0 : Int), T.int IntKind.i64 (0 : Int), T.bool false],
        T.int IntKind.i64 (0 : Int)])
    else
    none
    else
    bif !decide ([(107 : UInt8)] = (107 : UInt8) :: t) then
    some (T.tup
      [T.agg
          [T.int IntKind.u8 (0 : Int), T.int IntKind.u8 (0 : Int), T.int IntKind.i64 (0 : Int), T.int IntKind.i64 (0 : Int),
            T.bool false],
        T.int IntKind.i64 (4 : Int)])
    else
    some (T.tup
      [T.agg
          [T.int IntKind.u8 (1 : Int), T.int IntKind.u8 (1 : Int), T.int IntKind.i64 (0 : Int), T.int IntKind.i64 (0 : Int),
            T.bool false],
        T.int IntKind.i64 (0 : Int)])
    else
    none
    else
    none
    else
    none
    else
    none
    else
    none
    else
    none
    else
    none
    else
    none
    else
    none) from by kernel_rfl)]
  have hd : ∀ k y a b f, decide (textF k y a b f = 107 :: t) = false := fun k y a b f => decide_eq_false (hno k y a b f)
  simp only [hd]
  simp [stT]
  by_cases hl : t.length = 1
  · simp [hl]
  · have hn : ¬ ((t.length : Int) = 1) := by omega
    have h0 : (-1 : Int) * (t.length : Int) ≤ 0 := by omega
    have h1 : (0 : Int) ≤ (t.length : Int) := by omega
    have ht : t ≠ [] := fun e => hno 1 1 0 0 false (by rw [e]; kernel_rfl)
    have h2 : (1 : Int) ≤ (t.length : Int) + 1 := by omega
    simp [hn, h1, h2, ht]
theorem e20p (t : List UInt8) (hno : ∀ k y a b f, textF k y a b f ≠ 112 :: t) : stepV P12 G12 A12 Kb 100 20 [.str (112 :: t)] = some (.tup [stT 0 0 0 0 false, .int .i64 4]) := by
  rw [(show stepV P12 G12 A12 Kb 100 20 [.str (112 :: t)] =
(    bif true && decide ((0 : Int) < Int.ofNat ((112 : UInt8) :: t).length) then
    bif true && decide ((0 : Int) < Int.ofNat ((112 : UInt8) :: t).length) then
    bif true && decide ((0 : Int) < Int.ofNat ((112 : UInt8) :: t).length) then
    bif true && decide ((0 : Int) < Int.ofNat ((112 : UInt8) :: t).length) then
    bif true && decide ((0 : Int) < Int.ofNat ((112 : UInt8) :: t).length) then
    bif true && decide ((0 : Int) < Int.ofNat ((112 : UInt8) :: t).length) then
    bif true && decide ((0 : Int) < Int.ofNat ((112 : UInt8) :: t).length) then
    bif true && decide ((0 : Int) < Int.ofNat ((112 : UInt8) :: t).length) then
    bif true && decide ((1 : Int) ≤ Int.ofNat ((112 : UInt8) :: t).length) &&
      decide (Int.ofNat ((112 : UInt8) :: t).length ≤ Int.ofNat ((112 : UInt8) :: t).length) then
    bif decide
      (Int.ofNat (List.drop (1 : Nat) (List.take ((112 : UInt8) :: t).length ((112 : UInt8) :: t))).length = (1 : Int)) then
    bif true &&
      decide
        ((0 : Int) <
          Int.ofNat (List.drop (1 : Nat) (List.take ((112 : UInt8) :: t).length ((112 : UInt8) :: t))).length) then
    bif !decide
        (textF (2 : Int)
            (IntKind.u8.wrap
              (Int.ofNat
                  ((List.drop (1 : Nat) (List.take ((112 : UInt8) :: t).length ((112 : UInt8) :: t))).getD (0 : Nat)
                      (0 : UInt8)).toNat -
                (48 : Int)))
            (0 : Int) (0 : Int) false =
          (112 : UInt8) :: t) then
    some (T.tup
      [T.agg
          [T.int IntKind.u8 (0 : Int), T.int IntKind.u8 (0 : Int), T.int IntKind.i64 (0 : Int), T.int IntKind.i64 (0 : Int),
            T.bool false],
        T.int IntKind.i64 (4 : Int)])
    else
    some (T.tup
      [T.agg
          [T.int IntKind.u8 (2 : Int),
            T.int IntKind.u8
              (IntKind.u8.wrap
                (Int.ofNat
                    ((List.drop (1 : Nat) (List.take ((112 : UInt8) :: t).length ((112 : UInt8) :: t))).getD (0 : Nat)
                        (0 : UInt8)).toNat -
                  (48 : Int))),
            T.int IntKind.i64 (0 : Int), T.int IntKind.i64 (0 : Int), T.bool false],
        T.int IntKind.i64 (0 : Int)])
    else
    none
    else
    bif !decide ([(112 : UInt8)] = (112 : UInt8) :: t) then
    some (T.tup
      [T.agg
          [T.int IntKind.u8 (0 : Int), T.int IntKind.u8 (0 : Int), T.int IntKind.i64 (0 : Int), T.int IntKind.i64 (0 : Int),
            T.bool false],
        T.int IntKind.i64 (4 : Int)])
    else
    some (T.tup
      [T.agg
          [T.int IntKind.u8 (2 : Int), T.int IntKind.u8 (1 : Int), T.int IntKind.i64 (0 : Int), T.int IntKind.i64 (0 : Int),
            T.bool false],
        T.int IntKind.i64 (0 : Int)])
    else
    none
    else
    none
    else
    none
    else
    none
    else
    none
    else
    none
    else
    none
    else
    none
    else
    none) from by kernel_rfl)]
  have hd : ∀ k y a b f, decide (textF k y a b f = 112 :: t) = false := fun k y a b f => decide_eq_false (hno k y a b f)
  simp only [hd]
  simp [stT]
  by_cases hl : t.length = 1
  · simp [hl]
  · have hn : ¬ ((t.length : Int) = 1) := by omega
    have h0 : (-1 : Int) * (t.length : Int) ≤ 0 := by omega
    have h1 : (0 : Int) ≤ (t.length : Int) := by omega
    have ht : t ≠ [] := fun e => hno 2 1 0 0 false (by rw [e]; kernel_rfl)
    have h2 : (1 : Int) ≤ (t.length : Int) + 1 := by omega
    simp [hn, h1, h2, ht]
theorem e20o (t : List UInt8) (hno : ∀ k y a b f, textF k y a b f ≠ 111 :: t) : stepV P12 G12 A12 Kb 100 20 [.str (111 :: t)] = some (.tup [stT 0 0 0 0 false, .int .i64 4]) := by
  rw [(show stepV P12 G12 A12 Kb 100 20 [.str (111 :: t)] =
(    bif true && decide ((0 : Int) < Int.ofNat ((111 : UInt8) :: t).length) then
    bif true && decide ((0 : Int) < Int.ofNat ((111 : UInt8) :: t).length) then
    bif true && decide ((0 : Int) < Int.ofNat ((111 : UInt8) :: t).length) then
    bif true && decide ((0 : Int) < Int.ofNat ((111 : UInt8) :: t).length) then
    bif true && decide ((0 : Int) < Int.ofNat ((111 : UInt8) :: t).length) then
    bif true && decide ((0 : Int) < Int.ofNat ((111 : UInt8) :: t).length) then
    bif true && decide ((0 : Int) < Int.ofNat ((111 : UInt8) :: t).length) then
    bif true && decide ((0 : Int) < Int.ofNat ((111 : UInt8) :: t).length) then
    bif true && decide ((1 : Int) ≤ Int.ofNat ((111 : UInt8) :: t).length) &&
      decide (Int.ofNat ((111 : UInt8) :: t).length ≤ Int.ofNat ((111 : UInt8) :: t).length) then
    bif decide
      (Int.ofNat (List.drop (1 : Nat) (List.take ((111 : UInt8) :: t).length ((111 : UInt8) :: t))).length = (1 : Int)) then
    bif true &&
      decide
        ((0 : Int) <
          Int.ofNat (List.drop (1 : Nat) (List.take ((111 : UInt8) :: t).length ((111 : UInt8) :: t))).length) then
    bif !decide
        (textF (3 : Int)
            (IntKind.u8.wrap
              (Int.ofNat
                  ((List.drop (1 : Nat) (List.take ((111 : UInt8) :: t).length ((111 : UInt8) :: t))).getD (0 : Nat)
                      (0 : UInt8)).toNat -
                (48 : Int)))
            (0 : Int) (0 : Int) false =
          (111 : UInt8) :: t) then
    some (T.tup
      [T.agg
          [T.int IntKind.u8 (0 : Int), T.int IntKind.u8 (0 : Int), T.int IntKind.i64 (0 : Int), T.int IntKind.i64 (0 : Int),
            T.bool false],
        T.int IntKind.i64 (4 : Int)])
    else
    some (T.tup
      [T.agg
          [T.int IntKind.u8 (3 : Int),
            T.int IntKind.u8
              (IntKind.u8.wrap
                (Int.ofNat
                    ((List.drop (1 : Nat) (List.take ((111 : UInt8) :: t).length ((111 : UInt8) :: t))).getD (0 : Nat)
                        (0 : UInt8)).toNat -
                  (48 : Int))),
            T.int IntKind.i64 (0 : Int), T.int IntKind.i64 (0 : Int), T.bool false],
        T.int IntKind.i64 (0 : Int)])
    else
    none
    else
    bif !decide ([(111 : UInt8)] = (111 : UInt8) :: t) then
    some (T.tup
      [T.agg
          [T.int IntKind.u8 (0 : Int), T.int IntKind.u8 (0 : Int), T.int IntKind.i64 (0 : Int), T.int IntKind.i64 (0 : Int),
            T.bool false],
        T.int IntKind.i64 (4 : Int)])
    else
    some (T.tup
      [T.agg
          [T.int IntKind.u8 (3 : Int), T.int IntKind.u8 (1 : Int), T.int IntKind.i64 (0 : Int), T.int IntKind.i64 (0 : Int),
            T.bool false],
        T.int IntKind.i64 (0 : Int)])
    else
    none
    else
    none
    else
    none
    else
    none
    else
    none
    else
    none
    else
    none
    else
    none
    else
    none) from by kernel_rfl)]
  have hd : ∀ k y a b f, decide (textF k y a b f = 111 :: t) = false := fun k y a b f => decide_eq_false (hno k y a b f)
  simp only [hd]
  simp [stT]
  by_cases hl : t.length = 1
  · simp [hl]
  · have hn : ¬ ((t.length : Int) = 1) := by omega
    have h0 : (-1 : Int) * (t.length : Int) ≤ 0 := by omega
    have h1 : (0 : Int) ≤ (t.length : Int) := by omega
    have ht : t ≠ [] := fun e => hno 3 1 0 0 false (by rw [e]; kernel_rfl)
    have h2 : (1 : Int) ≤ (t.length : Int) + 1 := by omega
    simp [hn, h1, h2, ht]
theorem e20q (t : List UInt8) (hno : ∀ k y a b f, textF k y a b f ≠ 47 :: t) : stepV P12 G12 A12 Kb 100 20 [.str (47 :: t)] = some (.tup [stT 0 0 0 0 false, .int .i64 4]) := by
  rw [(show stepV P12 G12 A12 Kb 100 20 [.str (47 :: t)] =
(    bif true && decide ((0 : Int) < Int.ofNat ((47 : UInt8) :: t).length) then
    bif true && decide ((0 : Int) < Int.ofNat ((47 : UInt8) :: t).length) then
    bif true && decide ((0 : Int) < Int.ofNat ((47 : UInt8) :: t).length) then
    bif true && decide ((0 : Int) < Int.ofNat ((47 : UInt8) :: t).length) then
    bif true && decide ((0 : Int) < Int.ofNat ((47 : UInt8) :: t).length) then
    bif true && decide ((0 : Int) < Int.ofNat ((47 : UInt8) :: t).length) then
    bif true && decide ((0 : Int) < Int.ofNat ((47 : UInt8) :: t).length) then
    bif true && decide ((0 : Int) < Int.ofNat ((47 : UInt8) :: t).length) then
    bif true && decide ((1 : Int) ≤ Int.ofNat ((47 : UInt8) :: t).length) &&
      decide (Int.ofNat ((47 : UInt8) :: t).length ≤ Int.ofNat ((47 : UInt8) :: t).length) then
    bif decide
      (Int.ofNat (List.drop (1 : Nat) (List.take ((47 : UInt8) :: t).length ((47 : UInt8) :: t))).length = (1 : Int)) then
    bif true &&
      decide
        ((0 : Int) < Int.ofNat (List.drop (1 : Nat) (List.take ((47 : UInt8) :: t).length ((47 : UInt8) :: t))).length) then
    bif !decide
        (textF (4 : Int)
            (IntKind.u8.wrap
              (Int.ofNat
                  ((List.drop (1 : Nat) (List.take ((47 : UInt8) :: t).length ((47 : UInt8) :: t))).getD (0 : Nat)
                      (0 : UInt8)).toNat -
                (48 : Int)))
            (0 : Int) (0 : Int) false =
          (47 : UInt8) :: t) then
    some (T.tup
      [T.agg
          [T.int IntKind.u8 (0 : Int), T.int IntKind.u8 (0 : Int), T.int IntKind.i64 (0 : Int), T.int IntKind.i64 (0 : Int),
            T.bool false],
        T.int IntKind.i64 (4 : Int)])
    else
    some (T.tup
      [T.agg
          [T.int IntKind.u8 (4 : Int),
            T.int IntKind.u8
              (IntKind.u8.wrap
                (Int.ofNat
                    ((List.drop (1 : Nat) (List.take ((47 : UInt8) :: t).length ((47 : UInt8) :: t))).getD (0 : Nat)
                        (0 : UInt8)).toNat -
                  (48 : Int))),
            T.int IntKind.i64 (0 : Int), T.int IntKind.i64 (0 : Int), T.bool false],
        T.int IntKind.i64 (0 : Int)])
    else
    none
    else
    bif !decide ([(47 : UInt8)] = (47 : UInt8) :: t) then
    some (T.tup
      [T.agg
          [T.int IntKind.u8 (0 : Int), T.int IntKind.u8 (0 : Int), T.int IntKind.i64 (0 : Int), T.int IntKind.i64 (0 : Int),
            T.bool false],
        T.int IntKind.i64 (4 : Int)])
    else
    some (T.tup
      [T.agg
          [T.int IntKind.u8 (4 : Int), T.int IntKind.u8 (1 : Int), T.int IntKind.i64 (0 : Int), T.int IntKind.i64 (0 : Int),
            T.bool false],
        T.int IntKind.i64 (0 : Int)])
    else
    none
    else
    none
    else
    none
    else
    none
    else
    none
    else
    none
    else
    none
    else
    none
    else
    none) from by kernel_rfl)]
  have hd : ∀ k y a b f, decide (textF k y a b f = 47 :: t) = false := fun k y a b f => decide_eq_false (hno k y a b f)
  simp only [hd]
  simp [stT]
  by_cases hl : t.length = 1
  · simp [hl]
  · have hn : ¬ ((t.length : Int) = 1) := by omega
    have h0 : (-1 : Int) * (t.length : Int) ≤ 0 := by omega
    have h1 : (0 : Int) ≤ (t.length : Int) := by omega
    have ht : t ≠ [] := fun e => hno 4 1 0 0 false (by rw [e]; kernel_rfl)
    have h2 : (1 : Int) ≤ (t.length : Int) + 1 := by omega
    simp [hn, h1, h2, ht]
theorem e20v (t : List UInt8) (hno : ∀ k y a b f, textF k y a b f ≠ 118 :: t) : stepV P12 G12 A12 Kb 100 20 [.str (118 :: t)] = some (.tup [stT 0 0 0 0 false, .int .i64 4]) := by
  rw [(show stepV P12 G12 A12 Kb 100 20 [.str (118 :: t)] =
(    bif true && decide ((0 : Int) < Int.ofNat ((118 : UInt8) :: t).length) then
    bif true && decide ((0 : Int) < Int.ofNat ((118 : UInt8) :: t).length) then
    bif true && decide ((0 : Int) < Int.ofNat ((118 : UInt8) :: t).length) then
    bif true && decide ((0 : Int) < Int.ofNat ((118 : UInt8) :: t).length) then
    bif true && decide ((0 : Int) < Int.ofNat ((118 : UInt8) :: t).length) then
    bif true && decide ((0 : Int) < Int.ofNat ((118 : UInt8) :: t).length) then
    bif true && decide ((0 : Int) < Int.ofNat ((118 : UInt8) :: t).length) then
    bif true && decide ((0 : Int) < Int.ofNat ((118 : UInt8) :: t).length) then
    bif true && decide ((1 : Int) ≤ Int.ofNat ((118 : UInt8) :: t).length) &&
      decide (Int.ofNat ((118 : UInt8) :: t).length ≤ Int.ofNat ((118 : UInt8) :: t).length) then
    bif decide
      (Int.ofNat (List.drop (1 : Nat) (List.take ((118 : UInt8) :: t).length ((118 : UInt8) :: t))).length = (1 : Int)) then
    bif true &&
      decide
        ((0 : Int) <
          Int.ofNat (List.drop (1 : Nat) (List.take ((118 : UInt8) :: t).length ((118 : UInt8) :: t))).length) then
    bif !decide
        (textF (5 : Int)
            (IntKind.u8.wrap
              (Int.ofNat
                  ((List.drop (1 : Nat) (List.take ((118 : UInt8) :: t).length ((118 : UInt8) :: t))).getD (0 : Nat)
                      (0 : UInt8)).toNat -
                (48 : Int)))
            (0 : Int) (0 : Int) false =
          (118 : UInt8) :: t) then
    some (T.tup
      [T.agg
          [T.int IntKind.u8 (0 : Int), T.int IntKind.u8 (0 : Int), T.int IntKind.i64 (0 : Int), T.int IntKind.i64 (0 : Int),
            T.bool false],
        T.int IntKind.i64 (4 : Int)])
    else
    some (T.tup
      [T.agg
          [T.int IntKind.u8 (5 : Int),
            T.int IntKind.u8
              (IntKind.u8.wrap
                (Int.ofNat
                    ((List.drop (1 : Nat) (List.take ((118 : UInt8) :: t).length ((118 : UInt8) :: t))).getD (0 : Nat)
                        (0 : UInt8)).toNat -
                  (48 : Int))),
            T.int IntKind.i64 (0 : Int), T.int IntKind.i64 (0 : Int), T.bool false],
        T.int IntKind.i64 (0 : Int)])
    else
    none
    else
    bif !decide ([(118 : UInt8)] = (118 : UInt8) :: t) then
    some (T.tup
      [T.agg
          [T.int IntKind.u8 (0 : Int), T.int IntKind.u8 (0 : Int), T.int IntKind.i64 (0 : Int), T.int IntKind.i64 (0 : Int),
            T.bool false],
        T.int IntKind.i64 (4 : Int)])
    else
    some (T.tup
      [T.agg
          [T.int IntKind.u8 (5 : Int), T.int IntKind.u8 (1 : Int), T.int IntKind.i64 (0 : Int), T.int IntKind.i64 (0 : Int),
            T.bool false],
        T.int IntKind.i64 (0 : Int)])
    else
    none
    else
    none
    else
    none
    else
    none
    else
    none
    else
    none
    else
    none
    else
    none
    else
    none) from by kernel_rfl)]
  have hd : ∀ k y a b f, decide (textF k y a b f = 118 :: t) = false := fun k y a b f => decide_eq_false (hno k y a b f)
  simp only [hd]
  simp [stT]
  by_cases hl : t.length = 1
  · simp [hl]
  · have hn : ¬ ((t.length : Int) = 1) := by omega
    have h0 : (-1 : Int) * (t.length : Int) ≤ 0 := by omega
    have h1 : (0 : Int) ≤ (t.length : Int) := by omega
    have ht : t ≠ [] := fun e => hno 5 1 0 0 false (by rw [e]; kernel_rfl)
    have h2 : (1 : Int) ≤ (t.length : Int) + 1 := by omega
    simp [hn, h1, h2, ht]
theorem e20t (t : List UInt8) (hno : ∀ k y a b f, textF k y a b f ≠ 116 :: t) : stepV P12 G12 A12 Kb 100 20 [.str (116 :: t)] = some (.tup [stT 0 0 0 0 false, .int .i64 4]) := by
  rw [(show stepV P12 G12 A12 Kb 100 20 [.str (116 :: t)] =
(    bif true && decide ((0 : Int) < Int.ofNat ((116 : UInt8) :: t).length) then
    bif true && decide ((0 : Int) < Int.ofNat ((116 : UInt8) :: t).length) then
    bif true && decide ((0 : Int) < Int.ofNat ((116 : UInt8) :: t).length) then
    bif true && decide ((0 : Int) < Int.ofNat ((116 : UInt8) :: t).length) then
    bif true && decide ((0 : Int) < Int.ofNat ((116 : UInt8) :: t).length) then
    bif true && decide ((0 : Int) < Int.ofNat ((116 : UInt8) :: t).length) then
    bif true && decide ((0 : Int) < Int.ofNat ((116 : UInt8) :: t).length) then
    bif true && decide ((0 : Int) < Int.ofNat ((116 : UInt8) :: t).length) then
    bif true && decide ((1 : Int) ≤ Int.ofNat ((116 : UInt8) :: t).length) &&
      decide (Int.ofNat ((116 : UInt8) :: t).length ≤ Int.ofNat ((116 : UInt8) :: t).length) then
    bif decide
      (Int.ofNat (List.drop (1 : Nat) (List.take ((116 : UInt8) :: t).length ((116 : UInt8) :: t))).length = (1 : Int)) then
    bif true &&
      decide
        ((0 : Int) <
          Int.ofNat (List.drop (1 : Nat) (List.take ((116 : UInt8) :: t).length ((116 : UInt8) :: t))).length) then
    bif !decide
        (textF (6 : Int)
            (IntKind.u8.wrap
              (Int.ofNat
                  ((List.drop (1 : Nat) (List.take ((116 : UInt8) :: t).length ((116 : UInt8) :: t))).getD (0 : Nat)
                      (0 : UInt8)).toNat -
                (48 : Int)))
            (0 : Int) (0 : Int) false =
          (116 : UInt8) :: t) then
    some (T.tup
      [T.agg
          [T.int IntKind.u8 (0 : Int), T.int IntKind.u8 (0 : Int), T.int IntKind.i64 (0 : Int), T.int IntKind.i64 (0 : Int),
            T.bool false],
        T.int IntKind.i64 (4 : Int)])
    else
    some (T.tup
      [T.agg
          [T.int IntKind.u8 (6 : Int),
            T.int IntKind.u8
              (IntKind.u8.wrap
                (Int.ofNat
                    ((List.drop (1 : Nat) (List.take ((116 : UInt8) :: t).length ((116 : UInt8) :: t))).getD (0 : Nat)
                        (0 : UInt8)).toNat -
                  (48 : Int))),
            T.int IntKind.i64 (0 : Int), T.int IntKind.i64 (0 : Int), T.bool false],
        T.int IntKind.i64 (0 : Int)])
    else
    none
    else
    bif !decide ([(116 : UInt8)] = (116 : UInt8) :: t) then
    some (T.tup
      [T.agg
          [T.int IntKind.u8 (0 : Int), T.int IntKind.u8 (0 : Int), T.int IntKind.i64 (0 : Int), T.int IntKind.i64 (0 : Int),
            T.bool false],
        T.int IntKind.i64 (4 : Int)])
    else
    some (T.tup
      [T.agg
          [T.int IntKind.u8 (6 : Int), T.int IntKind.u8 (1 : Int), T.int IntKind.i64 (0 : Int), T.int IntKind.i64 (0 : Int),
            T.bool false],
        T.int IntKind.i64 (0 : Int)])
    else
    none
    else
    none
    else
    none
    else
    none
    else
    none
    else
    none
    else
    none
    else
    none
    else
    none) from by kernel_rfl)]
  have hd : ∀ k y a b f, decide (textF k y a b f = 116 :: t) = false := fun k y a b f => decide_eq_false (hno k y a b f)
  simp only [hd]
  simp [stT]
  by_cases hl : t.length = 1
  · simp [hl]
  · have hn : ¬ ((t.length : Int) = 1) := by omega
    have h0 : (-1 : Int) * (t.length : Int) ≤ 0 := by omega
    have h1 : (0 : Int) ≤ (t.length : Int) := by omega
    have ht : t ≠ [] := fun e => hno 6 1 0 0 false (by rw [e]; kernel_rfl)
    have h2 : (1 : Int) ≤ (t.length : Int) + 1 := by omega
    simp [hn, h1, h2, ht]
theorem e20s (t : List UInt8) (hno : ∀ k y a b f, textF k y a b f ≠ 115 :: t) : stepV P12 G12 A12 Kb 100 20 [.str (115 :: t)] = some (.tup [stT 0 0 0 0 false, .int .i64 4]) := by
  rw [(show stepV P12 G12 A12 Kb 100 20 [.str (115 :: t)] =
(    bif true && decide ((0 : Int) < Int.ofNat ((115 : UInt8) :: t).length) then
    bif true && decide ((0 : Int) < Int.ofNat ((115 : UInt8) :: t).length) then
    bif true && decide ((0 : Int) < Int.ofNat ((115 : UInt8) :: t).length) then
    bif true && decide ((0 : Int) < Int.ofNat ((115 : UInt8) :: t).length) then
    bif true && decide ((0 : Int) < Int.ofNat ((115 : UInt8) :: t).length) then
    bif true && decide ((0 : Int) < Int.ofNat ((115 : UInt8) :: t).length) then
    bif true && decide ((0 : Int) < Int.ofNat ((115 : UInt8) :: t).length) then
    bif true && decide ((0 : Int) < Int.ofNat ((115 : UInt8) :: t).length) then
    bif true && decide ((1 : Int) ≤ Int.ofNat ((115 : UInt8) :: t).length) &&
      decide (Int.ofNat ((115 : UInt8) :: t).length ≤ Int.ofNat ((115 : UInt8) :: t).length) then
    bif decide
      (Int.ofNat (List.drop (1 : Nat) (List.take ((115 : UInt8) :: t).length ((115 : UInt8) :: t))).length = (1 : Int)) then
    bif true &&
      decide
        ((0 : Int) <
          Int.ofNat (List.drop (1 : Nat) (List.take ((115 : UInt8) :: t).length ((115 : UInt8) :: t))).length) then
    bif !decide
        (textF (7 : Int)
            (IntKind.u8.wrap
              (Int.ofNat
                  ((List.drop (1 : Nat) (List.take ((115 : UInt8) :: t).length ((115 : UInt8) :: t))).getD (0 : Nat)
                      (0 : UInt8)).toNat -
                (48 : Int)))
            (0 : Int) (0 : Int) false =
          (115 : UInt8) :: t) then
    some (T.tup
      [T.agg
          [T.int IntKind.u8 (0 : Int), T.int IntKind.u8 (0 : Int), T.int IntKind.i64 (0 : Int), T.int IntKind.i64 (0 : Int),
            T.bool false],
        T.int IntKind.i64 (4 : Int)])
    else
    some (T.tup
      [T.agg
          [T.int IntKind.u8 (7 : Int),
            T.int IntKind.u8
              (IntKind.u8.wrap
                (Int.ofNat
                    ((List.drop (1 : Nat) (List.take ((115 : UInt8) :: t).length ((115 : UInt8) :: t))).getD (0 : Nat)
                        (0 : UInt8)).toNat -
                  (48 : Int))),
            T.int IntKind.i64 (0 : Int), T.int IntKind.i64 (0 : Int), T.bool false],
        T.int IntKind.i64 (0 : Int)])
    else
    none
    else
    bif !decide ([(115 : UInt8)] = (115 : UInt8) :: t) then
    some (T.tup
      [T.agg
          [T.int IntKind.u8 (0 : Int), T.int IntKind.u8 (0 : Int), T.int IntKind.i64 (0 : Int), T.int IntKind.i64 (0 : Int),
            T.bool false],
        T.int IntKind.i64 (4 : Int)])
    else
    some (T.tup
      [T.agg
          [T.int IntKind.u8 (7 : Int), T.int IntKind.u8 (1 : Int), T.int IntKind.i64 (0 : Int), T.int IntKind.i64 (0 : Int),
            T.bool false],
        T.int IntKind.i64 (0 : Int)])
    else
    none
    else
    none
    else
    none
    else
    none
    else
    none
    else
    none
    else
    none
    else
    none
    else
    none) from by kernel_rfl)]
  have hd : ∀ k y a b f, decide (textF k y a b f = 115 :: t) = false := fun k y a b f => decide_eq_false (hno k y a b f)
  simp only [hd]
  simp [stT]
  by_cases hl : t.length = 1
  · simp [hl]
  · have hn : ¬ ((t.length : Int) = 1) := by omega
    have h0 : (-1 : Int) * (t.length : Int) ≤ 0 := by omega
    have h1 : (0 : Int) ≤ (t.length : Int) := by omega
    have ht : t ≠ [] := fun e => hno 7 1 0 0 false (by rw [e]; kernel_rfl)
    have h2 : (1 : Int) ≤ (t.length : Int) + 1 := by omega
    simp [hn, h1, h2, ht]
theorem e20c (t : List UInt8) (hno : ∀ k y a b f, textF k y a b f ≠ 99 :: t) : stepV P12 G12 A12 Kb 100 20 [.str (99 :: t)] = some (.tup [stT 0 0 0 0 false, .int .i64 4]) := by
  rw [(show stepV P12 G12 A12 Kb 100 20 [.str (99 :: t)] =
(    bif true && decide ((0 : Int) < Int.ofNat ((99 : UInt8) :: t).length) then
    bif true && decide ((0 : Int) < Int.ofNat ((99 : UInt8) :: t).length) then
    bif true && decide ((0 : Int) < Int.ofNat ((99 : UInt8) :: t).length) then
    bif true && decide ((0 : Int) < Int.ofNat ((99 : UInt8) :: t).length) then
    bif true && decide ((0 : Int) < Int.ofNat ((99 : UInt8) :: t).length) then
    bif true && decide ((0 : Int) < Int.ofNat ((99 : UInt8) :: t).length) then
    bif true && decide ((0 : Int) < Int.ofNat ((99 : UInt8) :: t).length) then
    bif true && decide ((0 : Int) < Int.ofNat ((99 : UInt8) :: t).length) then
    bif true && decide ((1 : Int) ≤ Int.ofNat ((99 : UInt8) :: t).length) &&
      decide (Int.ofNat ((99 : UInt8) :: t).length ≤ Int.ofNat ((99 : UInt8) :: t).length) then
    bif decide
      ((3 : Int) ≤ Int.ofNat (List.drop (1 : Nat) (List.take ((99 : UInt8) :: t).length ((99 : UInt8) :: t))).length) then
    bif true &&
      decide
        ((0 : Int) < Int.ofNat (List.drop (1 : Nat) (List.take ((99 : UInt8) :: t).length ((99 : UInt8) :: t))).length) then
    bif true &&
      decide
        ((1 : Int) < Int.ofNat (List.drop (1 : Nat) (List.take ((99 : UInt8) :: t).length ((99 : UInt8) :: t))).length) then
    bif true &&
      decide
        ((2 : Int) < Int.ofNat (List.drop (1 : Nat) (List.take ((99 : UInt8) :: t).length ((99 : UInt8) :: t))).length) then
    bif decide
      (Int.ofNat
          ((List.drop (1 : Nat) (List.take ((99 : UInt8) :: t).length ((99 : UInt8) :: t))).getD (2 : Nat)
              (0 : UInt8)).toNat =
        (70 : Int)) then
    bif true &&
        decide
          ((3 : Int) ≤ Int.ofNat (List.drop (1 : Nat) (List.take ((99 : UInt8) :: t).length ((99 : UInt8) :: t))).length) &&
      decide
        (Int.ofNat (List.drop (1 : Nat) (List.take ((99 : UInt8) :: t).length ((99 : UInt8) :: t))).length ≤
          Int.ofNat (List.drop (1 : Nat) (List.take ((99 : UInt8) :: t).length ((99 : UInt8) :: t))).length) then
    bif decide
      (Int.ofNat
          (List.drop (3 : Nat)
              (List.take (List.drop (1 : Nat) (List.take ((99 : UInt8) :: t).length ((99 : UInt8) :: t))).length
                (List.drop (1 : Nat) (List.take ((99 : UInt8) :: t).length ((99 : UInt8) :: t))))).length =
        (1 : Int)) then
    bif true &&
      decide
        ((0 : Int) <
          Int.ofNat
            (List.drop (3 : Nat)
                (List.take (List.drop (1 : Nat) (List.take ((99 : UInt8) :: t).length ((99 : UInt8) :: t))).length
                  (List.drop (1 : Nat) (List.take ((99 : UInt8) :: t).length ((99 : UInt8) :: t))))).length) then
    bif !decide
        (textF (8 : Int)
            (IntKind.u8.wrap
              (Int.ofNat
                  ((List.drop (3 : Nat)
                          (List.take (List.drop (1 : Nat) (List.take ((99 : UInt8) :: t).length ((99 : UInt8) :: t))).length
                            (List.drop (1 : Nat) (List.take ((99 : UInt8) :: t).length ((99 : UInt8) :: t))))).getD
                      (0 : Nat) (0 : UInt8)).toNat -
                (48 : Int)))
            (IntKind.i64.wrap
              (IntKind.i64.wrap
                  (Int.ofNat
                    ((List.drop (1 : Nat) (List.take ((99 : UInt8) :: t).length ((99 : UInt8) :: t))).getD (0 : Nat)
                        (0 : UInt8)).toNat) -
                (48 : Int)))
            (IntKind.i64.wrap
              (IntKind.i64.wrap
                  (Int.ofNat
                    ((List.drop (1 : Nat) (List.take ((99 : UInt8) :: t).length ((99 : UInt8) :: t))).getD (1 : Nat)
                        (0 : UInt8)).toNat) -
                (48 : Int)))
            true =
          (99 : UInt8) :: t) then
    some (T.tup
      [T.agg
          [T.int IntKind.u8 (0 : Int), T.int IntKind.u8 (0 : Int), T.int IntKind.i64 (0 : Int), T.int IntKind.i64 (0 : Int),
            T.bool false],
        T.int IntKind.i64 (4 : Int)])
    else
    some (T.tup
      [T.agg
          [T.int IntKind.u8 (8 : Int),
            T.int IntKind.u8
              (IntKind.u8.wrap
                (Int.ofNat
                    ((List.drop (3 : Nat)
                            (List.take
                              (List.drop (1 : Nat) (List.take ((99 : UInt8) :: t).length ((99 : UInt8) :: t))).length
                              (List.drop (1 : Nat) (List.take ((99 : UInt8) :: t).length ((99 : UInt8) :: t))))).getD
                        (0 : Nat) (0 : UInt8)).toNat -
                  (48 : Int))),
            T.int IntKind.i64
              (IntKind.i64.wrap
                (IntKind.i64.wrap
                    (Int.ofNat
                      ((List.drop (1 : Nat) (List.take ((99 : UInt8) :: t).length ((99 : UInt8) :: t))).getD (0 : Nat)
                          (0 : UInt8)).toNat) -
                  (48 : Int))),
            T.int IntKind.i64
              (IntKind.i64.wrap
                (IntKind.i64.wrap
                    (Int.ofNat
                      ((List.drop (1 : Nat) (List.take ((99 : UInt8) :: t).length ((99 : UInt8) :: t))).getD (1 : Nat)
                          (0 : UInt8)).toNat) -
                  (48 : Int))),
            T.bool true],
        T.int IntKind.i64 (0 : Int)])
    else
    none
    else
    bif !decide
        (textF (8 : Int) (1 : Int)
            (IntKind.i64.wrap
              (IntKind.i64.wrap
                  (Int.ofNat
                    ((List.drop (1 : Nat) (List.take ((99 : UInt8) :: t).length ((99 : UInt8) :: t))).getD (0 : Nat)
                        (0 : UInt8)).toNat) -
                (48 : Int)))
            (IntKind.i64.wrap
              (IntKind.i64.wrap
                  (Int.ofNat
                    ((List.drop (1 : Nat) (List.take ((99 : UInt8) :: t).length ((99 : UInt8) :: t))).getD (1 : Nat)
                        (0 : UInt8)).toNat) -
                (48 : Int)))
            true =
          (99 : UInt8) :: t) then
    some (T.tup
      [T.agg
          [T.int IntKind.u8 (0 : Int), T.int IntKind.u8 (0 : Int), T.int IntKind.i64 (0 : Int), T.int IntKind.i64 (0 : Int),
            T.bool false],
        T.int IntKind.i64 (4 : Int)])
    else
    some (T.tup
      [T.agg
          [T.int IntKind.u8 (8 : Int), T.int IntKind.u8 (1 : Int),
            T.int IntKind.i64
              (IntKind.i64.wrap
                (IntKind.i64.wrap
                    (Int.ofNat
                      ((List.drop (1 : Nat) (List.take ((99 : UInt8) :: t).length ((99 : UInt8) :: t))).getD (0 : Nat)
                          (0 : UInt8)).toNat) -
                  (48 : Int))),
            T.int IntKind.i64
              (IntKind.i64.wrap
                (IntKind.i64.wrap
                    (Int.ofNat
                      ((List.drop (1 : Nat) (List.take ((99 : UInt8) :: t).length ((99 : UInt8) :: t))).getD (1 : Nat)
                          (0 : UInt8)).toNat) -
                  (48 : Int))),
            T.bool true],
        T.int IntKind.i64 (0 : Int)])
    else
    none
    else
    bif true &&
        decide
          ((3 : Int) ≤ Int.ofNat (List.drop (1 : Nat) (List.take ((99 : UInt8) :: t).length ((99 : UInt8) :: t))).length) &&
      decide
        (Int.ofNat (List.drop (1 : Nat) (List.take ((99 : UInt8) :: t).length ((99 : UInt8) :: t))).length ≤
          Int.ofNat (List.drop (1 : Nat) (List.take ((99 : UInt8) :: t).length ((99 : UInt8) :: t))).length) then
    bif decide
      (Int.ofNat
          (List.drop (3 : Nat)
              (List.take (List.drop (1 : Nat) (List.take ((99 : UInt8) :: t).length ((99 : UInt8) :: t))).length
                (List.drop (1 : Nat) (List.take ((99 : UInt8) :: t).length ((99 : UInt8) :: t))))).length =
        (1 : Int)) then
    bif true &&
      decide
        ((0 : Int) <
          Int.ofNat
            (List.drop (3 : Nat)
                (List.take (List.drop (1 : Nat) (List.take ((99 : UInt8) :: t).length ((99 : UInt8) :: t))).length
                  (List.drop (1 : Nat) (List.take ((99 : UInt8) :: t).length ((99 : UInt8) :: t))))).length) then
    bif !decide
        (textF (8 : Int)
            (IntKind.u8.wrap
              (Int.ofNat
                  ((List.drop (3 : Nat)
                          (List.take (List.drop (1 : Nat) (List.take ((99 : UInt8) :: t).length ((99 : UInt8) :: t))).length
                            (List.drop (1 : Nat) (List.take ((99 : UInt8) :: t).length ((99 : UInt8) :: t))))).getD
                      (0 : Nat) (0 : UInt8)).toNat -
                (48 : Int)))
            (IntKind.i64.wrap
              (IntKind.i64.wrap
                  (Int.ofNat
                    ((List.drop (1 : Nat) (List.take ((99 : UInt8) :: t).length ((99 : UInt8) :: t))).getD (0 : Nat)
                        (0 : UInt8)).toNat) -
                (48 : Int)))
            (IntKind.i64.wrap
              (IntKind.i64.wrap
                  (Int.ofNat
                    ((List.drop (1 : Nat) (List.take ((99 : UInt8) :: t).length ((99 : UInt8) :: t))).getD (1 : Nat)
                        (0 : UInt8)).toNat) -
                (48 : Int)))
            false =
          (99 : UInt8) :: t) then
    some (T.tup
      [T.agg
          [T.int IntKind.u8 (0 : Int), T.int IntKind.u8 (0 : Int), T.int IntKind.i64 (0 : Int), T.int IntKind.i64 (0 : Int),
            T.bool false],
        T.int IntKind.i64 (4 : Int)])
    else
    some (T.tup
      [T.agg
          [T.int IntKind.u8 (8 : Int),
            T.int IntKind.u8
              (IntKind.u8.wrap
                (Int.ofNat
                    ((List.drop (3 : Nat)
                            (List.take
                              (List.drop (1 : Nat) (List.take ((99 : UInt8) :: t).length ((99 : UInt8) :: t))).length
                              (List.drop (1 : Nat) (List.take ((99 : UInt8) :: t).length ((99 : UInt8) :: t))))).getD
                        (0 : Nat) (0 : UInt8)).toNat -
                  (48 : Int))),
            T.int IntKind.i64
              (IntKind.i64.wrap
                (IntKind.i64.wrap
                    (Int.ofNat
                      ((List.drop (1 : Nat) (List.take ((99 : UInt8) :: t).length ((99 : UInt8) :: t))).getD (0 : Nat)
                          (0 : UInt8)).toNat) -
                  (48 : Int))),
            T.int IntKind.i64
              (IntKind.i64.wrap
                (IntKind.i64.wrap
                    (Int.ofNat
                      ((List.drop (1 : Nat) (List.take ((99 : UInt8) :: t).length ((99 : UInt8) :: t))).getD (1 : Nat)
                          (0 : UInt8)).toNat) -
                  (48 : Int))),
            T.bool false],
        T.int IntKind.i64 (0 : Int)])
    else
    none
    else
    bif !decide
        (textF (8 : Int) (1 : Int)
            (IntKind.i64.wrap
              (IntKind.i64.wrap
                  (Int.ofNat
                    ((List.drop (1 : Nat) (List.take ((99 : UInt8) :: t).length ((99 : UInt8) :: t))).getD (0 : Nat)
                        (0 : UInt8)).toNat) -
                (48 : Int)))
            (IntKind.i64.wrap
              (IntKind.i64.wrap
                  (Int.ofNat
                    ((List.drop (1 : Nat) (List.take ((99 : UInt8) :: t).length ((99 : UInt8) :: t))).getD (1 : Nat)
                        (0 : UInt8)).toNat) -
                (48 : Int)))
            false =
          (99 : UInt8) :: t) then
    some (T.tup
      [T.agg
          [T.int IntKind.u8 (0 : Int), T.int IntKind.u8 (0 : Int), T.int IntKind.i64 (0 : Int), T.int IntKind.i64 (0 : Int),
            T.bool false],
        T.int IntKind.i64 (4 : Int)])
    else
    some (T.tup
      [T.agg
          [T.int IntKind.u8 (8 : Int), T.int IntKind.u8 (1 : Int),
            T.int IntKind.i64
              (IntKind.i64.wrap
                (IntKind.i64.wrap
                    (Int.ofNat
                      ((List.drop (1 : Nat) (List.take ((99 : UInt8) :: t).length ((99 : UInt8) :: t))).getD (0 : Nat)
                          (0 : UInt8)).toNat) -
                  (48 : Int))),
            T.int IntKind.i64
              (IntKind.i64.wrap
                (IntKind.i64.wrap
                    (Int.ofNat
                      ((List.drop (1 : Nat) (List.take ((99 : UInt8) :: t).length ((99 : UInt8) :: t))).getD (1 : Nat)
                          (0 : UInt8)).toNat) -
                  (48 : Int))),
            T.bool false],
        T.int IntKind.i64 (0 : Int)])
    else
    none
    else
    none
    else
    none
    else
    none
    else
    bif decide
      (Int.ofNat (List.drop (1 : Nat) (List.take ((99 : UInt8) :: t).length ((99 : UInt8) :: t))).length = (1 : Int)) then
    bif true &&
      decide
        ((0 : Int) < Int.ofNat (List.drop (1 : Nat) (List.take ((99 : UInt8) :: t).length ((99 : UInt8) :: t))).length) then
    bif !decide
        (textF (8 : Int)
            (IntKind.u8.wrap
              (Int.ofNat
                  ((List.drop (1 : Nat) (List.take ((99 : UInt8) :: t).length ((99 : UInt8) :: t))).getD (0 : Nat)
                      (0 : UInt8)).toNat -
                (48 : Int)))
            (0 : Int) (0 : Int) false =
          (99 : UInt8) :: t) then
    some (T.tup
      [T.agg
          [T.int IntKind.u8 (0 : Int), T.int IntKind.u8 (0 : Int), T.int IntKind.i64 (0 : Int), T.int IntKind.i64 (0 : Int),
            T.bool false],
        T.int IntKind.i64 (4 : Int)])
    else
    some (T.tup
      [T.agg
          [T.int IntKind.u8 (8 : Int),
            T.int IntKind.u8
              (IntKind.u8.wrap
                (Int.ofNat
                    ((List.drop (1 : Nat) (List.take ((99 : UInt8) :: t).length ((99 : UInt8) :: t))).getD (0 : Nat)
                        (0 : UInt8)).toNat -
                  (48 : Int))),
            T.int IntKind.i64 (0 : Int), T.int IntKind.i64 (0 : Int), T.bool false],
        T.int IntKind.i64 (0 : Int)])
    else
    none
    else
    some (T.tup
      [T.agg
          [T.int IntKind.u8 (0 : Int), T.int IntKind.u8 (0 : Int), T.int IntKind.i64 (0 : Int), T.int IntKind.i64 (0 : Int),
            T.bool false],
        T.int IntKind.i64 (4 : Int)])
    else
    none
    else
    none
    else
    none
    else
    none
    else
    none
    else
    none
    else
    none
    else
    none
    else
    none) from by kernel_rfl)]
  have hd : ∀ k y a b f, decide (textF k y a b f = 99 :: t) = false := fun k y a b f => decide_eq_false (hno k y a b f)
  simp only [hd]
  simp [stT]
  grind
end Go.Ab
