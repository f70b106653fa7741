/- A part of the proof: nothing is assumed. -/
import Derived.Test.YtjjnbjkbgjgpoaaP14
import Derived.Test.YtjjnbjkbgjgpoaaP11
import Derived.Test.YtjjnbjkbgjgpoaaP12
set_option linter.all false
namespace Go.Ab
open Go.Proofs
theorem u16_bd (x : Int) : 0 ≤ IntKind.u16.wrap x ∧ IntKind.u16.wrap x ≤ 65535 := by
  have e : IntKind.u16.wrap x = x % 65536 := rfl
  omega
theorem u8_bd (x : Int) : 0 ≤ IntKind.u8.wrap x ∧ IntKind.u8.wrap x ≤ 255 := by
  have e : IntKind.u8.wrap x = x % 256 := rfl
  omega
def kS : Nat → Int
  | 0 => 1
  | i + 1 => (IntKind.i64.wrap (IntKind.i64.wrap (kS i * 31) + 11)).tmod 100003
def at3 (a b c : Int) : Nat → Int
  | 0 => a
  | 1 => b
  | _ => c
theorem law6k (a c p0 q0 p1 q1 p2 q2 : Int) (ha : 0 ≤ a ∧ a ≤ 65535) (hc : 0 ≤ c ∧ c ≤ 65535) (h1 : 0 ≤ p0 ∧ p0 ≤ 255) (h2 : 0 ≤ q0 ∧ q0 ≤ 255) (h3 : 0 ≤ p1 ∧ p1 ≤ 255) (h4 : 0 ≤ q1 ∧ q1 ≤ 255) (h5 : 0 ≤ p2 ∧ p2 ≤ 255) (h6 : 0 ≤ q2 ∧ q2 ≤ 255) :
    ToldOk P37 G37 6 [.int .u16 a, .int .u16 c, .view 2 3 (fun j => [[T.int .u8 p0, .int .u8 q0], [.int .u8 p1, .int .u8 q1], [.int .u8 p2, .int .u8 q2]].getD (0 + j) []) (some 3)] (.bool true) := by
  refine (law6 a c (at3 p0 p1 p2) (at3 q0 q1 q2) 3 ha hc (fun j hj => ?_) (fun j hj => ?_)).sim (.cons (.refl _) (.cons (.refl _) (.cons (.view (.inr rfl) fun j hj => ?_) .nil)))
  · match j, hj with
    | 0, _ => exact h1
    | 1, _ => exact h3
    | 2, _ => exact h5
  · match j, hj with
    | 0, _ => exact h2
    | 1, _ => exact h4
    | 2, _ => exact h6
  · match j, hj with
    | 0, _ => exact .refl _
    | 1, _ => exact .refl _
    | 2, _ => exact .refl _
theorem law8k (a b c d e st : Int) : ToldOk P37 G37 8 [.view 1 5 (fun j => [[T.int .i64 a], [.int .i64 b], [.int .i64 c], [.int .i64 d], [.int .i64 e]].getD (0 + j) []) (some 5), .int .i64 st] (.bool true) := by
  refine (law8 5 (fun j => [a, b, c, d, e].getD j 0) st).sim (.cons (.view (.inr rfl) fun j hj => ?_) (.cons (.refl _) .nil))
  match j, hj with
  | 0, _ => exact .refl _
  | 1, _ => exact .refl _
  | 2, _ => exact .refl _
  | 3, _ => exact .refl _
  | 4, _ => exact .refl _
theorem okK9 {l6 l4 l5 l8 : List (List T)} (h6 : ∀ a ∈ l6, ToldOk P37 G37 6 a (.bool true)) (h4 : ∀ a ∈ l4, ToldOk P37 G37 4 a (.bool true)) (h5 : ∀ a ∈ l5, ToldOk P37 G37 5 a (.bool true)) (h8 : ∀ a ∈ l8, ToldOk P37 G37 8 a (.bool true)) : OrcOk P37 G37 (K9 l6 l4 l5 l8) :=
  told_add (told_add (told_add (told_add okK37b (callS_told h6)) (callS_told h4)) (callS_told h5)) (callS_told h8)
theorem r9 (i : Nat) (hi : i < 60) : ∃ g1 g2, Rnd P37 G37 (A37 9) 9 3 [.int .i64 (kS i), .int .i64 i] [] .normal [.int .i64 (kS (i + 1)), .int .i64 ((i + 1 : Nat) : Int)] [⟨0, 2, 3, g1, true, true⟩, ⟨0, 1, 5, g2, true, true⟩] := by
  have ek : kS (i + 1) = (IntKind.i64.wrap (IntKind.i64.wrap (kS i * 31) + 11)).tmod 100003 := rfl
  rw [ek]
  generalize kS i = k
  have o6 := law6k (IntKind.u16.wrap k) (IntKind.u16.wrap (IntKind.i64.wrap (Int.ofNat i * 7))) (IntKind.u8.wrap k) (IntKind.u8.wrap (IntKind.i64.wrap (k.tdiv 3))) 0 (IntKind.u8.wrap (IntKind.i64.wrap (k.tdiv 7))) (IntKind.u8.wrap (Int.ofNat i)) 30 (u16_bd _) (u16_bd _) (u8_bd _) (u8_bd _) (by omega) (u8_bd _) (u8_bd _) (by omega)
  have o4 : ToldOk P37 G37 4 [.int .u16 (IntKind.u16.wrap (Int.ofNat i)), .int .u16 (IntKind.u16.wrap k), .int .u16 (IntKind.u16.wrap (IntKind.i64.wrap (k * 3)))] (.bool true) := stepV_told hm37 hn37 okK37b (law4 _ _ _ (u16_bd _) (u16_bd _) (u16_bd _))
  have o5 := law5T (k.tmod 80001) (IntKind.i64.wrap (1 + Int.ofNat i)) (IntKind.u16.wrap (IntKind.i64.wrap ((Int.ofNat i).tdiv 2))) (IntKind.u16.wrap (Int.ofNat i)) (u16_bd _) (u16_bd _)
  have o8 := law8k (k.tmod 100) (Int.ofNat i) 0 (IntKind.i64.wrap (7 * Int.ofNat i)) 90 ((Int.ofNat i).tmod 9)
  have one : ∀ {f : Nat} {x : List T}, ToldOk P37 G37 f x (.bool true) → ∃ l, (∀ a ∈ l, ToldOk P37 G37 f a (.bool true)) ∧ x ∈ l := fun {f x} h => ⟨[x], fun a ha => by obtain rfl := List.mem_singleton.1 ha; exact h, List.mem_singleton.2 rfl⟩
  obtain ⟨l6, k6, m6⟩ := one o6
  obtain ⟨l4, k4, m4⟩ := one o4
  obtain ⟨l5, k5, m5⟩ := one o5
  obtain ⟨l8, k8, m8⟩ := one o8
  refine ⟨fun j => [[T.int .u8 (IntKind.u8.wrap k), .int .u8 (IntKind.u8.wrap (IntKind.i64.wrap (k.tdiv 3)))], [.int .u8 0, .int .u8 (IntKind.u8.wrap (IntKind.i64.wrap (k.tdiv 7)))], [.int .u8 (IntKind.u8.wrap (Int.ofNat i)), .int .u8 30]].getD j [],
    fun j => [[T.int .i64 (k.tmod 100)], [.int .i64 (Int.ofNat i)], [.int .i64 0], [.int .i64 (IntKind.i64.wrap (7 * Int.ofNat i))], [.int .i64 90]].getD j [], Rnd.of A37 (okK9 k6 k4 k5 k8) (m := 0) rfl rfl ?_⟩
  · rw [(show iterR P37 G37 A37 (K9 l6 l4 l5 l8) 0 9 [] 3 [.int .i64 k, .int .i64 i] [] =
(    bif decide (Int.ofNat i < (60 : Int)) then
    bif sameArgsF
      [T.int IntKind.u16 (IntKind.u16.wrap k),
        T.int IntKind.u16 (IntKind.u16.wrap (IntKind.i64.wrap (Int.ofNat i * (7 : Int)))),
        T.view (2 : Nat) (3 : Nat)
          (fun j =>
            [[T.int IntKind.u8 (IntKind.u8.wrap k),
                    T.int IntKind.u8 (IntKind.u8.wrap (IntKind.i64.wrap (k.tdiv (3 : Int))))],
                  [T.int IntKind.u8 (0 : Int), T.int IntKind.u8 (IntKind.u8.wrap (IntKind.i64.wrap (k.tdiv (7 : Int))))],
                  [T.int IntKind.u8 (IntKind.u8.wrap (Int.ofNat i)), T.int IntKind.u8 (30 : Int)]].getD
              ((0 : Nat) + j) [])
          (some (3 : Nat))]
      l6 then
    bif sameArgsF
      [T.int IntKind.u16 (IntKind.u16.wrap (Int.ofNat i)), T.int IntKind.u16 (IntKind.u16.wrap k),
        T.int IntKind.u16 (IntKind.u16.wrap (IntKind.i64.wrap (k * (3 : Int))))]
      l4 then
    bif sameArgsF
      [T.int IntKind.i64 (k.tmod (80001 : Int)), T.int IntKind.i64 (IntKind.i64.wrap ((1 : Int) + Int.ofNat i)),
        T.agg
          [T.int IntKind.u16 (IntKind.u16.wrap (IntKind.i64.wrap ((Int.ofNat i).tdiv (2 : Int)))),
            T.int IntKind.u16 (IntKind.u16.wrap (Int.ofNat i))]]
      l5 then
    bif sameArgsF
      [T.view (1 : Nat) (5 : Nat)
          (fun j =>
            [[T.int IntKind.i64 (k.tmod (100 : Int))], [T.int IntKind.i64 (Int.ofNat i)], [T.int IntKind.i64 (0 : Int)],
                  [T.int IntKind.i64 (IntKind.i64.wrap ((7 : Int) * Int.ofNat i))], [T.int IntKind.i64 (90 : Int)]].getD
              ((0 : Nat) + j) [])
          (some (5 : Nat)),
        T.int IntKind.i64 ((Int.ofNat i).tmod (9 : Int))]
      l8 then
    some ((Ex.normal,
      [T.int IntKind.i64 ((IntKind.i64.wrap (IntKind.i64.wrap (k * (31 : Int)) + (11 : Int))).tmod (100003 : Int)),
        T.int IntKind.i64 (IntKind.i64.wrap (Int.ofNat i + (1 : Int)))],
      [Blk.mk (0 : Nat) (2 : Nat) (3 : Nat)
          (fun j =>
            [[T.int IntKind.u8 (IntKind.u8.wrap k),
                    T.int IntKind.u8 (IntKind.u8.wrap (IntKind.i64.wrap (k.tdiv (3 : Int))))],
                  [T.int IntKind.u8 (0 : Int), T.int IntKind.u8 (IntKind.u8.wrap (IntKind.i64.wrap (k.tdiv (7 : Int))))],
                  [T.int IntKind.u8 (IntKind.u8.wrap (Int.ofNat i)), T.int IntKind.u8 (30 : Int)]].getD
              j [])
          true true,
        Blk.mk (0 : Nat) (1 : Nat) (5 : Nat)
          (fun j =>
            [[T.int IntKind.i64 (k.tmod (100 : Int))], [T.int IntKind.i64 (Int.ofNat i)], [T.int IntKind.i64 (0 : Int)],
                  [T.int IntKind.i64 (IntKind.i64.wrap ((7 : Int) * Int.ofNat i))], [T.int IntKind.i64 (90 : Int)]].getD
              j [])
          true true]))
    else
    none
    else
    none
    else
    none
    else
    none
    else
    some ((Ex.exit (0 : Nat), [T.undef], []))) from by kernel_rfl)]
    have eo : (Int.ofNat i : Int) = (i : Int) := rfl
    rw [dT (show Int.ofNat i < 60 by omega), args_yes m6, args_yes m4, args_yes m5, args_yes m8, wr64 (x := Int.ofNat i + 1) (by omega) (by omega)]
    rfl
theorem r9x : iterR P37 G37 A37 K37b 0 9 [] 3 [.int .i64 (kS 60), .int .i64 60] [] = some (.exit 0, [.undef], []) := by
  generalize kS 60 = k
  kernel_rfl
theorem l9 : LoopOk P37 G37 (A37 9) 9 3 (litS [.int .i64 1, .int .i64 0] [] (.exit 0) [.undef] []) :=
  .lit fun fn hf hnt => loop_seq hm37 (by kernel_rfl) hf hnt (fun i => [.int .i64 (kS i), .int .i64 (i : Int)]) (fun _ => []) (n := 60)
    (fun i hi => by
      obtain ⟨g1, g2, q⟩ := r9 i hi
      exact ⟨_, _, q, WeakTo.takeM (m := 0) (by simp) (h := [⟨0, 2, 3, g1, true, true⟩, ⟨0, 1, 5, g2, true, true⟩]) (by simp [trimOk, low, low0, imm0, lowBlk, Nat.blt])⟩)
    ⟨by simp, _, _, Rnd.of A37 okK37b rfl rfl r9x, .refl _ _⟩
theorem wide9 : ToldOk P37 G37 17 [.agg [.int .i64 1, .int .i64 400], .view 2 2 (fun j => [[T.int .i64 0, .int .i64 100], [.int .i64 101, .int .i64 100]].getD (0 + j) []) (some 2)] (.tup [.nils, .int .i64 3]) := by
  obtain ⟨r, hr, ht⟩ := widthsT 1 400 (at3 0 101 0) (at3 100 100 0) 2 (some 2) (by omega)
  have hg : Okg 1 400 := ⟨by omega, by omega, by omega, by omega⟩
  have ho : Okp 2 (at3 0 101 0) (at3 100 100 0) := by
    refine ⟨by omega, rfl, fun j hj => ?_⟩
    match j, hj with
    | 0, _ => simp [at3, bf]
    | 1, _ => simp [at3, bf]
  have er : rowsV 400 (at3 0 101 0) 2 = 404 := by decide
  have e : r = .tup [.nils, .int .i64 3] := by
    cases hr with
    | bad h => exact absurd ⟨hg, ho⟩ h
    | none _ _ h => rw [er] at h; omega
    | many _ _ _ => rfl
    | zero _ _ b k h _ h4 _ _ _ => rw [er] at h; omega
    | good _ _ b h _ h4 _ => rw [er] at h; omega
  subst e
  refine ht.sim (.cons (.refl _) (.cons (.view (.inl rfl) fun j hj => ?_) .nil))
  match j, hj with
  | 0, _ => exact .refl _
  | 1, _ => exact .refl _
theorem okK9b {l1 l2 l17 l3 : List (List T)} {r1 r2 : T} (h1 : ∀ a ∈ l1, ToldOk P37 G37 19 a r1) (h2 : ∀ a ∈ l2, ToldOk P37 G37 19 a r2) (h17 : ∀ a ∈ l17, ToldOk P37 G37 17 a (.tup [.nils, .int .i64 3])) (h3 : ∀ a ∈ l3, ToldOk P37 G37 3 a (.bool true)) : OrcOk P37 G37 (K9b l1 r1 l2 r2 l17 l3) :=
  told_add (told_add (told_add okK37b fun args r h => by
    rcases Tree.ite_some h with ⟨hc, h⟩ | ⟨_, h⟩
    · obtain rfl := Tree.ret_some h
      exact h2 _ (sameArgsF_iff.1 hc)
    · exact callS_told h1 _ _ h) (callS_told h17)) (callS_told h3)
theorem tree9 (l1 l2 l17 l3 : List (List T)) (g : Nat → List T) (z : Int) (hz : z = 1) (m1 : [T.view 1 401 (fun _ => [.int .i64 0]) (some 401), .int .i64 0] ∈ l1) (n2 : sameArgsF [T.view 1 401 (fun _ => [.int .i64 0]) (some 401), .int .i64 0] l2 = false) (m2 : [T.view 1 400 (fun _ => [.int .i64 0]) (some 400), .int .i64 0] ∈ l2)
    (m17 : [T.agg [.int .i64 1, .int .i64 400], .view 2 2 (fun j => [[T.int .i64 0, .int .i64 100], [.int .i64 101, .int .i64 100]].getD (0 + j) []) (some 2)] ∈ l17) (m3 : [T.int .i64 400, .int .i64 20000] ∈ l3) (m4 : [T.int .i64 401, .int .i64 20001] ∈ l3) (m5 : [T.int .i64 80000, .int .i64 20000] ∈ l3) :
    stepL P37 G37 A37 (K9b l1 (.tup [.nils, .int .i64 3]) l2 (.tup [.fresh true 1 400 g 400 (some 400), .int .i64 0]) l17 l3) 0 9 [(3, litS [.int .i64 z, .int .i64 0] [] (.exit 0) [.undef] [])] [] = some (.bool true) := by
  rw [(show stepL P37 G37 A37 (K9b l1 (.tup [.nils, .int .i64 3]) l2 (.tup [.fresh true 1 400 g 400 (some 400), .int .i64 0]) l17 l3) 0 9 [(3, litS [.int .i64 z, .int .i64 0] [] (.exit 0) [.undef] [])] [] =
(    bif sameStF [T.int IntKind.i64 (1 : Int), T.int IntKind.i64 (0 : Int)] []
      [T.int IntKind.i64 z, T.int IntKind.i64 (0 : Int)] [] then
    bif sameArgsF
      [T.view (1 : Nat) (401 : Nat) (fun j => [T.int IntKind.i64 (0 : Int)]) (some (401 : Nat)),
        T.int IntKind.i64 (0 : Int)]
      l2 then
    bif sameArgsF
      [T.view (1 : Nat) (400 : Nat) (fun j => [T.int IntKind.i64 (0 : Int)]) (some (400 : Nat)),
        T.int IntKind.i64 (0 : Int)]
      l2 then
    bif sameArgsF
      [T.agg [T.int IntKind.i64 (1 : Int), T.int IntKind.i64 (400 : Int)],
        T.view (2 : Nat) (2 : Nat)
          (fun j =>
            [[T.int IntKind.i64 (0 : Int), T.int IntKind.i64 (100 : Int)],
                  [T.int IntKind.i64 (101 : Int), T.int IntKind.i64 (100 : Int)]].getD
              ((0 : Nat) + j) [])
          (some (2 : Nat))]
      l17 then
    some (T.bool false)
    else
    none
    else
    bif sameArgsF
      [T.view (1 : Nat) (400 : Nat) (fun j => [T.int IntKind.i64 (0 : Int)]) (some (400 : Nat)),
        T.int IntKind.i64 (0 : Int)]
      l1 then
    bif sameArgsF
      [T.agg [T.int IntKind.i64 (1 : Int), T.int IntKind.i64 (400 : Int)],
        T.view (2 : Nat) (2 : Nat)
          (fun j =>
            [[T.int IntKind.i64 (0 : Int), T.int IntKind.i64 (100 : Int)],
                  [T.int IntKind.i64 (101 : Int), T.int IntKind.i64 (100 : Int)]].getD
              ((0 : Nat) + j) [])
          (some (2 : Nat))]
      l17 then
    some (T.bool false)
    else
    none
    else
    none
    else
    bif sameArgsF
      [T.view (1 : Nat) (401 : Nat) (fun j => [T.int IntKind.i64 (0 : Int)]) (some (401 : Nat)),
        T.int IntKind.i64 (0 : Int)]
      l1 then
    bif sameArgsF
      [T.view (1 : Nat) (400 : Nat) (fun j => [T.int IntKind.i64 (0 : Int)]) (some (400 : Nat)),
        T.int IntKind.i64 (0 : Int)]
      l2 then
    bif sameArgsF
      [T.agg [T.int IntKind.i64 (1 : Int), T.int IntKind.i64 (400 : Int)],
        T.view (2 : Nat) (2 : Nat)
          (fun j =>
            [[T.int IntKind.i64 (0 : Int), T.int IntKind.i64 (100 : Int)],
                  [T.int IntKind.i64 (101 : Int), T.int IntKind.i64 (100 : Int)]].getD
              ((0 : Nat) + j) [])
          (some (2 : Nat))]
      l17 then
    bif sameArgsF [T.int IntKind.i64 (400 : Int), T.int IntKind.i64 (20000 : Int)] l3 then
    bif sameArgsF [T.int IntKind.i64 (401 : Int), T.int IntKind.i64 (20001 : Int)] l3 then
    bif sameArgsF [T.int IntKind.i64 (80000 : Int), T.int IntKind.i64 (20000 : Int)] l3 then
    some (T.bool true)
    else
    none
    else
    none
    else
    none
    else
    none
    else
    bif sameArgsF
      [T.view (1 : Nat) (400 : Nat) (fun j => [T.int IntKind.i64 (0 : Int)]) (some (400 : Nat)),
        T.int IntKind.i64 (0 : Int)]
      l1 then
    bif sameArgsF
      [T.agg [T.int IntKind.i64 (1 : Int), T.int IntKind.i64 (400 : Int)],
        T.view (2 : Nat) (2 : Nat)
          (fun j =>
            [[T.int IntKind.i64 (0 : Int), T.int IntKind.i64 (100 : Int)],
                  [T.int IntKind.i64 (101 : Int), T.int IntKind.i64 (100 : Int)]].getD
              ((0 : Nat) + j) [])
          (some (2 : Nat))]
      l17 then
    some (T.bool false)
    else
    none
    else
    none
    else
    none
    else
    none) from by kernel_rfl)]
  subst hz
  refine bift (sameStF_iff.2 ⟨rfl, .nil⟩) ?_
  rw [n2, args_yes m1, args_yes m2, args_yes m17, args_yes m3, args_yes m4, args_yes m5]
  rfl
theorem law9 : ToldOk P37 G37 9 [] (.bool true) := by
  have b1 := evenBig 401 (fun _ => 0) (some 401) 0 (by omega) (fun _ _ => by omega) (by omega) (by omega)
  have b2 := evenGood 400 (fun _ => 0) (some 400) 0 (by omega) (fun _ _ => by omega) (by omega)
  have t3 : ∀ x y : Int, ToldOk P37 G37 3 [.int .i64 x, .int .i64 y] (.bool true) := fun x y => stepV_told hm37 hn37 okK37b (law3 x y)
  refine stepL_told hm37 hn37 (okK9b (l1 := [[T.view 1 401 (fun _ => [.int .i64 0]) (some 401), .int .i64 0]]) (l2 := [[T.view 1 400 (fun _ => [.int .i64 0]) (some 400), .int .i64 0]]) (l17 := [_]) (l3 := [[.int .i64 400, .int .i64 20000], [.int .i64 401, .int .i64 20001], [.int .i64 80000, .int .i64 20000]])
    (fun a h => by obtain rfl := List.mem_singleton.1 h; exact b1) (fun a h => by obtain rfl := List.mem_singleton.1 h; exact b2) (fun a h => by obtain rfl := List.mem_singleton.1 h; exact wide9) (fun a h => by simp only [List.mem_cons, List.not_mem_nil, or_false] at h; rcases h with rfl | rfl | rfl <;> exact t3 _ _)) (A := A37) (m := 0) (by kernel_rfl) (loops1 l9)
    (tree9 _ _ _ _ _ 1 rfl (List.mem_singleton.2 rfl) (args_no (by intro h; simp at h)) (List.mem_singleton.2 rfl) (List.mem_singleton.2 rfl) (by simp) (by simp) (by simp))
end Go.Ab

