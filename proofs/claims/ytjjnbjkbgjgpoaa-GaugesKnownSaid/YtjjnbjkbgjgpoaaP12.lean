/- A part of the proof: nothing is assumed. -/
import Derived.Test.YtjjnbjkbgjgpoaaP11
set_option linter.all false
namespace Go.Ab
open Go.Proofs
variable {H : Type}
theorem inv30 {ts : List T} {d : DataW H} (h : CT P37 30 ts d) : ∃ a b, topT P37 30 ts = .agg [.int .u16 a, .int .u16 b] ∧ (0 ≤ a ∧ a ≤ 65535) ∧ (0 ≤ b ∧ b ≤ 65535) := by
  obtain ⟨parts, ds, rfl, rfl, hs⟩ := CT.array_inv Try.underlying30 h; clear h; rename _ => h
  change CTs P37 [28, 28] parts ds at h
  obtain ⟨p1, _, d1, _, rfl, rfl, h1, h⟩ := h.cons
  obtain ⟨p2, _, d2, _, rfl, rfl, h2, h⟩ := h.cons
  obtain ⟨rfl, rfl⟩ := h.nil
  obtain ⟨a, rfl, rfl, w1⟩ := h1.int_inv Try.underlying28
  obtain ⟨b, rfl, rfl, w2⟩ := h2.int_inv Try.underlying28
  refine ⟨a, b, ?_, wf_u16 w1, wf_u16 w2⟩
  simp [topT, show aggTy P37 30 = true by kernel_rfl]
end Go.Ab

/- The plain law of even widths. -/
namespace Go.Ab.Even
def mn (a b : Int) : Int := if b < a then b else a
theorem mn_le1 (a b : Int) : mn a b ≤ a := by unfold mn; split <;> omega
theorem mn_le2 (a b : Int) : mn a b ≤ b := by unfold mn; split <;> omega
theorem mn_or (a b : Int) : mn a b = a ∨ mn a b = b := by unfold mn; split <;> simp
/-- How far apart. -/
def dd (i k : Nat) : Int := if i < k then (k : Int) - i else (i : Int) - k
theorem dd_nn (i k : Nat) : 0 ≤ dd i k := by unfold dd; split <;> omega
theorem dd_self (i : Nat) : dd i i = 0 := by unfold dd; simp
theorem dd_tri (i k m : Nat) : dd i m ≤ dd i k + dd k m := by unfold dd; split <;> split <;> split <;> omega
variable (x : Nat → Int) (s : Int)
def fwd : Nat → Int
  | 0 => x 0
  | j + 1 => mn (x (j + 1)) (fwd j + s)
/-- From the right: d steps from the last one. -/
def bwr (n : Nat) : Nat → Int
  | 0 => fwd x s (n - 1)
  | d + 1 => mn (fwd x s (n - 2 - d)) (bwr n d + s)
def ev (n j : Nat) : Int := bwr x s n (n - 1 - j)
def wk (i : Nat) : Nat → Int
  | 0 => x i
  | k + 1 => mn (wk i k) (x k + dd i k * s)
variable {x s}
theorem dd_mul (hs : 0 ≤ s) (i k m : Nat) : dd i m * s ≤ dd i k * s + dd k m * s := by
  rw [← Int.add_mul]
  exact Int.mul_le_mul_of_nonneg_right (dd_tri i k m) hs
theorem dd_mul_nn (hs : 0 ≤ s) (i k : Nat) : 0 ≤ dd i k * s := Int.mul_nonneg (dd_nn i k) hs
theorem dd_succ (k j : Nat) (h : k ≤ j) : dd (j + 1) k * s = dd j k * s + s := by
  have : dd (j + 1) k = dd j k + 1 := by unfold dd; rw [if_neg (by omega), if_neg (by omega)]; omega
  rw [this, Int.add_mul]; omega
theorem dd_pred (k j : Nat) (h : j < k) : dd j k * s = dd (j + 1) k * s + s := by
  have : dd j k = dd (j + 1) k + 1 := by
    unfold dd
    rw [if_pos h]
    by_cases q : j + 1 < k
    · rw [if_pos q]; omega
    · rw [if_neg q]; omega
  rw [this, Int.add_mul]; omega
theorem fwd_sp (hs : 0 ≤ s) : ∀ j, (∀ k, k ≤ j → fwd x s j ≤ x k + dd j k * s) ∧ ∃ k, k ≤ j ∧ fwd x s j = x k + dd j k * s
  | 0 => by
    refine ⟨fun k hk => ?_, 0, Nat.le_refl _, ?_⟩
    · obtain rfl : k = 0 := by omega
      simp [fwd, dd_self]
    · simp [fwd, dd_self]
  | j + 1 => by
    obtain ⟨h1, k0, h2, h3⟩ := fwd_sp hs j
    simp only [fwd]
    have a1 := mn_le1 (x (j + 1)) (fwd x s j + s)
    have a2 := mn_le2 (x (j + 1)) (fwd x s j + s)
    refine ⟨fun k hk => ?_, ?_⟩
    · by_cases q : k = j + 1
      · subst q; simp [dd_self]; exact a1
      · have := h1 k (by omega)
        rw [dd_succ k j (by omega)]
        omega
    · rcases mn_or (x (j + 1)) (fwd x s j + s) with e | e
      · exact ⟨j + 1, Nat.le_refl _, by rw [e]; simp [dd_self]⟩
      · exact ⟨k0, by omega, by rw [e, dd_succ k0 j h2, h3]; omega⟩
theorem bwr_sp (hs : 0 ≤ s) (n : Nat) : ∀ d, d < n → (∀ k, n - 1 - d ≤ k → k < n → bwr x s n d ≤ fwd x s k + dd (n - 1 - d) k * s) ∧ ∃ k, n - 1 - d ≤ k ∧ k < n ∧ bwr x s n d = fwd x s k + dd (n - 1 - d) k * s
  | 0, hd => by
    refine ⟨fun k h1 h2 => ?_, n - 1, by omega, by omega, ?_⟩
    · obtain rfl : k = n - 1 := by omega
      simp [bwr, dd_self]
    · simp [bwr, dd_self]
  | d + 1, hd => by
    obtain ⟨h1, k0, h2, h3, h4⟩ := bwr_sp hs n d (by omega)
    have e0 : n - 1 - d = (n - 2 - d) + 1 := by omega
    have e1 : n - 1 - (d + 1) = n - 2 - d := by omega
    rw [e0] at h1 h2 h4
    rw [e1]
    simp only [bwr]
    have a1 := mn_le1 (fwd x s (n - 2 - d)) (bwr x s n d + s)
    have a2 := mn_le2 (fwd x s (n - 2 - d)) (bwr x s n d + s)
    refine ⟨fun k q1 q2 => ?_, ?_⟩
    · by_cases q : k = n - 2 - d
      · subst q; simp [dd_self]; exact a1
      · have := h1 k (by omega) q2
        rw [dd_pred k (n - 2 - d) (by omega)]
        omega
    · rcases mn_or (fwd x s (n - 2 - d)) (bwr x s n d + s) with e | e
      · exact ⟨n - 2 - d, Nat.le_refl _, by omega, by rw [e]; simp [dd_self]⟩
      · exact ⟨k0, by omega, h3, by rw [e, h4, dd_pred k0 (n - 2 - d) (by omega)]; omega⟩
/-- The least of all. -/
def Least (x : Nat → Int) (s : Int) (n i : Nat) (v : Int) : Prop := (∀ k, k < n → v ≤ x k + dd i k * s) ∧ ∃ k, k < n ∧ v = x k + dd i k * s
theorem Least.eq {n i : Nat} {v v' : Int} (h : Least x s n i v) (h' : Least x s n i v') : v = v' := by
  obtain ⟨h1, k, h2, h3⟩ := h
  obtain ⟨h1', k', h2', h3'⟩ := h'
  have := h1 k' h2'
  have := h1' k h2
  omega
theorem ev_least (hs : 0 ≤ s) {n j : Nat} (hj : j < n) : Least x s n j (ev x s n j) := by
  obtain ⟨h1, k0, h2, h3, h4⟩ := bwr_sp (x := x) hs n (n - 1 - j) (by omega)
  rw [show n - 1 - (n - 1 - j) = j by omega] at h1 h2 h4
  have hle : ∀ k, k < n → ev x s n j ≤ x k + dd j k * s := by
    intro k hk
    by_cases q : k ≤ j
    · have a := h1 j (Nat.le_refl _) hj
      rw [dd_self] at a
      have b := (fwd_sp (x := x) hs j).1 k q
      unfold ev; omega
    · have a := h1 k (by omega) hk
      have b := (fwd_sp (x := x) hs k).1 k (Nat.le_refl _)
      rw [dd_self] at b
      unfold ev; omega
  refine ⟨hle, ?_⟩
  obtain ⟨_, m, m1, m2⟩ := fwd_sp (x := x) hs k0
  refine ⟨m, by omega, ?_⟩
  have a := hle m (by omega)
  have b := dd_mul hs j k0 m
  have : ev x s n j = fwd x s k0 + dd j k0 * s := h4
  omega
theorem wk_sp (i : Nat) : ∀ m, wk x s i m ≤ x i ∧ (∀ k, k < m → wk x s i m ≤ x k + dd i k * s) ∧ (wk x s i m = x i ∨ ∃ k, k < m ∧ wk x s i m = x k + dd i k * s)
  | 0 => ⟨Int.le_refl _, fun k h => by omega, .inl rfl⟩
  | m + 1 => by
    obtain ⟨h0, h1, h2⟩ := wk_sp i m
    simp only [wk]
    have a1 := mn_le1 (wk x s i m) (x m + dd i m * s)
    have a2 := mn_le2 (wk x s i m) (x m + dd i m * s)
    refine ⟨by omega, fun k hk => ?_, ?_⟩
    · by_cases q : k = m
      · subst q; exact a2
      · have := h1 k (by omega); omega
    · rcases mn_or (wk x s i m) (x m + dd i m * s) with e | e
      · rw [e]
        rcases h2 with h2 | ⟨k, h2, h3⟩
        · exact .inl h2
        · exact .inr ⟨k, by omega, h3⟩
      · exact .inr ⟨m, by omega, e⟩
theorem wk_least {n i : Nat} (hi : i < n) : Least x s n i (wk x s i n) := by
  obtain ⟨h0, h1, h2⟩ := wk_sp (x := x) (s := s) i n
  refine ⟨h1, ?_⟩
  rcases h2 with h2 | h2
  · exact ⟨i, hi, by rw [dd_self, h2]; omega⟩
  · exact h2
theorem ev_eq_wk (hs : 0 ≤ s) {n j : Nat} (hj : j < n) : ev x s n j = wk x s j n := (ev_least hs hj).eq (wk_least hj)
/-- Once more. -/
theorem ev_ev (hs : 0 ≤ s) {n j : Nat} (hj : j < n) (y : Nat → Int) (hy : ∀ k, k < n → y k = ev x s n k) : ev y s n j = ev x s n j := by
  obtain ⟨a1, k, a2, a3⟩ := ev_least (x := y) hs hj
  have b := a1 j hj
  rw [dd_self, hy j hj] at b
  rw [hy k a2] at a3
  obtain ⟨_, m, c2, c3⟩ := ev_least (x := x) hs a2
  have d := (ev_least (x := x) hs hj).1 m c2
  have e := dd_mul hs j k m
  omega
theorem ev_bd (hs : 0 ≤ s) {n j : Nat} {M : Int} (hj : j < n) (hx : ∀ k, k < n → 0 ≤ x k ∧ x k ≤ M) : 0 ≤ ev x s n j ∧ ev x s n j ≤ M := by
  obtain ⟨a1, k, a2, a3⟩ := ev_least (x := x) hs hj
  have b := a1 j hj
  rw [dd_self] at b
  have := hx k a2
  have := hx j hj
  have := dd_mul_nn hs j k
  omega
theorem fwd_bd (hs : 0 ≤ s) {M : Int} (n : Nat) (hx : ∀ k, k < n → 0 ≤ x k ∧ x k ≤ M) : ∀ j, j < n → 0 ≤ fwd x s j ∧ fwd x s j ≤ M := by
  intro j hj
  obtain ⟨a1, k, a2, a3⟩ := fwd_sp (x := x) hs j
  have b := a1 j (Nat.le_refl _)
  rw [dd_self] at b
  have := hx k (by omega)
  have := hx j hj
  have := dd_mul_nn hs j k
  omega
theorem bwr_bd (hs : 0 ≤ s) {M : Int} (n : Nat) (hx : ∀ k, k < n → 0 ≤ x k ∧ x k ≤ M) (d : Nat) (hd : d < n) : 0 ≤ bwr x s n d ∧ bwr x s n d ≤ M := by
  have := ev_bd (x := x) hs (n := n) (j := n - 1 - d) (by omega) hx
  unfold ev at this
  rwa [show n - 1 - (n - 1 - d) = d by omega] at this
end Go.Ab.Even

namespace Go.Ab
open Go.Proofs
def ints (x : Nat → Int) : Nat → List T := fun j => [.int .i64 (x j)]
def iblk (n : Nat) (x : Nat → Int) : Blk := ⟨0, 1, n, fun j => [.int .i64 (x j)], true, false⟩
theorem e4r (l s : T) (h : Heap) (n : Nat) (x : Nat → Int) (c : Option Nat) (i : Nat) (hi : i ≤ n) (hn : n ≤ 4611686018427387904) :
    iterR P37 G37 A37 K37b 0 19 [] 4 [l, s, .view 1 n (fun j => [.int .i64 (x j)]) c, .int .i64 n, .int .i64 i] h =
    if i < n then (if 0 ≤ x i ∧ x i ≤ 80000 then some (.normal, [l, s, .view 1 n (fun j => [.int .i64 (x j)]) c, .int .i64 n, .int .i64 ((i + 1 : Nat) : Int)], h) else some (.ret, [l, s, .nils, .int .i64 1], h)) else some (.exit 0, [l, s, .undef, .undef], h) := by
  rw [(show iterR P37 G37 A37 K37b 0 19 [] 4 [l, s, .view 1 n (fun j => [.int .i64 (x j)]) c, .int .i64 n, .int .i64 i] h =
(    bif decide (Int.ofNat i < Int.ofNat n) then
    bif decide ((0 : Int) ≤ Int.ofNat i) && decide (Int.ofNat i < Int.ofNat n) then
    bif decide ((0 : Int) ≤ x i) && decide (x i ≤ (80000 : Int)) then
    some ((Ex.normal,
      [l, s, T.view (1 : Nat) n (fun j => [T.int IntKind.i64 (x j)]) c, T.int IntKind.i64 (Int.ofNat n),
        T.int IntKind.i64 (IntKind.i64.wrap (Int.ofNat i + (1 : Int)))],
      h))
    else
    some ((Ex.ret, [l, s, T.nils, T.int IntKind.i64 (1 : Int)], h))
    else
    none
    else
    some ((Ex.exit (0 : Nat), [l, s, T.undef, T.undef], h))) from by kernel_rfl)]
  have ei : (Int.ofNat i).toNat = i := rfl
  have eo : (Int.ofNat i : Int) = (i : Int) := rfl
  have en : (Int.ofNat n : Int) = (n : Int) := rfl
  simp only [ei, eo, en]
  rw [wr64 (x := (i : Int) + 1) (by omega) (by omega)]
  by_cases h1 : i < n
  · rw [if_pos h1, dT (show (i : Int) < n by omega), dT (show 0 ≤ (i : Int) by omega)]
    by_cases h2 : 0 ≤ x i ∧ x i ≤ 80000
    · rw [if_pos h2, dT h2.1, dT h2.2]; rfl
    · rw [if_neg h2]
      by_cases h3 : 0 ≤ x i
      · rw [dT h3, dF (fun q => h2 ⟨h3, q⟩)]; rfl
      · rw [dF h3]; rfl
  · rw [if_neg h1, dF (by omega)]; rfl
theorem e4good (l s : T) (h : Heap) (n : Nat) (x : Nat → Int) (c : Option Nat) (hn : n ≤ 4611686018427387904) (hg : ∀ j, j < n → 0 ≤ x j ∧ x j ≤ 80000) :
    LoopOk P37 G37 (A37 19) 19 4 (litS [l, s, .view 1 n (fun j => [.int .i64 (x j)]) c, .int .i64 n, .int .i64 0] h (.exit 0) [l, s, .undef, .undef] h) :=
  .lit fun fn hf hnt => loop_seq hm37 (by kernel_rfl) hf hnt (fun i => [l, s, .view 1 n (fun j => [.int .i64 (x j)]) c, .int .i64 n, .int .i64 (i : Int)]) (fun _ => h) (n := n)
    (fun i hi => ⟨_, _, Rnd.of A37 okK37b rfl rfl (by rw [e4r l s h n x c i (by omega) hn, if_pos hi, if_pos (hg i hi)]), .refl _ _⟩)
    ⟨by simp, _, _, Rnd.of A37 okK37b rfl rfl (by rw [e4r l s h n x c n (by omega) hn, if_neg (by omega)]), .refl _ _⟩
theorem e4bad (l s : T) (h : Heap) (n : Nat) (x : Nat → Int) (c : Option Nat) (hn : n ≤ 4611686018427387904) (hg : ∃ j, j < n ∧ ¬ (0 ≤ x j ∧ x j ≤ 80000)) :
    LoopOk P37 G37 (A37 19) 19 4 (litS [l, s, .view 1 n (fun j => [.int .i64 (x j)]) c, .int .i64 n, .int .i64 0] h .ret [l, s, .nils, .int .i64 1] h) := by
  obtain ⟨j, h1, h2, h3⟩ := first_bad hg
  exact .lit fun fn hf hnt => loop_seq hm37 (by kernel_rfl) hf hnt (fun i => [l, s, .view 1 n (fun j => [.int .i64 (x j)]) c, .int .i64 n, .int .i64 (i : Int)]) (fun _ => h) (n := j)
    (fun i hi => ⟨_, _, Rnd.of A37 okK37b rfl rfl (by rw [e4r l s h n x c i (by omega) hn, if_pos (by omega), if_pos (h3 i hi)]), .refl _ _⟩)
    ⟨by simp, _, _, Rnd.of A37 okK37b rfl rfl (by rw [e4r l s h n x c j (by omega) hn, if_pos h1, if_neg h2]), .refl _ _⟩
/-- A round of the way there. -/
theorem e15r (s : Int) (n : Nat) (x : Nat → Int) (i : Nat) (h0 : 1 ≤ i) (hi : i < n) (hn : n ≤ 400) (hs : 0 ≤ s ∧ s ≤ 80000) (hx : ∀ j, j < n → 0 ≤ x j ∧ x j ≤ 80000) :
    iterR P37 G37 A37 K37b 0 19 [] 15 [.int .i64 s, .own 0 0 0 n (some n), .int .i64 i] [iblk n x] =
    some (.normal, [.int .i64 s, .own 0 0 0 n (some n), .int .i64 ((i + 1 : Nat) : Int)], [iblk n fun e => if e = i then Even.mn (x i) (x (i - 1) + s) else x e]) := by
  rw [(show iterR P37 G37 A37 K37b 0 19 [] 15 [.int .i64 s, .own 0 0 0 n (some n), .int .i64 i] [iblk n x] =
(    bif decide (Int.ofNat i < Int.ofNat n) then
    bif decide ((0 : Int) ≤ Int.ofNat i) && decide (Int.ofNat i < Int.ofNat n) then
    bif ((0 : Nat) + i).blt n then
    bif decide ((0 : Int) ≤ IntKind.i64.wrap (Int.ofNat i - (1 : Int))) &&
      decide (IntKind.i64.wrap (Int.ofNat i - (1 : Int)) < Int.ofNat n) then
    bif ((0 : Nat) + (IntKind.i64.wrap (Int.ofNat i - (1 : Int))).toNat).blt n then
    bif decide ((0 : Int) ≤ Int.ofNat i) && decide (Int.ofNat i < Int.ofNat n) then
    bif true && ((0 : Nat) + i).blt n &&
          [T.int IntKind.i64
                  (bif
                      decide
                        (IntKind.i64.wrap (x ((0 : Nat) + (IntKind.i64.wrap (Int.ofNat i - (1 : Int))).toNat) + s) <
                          x ((0 : Nat) + i)) then
                    IntKind.i64.wrap (x ((0 : Nat) + (IntKind.i64.wrap (Int.ofNat i - (1 : Int))).toNat) + s)
                  else x ((0 : Nat) + i))].length ==
            (1 : Nat) &&
        true &&
      Nat.ble (1 : Nat) [T.int IntKind.i64 (x ((0 : Nat) + i))].length then
    some ((Ex.normal,
      [T.int IntKind.i64 s, T.own (0 : Nat) (0 : Nat) (0 : Nat) n (some n),
        T.int IntKind.i64 (IntKind.i64.wrap (Int.ofNat i + (1 : Int)))],
      [Blk.mk (0 : Nat) (1 : Nat) n
          (fun e =>
            bif e == (0 : Nat) + i then
              [T.int IntKind.i64
                  (bif
                      decide
                        (IntKind.i64.wrap (x ((0 : Nat) + (IntKind.i64.wrap (Int.ofNat i - (1 : Int))).toNat) + s) <
                          x ((0 : Nat) + i)) then
                    IntKind.i64.wrap (x ((0 : Nat) + (IntKind.i64.wrap (Int.ofNat i - (1 : Int))).toNat) + s)
                  else x ((0 : Nat) + i))]
            else [T.int IntKind.i64 (x e)])
          true false]))
    else
    none
    else
    none
    else
    none
    else
    none
    else
    none
    else
    none
    else
    some ((Ex.exit (2 : Nat), [T.int IntKind.i64 s, T.own (0 : Nat) (0 : Nat) (0 : Nat) n (some n)],
      [Blk.mk (0 : Nat) (1 : Nat) n (fun j => [T.int IntKind.i64 (x j)]) true false]))) from by kernel_rfl)]
  have ei : (Int.ofNat i).toNat = i := rfl
  have eo : (Int.ofNat i : Int) = (i : Int) := rfl
  have en : (Int.ofNat n : Int) = (n : Int) := rfl
  simp only [ei, eo, en]
  rw [wr64 (x := (i : Int) - 1) (by omega) (by omega), wr64 (x := (i : Int) + 1) (by omega) (by omega), show 0 + i = i by omega, show 0 + ((i : Int) - 1).toNat = i - 1 by omega]
  have := hx (i - 1) (by omega)
  rw [wr64 (x := x (i - 1) + s) (by omega) (by omega), dT (show (i : Int) < n by omega), dT (show 0 ≤ (i : Int) by omega), dT (show 0 ≤ (i : Int) - 1 by omega), dT (show (i : Int) - 1 < n by omega), bltT hi, bltT (show i - 1 < n by omega)]
  simp only [Bool.and_self, cond_true, List.length_singleton, Nat.ble_eq, Nat.le_refl, decide_true, beq_self_eq_true]
  refine congrArg some (congrArg (Prod.mk _) (congrArg (Prod.mk _) ?_))
  refine congrArg (fun g => [Blk.mk 0 1 n g true false]) ?_
  funext e
  by_cases q : e = i
  · subst q
    simp only [beq_self_eq_true, cond_true, if_true, Even.mn]
    by_cases q2 : x (e - 1) + s < x e
    · rw [dT q2, if_pos q2]; rfl
    · rw [dF q2, if_neg q2]; rfl
  · rw [show (e == i) = false by simpa using q]; simp [q]
theorem e15x (s : Int) (n : Nat) (x : Nat → Int) (i : Int) (hi : (n : Int) ≤ i) :
    iterR P37 G37 A37 K37b 0 19 [] 15 [.int .i64 s, .own 0 0 0 n (some n), .int .i64 i] [iblk n x] = some (.exit 2, [.int .i64 s, .own 0 0 0 n (some n)], [iblk n x]) := by
  rw [(show iterR P37 G37 A37 K37b 0 19 [] 15 [.int .i64 s, .own 0 0 0 n (some n), .int .i64 i] [iblk n x] =
(    bif decide (i < Int.ofNat n) then
    bif decide ((0 : Int) ≤ i) && decide (i < Int.ofNat n) then
    bif ((0 : Nat) + i.toNat).blt n then
    bif decide ((0 : Int) ≤ IntKind.i64.wrap (i - (1 : Int))) &&
      decide (IntKind.i64.wrap (i - (1 : Int)) < Int.ofNat n) then
    bif ((0 : Nat) + (IntKind.i64.wrap (i - (1 : Int))).toNat).blt n then
    bif decide ((0 : Int) ≤ i) && decide (i < Int.ofNat n) then
    bif true && ((0 : Nat) + i.toNat).blt n &&
          [T.int IntKind.i64
                  (bif
                      decide
                        (IntKind.i64.wrap (x ((0 : Nat) + (IntKind.i64.wrap (i - (1 : Int))).toNat) + s) <
                          x ((0 : Nat) + i.toNat)) then
                    IntKind.i64.wrap (x ((0 : Nat) + (IntKind.i64.wrap (i - (1 : Int))).toNat) + s)
                  else x ((0 : Nat) + i.toNat))].length ==
            (1 : Nat) &&
        true &&
      Nat.ble (1 : Nat) [T.int IntKind.i64 (x ((0 : Nat) + i.toNat))].length then
    some ((Ex.normal,
      [T.int IntKind.i64 s, T.own (0 : Nat) (0 : Nat) (0 : Nat) n (some n),
        T.int IntKind.i64 (IntKind.i64.wrap (i + (1 : Int)))],
      [Blk.mk (0 : Nat) (1 : Nat) n
          (fun e =>
            bif e == (0 : Nat) + i.toNat then
              [T.int IntKind.i64
                  (bif
                      decide
                        (IntKind.i64.wrap (x ((0 : Nat) + (IntKind.i64.wrap (i - (1 : Int))).toNat) + s) <
                          x ((0 : Nat) + i.toNat)) then
                    IntKind.i64.wrap (x ((0 : Nat) + (IntKind.i64.wrap (i - (1 : Int))).toNat) + s)
                  else x ((0 : Nat) + i.toNat))]
            else [T.int IntKind.i64 (x e)])
          true false]))
    else
    none
    else
    none
    else
    none
    else
    none
    else
    none
    else
    none
    else
    some ((Ex.exit (2 : Nat), [T.int IntKind.i64 s, T.own (0 : Nat) (0 : Nat) (0 : Nat) n (some n)],
      [Blk.mk (0 : Nat) (1 : Nat) n (fun j => [T.int IntKind.i64 (x j)]) true false]))) from by kernel_rfl)]
  rw [dF (show ¬ i < Int.ofNat n by have : (Int.ofNat n : Int) = (n : Int) := rfl; omega)]; rfl
theorem e19r (s : Int) (n : Nat) (x : Nat → Int) (i : Nat) (hi : i + 1 < n) (hn : n ≤ 400) (hs : 0 ≤ s ∧ s ≤ 80000) (hx : ∀ j, j < n → 0 ≤ x j ∧ x j ≤ 80000) :
    iterR P37 G37 A37 K37b 0 19 [] 19 [.int .i64 s, .own 0 0 0 n (some n), .int .i64 i] [iblk n x] =
    some (.normal, [.int .i64 s, .own 0 0 0 n (some n), .int .i64 ((i : Int) - 1)], [iblk n fun e => if e = i then Even.mn (x i) (x (i + 1) + s) else x e]) := by
  rw [(show iterR P37 G37 A37 K37b 0 19 [] 19 [.int .i64 s, .own 0 0 0 n (some n), .int .i64 i] [iblk n x] =
(    bif decide ((0 : Int) ≤ Int.ofNat i) && decide (Int.ofNat i < Int.ofNat n) then
    bif ((0 : Nat) + i).blt n then
    bif decide ((0 : Int) ≤ IntKind.i64.wrap (Int.ofNat i + (1 : Int))) &&
      decide (IntKind.i64.wrap (Int.ofNat i + (1 : Int)) < Int.ofNat n) then
    bif ((0 : Nat) + (IntKind.i64.wrap (Int.ofNat i + (1 : Int))).toNat).blt n then
    bif decide ((0 : Int) ≤ Int.ofNat i) && decide (Int.ofNat i < Int.ofNat n) then
    bif true && ((0 : Nat) + i).blt n &&
          [T.int IntKind.i64
                  (bif
                      decide
                        (IntKind.i64.wrap (x ((0 : Nat) + (IntKind.i64.wrap (Int.ofNat i + (1 : Int))).toNat) + s) <
                          x ((0 : Nat) + i)) then
                    IntKind.i64.wrap (x ((0 : Nat) + (IntKind.i64.wrap (Int.ofNat i + (1 : Int))).toNat) + s)
                  else x ((0 : Nat) + i))].length ==
            (1 : Nat) &&
        true &&
      Nat.ble (1 : Nat) [T.int IntKind.i64 (x ((0 : Nat) + i))].length then
    some ((Ex.normal,
      [T.int IntKind.i64 s, T.own (0 : Nat) (0 : Nat) (0 : Nat) n (some n),
        T.int IntKind.i64 (IntKind.i64.wrap (Int.ofNat i - (1 : Int)))],
      [Blk.mk (0 : Nat) (1 : Nat) n
          (fun e =>
            bif e == (0 : Nat) + i then
              [T.int IntKind.i64
                  (bif
                      decide
                        (IntKind.i64.wrap (x ((0 : Nat) + (IntKind.i64.wrap (Int.ofNat i + (1 : Int))).toNat) + s) <
                          x ((0 : Nat) + i)) then
                    IntKind.i64.wrap (x ((0 : Nat) + (IntKind.i64.wrap (Int.ofNat i + (1 : Int))).toNat) + s)
                  else x ((0 : Nat) + i))]
            else [T.int IntKind.i64 (x e)])
          true false]))
    else
    none
    else
    none
    else
    none
    else
    none
    else
    none
    else
    none) from by kernel_rfl)]
  have ei : (Int.ofNat i).toNat = i := rfl
  have eo : (Int.ofNat i : Int) = (i : Int) := rfl
  have en : (Int.ofNat n : Int) = (n : Int) := rfl
  simp only [ei, eo, en]
  rw [wr64 (x := (i : Int) - 1) (by omega) (by omega), wr64 (x := (i : Int) + 1) (by omega) (by omega), show 0 + i = i by omega, show 0 + ((i : Int) + 1).toNat = i + 1 by omega]
  have := hx (i + 1) (by omega)
  rw [wr64 (x := x (i + 1) + s) (by omega) (by omega), dT (show (i : Int) < n by omega), dT (show 0 ≤ (i : Int) by omega), dT (show 0 ≤ (i : Int) + 1 by omega), dT (show (i : Int) + 1 < n by omega), bltT (show i < n by omega), bltT (show i + 1 < n by omega)]
  simp only [Bool.and_self, cond_true, List.length_singleton, Nat.ble_eq, Nat.le_refl, decide_true, beq_self_eq_true]
  refine congrArg some (congrArg (Prod.mk _) (congrArg (Prod.mk _) ?_))
  refine congrArg (fun g => [Blk.mk 0 1 n g true false]) ?_
  funext e
  by_cases q : e = i
  · subst q
    simp only [beq_self_eq_true, cond_true, if_true, Even.mn]
    by_cases q2 : x (e + 1) + s < x e
    · rw [dT q2, if_pos q2]; rfl
    · rw [dF q2, if_neg q2]; rfl
  · rw [show (e == i) = false by simpa using q]; simp [q]
theorem e19x (s : Int) (n : Nat) (x : Nat → Int) (i : Int) (hi : i < 0) :
    iterR P37 G37 A37 K37b 0 19 [] 19 [.int .i64 s, .own 0 0 0 n (some n), .int .i64 i] [iblk n x] = some (.exit 4, [.own 0 0 0 n (some n)], [iblk n x]) := by
  rw [(show iterR P37 G37 A37 K37b 0 19 [] 19 [.int .i64 s, .own 0 0 0 n (some n), .int .i64 i] [iblk n x] =
(    bif decide ((0 : Int) ≤ i) then
    bif decide ((0 : Int) ≤ i) && decide (i < Int.ofNat n) then
    bif ((0 : Nat) + i.toNat).blt n then
    bif decide ((0 : Int) ≤ IntKind.i64.wrap (i + (1 : Int))) &&
      decide (IntKind.i64.wrap (i + (1 : Int)) < Int.ofNat n) then
    bif ((0 : Nat) + (IntKind.i64.wrap (i + (1 : Int))).toNat).blt n then
    bif decide ((0 : Int) ≤ i) && decide (i < Int.ofNat n) then
    bif true && ((0 : Nat) + i.toNat).blt n &&
          [T.int IntKind.i64
                  (bif
                      decide
                        (IntKind.i64.wrap (x ((0 : Nat) + (IntKind.i64.wrap (i + (1 : Int))).toNat) + s) <
                          x ((0 : Nat) + i.toNat)) then
                    IntKind.i64.wrap (x ((0 : Nat) + (IntKind.i64.wrap (i + (1 : Int))).toNat) + s)
                  else x ((0 : Nat) + i.toNat))].length ==
            (1 : Nat) &&
        true &&
      Nat.ble (1 : Nat) [T.int IntKind.i64 (x ((0 : Nat) + i.toNat))].length then
    some ((Ex.normal,
      [T.int IntKind.i64 s, T.own (0 : Nat) (0 : Nat) (0 : Nat) n (some n),
        T.int IntKind.i64 (IntKind.i64.wrap (i - (1 : Int)))],
      [Blk.mk (0 : Nat) (1 : Nat) n
          (fun e =>
            bif e == (0 : Nat) + i.toNat then
              [T.int IntKind.i64
                  (bif
                      decide
                        (IntKind.i64.wrap (x ((0 : Nat) + (IntKind.i64.wrap (i + (1 : Int))).toNat) + s) <
                          x ((0 : Nat) + i.toNat)) then
                    IntKind.i64.wrap (x ((0 : Nat) + (IntKind.i64.wrap (i + (1 : Int))).toNat) + s)
                  else x ((0 : Nat) + i.toNat))]
            else [T.int IntKind.i64 (x e)])
          true false]))
    else
    none
    else
    none
    else
    none
    else
    none
    else
    none
    else
    none
    else
    some ((Ex.exit (4 : Nat), [T.own (0 : Nat) (0 : Nat) (0 : Nat) n (some n)],
      [Blk.mk (0 : Nat) (1 : Nat) n (fun j => [T.int IntKind.i64 (x j)]) true false]))) from by kernel_rfl)]
  rw [dF (by omega)]; rfl
end Go.Ab

namespace Go.Ab
open Go.Proofs
def fS (x : Nat → Int) (s : Int) (i : Nat) : Nat → Int := fun j => if j < i then Even.fwd x s j else x j
def bS (x : Nat → Int) (s : Int) (n r : Nat) : Nat → Int := fun j => if n - 1 - r ≤ j then Even.ev x s n j else Even.fwd x s j
theorem iblk_same {n : Nat} {x y : Nat → Int} (h : ∀ j, j < n → y j = x j) : SameBlks [iblk n x] [iblk n y] := .cons ⟨rfl, rfl, rfl, fun _ => rfl, fun j hj => by simp only [iblk] at hj ⊢; rw [h j hj]⟩ .nil
theorem e15 (s : Int) (n : Nat) (x : Nat → Int) (hn : n ≤ 400) (hs : 0 ≤ s ∧ s ≤ 80000) (hx : ∀ j, j < n → 0 ≤ x j ∧ x j ≤ 80000) :
    LoopOk P37 G37 (A37 19) 19 15 (litS [.int .i64 s, .own 0 0 0 n (some n), .int .i64 1] [iblk n x] (.exit 2) [.int .i64 s, .own 0 0 0 n (some n)] [iblk n (Even.fwd x s)]) := by
  refine .lit fun fn hf hnt => ?_
  refine CodeGoes.weak (vs2 := [.int .i64 s, .own 0 0 0 n (some n), .int .i64 ((0 + 1 : Nat) : Int)]) (h2 := [iblk n (fS x s 1)]) ?_ (WeakTo.same (iblk_same fun j hj => ?_))
  · refine loop_seq hm37 (by kernel_rfl) hf hnt (fun r => [.int .i64 s, .own 0 0 0 n (some n), .int .i64 ((r + 1 : Nat) : Int)]) (fun r => [iblk n (fS x s (r + 1))]) (n := n - 1) (fun r hr => ?_) ⟨by simp, _, _, Rnd.of A37 okK37b rfl rfl (e15x s n _ _ (by omega)), .same (iblk_same fun j hj => ?_)⟩
    · refine ⟨_, _, Rnd.of A37 okK37b rfl rfl (e15r s n (fS x s (r + 1)) (r + 1) (by omega) (by omega) hn hs (fun j hj => ?_)), .same (iblk_same fun j hj => ?_)⟩
      · unfold fS
        split
        · exact Even.fwd_bd hs.1 n hx j hj
        · exact hx j hj
      · simp only [fS]
        by_cases q : j = r + 1
        · subst q
          rw [if_pos (by omega), if_pos rfl, if_neg (by omega), if_pos (by omega)]
          rfl
        · rw [if_neg q]
          by_cases q2 : j < r + 1
          · rw [if_pos (by omega), if_pos q2]
          · rw [if_neg (by omega), if_neg q2]
    · simp only [fS]
      rw [if_pos (by omega)]
  · simp only [fS]
    by_cases q : j < 1
    · obtain rfl : j = 0 := by omega
      rfl
    · rw [if_neg q]
theorem e19 (s : Int) (n : Nat) (x : Nat → Int) (hn : n ≤ 400) (hs : 0 ≤ s ∧ s ≤ 80000) (hx : ∀ j, j < n → 0 ≤ x j ∧ x j ≤ 80000) :
    LoopOk P37 G37 (A37 19) 19 19 (litS [.int .i64 s, .own 0 0 0 n (some n), .int .i64 ((n : Int) - 2)] [iblk n (Even.fwd x s)] (.exit 4) [.own 0 0 0 n (some n)] [iblk n (Even.ev x s n)]) := by
  refine .lit fun fn hf hnt => ?_
  refine CodeGoes.weak (vs2 := [.int .i64 s, .own 0 0 0 n (some n), .int .i64 ((n : Int) - 2 - ((0 : Nat) : Int))]) (h2 := [iblk n (bS x s n 0)]) ?_ ?_
  · refine loop_seq hm37 (by kernel_rfl) hf hnt (fun r => [.int .i64 s, .own 0 0 0 n (some n), .int .i64 ((n : Int) - 2 - (r : Int))]) (fun r => [iblk n (bS x s n r)]) (n := n - 1) (fun r hr => ?_) ⟨by simp, _, _, Rnd.of A37 okK37b rfl rfl (e19x s n _ _ (by omega)), .same (iblk_same fun j hj => ?_)⟩
    · have e := e19r s n (bS x s n r) (n - 2 - r) (by omega) hn hs (fun j hj => by
        unfold bS
        split
        · exact Even.ev_bd hs.1 hj hx
        · exact Even.fwd_bd hs.1 n hx j hj)
      rw [show ((n - 2 - r : Nat) : Int) = (n : Int) - 2 - (r : Int) by omega, show (n : Int) - 2 - (r : Int) - 1 = (n : Int) - 2 - ((r + 1 : Nat) : Int) by omega] at e
      refine ⟨_, _, Rnd.of A37 okK37b rfl rfl e, .same (iblk_same fun j hj => ?_)⟩
      simp only [bS]
      by_cases q : j = n - 2 - r
      · subst q
        rw [if_pos (by omega), if_pos rfl, if_neg (by omega), if_pos (by omega)]
        unfold Even.ev
        rw [show n - 1 - (n - 2 - r) = r + 1 by omega, show n - 1 - (n - 2 - r + 1) = r by omega]
        rfl
      · rw [if_neg q]
        by_cases q2 : n - 1 - r ≤ j
        · rw [if_pos (by omega), if_pos q2]
        · rw [if_neg (by omega), if_neg q2]
    · simp only [bS]
      rw [if_pos (by omega)]
  · rw [show (n : Int) - 2 - ((0 : Nat) : Int) = (n : Int) - 2 by omega]
    refine .same (iblk_same fun j hj => ?_)
    simp only [bS]
    by_cases q : n - 1 - 0 ≤ j
    · rw [if_pos q]
      obtain rfl : j = n - 1 := by omega
      unfold Even.ev
      rw [Nat.sub_self]
      rfl
    · rw [if_neg q]
end Go.Ab

namespace Go.Ab
open Go.Proofs
def evG (x : Nat → Int) (s : Int) (n : Nat) : Nat → List T := fun j => [.int .i64 (Even.bwr x s n (n - 1 - (0 + j)))]
theorem evG_eq {x : Nat → Int} {s : Int} {n j : Nat} : evG x s n j = [.int .i64 (Even.ev x s n j)] := by simp [evG, Even.ev]
def cap80 (st : Int) : Int := if 80000 < st then 80000 else st
theorem cap80_bd {st : Int} (h : 0 ≤ st) : 0 ≤ cap80 st ∧ cap80 st ≤ 80000 := by unfold cap80; split <;> omega
def bad1 : T := .tup [.nils, .int .i64 1]
theorem evenNeg (n : Nat) (x : Nat → Int) (c : Option Nat) (st : Int) (h : st < 0) : ToldOk P37 G37 19 [.view 1 n (fun j => [.int .i64 (x j)]) c, .int .i64 st] bad1 := by
  refine stepV_told hm37 hn37 okK37b (A := A37) (m := 0) ?_
  rw [(show stepV P37 G37 A37 K37b 0 19 [.view 1 n (fun j => [.int .i64 (x j)]) c, .int .i64 st] =
(    bif decide (st < (0 : Int)) then
    some (T.tup [T.nils, T.int IntKind.i64 (1 : Int)])
    else
    none) from by kernel_rfl)]
  rw [dT h]; rfl
theorem evenBad (n : Nat) (x : Nat → Int) (c : Option Nat) (st : Int) (hn : n ≤ 4611686018427387904) (h : ∃ j, j < n ∧ ¬ (0 ≤ x j ∧ x j ≤ 80000)) : ToldOk P37 G37 19 [.view 1 n (fun j => [.int .i64 (x j)]) c, .int .i64 st] bad1 := by
  refine stepL_told hm37 hn37 okK37b (A := A37) (m := 0) (by kernel_rfl) (loops1 (e4bad (.view 1 n (fun j => [.int .i64 (x j)]) c) (.int .i64 st) [] n x c hn h)) ?_
  rw [(show stepL P37 G37 A37 K37b 0 19 [(4, litS [.view 1 n (fun j => [.int .i64 (x j)]) c, .int .i64 st, .view 1 n (fun j => [.int .i64 (x j)]) c, .int .i64 n, .int .i64 0] [] .ret [.view 1 n (fun j => [.int .i64 (x j)]) c, .int .i64 st, .nils, .int .i64 1] [])] [.view 1 n (fun j => [.int .i64 (x j)]) c, .int .i64 st] =
(    bif decide (st < (0 : Int)) then
    some (T.tup [T.nils, T.int IntKind.i64 (1 : Int)])
    else
    bif sameStF
      [T.view (1 : Nat) n (fun j => [T.int IntKind.i64 (x j)]) c, T.int IntKind.i64 st,
        T.view (1 : Nat) n (fun j => [T.int IntKind.i64 (x j)]) c, T.int IntKind.i64 (Int.ofNat n),
        T.int IntKind.i64 (0 : Int)]
      []
      [T.view (1 : Nat) n (fun j => [T.int IntKind.i64 (x j)]) c, T.int IntKind.i64 st,
        T.view (1 : Nat) n (fun j => [T.int IntKind.i64 (x j)]) c, T.int IntKind.i64 (Int.ofNat n),
        T.int IntKind.i64 (0 : Int)]
      [] then
    some (T.tup [T.nils, T.int IntKind.i64 (1 : Int)])
    else
    none) from by kernel_rfl)]
  refine bifd (fun _ => rfl) (fun _ => bift (sameStF_iff.2 ⟨rfl, .nil⟩) rfl)
theorem evenBig (n : Nat) (x : Nat → Int) (c : Option Nat) (st : Int) (hn : n ≤ 4611686018427387904) (h : ∀ j, j < n → 0 ≤ x j ∧ x j ≤ 80000) (h0 : 0 ≤ st) (hb : 400 < n) : ToldOk P37 G37 19 [.view 1 n (fun j => [.int .i64 (x j)]) c, .int .i64 st] (.tup [.nils, .int .i64 3]) := by
  refine stepL_told hm37 hn37 okK37b (A := A37) (m := 0) (by kernel_rfl) (loops1 (e4good (.view 1 n (fun j => [.int .i64 (x j)]) c) (.int .i64 st) [] n x c hn h)) ?_
  rw [(show stepL P37 G37 A37 K37b 0 19 [(4, litS [.view 1 n (fun j => [.int .i64 (x j)]) c, .int .i64 st, .view 1 n (fun j => [.int .i64 (x j)]) c, .int .i64 n, .int .i64 0] [] (.exit 0) [.view 1 n (fun j => [.int .i64 (x j)]) c, .int .i64 st, .undef, .undef] [])] [.view 1 n (fun j => [.int .i64 (x j)]) c, .int .i64 st] =
(    bif decide (st < (0 : Int)) then
    some (T.tup [T.nils, T.int IntKind.i64 (1 : Int)])
    else
    bif sameStF
      [T.view (1 : Nat) n (fun j => [T.int IntKind.i64 (x j)]) c, T.int IntKind.i64 st,
        T.view (1 : Nat) n (fun j => [T.int IntKind.i64 (x j)]) c, T.int IntKind.i64 (Int.ofNat n),
        T.int IntKind.i64 (0 : Int)]
      []
      [T.view (1 : Nat) n (fun j => [T.int IntKind.i64 (x j)]) c, T.int IntKind.i64 st,
        T.view (1 : Nat) n (fun j => [T.int IntKind.i64 (x j)]) c, T.int IntKind.i64 (Int.ofNat n),
        T.int IntKind.i64 (0 : Int)]
      [] then
    bif decide ((400 : Int) < Int.ofNat n) then
    some (T.tup [T.nils, T.int IntKind.i64 (3 : Int)])
    else
    bif decide ((0 : Int) ≤ Int.ofNat n) && decide (Int.ofNat n ≤ Int.ofNat n) &&
        decide (Int.ofNat n * (8 : Int) ≤ (140737488355328 : Int)) &&
      decide (Int.ofNat n ≤ (9223372036854775807 : Int)) then
    bif true && ((0 : Nat) + n).ble n then
    none
    else
    none
    else
    none
    else
    none) from by kernel_rfl)]
  rw [dF (show ¬ st < 0 by omega), cond_false]
  refine bift (sameStF_iff.2 ⟨rfl, .nil⟩) ?_
  rw [dT (show (400 : Int) < Int.ofNat n by have : (Int.ofNat n : Int) = (n : Int) := rfl; omega)]; rfl
theorem evenGood (n : Nat) (x : Nat → Int) (c : Option Nat) (st : Int) (hn : n ≤ 400) (h : ∀ j, j < n → 0 ≤ x j ∧ x j ≤ 80000) (h0 : 0 ≤ st) : ToldOk P37 G37 19 [.view 1 n (fun j => [.int .i64 (x j)]) c, .int .i64 st] (.tup [.fresh true 1 n (evG x (cap80 st) n) n (some n), .int .i64 0]) := by
  have hs := cap80_bd h0
  have hes : (bif decide (80000 < st) then 80000 else st) = cap80 st := by
    unfold cap80
    by_cases q : 80000 < st
    · rw [dT q, if_pos q]; rfl
    · rw [dF q, if_neg q]; rfl
  generalize cap80 st = s at hs hes ⊢
  refine stepL_told hm37 hn37 okK37b (A := A37) (m := 0) (by kernel_rfl) (loopsC (e4good (.view 1 n (fun j => [.int .i64 (x j)]) c) (.int .i64 st) [] n x c (by omega) h) (loopsC (e15 s n x hn hs h) (loops1 (e19 s n x hn hs h)))) ?_
  rw [(show stepL P37 G37 A37 K37b 0 19 [(4, litS [.view 1 n (fun j => [.int .i64 (x j)]) c, .int .i64 st, .view 1 n (fun j => [.int .i64 (x j)]) c, .int .i64 n, .int .i64 0] [] (.exit 0) [.view 1 n (fun j => [.int .i64 (x j)]) c, .int .i64 st, .undef, .undef] []), (15, litS [.int .i64 s, .own 0 0 0 n (some n), .int .i64 1] [iblk n x] (.exit 2) [.int .i64 s, .own 0 0 0 n (some n)] [iblk n (Even.fwd x s)]), (19, litS [.int .i64 s, .own 0 0 0 n (some n), .int .i64 ((n : Int) - 2)] [iblk n (Even.fwd x s)] (.exit 4) [.own 0 0 0 n (some n)] [iblk n (Even.ev x s n)])] [.view 1 n (fun j => [.int .i64 (x j)]) c, .int .i64 st] =
(    bif decide (st < (0 : Int)) then
    some (T.tup [T.nils, T.int IntKind.i64 (1 : Int)])
    else
    bif sameStF
      [T.view (1 : Nat) n (fun j => [T.int IntKind.i64 (x j)]) c, T.int IntKind.i64 st,
        T.view (1 : Nat) n (fun j => [T.int IntKind.i64 (x j)]) c, T.int IntKind.i64 (Int.ofNat n),
        T.int IntKind.i64 (0 : Int)]
      []
      [T.view (1 : Nat) n (fun j => [T.int IntKind.i64 (x j)]) c, T.int IntKind.i64 st,
        T.view (1 : Nat) n (fun j => [T.int IntKind.i64 (x j)]) c, T.int IntKind.i64 (Int.ofNat n),
        T.int IntKind.i64 (0 : Int)]
      [] then
    bif decide ((400 : Int) < Int.ofNat n) then
    some (T.tup [T.nils, T.int IntKind.i64 (3 : Int)])
    else
    bif decide ((0 : Int) ≤ Int.ofNat n) && decide (Int.ofNat n ≤ Int.ofNat n) &&
        decide (Int.ofNat n * (8 : Int) ≤ (140737488355328 : Int)) &&
      decide (Int.ofNat n ≤ (9223372036854775807 : Int)) then
    bif true && ((0 : Nat) + n).ble n then
    bif sameStF
      [T.int IntKind.i64 (bif decide ((80000 : Int) < st) then (80000 : Int) else st),
        T.own (0 : Nat) (0 : Nat) (0 : Nat) n (some n), T.int IntKind.i64 (1 : Int)]
      [Blk.mk (0 : Nat) (1 : Nat) n
          (fun j =>
            bif Nat.ble (0 : Nat) j && j.blt ((0 : Nat) + n.min n) then [T.int IntKind.i64 (x (j - (0 : Nat)))]
            else [T.int IntKind.i64 (0 : Int)])
          (true &&
            (false || n.ble (8 : Nat) && (List.range n).all fun j => ((fun j => [T.int IntKind.i64 (x j)]) j).all plain0))
          false]
      [T.int IntKind.i64 s, T.own (0 : Nat) (0 : Nat) (0 : Nat) n (some n), T.int IntKind.i64 (1 : Int)]
      [Blk.mk (0 : Nat) (1 : Nat) n (fun j => [T.int IntKind.i64 (x j)]) true false] then
    bif sameStF
      [T.int IntKind.i64 s, T.own (0 : Nat) (0 : Nat) (0 : Nat) n (some n),
        T.int IntKind.i64 (IntKind.i64.wrap (Int.ofNat n - (2 : Int)))]
      [Blk.mk (0 : Nat) (1 : Nat) n (fun j => [T.int IntKind.i64 (Even.fwd x s j)]) true false]
      [T.int IntKind.i64 s, T.own (0 : Nat) (0 : Nat) (0 : Nat) n (some n), T.int IntKind.i64 (Int.ofNat n - (2 : Int))]
      [Blk.mk (0 : Nat) (1 : Nat) n (fun j => [T.int IntKind.i64 (Even.fwd x s j)]) true false] then
    some (T.tup
      [bif true && ((0 : Nat) + n).ble n then
          T.fresh true (1 : Nat) (n - (0 : Nat))
            (fun j => [T.int IntKind.i64 (Even.bwr x s n (n - (1 : Nat) - ((0 : Nat) + j)))]) n (some n)
        else T.undef,
        T.int IntKind.i64 (0 : Int)])
    else
    none
    else
    none
    else
    none
    else
    none
    else
    none) from by kernel_rfl)]
  have en : (Int.ofNat n : Int) = (n : Int) := rfl
  rw [dF (show ¬ st < 0 by omega), cond_false]
  refine bift (sameStF_iff.2 ⟨rfl, .nil⟩) ?_
  rw [dF (show ¬ (400 : Int) < Int.ofNat n by omega), cond_false, dT (show (0 : Int) ≤ Int.ofNat n by omega), dT (show Int.ofNat n ≤ Int.ofNat n by omega), dT (show Int.ofNat n * 8 ≤ 140737488355328 by omega), dT (show Int.ofNat n ≤ 9223372036854775807 by omega), bleT (show 0 + n ≤ n by omega)]
  simp only [Bool.and_self, cond_true]
  refine bift (sameStF_iff.2 ⟨by rw [hes], .cons' ⟨rfl, rfl, rfl, fun j hj => ?_⟩ (fun j _ => rfl) .nil⟩) ?_
  · simp only at hj
    have e1 : Nat.ble 0 j = true := bleT (by omega)
    have e2 : j.blt (0 + n.min n) = true := bltT (by have : n.min n = n := Nat.min_self n; omega)
    simp only [e1, e2, Bool.and_self, cond_true, Nat.sub_zero, iblk]
  refine bift (sameStF_iff.2 ⟨by rw [en, wr64 (by omega) (by omega)], .refl _⟩) ?_
  rfl
end Go.Ab

namespace Go.Ab
open Go.Proofs
theorem s4r (n : Nat) (x y : Nat → Int) (c1 c2 : Option Nat) (i : Nat) (hn : n ≤ 4611686018427387904) (hi : i ≤ n) (he : ∀ j, j < n → x j = y j) :
    iterR P37 G37 A37 noneO 0 18 [] 4 [.view 1 n (fun j => [.int .i64 (x j)]) c1, .view 1 n (fun j => [.int .i64 (y j)]) c2, .int .i64 i] [] =
    if i < n then some (.normal, [.view 1 n (fun j => [.int .i64 (x j)]) c1, .view 1 n (fun j => [.int .i64 (y j)]) c2, .int .i64 ((i + 1 : Nat) : Int)], []) else some (.exit 0, [.undef], []) := by
  rw [(show iterR P37 G37 A37 noneO 0 18 [] 4 [.view 1 n (fun j => [.int .i64 (x j)]) c1, .view 1 n (fun j => [.int .i64 (y j)]) c2, .int .i64 i] [] =
(    bif decide (Int.ofNat i < Int.ofNat n) then
    bif decide ((0 : Int) ≤ Int.ofNat i) && decide (Int.ofNat i < Int.ofNat n) then
    bif decide ((0 : Int) ≤ Int.ofNat i) && decide (Int.ofNat i < Int.ofNat n) then
    bif !decide (x i = y i) then
    some ((Ex.ret, [T.bool false], []))
    else
    some ((Ex.normal,
      [T.view (1 : Nat) n (fun j => [T.int IntKind.i64 (x j)]) c1,
        T.view (1 : Nat) n (fun j => [T.int IntKind.i64 (y j)]) c2,
        T.int IntKind.i64 (IntKind.i64.wrap (Int.ofNat i + (1 : Int)))],
      []))
    else
    none
    else
    none
    else
    some ((Ex.exit (0 : Nat), [T.undef], []))) from by kernel_rfl)]
  have ei : (Int.ofNat i).toNat = i := rfl
  have eo : (Int.ofNat i : Int) = (i : Int) := rfl
  have en : (Int.ofNat n : Int) = (n : Int) := rfl
  simp only [ei, eo, en]
  rw [wr64 (x := (i : Int) + 1) (by omega) (by omega)]
  by_cases h1 : i < n
  · rw [if_pos h1, dT (show (i : Int) < n by omega), dT (show 0 ≤ (i : Int) by omega), dT (he i h1)]; rfl
  · rw [if_neg h1, dF (by omega)]; rfl
theorem sameN (n : Nat) (x y : Nat → Int) (c2 : Option Nat) (hn : n ≤ 4611686018427387904) (he : ∀ j, j < n → x j = y j) :
    ToldOk P37 G37 18 [.view 1 n (fun j => [.int .i64 (x j)]) (some n), .view 1 n (fun j => [.int .i64 (y j)]) c2] (.bool true) := by
  have hl : LoopOk P37 G37 (A37 18) 18 4 (litS [.view 1 n (fun j => [.int .i64 (x j)]) (some n), .view 1 n (fun j => [.int .i64 (y j)]) c2, .int .i64 0] [] (.exit 0) [.undef] []) :=
    .lit fun fn hf hnt => loop_seq hm37 (by kernel_rfl) hf hnt (fun i => [.view 1 n (fun j => [.int .i64 (x j)]) (some n), .view 1 n (fun j => [.int .i64 (y j)]) c2, .int .i64 (i : Int)]) (fun _ => []) (n := n)
      (fun i hi => ⟨_, _, Rnd.of A37 none_ok rfl rfl (by rw [s4r n x y _ c2 i hn (by omega) he, if_pos hi]), .refl _ _⟩)
      ⟨by simp, _, _, Rnd.of A37 none_ok rfl rfl (by rw [s4r n x y _ c2 n hn (by omega) he, if_neg (by omega)]), .refl _ _⟩
  refine stepL_told hm37 hn37 none_ok (K := noneO) (A := A37) (m := 0) (by kernel_rfl) (loops1 hl) ?_
  rw [(show stepL P37 G37 A37 noneO 0 18 [(4, litS [.view 1 n (fun j => [.int .i64 (x j)]) (some n), .view 1 n (fun j => [.int .i64 (y j)]) c2, .int .i64 0] [] (.exit 0) [.undef] [])] [.view 1 n (fun j => [.int .i64 (x j)]) (some n), .view 1 n (fun j => [.int .i64 (y j)]) c2] =
(    bif !decide (Int.ofNat n = Int.ofNat n) then
    some (T.bool false)
    else
    bif !decide (Int.ofNat n = Int.ofNat n) then
    some (T.bool false)
    else
    bif sameStF
      [T.view (1 : Nat) n (fun j => [T.int IntKind.i64 (x j)]) (some n),
        T.view (1 : Nat) n (fun j => [T.int IntKind.i64 (y j)]) c2, T.int IntKind.i64 (0 : Int)]
      []
      [T.view (1 : Nat) n (fun j => [T.int IntKind.i64 (x j)]) (some n),
        T.view (1 : Nat) n (fun j => [T.int IntKind.i64 (y j)]) c2, T.int IntKind.i64 (0 : Int)]
      [] then
    some (T.bool true)
    else
    none) from by kernel_rfl)]
  rw [dT (rfl : Int.ofNat n = Int.ofNat n)]
  simp only [Bool.not_true, cond_false]
  exact bift (sameStF_iff.2 ⟨rfl, .nil⟩) rfl
theorem sameZ (g : Nat → List T) : ToldOk P37 G37 18 [.view 1 0 g (some 0), .nils] (.bool true) := by
  refine stepV_told hm37 hn37 none_ok (K := noneO) (A := A37) (m := 1) ?_
  kernel_rfl
end Go.Ab

namespace Go.Ab
open Go.Proofs
def wnt : Nat → T
  | 0 => .nils
  | m + 1 => .own 2 m 0 (m + 1) none
def wblk (w : Nat → Int) (m : Nat) : Blk := ⟨m, 1, m + 1, fun j => [.int .i64 (w j)], true, false⟩
def jnk (w : Nat → Int) : Blk := ⟨0, 1, 1, fun _ => [.int .i64 (w 0)], true, true⟩
def hh8 (B : Blk) (w : Nat → Int) : Nat → Heap
  | 0 => [B]
  | m + 1 => [B, jnk w, wblk w m]
theorem i18r (l got w : T) (e s st v : Int) (i k : Nat) (h : Heap) (n : Nat) (x : Nat → Int) (c : Option Nat) (hn : n ≤ 400) (hi : i < n) (hk : k < n) (hs : 0 ≤ s ∧ s ≤ 80000) (hx : 0 ≤ x k ∧ x k ≤ 80000) (hv : 0 ≤ v ∧ v ≤ 80000) :
    iterR P37 G37 A37 K37b 0 8 [] 18 [.view 1 n (fun j => [.int .i64 (x j)]) c, .int .i64 st, got, .int .i64 e, .int .i64 s, w, .int .i64 i, .int .i64 v, .int .i64 k] h =
    some (.normal, [.view 1 n (fun j => [.int .i64 (x j)]) c, .int .i64 st, got, .int .i64 e, .int .i64 s, w, .int .i64 i, .int .i64 (Even.mn v (x k + Even.dd i k * s)), .int .i64 ((k + 1 : Nat) : Int)], h) := by
  rw [(show iterR P37 G37 A37 K37b 0 8 [] 18 [.view 1 n (fun j => [.int .i64 (x j)]) c, .int .i64 st, got, .int .i64 e, .int .i64 s, w, .int .i64 i, .int .i64 v, .int .i64 k] h =
(    bif decide (Int.ofNat k < Int.ofNat n) then
    bif decide (IntKind.i64.wrap (Int.ofNat i - Int.ofNat k) < (0 : Int)) then
    bif decide ((0 : Int) ≤ Int.ofNat k) && decide (Int.ofNat k < Int.ofNat n) then
    some ((Ex.normal,
      [T.view (1 : Nat) n (fun j => [T.int IntKind.i64 (x j)]) c, T.int IntKind.i64 st, got, T.int IntKind.i64 e,
        T.int IntKind.i64 s, w, T.int IntKind.i64 (Int.ofNat i),
        T.int IntKind.i64
          (bif
              decide
                (IntKind.i64.wrap
                    (x k +
                      IntKind.i64.wrap (IntKind.i64.wrap ((0 : Int) - IntKind.i64.wrap (Int.ofNat i - Int.ofNat k)) * s)) <
                  v) then
            IntKind.i64.wrap
              (x k + IntKind.i64.wrap (IntKind.i64.wrap ((0 : Int) - IntKind.i64.wrap (Int.ofNat i - Int.ofNat k)) * s))
          else v),
        T.int IntKind.i64 (IntKind.i64.wrap (Int.ofNat k + (1 : Int)))],
      h))
    else
    none
    else
    bif decide ((0 : Int) ≤ Int.ofNat k) && decide (Int.ofNat k < Int.ofNat n) then
    some ((Ex.normal,
      [T.view (1 : Nat) n (fun j => [T.int IntKind.i64 (x j)]) c, T.int IntKind.i64 st, got, T.int IntKind.i64 e,
        T.int IntKind.i64 s, w, T.int IntKind.i64 (Int.ofNat i),
        T.int IntKind.i64
          (bif
              decide (IntKind.i64.wrap (x k + IntKind.i64.wrap (IntKind.i64.wrap (Int.ofNat i - Int.ofNat k) * s)) < v) then
            IntKind.i64.wrap (x k + IntKind.i64.wrap (IntKind.i64.wrap (Int.ofNat i - Int.ofNat k) * s))
          else v),
        T.int IntKind.i64 (IntKind.i64.wrap (Int.ofNat k + (1 : Int)))],
      h))
    else
    none
    else
    some ((Ex.exit (4 : Nat),
      [T.view (1 : Nat) n (fun j => [T.int IntKind.i64 (x j)]) c, T.int IntKind.i64 st, got, T.int IntKind.i64 e,
        T.int IntKind.i64 s, w, T.int IntKind.i64 (Int.ofNat i), T.int IntKind.i64 v],
      h))) from by kernel_rfl)]
  have ek : (Int.ofNat k).toNat = k := rfl
  have eo : (Int.ofNat k : Int) = (k : Int) := rfl
  have ei : (Int.ofNat i : Int) = (i : Int) := rfl
  have en : (Int.ofNat n : Int) = (n : Int) := rfl
  simp only [ek, eo, ei, en]
  rw [dT (show (k : Int) < n by omega), dT (show 0 ≤ (k : Int) by omega), wr64 (x := (k : Int) + 1) (by omega) (by omega), wr64 (x := (i : Int) - k) (by omega) (by omega), wr64 (x := 0 - ((i : Int) - k)) (by omega) (by omega)]
  have hd := Even.dd_nn i k
  have hd2 : Even.dd i k ≤ 400 := by unfold Even.dd; split <;> omega
  have hm := mul_bd hd hd2 hs.1 hs.2
  by_cases q : (i : Int) - k < 0
  · have e1 : 0 - ((i : Int) - k) = Even.dd i k := by unfold Even.dd; rw [if_pos (by omega)]; omega
    rw [dT q, e1, wr64 (x := Even.dd i k * s) (by omega) (by omega), wr64 (x := x k + Even.dd i k * s) (by omega) (by omega)]
    unfold Even.mn
    by_cases q2 : x k + Even.dd i k * s < v
    · rw [dT q2, if_pos q2]; rfl
    · rw [dF q2, if_neg q2]; rfl
  · have e1 : (i : Int) - k = Even.dd i k := by unfold Even.dd; rw [if_neg (by omega)]
    rw [dF q, e1, wr64 (x := Even.dd i k * s) (by omega) (by omega), wr64 (x := x k + Even.dd i k * s) (by omega) (by omega)]
    unfold Even.mn
    by_cases q2 : x k + Even.dd i k * s < v
    · rw [dT q2, if_pos q2]; rfl
    · rw [dF q2, if_neg q2]; rfl
theorem i18x (got w : T) (e s st v : Int) (i : Nat) (h : Heap) (n : Nat) (x : Nat → Int) (c : Option Nat) :
    iterR P37 G37 A37 K37b 0 8 [] 18 [.view 1 n (fun j => [.int .i64 (x j)]) c, .int .i64 st, got, .int .i64 e, .int .i64 s, w, .int .i64 i, .int .i64 v, .int .i64 n] h =
    some (.exit 4, [.view 1 n (fun j => [.int .i64 (x j)]) c, .int .i64 st, got, .int .i64 e, .int .i64 s, w, .int .i64 i, .int .i64 v], h) := by
  rw [(show iterR P37 G37 A37 K37b 0 8 [] 18 [.view 1 n (fun j => [.int .i64 (x j)]) c, .int .i64 st, got, .int .i64 e, .int .i64 s, w, .int .i64 i, .int .i64 v, .int .i64 n] h =
(    bif decide (Int.ofNat n < Int.ofNat n) then
    bif decide (IntKind.i64.wrap (Int.ofNat i - Int.ofNat n) < (0 : Int)) then
    bif decide ((0 : Int) ≤ Int.ofNat n) && decide (Int.ofNat n < Int.ofNat n) then
    some ((Ex.normal,
      [T.view (1 : Nat) n (fun j => [T.int IntKind.i64 (x j)]) c, T.int IntKind.i64 st, got, T.int IntKind.i64 e,
        T.int IntKind.i64 s, w, T.int IntKind.i64 (Int.ofNat i),
        T.int IntKind.i64
          (bif
              decide
                (IntKind.i64.wrap
                    (x n +
                      IntKind.i64.wrap (IntKind.i64.wrap ((0 : Int) - IntKind.i64.wrap (Int.ofNat i - Int.ofNat n)) * s)) <
                  v) then
            IntKind.i64.wrap
              (x n + IntKind.i64.wrap (IntKind.i64.wrap ((0 : Int) - IntKind.i64.wrap (Int.ofNat i - Int.ofNat n)) * s))
          else v),
        T.int IntKind.i64 (IntKind.i64.wrap (Int.ofNat n + (1 : Int)))],
      h))
    else
    none
    else
    bif decide ((0 : Int) ≤ Int.ofNat n) && decide (Int.ofNat n < Int.ofNat n) then
    some ((Ex.normal,
      [T.view (1 : Nat) n (fun j => [T.int IntKind.i64 (x j)]) c, T.int IntKind.i64 st, got, T.int IntKind.i64 e,
        T.int IntKind.i64 s, w, T.int IntKind.i64 (Int.ofNat i),
        T.int IntKind.i64
          (bif
              decide (IntKind.i64.wrap (x n + IntKind.i64.wrap (IntKind.i64.wrap (Int.ofNat i - Int.ofNat n) * s)) < v) then
            IntKind.i64.wrap (x n + IntKind.i64.wrap (IntKind.i64.wrap (Int.ofNat i - Int.ofNat n) * s))
          else v),
        T.int IntKind.i64 (IntKind.i64.wrap (Int.ofNat n + (1 : Int)))],
      h))
    else
    none
    else
    some ((Ex.exit (4 : Nat),
      [T.view (1 : Nat) n (fun j => [T.int IntKind.i64 (x j)]) c, T.int IntKind.i64 st, got, T.int IntKind.i64 e,
        T.int IntKind.i64 s, w, T.int IntKind.i64 (Int.ofNat i), T.int IntKind.i64 v],
      h))) from by kernel_rfl)]
  rw [dF (by omega)]; rfl
theorem i18 (got w : T) (e s st : Int) (i : Nat) (h : Heap) (n : Nat) (x : Nat → Int) (c : Option Nat) (hn : n ≤ 400) (hi : i < n) (hs : 0 ≤ s ∧ s ≤ 80000) (hx : ∀ k, k < n → 0 ≤ x k ∧ x k ≤ 80000) :
    LoopOk P37 G37 (A37 8) 8 18 (litS [.view 1 n (fun j => [.int .i64 (x j)]) c, .int .i64 st, got, .int .i64 e, .int .i64 s, w, .int .i64 i, .int .i64 (x i), .int .i64 0] h (.exit 4)
      [.view 1 n (fun j => [.int .i64 (x j)]) c, .int .i64 st, got, .int .i64 e, .int .i64 s, w, .int .i64 i, .int .i64 (Even.wk x s i n)] h) := by
  refine .lit fun fn hf hnt => loop_seq hm37 (by kernel_rfl) hf hnt (fun k => [.view 1 n (fun j => [.int .i64 (x j)]) c, .int .i64 st, got, .int .i64 e, .int .i64 s, w, .int .i64 i, .int .i64 (Even.wk x s i k), .int .i64 (k : Int)]) (fun _ => h) (n := n)
    (fun k hk => ⟨_, _, Rnd.of A37 okK37b rfl rfl (i18r .undef got w e s st _ i k h n x c hn hi hk hs (hx k hk) ?_), .refl _ _⟩)
    ⟨by simp, _, _, Rnd.of A37 okK37b rfl rfl (i18x got w e s st _ i h n x c), .refl _ _⟩
  have hxi := hx i hi
  obtain ⟨a1, _, a3⟩ := Even.wk_sp (x := x) (s := s) i k
  refine ⟨?_, by omega⟩
  rcases a3 with a3 | ⟨m, a3, a4⟩
  · omega
  · have := hx m (by omega)
    have := Even.dd_mul_nn hs.1 i m
    omega
theorem o14z (e s st : Int) (B : Blk) (n : Nat) (x w : Nat → Int) (c : Option Nat) (hn : 0 < n) :
    ∃ g1 g2, iterR P37 G37 A37 K37b 0 8 [(18, litS [.view 1 n (fun j => [.int .i64 (x j)]) c, .int .i64 st, .own 0 0 0 n (some n), .int .i64 e, .int .i64 s, .nils, .int .i64 0, .int .i64 (x 0), .int .i64 0] [B] (.exit 4) [.view 1 n (fun j => [.int .i64 (x j)]) c, .int .i64 st, .own 0 0 0 n (some n), .int .i64 e, .int .i64 s, .nils, .int .i64 0, .int .i64 (w 0)] [B])] 14
      [.view 1 n (fun j => [.int .i64 (x j)]) c, .int .i64 st, .own 0 0 0 n (some n), .int .i64 e, .int .i64 s, .nils, .int .i64 0] [B] =
    some (.normal, [.view 1 n (fun j => [.int .i64 (x j)]) c, .int .i64 st, .own 0 0 0 n (some n), .int .i64 e, .int .i64 s, .own 2 0 0 1 none, .int .i64 1], [B, ⟨0, 1, 1, g1, true, true⟩, ⟨0, 1, 1, g2, true, false⟩]) ∧ g1 0 = [.int .i64 (w 0)] ∧ g2 0 = [.int .i64 (w 0)] := by
  rw [(show iterR P37 G37 A37 K37b 0 8 [(18, litS [.view 1 n (fun j => [.int .i64 (x j)]) c, .int .i64 st, .own 0 0 0 n (some n), .int .i64 e, .int .i64 s, .nils, .int .i64 0, .int .i64 (x 0), .int .i64 0] [B] (.exit 4) [.view 1 n (fun j => [.int .i64 (x j)]) c, .int .i64 st, .own 0 0 0 n (some n), .int .i64 e, .int .i64 s, .nils, .int .i64 0, .int .i64 (w 0)] [B])] 14
      [.view 1 n (fun j => [.int .i64 (x j)]) c, .int .i64 st, .own 0 0 0 n (some n), .int .i64 e, .int .i64 s, .nils, .int .i64 0] [B] =
(    bif decide ((0 : Int) < Int.ofNat n) then
    bif true && decide ((0 : Int) < Int.ofNat n) then
    bif sameStF
      [T.view (1 : Nat) n (fun j => [T.int IntKind.i64 (x j)]) c, T.int IntKind.i64 st,
        T.own (0 : Nat) (0 : Nat) (0 : Nat) n (some n), T.int IntKind.i64 e, T.int IntKind.i64 s, T.nils,
        T.int IntKind.i64 (0 : Int), T.int IntKind.i64 (x (0 : Nat)), T.int IntKind.i64 (0 : Int)]
      [B]
      [T.view (1 : Nat) n (fun j => [T.int IntKind.i64 (x j)]) c, T.int IntKind.i64 st,
        T.own (0 : Nat) (0 : Nat) (0 : Nat) n (some n), T.int IntKind.i64 e, T.int IntKind.i64 s, T.nils,
        T.int IntKind.i64 (0 : Int), T.int IntKind.i64 (x (0 : Nat)), T.int IntKind.i64 (0 : Int)]
      [B] then
    some ((Ex.normal,
      [T.view (1 : Nat) n (fun j => [T.int IntKind.i64 (x j)]) c, T.int IntKind.i64 st,
        T.own (0 : Nat) (0 : Nat) (0 : Nat) n (some n), T.int IntKind.i64 e, T.int IntKind.i64 s,
        T.own
          [B,
              Blk.mk (0 : Nat) (1 : Nat) (1 : Nat) (fun j => [[T.int IntKind.i64 (w (0 : Nat))]].getD j []) true
                true].length
          (0 : Nat) (0 : Nat) (1 : Nat) none,
        T.int IntKind.i64 (1 : Int)],
      [B, Blk.mk (0 : Nat) (1 : Nat) (1 : Nat) (fun j => [[T.int IntKind.i64 (w (0 : Nat))]].getD j []) true true,
        Blk.mk (0 : Nat) (1 : Nat) (1 : Nat) (fun j => [[T.int IntKind.i64 (w (0 : Nat))]].getD ((0 : Nat) + j) []) true
          false]))
    else
    none
    else
    none
    else
    some ((Ex.exit (2 : Nat),
      [T.int IntKind.i64 st, T.own (0 : Nat) (0 : Nat) (0 : Nat) n (some n), T.int IntKind.i64 e, T.nils], [B]))) from by kernel_rfl)]
  have en : (Int.ofNat n : Int) = (n : Int) := rfl
  rw [dT (show (0 : Int) < Int.ofNat n by omega)]
  simp only [Bool.and_self, cond_true]
  rw [sameStF_iff.2 ⟨rfl, .refl _⟩]
  exact ⟨_, _, rfl, rfl, rfl⟩
theorem o14r (e s st : Int) (B J : Blk) (m : Nat) (n : Nat) (x w : Nat → Int) (c : Option Nat) (hn : m + 1 < n) (hn4 : n ≤ 400) :
    ∃ g1 g2, iterR P37 G37 A37 K37b 0 8 [(18, litS [.view 1 n (fun j => [.int .i64 (x j)]) c, .int .i64 st, .own 0 0 0 n (some n), .int .i64 e, .int .i64 s, .own 2 m 0 (m + 1) none, .int .i64 ((m + 1 : Nat) : Int), .int .i64 (x (m + 1)), .int .i64 0] [B, J, wblk w m] (.exit 4) [.view 1 n (fun j => [.int .i64 (x j)]) c, .int .i64 st, .own 0 0 0 n (some n), .int .i64 e, .int .i64 s, .own 2 m 0 (m + 1) none, .int .i64 ((m + 1 : Nat) : Int), .int .i64 (w (m + 1))] [B, J, wblk w m])] 14
      [.view 1 n (fun j => [.int .i64 (x j)]) c, .int .i64 st, .own 0 0 0 n (some n), .int .i64 e, .int .i64 s, .own 2 m 0 (m + 1) none, .int .i64 ((m + 1 : Nat) : Int)] [B, J, wblk w m] =
    some (.normal, [.view 1 n (fun j => [.int .i64 (x j)]) c, .int .i64 st, .own 0 0 0 n (some n), .int .i64 e, .int .i64 s, .own 2 (m + 1) 0 (m + 2) none, .int .i64 ((m + 2 : Nat) : Int)], [B, J, ⟨m + 1, 1, m + 2, g1, true, false⟩, ⟨0, 1, 1, g2, true, true⟩]) ∧ ∀ j, j < m + 2 → g1 j = [.int .i64 (w j)] := by
  rw [(show iterR P37 G37 A37 K37b 0 8 [(18, litS [.view 1 n (fun j => [.int .i64 (x j)]) c, .int .i64 st, .own 0 0 0 n (some n), .int .i64 e, .int .i64 s, .own 2 m 0 (m + 1) none, .int .i64 ((m + 1 : Nat) : Int), .int .i64 (x (m + 1)), .int .i64 0] [B, J, wblk w m] (.exit 4) [.view 1 n (fun j => [.int .i64 (x j)]) c, .int .i64 st, .own 0 0 0 n (some n), .int .i64 e, .int .i64 s, .own 2 m 0 (m + 1) none, .int .i64 ((m + 1 : Nat) : Int), .int .i64 (w (m + 1))] [B, J, wblk w m])] 14
      [.view 1 n (fun j => [.int .i64 (x j)]) c, .int .i64 st, .own 0 0 0 n (some n), .int .i64 e, .int .i64 s, .own 2 m 0 (m + 1) none, .int .i64 ((m + 1 : Nat) : Int)] [B, J, wblk w m] =
(    bif decide (Int.ofNat (m + (1 : Nat)) < Int.ofNat n) then
    bif decide ((0 : Int) ≤ Int.ofNat (m + (1 : Nat))) && decide (Int.ofNat (m + (1 : Nat)) < Int.ofNat n) then
    bif sameStF
      [T.view (1 : Nat) n (fun j => [T.int IntKind.i64 (x j)]) c, T.int IntKind.i64 st,
        T.own (0 : Nat) (0 : Nat) (0 : Nat) n (some n), T.int IntKind.i64 e, T.int IntKind.i64 s,
        T.own (2 : Nat) m (0 : Nat) (m + (1 : Nat)) none, T.int IntKind.i64 (Int.ofNat (m + (1 : Nat))),
        T.int IntKind.i64 (x (m + (1 : Nat))), T.int IntKind.i64 (0 : Int)]
      [B, J, Blk.mk m (1 : Nat) (m + (1 : Nat)) (fun j => [T.int IntKind.i64 (w j)]) true false]
      [T.view (1 : Nat) n (fun j => [T.int IntKind.i64 (x j)]) c, T.int IntKind.i64 st,
        T.own (0 : Nat) (0 : Nat) (0 : Nat) n (some n), T.int IntKind.i64 e, T.int IntKind.i64 s,
        T.own (2 : Nat) m (0 : Nat) (m + (1 : Nat)) none, T.int IntKind.i64 (Int.ofNat (m + (1 : Nat))),
        T.int IntKind.i64 (x (m + (1 : Nat))), T.int IntKind.i64 (0 : Int)]
      [B, J, Blk.mk m (1 : Nat) (m + (1 : Nat)) (fun j => [T.int IntKind.i64 (w j)]) true false] then
    bif m == m then
    bif true && ((0 : Nat) + (m + (1 : Nat))).ble (m + (1 : Nat)) then
    bif ((m + (1 : Nat) + (1 : Nat)) * (9 : Nat)).ble (70368744177664 : Nat) then
    some ((Ex.normal,
      [T.view (1 : Nat) n (fun j => [T.int IntKind.i64 (x j)]) c, T.int IntKind.i64 st,
        T.own (0 : Nat) (0 : Nat) (0 : Nat) n (some n), T.int IntKind.i64 e, T.int IntKind.i64 s,
        T.own (2 : Nat) (m + (1 : Nat)) (0 : Nat) (m + (1 : Nat) + (1 : Nat)) none,
        T.int IntKind.i64 (IntKind.i64.wrap (Int.ofNat (m + (1 : Nat)) + (1 : Int)))],
      [B, J,
        Blk.mk (m + (1 : Nat)) (1 : Nat) (m + (1 : Nat) + (1 : Nat))
          (fun j =>
            bif j.blt (m + (1 : Nat)) then [T.int IntKind.i64 (w ((0 : Nat) + j))]
            else [[T.int IntKind.i64 (w (m + (1 : Nat)))]].getD ((0 : Nat) + (j - (m + (1 : Nat)))) [])
          true false,
        Blk.mk (0 : Nat) (1 : Nat) (1 : Nat) (fun j => [[T.int IntKind.i64 (w (m + (1 : Nat)))]].getD j []) true true]))
    else
    none
    else
    none
    else
    none
    else
    none
    else
    none
    else
    some ((Ex.exit (2 : Nat),
      [T.int IntKind.i64 st, T.own (0 : Nat) (0 : Nat) (0 : Nat) n (some n), T.int IntKind.i64 e,
        T.own (2 : Nat) m (0 : Nat) (m + (1 : Nat)) none],
      [B, J, Blk.mk m (1 : Nat) (m + (1 : Nat)) (fun j => [T.int IntKind.i64 (w j)]) true false]))) from by kernel_rfl)]
  have en : (Int.ofNat n : Int) = (n : Int) := rfl
  have em : (Int.ofNat (m + 1) : Int) = (m : Int) + 1 := rfl
  rw [dT (show Int.ofNat (m + 1) < Int.ofNat n by omega), dT (show (0 : Int) ≤ Int.ofNat (m + 1) by omega), wr64 (x := Int.ofNat (m + 1) + 1) (by omega) (by omega)]
  simp only [Bool.and_self, cond_true]
  rw [sameStF_iff.2 ⟨rfl, .refl _⟩, show (m == m) = true by simp, bleT (show 0 + (m + 1) ≤ m + 1 by omega), bleT (show (m + 1 + 1) * 9 ≤ 70368744177664 by omega)]
  refine ⟨_, _, rfl, fun j hj => ?_⟩
  by_cases q : j < m + 1
  · simp only [bltT q, cond_true, Nat.zero_add]
  · obtain rfl : j = m + 1 := by omega
    simp [bltF (show m + 1 ≤ m + 1 by omega)]
theorem o14x (e s st : Int) (w : T) (h : Heap) (n : Nat) (x : Nat → Int) (c : Option Nat) : iterR P37 G37 A37 K37b 0 8 [] 14 [.view 1 n (fun j => [.int .i64 (x j)]) c, .int .i64 st, .own 0 0 0 n (some n), .int .i64 e, .int .i64 s, w, .int .i64 n] h =
    some (.exit 2, [.int .i64 st, .own 0 0 0 n (some n), .int .i64 e, w], h) := by
  rw [(show iterR P37 G37 A37 K37b 0 8 [] 14 [.view 1 n (fun j => [.int .i64 (x j)]) c, .int .i64 st, .own 0 0 0 n (some n), .int .i64 e, .int .i64 s, w, .int .i64 n] h =
(    bif decide (Int.ofNat n < Int.ofNat n) then
    bif decide ((0 : Int) ≤ Int.ofNat n) && decide (Int.ofNat n < Int.ofNat n) then
    none
    else
    none
    else
    some ((Ex.exit (2 : Nat),
      [T.int IntKind.i64 st, T.own (0 : Nat) (0 : Nat) (0 : Nat) n (some n), T.int IntKind.i64 e, w], h))) from by kernel_rfl)]
  rw [dF (by omega)]; rfl
theorem o14 (s st : Int) (B : Blk) (hB : B.flat = true) (n : Nat) (x : Nat → Int) (c : Option Nat) (hn : n ≤ 400) (hs : 0 ≤ s ∧ s ≤ 80000) (hx : ∀ k, k < n → 0 ≤ x k ∧ x k ≤ 80000) :
    LoopOk P37 G37 (A37 8) 8 14 (litS [.view 1 n (fun j => [.int .i64 (x j)]) c, .int .i64 st, .own 0 0 0 n (some n), .int .i64 0, .int .i64 s, .nils, .int .i64 0] [B] (.exit 2)
      [.int .i64 st, .own 0 0 0 n (some n), .int .i64 0, wnt n] (hh8 B (fun i => Even.wk x s i n) n)) := by
  refine .lit fun fn hf hnt => loop_seq hm37 (by kernel_rfl) hf hnt (fun i => [.view 1 n (fun j => [.int .i64 (x j)]) c, .int .i64 st, .own 0 0 0 n (some n), .int .i64 0, .int .i64 s, wnt i, .int .i64 (i : Int)]) (hh8 B (fun i => Even.wk x s i n)) (n := n)
    (fun i hi => ?_) ⟨by simp, _, _, Rnd.of A37 okK37b rfl rfl (o14x 0 s st _ _ n x c), .refl _ _⟩
  cases i with
  | zero =>
    obtain ⟨g1, g2, q1, q2, q3⟩ := o14z 0 s st B n x (fun i => Even.wk x s i n) c hi
    refine ⟨_, _, Rnd.ofL A37 okK37b rfl rfl (loops1 (i18 (.own 0 0 0 n (some n)) .nils 0 s st 0 [B] n x c hn hi hs hx)) q1, .same (.cons ⟨rfl, rfl, rfl, id, fun _ _ => rfl⟩ (.cons ⟨rfl, rfl, rfl, id, fun j hj => ?_⟩ (.cons ⟨rfl, rfl, rfl, id, fun j hj => ?_⟩ .nil)))⟩
    · obtain rfl : j = 0 := by simp at hj; exact hj
      exact q2.symm
    · obtain rfl : j = 0 := by simp at hj; exact hj
      exact q3.symm
  | succ m =>
    obtain ⟨g1, g2, q1, q2⟩ := o14r 0 s st B (jnk fun i => Even.wk x s i n) m n x (fun i => Even.wk x s i n) c hi hn
    refine ⟨_, _, Rnd.ofL A37 okK37b rfl rfl (loops1 (i18 (.own 0 0 0 n (some n)) (.own 2 m 0 (m + 1) none) 0 s st (m + 1) [B, jnk _, wblk _ m] n x c hn hi hs hx)) q1, ?_⟩
    have hw : SameBlks [B, jnk (fun i => Even.wk x s i n), ⟨m + 1, 1, m + 2, g1, true, false⟩] (hh8 B (fun i => Even.wk x s i n) (m + 2)) := .cons ⟨rfl, rfl, rfl, id, fun _ _ => rfl⟩ (.cons ⟨rfl, rfl, rfl, id, fun j hj => rfl⟩ (.cons ⟨rfl, rfl, rfl, id, fun j hj => (q2 j hj).symm⟩ .nil))
    refine WeakTo.trans (vs1 := [.view 1 n (fun j => [.int .i64 (x j)]) c, .int .i64 st, .own 0 0 0 n (some n), .int .i64 0, .int .i64 s, .own 2 (m + 1) 0 (m + 2) none, .int .i64 ((m + 2 : Nat) : Int)]) (h1 := [B, jnk (fun i => Even.wk x s i n), ⟨m + 1, 1, m + 2, g1, true, false⟩]) (WeakTo.takeM (m := 3) (by simp [hh8]) (h := [B, jnk (fun i => Even.wk x s i n), ⟨m + 1, 1, m + 2, g1, true, false⟩, ⟨0, 1, 1, g2, true, true⟩]) ?_) (.same hw)
    simp [trimOk, low, low0, imm0, lowBlk, jnk, hB, Nat.blt]
end Go.Ab

namespace Go.Ab
open Go.Proofs
def gd (st : Int) (x : Nat → Int) : Nat → Bool
  | 0 => decide (0 ≤ st)
  | i + 1 => gd st x i && (decide (0 ≤ x i) && decide (x i ≤ 80000))
theorem gd_iff {st : Int} {x : Nat → Int} : ∀ {n : Nat}, gd st x n = true ↔ 0 ≤ st ∧ ∀ j, j < n → 0 ≤ x j ∧ x j ≤ 80000
  | 0 => by simp [gd]
  | n + 1 => by
    simp only [gd, Bool.and_eq_true, gd_iff, decide_eq_true_eq]
    constructor
    · rintro ⟨⟨h1, h2⟩, h3⟩
      refine ⟨h1, fun j hj => ?_⟩
      by_cases q : j = n
      · subst q; exact h3
      · exact h2 j (by omega)
    · rintro ⟨h1, h2⟩
      exact ⟨⟨h1, fun j hj => h2 j (by omega)⟩, h2 n (by omega)⟩
theorem g6r (got : T) (e st : Int) (b : Bool) (i : Nat) (h : Heap) (n : Nat) (x : Nat → Int) (c : Option Nat) (hn : n ≤ 4611686018427387904) (hi : i < n) :
    iterR P37 G37 A37 K37b 0 8 [] 6 [.view 1 n (fun j => [.int .i64 (x j)]) c, .int .i64 st, got, .int .i64 e, .bool b, .int .i64 i] h =
    some (.normal, [.view 1 n (fun j => [.int .i64 (x j)]) c, .int .i64 st, got, .int .i64 e, .bool (b && (decide (0 ≤ x i) && decide (x i ≤ 80000))), .int .i64 ((i + 1 : Nat) : Int)], h) := by
  rw [(show iterR P37 G37 A37 K37b 0 8 [] 6 [.view 1 n (fun j => [.int .i64 (x j)]) c, .int .i64 st, got, .int .i64 e, .bool b, .int .i64 i] h =
(    bif decide (Int.ofNat i < Int.ofNat n) then
    bif b then
    bif decide ((0 : Int) ≤ Int.ofNat i) && decide (Int.ofNat i < Int.ofNat n) then
    bif decide ((0 : Int) ≤ x i) then
    bif decide ((0 : Int) ≤ Int.ofNat i) && decide (Int.ofNat i < Int.ofNat n) then
    bif decide (x i ≤ (80000 : Int)) then
    some ((Ex.normal,
      [T.view (1 : Nat) n (fun j => [T.int IntKind.i64 (x j)]) c, T.int IntKind.i64 st, got, T.int IntKind.i64 e,
        T.bool true, T.int IntKind.i64 (IntKind.i64.wrap (Int.ofNat i + (1 : Int)))],
      h))
    else
    some ((Ex.normal,
      [T.view (1 : Nat) n (fun j => [T.int IntKind.i64 (x j)]) c, T.int IntKind.i64 st, got, T.int IntKind.i64 e,
        T.bool false, T.int IntKind.i64 (IntKind.i64.wrap (Int.ofNat i + (1 : Int)))],
      h))
    else
    none
    else
    some ((Ex.normal,
      [T.view (1 : Nat) n (fun j => [T.int IntKind.i64 (x j)]) c, T.int IntKind.i64 st, got, T.int IntKind.i64 e,
        T.bool false, T.int IntKind.i64 (IntKind.i64.wrap (Int.ofNat i + (1 : Int)))],
      h))
    else
    none
    else
    some ((Ex.normal,
      [T.view (1 : Nat) n (fun j => [T.int IntKind.i64 (x j)]) c, T.int IntKind.i64 st, got, T.int IntKind.i64 e,
        T.bool false, T.int IntKind.i64 (IntKind.i64.wrap (Int.ofNat i + (1 : Int)))],
      h))
    else
    some ((Ex.exit (0 : Nat),
      [T.view (1 : Nat) n (fun j => [T.int IntKind.i64 (x j)]) c, T.int IntKind.i64 st, got, T.int IntKind.i64 e, T.bool b],
      h))) from by kernel_rfl)]
  have ek : (Int.ofNat i).toNat = i := rfl
  have eo : (Int.ofNat i : Int) = (i : Int) := rfl
  have en : (Int.ofNat n : Int) = (n : Int) := rfl
  simp only [ek, eo, en]
  rw [dT (show (i : Int) < n by omega), dT (show 0 ≤ (i : Int) by omega), wr64 (x := (i : Int) + 1) (by omega) (by omega)]
  cases b <;> cases decide (0 ≤ x i) <;> cases decide (x i ≤ 80000) <;> rfl
theorem g6x (got : T) (e st : Int) (b : Bool) (h : Heap) (n : Nat) (x : Nat → Int) (c : Option Nat) :
    iterR P37 G37 A37 K37b 0 8 [] 6 [.view 1 n (fun j => [.int .i64 (x j)]) c, .int .i64 st, got, .int .i64 e, .bool b, .int .i64 n] h =
    some (.exit 0, [.view 1 n (fun j => [.int .i64 (x j)]) c, .int .i64 st, got, .int .i64 e, .bool b], h) := by
  rw [(show iterR P37 G37 A37 K37b 0 8 [] 6 [.view 1 n (fun j => [.int .i64 (x j)]) c, .int .i64 st, got, .int .i64 e, .bool b, .int .i64 n] h =
(    bif decide (Int.ofNat n < Int.ofNat n) then
    bif b then
    bif decide ((0 : Int) ≤ Int.ofNat n) && decide (Int.ofNat n < Int.ofNat n) then
    bif decide ((0 : Int) ≤ x n) then
    bif decide ((0 : Int) ≤ Int.ofNat n) && decide (Int.ofNat n < Int.ofNat n) then
    bif decide (x n ≤ (80000 : Int)) then
    some ((Ex.normal,
      [T.view (1 : Nat) n (fun j => [T.int IntKind.i64 (x j)]) c, T.int IntKind.i64 st, got, T.int IntKind.i64 e,
        T.bool true, T.int IntKind.i64 (IntKind.i64.wrap (Int.ofNat n + (1 : Int)))],
      h))
    else
    some ((Ex.normal,
      [T.view (1 : Nat) n (fun j => [T.int IntKind.i64 (x j)]) c, T.int IntKind.i64 st, got, T.int IntKind.i64 e,
        T.bool false, T.int IntKind.i64 (IntKind.i64.wrap (Int.ofNat n + (1 : Int)))],
      h))
    else
    none
    else
    some ((Ex.normal,
      [T.view (1 : Nat) n (fun j => [T.int IntKind.i64 (x j)]) c, T.int IntKind.i64 st, got, T.int IntKind.i64 e,
        T.bool false, T.int IntKind.i64 (IntKind.i64.wrap (Int.ofNat n + (1 : Int)))],
      h))
    else
    none
    else
    some ((Ex.normal,
      [T.view (1 : Nat) n (fun j => [T.int IntKind.i64 (x j)]) c, T.int IntKind.i64 st, got, T.int IntKind.i64 e,
        T.bool false, T.int IntKind.i64 (IntKind.i64.wrap (Int.ofNat n + (1 : Int)))],
      h))
    else
    some ((Ex.exit (0 : Nat),
      [T.view (1 : Nat) n (fun j => [T.int IntKind.i64 (x j)]) c, T.int IntKind.i64 st, got, T.int IntKind.i64 e, T.bool b],
      h))) from by kernel_rfl)]
  rw [dF (by omega)]; rfl
theorem g6 (got : T) (e st : Int) (b : Bool) (hb : b = decide (0 ≤ st)) (h : Heap) (n : Nat) (x : Nat → Int) (c : Option Nat) (hn : n ≤ 4611686018427387904) :
    LoopOk P37 G37 (A37 8) 8 6 (litS [.view 1 n (fun j => [.int .i64 (x j)]) c, .int .i64 st, got, .int .i64 e, .bool b, .int .i64 0] h (.exit 0)
      [.view 1 n (fun j => [.int .i64 (x j)]) c, .int .i64 st, got, .int .i64 e, .bool (gd st x n)] h) := by
  subst hb
  exact .lit fun fn hf hnt => loop_seq hm37 (by kernel_rfl) hf hnt (fun i => [.view 1 n (fun j => [.int .i64 (x j)]) c, .int .i64 st, got, .int .i64 e, .bool (gd st x i), .int .i64 (i : Int)]) (fun _ => h) (n := n)
    (fun i hi => ⟨_, _, Rnd.of A37 okK37b rfl rfl (g6r got e st _ i h n x c hn hi), .refl _ _⟩)
    ⟨by simp, _, _, Rnd.of A37 okK37b rfl rfl (g6x got e st _ h n x c), .refl _ _⟩
end Go.Ab

