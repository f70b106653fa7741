/- The laws' typed arguments. -/
import Derived.Test.YtlaganadekpcjaaP14
import Derived.Test.YtlaganadekpcjaaP4
set_option linter.all false
namespace Go.Ab
open Go.Proofs
section
variable {Hp : Type}
theorem agg22 : aggTy P41 22 = false := by kernel_rfl
theorem agg23 : aggTy P41 23 = false := by kernel_rfl
theorem cells52 : P41.cellsOf 52 = 4 := by kernel_rfl
theorem cells5_41 : P41.cellsOf 5 = 1 := by kernel_rfl
def cN (l : List T) (k : Nat) : Nat := match l[k]? with | some (.int _ z) => z.toNat | _ => 0
theorem inv52 {ts : List T} {d : DataW Hp} (h : CT P41 52 ts d) : ∃ a b c e : Nat, ts = uJ a b c e ∧ a < 256 ∧ b < 256 ∧ c < 256 ∧ e < 256 := by
  obtain ⟨parts, ds, rfl, rfl, hs⟩ := CT.struct_inv Try.underlying52 h; clear h; rename _ => h
  change CTs P41 [5, 5, 5, 5] parts ds at h
  obtain ⟨p1, _, d1, _, rfl, rfl, h1, h⟩ := h.cons
  obtain ⟨p2, _, d2, _, rfl, rfl, h2, h⟩ := h.cons
  obtain ⟨p3, _, d3, _, rfl, rfl, h3, h⟩ := h.cons
  obtain ⟨p4, _, d4, _, rfl, rfl, h4, h⟩ := h.cons
  obtain ⟨rfl, rfl⟩ := h.nil
  obtain ⟨a, rfl, rfl, w1⟩ := h1.int_inv Try.underlying5
  obtain ⟨b, rfl, rfl, w2⟩ := h2.int_inv Try.underlying5
  obtain ⟨c, rfl, rfl, w3⟩ := h3.int_inv Try.underlying5
  obtain ⟨e, rfl, rfl, w4⟩ := h4.int_inv Try.underlying5
  have w1 := wf_u8 w1
  have w2 := wf_u8 w2
  have w3 := wf_u8 w3
  have w4 := wf_u8 w4
  refine ⟨a.toNat, b.toNat, c.toNat, e.toNat, ?_, by omega, by omega, by omega, by omega⟩
  unfold uJ
  rw [Int.toNat_of_nonneg w1.1, Int.toNat_of_nonneg w2.1, Int.toNat_of_nonneg w3.1, Int.toNat_of_nonneg w4.1]
  simp
theorem inv22 {ts : List T} {d : DataW Hp} (h : CT P41 22 ts d) : ∃ R : JR, R.Ok ∧ Sim (topT P41 22 ts) (R.v none) := by
  rcases h.slice_inv Try.underlying22 (by rw [cells52]; omega) with ⟨rfl, rfl⟩ | ⟨n, c, g, elems, spare, rfl, rfl, he, hs, hn, hc, hg⟩
  · refine ⟨⟨fun _ => 0, fun _ => 0, fun _ => 0, fun _ => 0, 0⟩, ⟨fun _ => Nat.zero_lt_succ 255, fun _ => Nat.zero_lt_succ 255, fun _ => Nat.zero_lt_succ 255, fun _ => Nat.zero_lt_succ 255⟩, ?_⟩
    rw [show topT P41 22 [.nils] = .nils by simp [topT, agg22]]
    exact .nilv _ _ (.inl rfl)
  · have key : ∀ j, j < n → ∃ a b c e : Nat, g j = uJ a b c e ∧ a < 256 ∧ b < 256 ∧ c < 256 ∧ e < 256 := fun j hj => inv52 (hg j elems[j] (by simp [show j < elems.length by omega]))
    have b : ∀ j k, (if j < n then cN (g j) k else 0) < 256 := fun j k => by
      split
      · rename_i hj
        obtain ⟨a, b, c, e, q, q1, q2, q3, q4⟩ := key j hj
        rw [q]
        unfold uJ cN
        match k with
        | 0 => simpa using q1
        | 1 => simpa using q2
        | 2 => simpa using q3
        | 3 => simpa using q4
        | k + 4 => simp
      · omega
    refine ⟨⟨fun j => if j < n then cN (g j) 0 else 0, fun j => if j < n then cN (g j) 1 else 0, fun j => if j < n then cN (g j) 2 else 0, fun j => if j < n then cN (g j) 3 else 0, n⟩, ⟨fun j => b j 0, fun j => b j 1, fun j => b j 2, fun j => b j 3⟩, ?_⟩
    have e : topT P41 22 [.view (P41.cellsOf 52) n g (some c)] = .view 4 n g (some c) := by simp [topT, agg22, cells52]
    rw [e]
    refine .view (.inr rfl) fun j hj => ?_
    obtain ⟨a, b, c, e, q, _⟩ := key j hj
    have e2 : g j = uJ (if j < n then cN (g j) 0 else 0) (if j < n then cN (g j) 1 else 0) (if j < n then cN (g j) 2 else 0) (if j < n then cN (g j) 3 else 0) := by
      rw [if_pos hj, if_pos hj, if_pos hj, if_pos hj, q]
      rfl
    show Sims (g j) (uJ _ _ _ _)
    rw [← e2]
    exact .refl _
theorem inv23 {ts : List T} {d : DataW Hp} (h : CT P41 23 ts d) : ∃ (n : Nat) (m : Nat → Nat), (∀ j, m j < 256) ∧ Sim (topT P41 23 ts) (.view 1 n (fun j => [.int .u8 (m j)]) none) := by
  rcases h.slice_inv Try.underlying23 (by rw [cells5_41]; omega) with ⟨rfl, rfl⟩ | ⟨n, c, g, elems, spare, rfl, rfl, he, hs, hn, hc, hg⟩
  · refine ⟨0, fun _ => 0, fun _ => Nat.zero_lt_succ 255, ?_⟩
    rw [show topT P41 23 [.nils] = .nils by simp [topT, agg23]]
    exact .nilv _ _ (.inl rfl)
  · have key : ∀ j, j < n → ∃ a : Nat, g j = [.int .u8 a] ∧ a < 256 := fun j hj => by
      obtain ⟨v, hv, _, w⟩ := (hg j elems[j] (by simp [show j < elems.length by omega])).int_inv Try.underlying5
      have w := wf_u8 w
      exact ⟨v.toNat, by rw [hv, Int.toNat_of_nonneg w.1], by omega⟩
    refine ⟨n, fun j => if j < n then cN (g j) 0 else 0, fun j => ?_, ?_⟩
    · dsimp only
      split
      · rename_i hj
        obtain ⟨a, q, q1⟩ := key j hj
        rw [q]
        simpa [cN] using q1
      · omega
    · have e : topT P41 23 [.view (P41.cellsOf 5) n g (some c)] = .view 1 n g (some c) := by simp [topT, agg23, cells5_41]
      rw [e]
      refine .view (.inr rfl) fun j hj => ?_
      obtain ⟨a, q, _⟩ := key j hj
      have e2 : g j = [.int .u8 (if j < n then cN (g j) 0 else 0 : Nat)] := by
        rw [if_pos hj, q]
        rfl
      show Sims (g j) [T.int .u8 _]
      rw [← e2]
      exact .refl _
end
end Go.Ab

