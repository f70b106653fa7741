/- A part of the proof: nothing is assumed. -/
import Derived.Test.YtkiedolofnakoaaDoorP4
import Derived.Test.YtkiedolofnakoaaDoorP19
set_option linter.all false
namespace Go.Ab
open Go.Proofs
variable {H : Type}
theorem agg24 : aggTy P12 24 = true := by kernel_rfl
theorem agg34 : aggTy P12 34 = true := by kernel_rfl
theorem inv24 {ts : List T} {d : DataW H} (h : CT P12 24 ts d) : ∃ k y a b f, topT P12 24 ts = stT k y a b f ∧ 0 ≤ k ∧ k ≤ 255 ∧ 0 ≤ y ∧ y ≤ 255 ∧ (-9223372036854775808 ≤ a ∧ a ≤ 9223372036854775807) ∧ (-9223372036854775808 ≤ b ∧ b ≤ 9223372036854775807) := by
  obtain ⟨parts, ds, rfl, rfl, hs⟩ := CT.struct_inv Tryd.underlying24 h; clear h; rename _ => h
  change CTs P12 [22, 5, 3, 3, 4] parts ds at h
  obtain ⟨p1, _, d1, _, rfl, rfl, h1, h⟩ := h.cons
  obtain ⟨p2, _, d2, _, rfl, rfl, h2, h⟩ := h.cons
  obtain ⟨p3, _, d3, _, rfl, rfl, h3, h⟩ := h.cons
  obtain ⟨p4, _, d4, _, rfl, rfl, h4, h⟩ := h.cons
  obtain ⟨p5, _, d5, _, rfl, rfl, h5, h⟩ := h.cons
  obtain ⟨rfl, rfl⟩ := h.nil
  obtain ⟨k, rfl, rfl, w1⟩ := h1.int_inv Tryd.underlying22
  obtain ⟨y, rfl, rfl, w2⟩ := h2.int_inv Tryd.underlying5
  obtain ⟨a, rfl, rfl, w3⟩ := h3.int_inv Tryd.underlying3
  obtain ⟨b, rfl, rfl, w4⟩ := h4.int_inv Tryd.underlying3
  obtain ⟨f, rfl, rfl⟩ := h5.bool_inv Tryd.underlying4
  have := wf_u8 w1
  have := wf_u8 w2
  refine ⟨k, y, a, b, f, ?_, by omega, by omega, by omega, by omega, wf_i64 w3, wf_i64 w4⟩
  simp [topT, agg24, stT]
theorem inv34 {ts : List T} {d : DataW H} (h : CT P12 34 ts d) : ∃ k y a f, topT P12 34 ts = kT k y a f ∧ 0 ≤ k ∧ k ≤ 255 ∧ 0 ≤ y ∧ y ≤ 255 ∧ 0 ≤ a ∧ a ≤ 255 := by
  obtain ⟨parts, ds, rfl, rfl, hs⟩ := CT.struct_inv Tryd.underlying34 h; clear h; rename _ => h
  change CTs P12 [5, 5, 5, 4] parts ds at h
  obtain ⟨p1, _, d1, _, rfl, rfl, h1, h⟩ := h.cons
  obtain ⟨p2, _, d2, _, rfl, rfl, h2, h⟩ := h.cons
  obtain ⟨p3, _, d3, _, rfl, rfl, h3, h⟩ := h.cons
  obtain ⟨p5, _, d5, _, rfl, rfl, h5, h⟩ := h.cons
  obtain ⟨rfl, rfl⟩ := h.nil
  obtain ⟨k, rfl, rfl, w1⟩ := h1.int_inv Tryd.underlying5
  obtain ⟨y, rfl, rfl, w2⟩ := h2.int_inv Tryd.underlying5
  obtain ⟨a, rfl, rfl, w3⟩ := h3.int_inv Tryd.underlying5
  obtain ⟨f, rfl, rfl⟩ := h5.bool_inv Tryd.underlying4
  have := wf_u8 w1
  have := wf_u8 w2
  have := wf_u8 w3
  refine ⟨k, y, a, f, ?_, by omega, by omega, by omega, by omega, by omega, by omega⟩
  simp [topT, agg34, kT]
theorem agg25 : aggTy P12 25 = false := by kernel_rfl
theorem cells3 : P12.cellsOf 3 = 1 := by kernel_rfl
theorem inv25 {ts : List T} {d : DataW H} (h : CT P12 25 ts d) : topT P12 25 ts = .nils ∨ ∃ (n : Nat) (x : Nat → Int), Sim (topT P12 25 ts) (.view 1 n (fun j => [.int .i64 (x j)]) none) ∧ n ≤ maxLen ∧ ∀ j, j < n → -9223372036854775808 ≤ x j ∧ x j ≤ 9223372036854775807 := by
  rcases h.slice_inv Tryd.underlying25 (by rw [cells3]; omega) with ⟨rfl, rfl⟩ | ⟨n, c, g, elems, spare, rfl, rfl, he, hs, hn, hc, hg⟩
  · exact .inl (by simp [topT, agg25])
  · refine .inr ⟨n, fun j => intAt (g j), ?_, by omega, fun j hj => ?_⟩
    · have e : topT P12 25 [.view (P12.cellsOf 3) n g (some c)] = .view 1 n g (some c) := by simp [topT, agg25, cells3]
      rw [e]
      refine .view (.inr rfl) fun j hj => ?_
      have hj' : j < elems.length := by omega
      obtain ⟨v, hv, _, _⟩ := (hg j elems[j] (by simp [hj'])).int_inv Tryd.underlying3
      show Sims (g j) [.int .i64 (intAt (g j))]
      rw [hv]
      exact .refl _
    · have hj' : j < elems.length := by omega
      obtain ⟨v, hv, _, w⟩ := (hg j elems[j] (by simp [hj'])).int_inv Tryd.underlying3
      dsimp only
      rw [hv]
      exact wf_i64 w
theorem agg35 : aggTy P12 35 = true := by kernel_rfl
theorem inv35 {ts : List T} {d : DataW H} (h : CT P12 35 ts d) : ∃ l0 l1 l2 l3 : Int, topT P12 35 ts = .agg [.int .u8 l0, .int .u8 l1, .int .u8 l2, .int .u8 l3] ∧ 0 ≤ l0 ∧ 0 ≤ l1 ∧ 0 ≤ l2 ∧ 0 ≤ l3 := by
  obtain ⟨parts, ds, rfl, rfl, hs⟩ := CT.array_inv Tryd.underlying35 h
  clear h
  have h : CTs P12 [5, 5, 5, 5] parts ds := hs
  obtain ⟨p1, _, d1, _, rfl, rfl, h1, h⟩ := h.cons
  obtain ⟨p2, _, d2, _, rfl, rfl, h2, h⟩ := h.cons
  obtain ⟨p3, _, d3, _, rfl, rfl, h3, h⟩ := h.cons
  obtain ⟨p4, _, d4, _, rfl, rfl, h4, h⟩ := h.cons
  obtain ⟨rfl, rfl⟩ := h.nil
  obtain ⟨l0, rfl, rfl, w1⟩ := h1.int_inv Tryd.underlying5
  obtain ⟨l1, rfl, rfl, w2⟩ := h2.int_inv Tryd.underlying5
  obtain ⟨l2, rfl, rfl, w3⟩ := h3.int_inv Tryd.underlying5
  obtain ⟨l3, rfl, rfl, w4⟩ := h4.int_inv Tryd.underlying5
  have := wf_u8 w1
  have := wf_u8 w2
  have := wf_u8 w3
  have := wf_u8 w4
  refine ⟨l0, l1, l2, l3, ?_, by omega, by omega, by omega, by omega⟩
  simp [topT, agg35]
end Go.Ab

