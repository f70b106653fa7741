/- A part of the proof: nothing is assumed. -/
import Derived.Test.YtkiedolofnakoaaDoorS12b
import Derived.Test.YtkiedolofnakoaaDoorAbInv
namespace Go.Ab
open Go.Proofs
variable {H : Type}
theorem agg24 : aggTy P12 24 = true := by kernel_rfl
theorem agg34 : aggTy P12 34 = true := by kernel_rfl
theorem inv24 {ts : List T} {d : DataW H} (h : CT P12 24 ts d) : ∃ k y a b f, topT P12 24 ts = stT k y a b f ∧ 0 ≤ k ∧ k ≤ 255 ∧ 0 ≤ y ∧ y ≤ 255 ∧ (-9223372036854775808 ≤ a ∧ a ≤ 9223372036854775807) ∧ (-9223372036854775808 ≤ b ∧ b ≤ 9223372036854775807) := by
  obtain ⟨parts, ds, rfl, rfl, hs⟩ := CT.struct_inv Tryd.underlying24 h; clear h; rename _ => h
  change CTs P12 [22, 5, 3, 3, 4] parts ds at h
  obtain ⟨p1, _, d1, _, rfl, rfl, h1, h⟩ := h.cons
  obtain ⟨p2, _, d2, _, rfl, rfl, h2, h⟩ := h.cons
  obtain ⟨p3, _, d3, _, rfl, rfl, h3, h⟩ := h.cons
  obtain ⟨p4, _, d4, _, rfl, rfl, h4, h⟩ := h.cons
  obtain ⟨p5, _, d5, _, rfl, rfl, h5, h⟩ := h.cons
  obtain ⟨rfl, rfl⟩ := h.nil
  obtain ⟨k, rfl, rfl, w1⟩ := h1.int_inv Tryd.underlying22
  obtain ⟨y, rfl, rfl, w2⟩ := h2.int_inv Tryd.underlying5
  obtain ⟨a, rfl, rfl, w3⟩ := h3.int_inv Tryd.underlying3
  obtain ⟨b, rfl, rfl, w4⟩ := h4.int_inv Tryd.underlying3
  obtain ⟨f, rfl, rfl⟩ := h5.bool_inv Tryd.underlying4
  have := wf_u8 w1
  have := wf_u8 w2
  refine ⟨k, y, a, b, f, ?_, by omega, by omega, by omega, by omega, wf_i64 w3, wf_i64 w4⟩
  simp [topT, agg24, stT]
theorem inv34 {ts : List T} {d : DataW H} (h : CT P12 34 ts d) : ∃ k y a f, topT P12 34 ts = kT k y a f ∧ 0 ≤ k ∧ k ≤ 255 ∧ 0 ≤ y ∧ y ≤ 255 ∧ 0 ≤ a ∧ a ≤ 255 := by
  obtain ⟨parts, ds, rfl, rfl, hs⟩ := CT.struct_inv Tryd.underlying34 h; clear h; rename _ => h
  change CTs P12 [5, 5, 5, 4] parts ds at h
  obtain ⟨p1, _, d1, _, rfl, rfl, h1, h⟩ := h.cons
  obtain ⟨p2, _, d2, _, rfl, rfl, h2, h⟩ := h.cons
  obtain ⟨p3, _, d3, _, rfl, rfl, h3, h⟩ := h.cons
  obtain ⟨p5, _, d5, _, rfl, rfl, h5, h⟩ := h.cons
  obtain ⟨rfl, rfl⟩ := h.nil
  obtain ⟨k, rfl, rfl, w1⟩ := h1.int_inv Tryd.underlying5
  obtain ⟨y, rfl, rfl, w2⟩ := h2.int_inv Tryd.underlying5
  obtain ⟨a, rfl, rfl, w3⟩ := h3.int_inv Tryd.underlying5
  obtain ⟨f, rfl, rfl⟩ := h5.bool_inv Tryd.underlying4
  have := wf_u8 w1
  have := wf_u8 w2
  have := wf_u8 w3
  refine ⟨k, y, a, f, ?_, by omega, by omega, by omega, by omega, by omega, by omega⟩
  simp [topT, agg34, kT]
end Go.Ab
