/- A part of the proof: nothing is assumed. -/
import Derived.Test.YtkiedolofnakoaaDoorS12k
namespace Go.Ab
open Go.Proofs
def foundF (t : List UInt8) : Int × Int × Int × Int × Bool := (all12.find? fun c => textF c.1 c.2.1 c.2.2.1 c.2.2.2.1 c.2.2.2.2 == t).getD (0, 0, 0, 0, false)
def parseOkF (t : List UInt8) : Bool := all12.any fun c => textF c.1 c.2.1 c.2.2.1 c.2.2.2.1 c.2.2.2.2 == t
def pkF (t : List UInt8) : Int := (foundF t).1
def pyF (t : List UInt8) : Int := (foundF t).2.1
def paF (t : List UInt8) : Int := (foundF t).2.2.1
def pbF (t : List UInt8) : Int := (foundF t).2.2.2.1
def pfF (t : List UInt8) : Bool := (foundF t).2.2.2.2
theorem parse_ok {t : List UInt8} (h : parseOkF t = true) : valid (pkF t) (pyF t) (paF t) (pbF t) (pfF t) = true ∧ textF (pkF t) (pyF t) (paF t) (pbF t) (pfF t) = t := by
  simp only [pkF, pyF, paF, pbF, pfF, foundF]
  cases hf : all12.find? fun c => textF c.1 c.2.1 c.2.2.1 c.2.2.2.1 c.2.2.2.2 == t with
  | none =>
    rw [List.find?_eq_none] at hf
    unfold parseOkF at h
    rw [List.any_eq_true] at h
    obtain ⟨c, hc, he⟩ := h
    exact absurd he (by simpa using hf c hc)
  | some c =>
    exact ⟨List.all_eq_true.1 all_valid c (List.mem_of_find?_eq_some hf), eq_of_beq (List.find?_some (p := fun c : Int × Int × Int × Int × Bool => textF c.1 c.2.1 c.2.2.1 c.2.2.2.1 c.2.2.2.2 == t) hf)⟩
theorem parse_no {t : List UInt8} (h : parseOkF t = false) {k y a b : Int} {f : Bool} (hv : valid k y a b f = true) : textF k y a b f ≠ t := by
  intro e
  have : parseOkF t = true := by
    unfold parseOkF
    rw [List.any_eq_true]
    exact ⟨(k, y, a, b, f), mem_all hv, by simp [e]⟩
  rw [h] at this
  cases this
theorem text_nil {k y a b : Int} {f : Bool} (h : textF k y a b f ≠ []) : valid k y a b f = true := by
  cases hv : valid k y a b f with
  | true => rfl
  | false => exact absurd (by simp [textF, hv]) h
theorem text_ne {k y a b : Int} {f : Bool} (h : valid k y a b f = true) : textF k y a b f ≠ [] := by simp [textF, h]
noncomputable def chk20 (k y a b : Int) (f : Bool) : Bool := match stepV P12 G12 A12 Kb 100 20 [.str (textF k y a b f)] with
  | some (.tup [.agg [.int .u8 k', .int .u8 y', .int .i64 a', .int .i64 b', .bool f'], .int .i64 e]) => decide (e = 0) && sameF k y a b f k' y' a' b' f'
  | _ => false
theorem v20 : all12.all (fun c => chk20 c.1 c.2.1 c.2.2.1 c.2.2.2.1 c.2.2.2.2) = true := by kernel_rfl
theorem chk20_eq {k y a b : Int} {f : Bool} (h : chk20 k y a b f = true) : stepV P12 G12 A12 Kb 100 20 [.str (textF k y a b f)] = some (.tup [stT k y a b f, .int .i64 0]) := by
  unfold chk20 at h
  split at h
  · rename_i e
    simp only [sameF, Bool.and_eq_true, decide_eq_true_eq, beq_iff_eq] at h
    obtain ⟨rfl, ⟨⟨⟨rfl, rfl⟩, rfl⟩, rfl⟩, rfl⟩ := h
    rw [e]; rfl
  · cases h
def A20 : FuncId → Ann := annWith A12 20 [(7, 20, false)]
end Go.Ab
