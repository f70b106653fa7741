/- A part of the proof: nothing is assumed. -/
import Derived.Test.YtkiedolofnakoaaDoorS12e
namespace Go.Ab
open Go.Proofs
/-- All valid stitches. -/
def all12 : List (Int × Int × Int × Int × Bool) :=
  ([1, 2, 3, 4, 5, 6] : List Int).flatMap fun y => (([1, 2, 3, 4, 5, 6, 7] : List Int).map fun k => (k, y, 0, 0, false)) ++
    ([(1, 1), (1, 2), (2, 1), (2, 2), (1, 3), (3, 1)] : List (Int × Int)).flatMap fun p => [(8, y, p.1, p.2, false), (8, y, p.1, p.2, true)]
def u8F (n : Int) : UInt8 := UInt8.ofNat n.toNat
/-- The text of a stitch. -/
def textF (k y a b : Int) (f : Bool) : List UInt8 :=
  bif valid k y a b f then
    (u8F (([107, 112, 111, 47, 118, 116, 115, 99] : List Int).getD (k - 1).toNat 0)) :: ((bif decide (k = 8) then [u8F (48 + a), u8F (48 + b), bif f then 70 else 66] else []) ++ (bif decide (y = 1) then [] else [u8F (48 + y)]))
  else []
theorem all_valid : all12.all (fun c => valid c.1 c.2.1 c.2.2.1 c.2.2.2.1 c.2.2.2.2) = true := by kernel_rfl
theorem mem_all {k y a b : Int} {f : Bool} (h : valid k y a b f = true) : (k, y, a, b, f) ∈ all12 := by
  simp only [valid, Bool.and_eq_true, decide_eq_true_eq] at h
  obtain ⟨h1, h2, h3, h4, h5⟩ := h
  have hy : y = 1 ∨ y = 2 ∨ y = 3 ∨ y = 4 ∨ y = 5 ∨ y = 6 := by omega
  by_cases h8 : k = 8
  · subst h8
    simp only [decide_true, cond_true, Bool.and_eq_true, decide_eq_true_eq] at h5
    have hab : (a = 1 ∧ b = 1) ∨ (a = 1 ∧ b = 2) ∨ (a = 2 ∧ b = 1) ∨ (a = 2 ∧ b = 2) ∨ (a = 1 ∧ b = 3) ∨ (a = 3 ∧ b = 1) := by omega
    rcases hy with rfl | rfl | rfl | rfl | rfl | rfl <;> rcases hab with ⟨rfl, rfl⟩ | ⟨rfl, rfl⟩ | ⟨rfl, rfl⟩ | ⟨rfl, rfl⟩ | ⟨rfl, rfl⟩ | ⟨rfl, rfl⟩ <;> cases f <;> decide +kernel
  · simp only [h8, decide_false, cond_false, Bool.and_eq_true, decide_eq_true_eq, Bool.not_eq_true'] at h5
    obtain ⟨rfl, rfl, rfl⟩ := h5
    have hk : k = 1 ∨ k = 2 ∨ k = 3 ∨ k = 4 ∨ k = 5 ∨ k = 6 ∨ k = 7 := by omega
    rcases hy with rfl | rfl | rfl | rfl | rfl | rfl <;> rcases hk with rfl | rfl | rfl | rfl | rfl | rfl | rfl <;> decide +kernel
/-- What holds of all valid stitches, by trying. -/
theorem of_all {p : Int → Int → Int → Int → Bool → Bool} (h : all12.all (fun c => p c.1 c.2.1 c.2.2.1 c.2.2.2.1 c.2.2.2.2) = true) {k y a b : Int} {f : Bool} (hv : valid k y a b f = true) : p k y a b f = true :=
  List.all_eq_true.1 h _ (mem_all hv)
def sameF (k y a b : Int) (f : Bool) (k' y' a' b' : Int) (f' : Bool) : Bool := decide (k = k') && decide (y = y') && decide (a = a') && decide (b = b') && (f == f')
theorem text_inj0 : all12.all (fun c => all12.all fun d => !(textF c.1 c.2.1 c.2.2.1 c.2.2.2.1 c.2.2.2.2 == textF d.1 d.2.1 d.2.2.1 d.2.2.2.1 d.2.2.2.2) || sameF c.1 c.2.1 c.2.2.1 c.2.2.2.1 c.2.2.2.2 d.1 d.2.1 d.2.2.1 d.2.2.2.1 d.2.2.2.2) = true := by kernel_rfl
theorem text_inj {k y a b : Int} {f : Bool} {k' y' a' b' : Int} {f' : Bool} (h : valid k y a b f = true) (h' : valid k' y' a' b' f' = true) (e : textF k y a b f = textF k' y' a' b' f') : k = k' ∧ y = y' ∧ a = a' ∧ b = b' ∧ f = f' := by
  have h1 := List.all_eq_true.1 (List.all_eq_true.1 text_inj0 _ (mem_all h)) _ (mem_all h')
  simp only [e, beq_self_eq_true, Bool.not_true, Bool.false_or, sameF, Bool.and_eq_true, decide_eq_true_eq, beq_iff_eq] at h1
  obtain ⟨⟨⟨⟨a1, a2⟩, a3⟩, a4⟩, a5⟩ := h1
  exact ⟨a1, a2, a3, a4, a5⟩
def strIs (o : Option T) (s : List UInt8) : Bool := match o with
  | some (.str t) => t == s
  | _ => false
theorem strIs_eq {o : Option T} {s : List UInt8} (h : strIs o s = true) : o = some (.str s) := by
  unfold strIs at h
  split at h
  · rw [eq_of_beq h]
  · cases h
end Go.Ab
