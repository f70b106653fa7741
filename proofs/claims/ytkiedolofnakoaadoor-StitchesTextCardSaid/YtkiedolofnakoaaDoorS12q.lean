/- A part of the proof: nothing is assumed. -/
import Derived.Test.YtkiedolofnakoaaDoorS12n
import Derived.Test.YtkiedolofnakoaaDoorAbLoop
namespace Go.Ab
open Go.Proofs
def go14F (t : List UInt8) (i : Int) : Bool := !parseOkF t && (decide (0 ≤ i) && decide (i ≤ 576))
def spec14L : List T → Heap → LT
  | [.str t, .int .i64 i], h => .ite (go14F t i) (.ret (.exit 0) [.undef] h) .none
  | _, _ => .none
def A6V : FuncId → Ann := annWith A12 6 [(1, 14, false), (5, 53, false), (5, 29, true), (8, 60, false), (10, 78, false), (12, 81, true)]
def A6I : FuncId → Ann := annWith A12 6 [(1, 14, false), (5, 53, false), (5, 29, false), (8, 60, false), (10, 78, false), (12, 81, true)]
theorem loop14at : loopAt P12 6 14 = true := by kernel_rfl
theorem apart6 : loopsApart P12 6 = true := by kernel_rfl
theorem parse_text {k y a b : Int} {f : Bool} (h : valid k y a b f = true) : parseOkF (textF k y a b f) = true ∧ pkF (textF k y a b f) = k ∧ pyF (textF k y a b f) = y ∧ paF (textF k y a b f) = a ∧ pbF (textF k y a b f) = b ∧ pfF (textF k y a b f) = f := by
  have h0 : parseOkF (textF k y a b f) = true := by
    unfold parseOkF
    rw [List.any_eq_true]
    exact ⟨(k, y, a, b, f), mem_all h, by simp⟩
  obtain ⟨h1, h2⟩ := parse_ok h0
  obtain ⟨e1, e2, e3, e4, e5⟩ := text_inj h1 h h2
  exact ⟨h0, e1, e2, e3, e4, e5⟩
theorem parse_nil : parseOkF [] = false := by kernel_rfl
theorem valid_pos {k y a b : Int} {f : Bool} (h : valid k y a b f = true) : posF k y = true := by
  simp only [valid, Bool.and_eq_true, decide_eq_true_eq] at h
  simp only [posF, Bool.and_eq_true, decide_eq_true_eq]
  omega
theorem u8_range (x : Int) : 0 ≤ IntKind.u8.wrap x ∧ IntKind.u8.wrap x ≤ 255 := by
  simp only [IntKind.wrap, IntKind.signed, IntKind.bits]
  simp
  omega
theorem kpos_wrap (x y z : Int) : kposF (IntKind.u8.wrap x) (IntKind.u8.wrap y) (IntKind.u8.wrap z) = true := by
  have h1 := u8_range x
  have h2 := u8_range y
  have h3 := u8_range z
  simp only [kposF, Bool.and_eq_true, decide_eq_true_eq]
  omega
theorem pos_wrap (x y : Int) : posF (kkF (IntKind.u8.wrap x)) (yyF (IntKind.u8.wrap y)) = true :=
  valid_pos (ofK_valid (a := IntKind.u8.wrap 0) (f := true) (kpos_wrap x y 0))
end Go.Ab
