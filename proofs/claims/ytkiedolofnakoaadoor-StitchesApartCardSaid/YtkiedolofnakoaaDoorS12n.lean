/- A part of the proof: nothing is assumed. -/
import Derived.Test.YtkiedolofnakoaaDoorS12m
namespace Go.Ab
open Go.Proofs
def spec20 : List T → Tree
  | [.str t] => .ite (parseOkF t) (.ret (.tup [stT (pkF t) (pyF t) (paF t) (pbF t) (pfF t), .int .i64 0])) (.ret (.tup [stT 0 0 0 0 false, .int .i64 4]))
  | _ => .none
theorem e20 (t : List UInt8) : ∃ A, stepV P12 G12 A Kb 100 20 [.str t] = if parseOkF t then some (.tup [stT (pkF t) (pyF t) (paF t) (pbF t) (pfF t), .int .i64 0]) else some (.tup [stT 0 0 0 0 false, .int .i64 4]) := by
  cases hp : parseOkF t with
  | true =>
    obtain ⟨h1, h2⟩ := parse_ok hp
    have := chk20_eq (of_all (p := chk20) v20 h1)
    rw [h2] at this
    exact ⟨A12, this⟩
  | false =>
    simp only [Bool.false_eq_true, if_false]
    match t, hp with
    | [], _ => exact ⟨A12, e20nil⟩
    | c :: t, hp =>
      have hno : ∀ k y a b f, textF k y a b f ≠ c :: t := fun k y a b f e => parse_no hp (text_nil (by rw [e]; simp)) e
      by_cases h1 : c = 107
      · subst h1; exact ⟨A12, e20k t hno⟩
      by_cases h2 : c = 112
      · subst h2; exact ⟨A12, e20p t hno⟩
      by_cases h3 : c = 111
      · subst h3; exact ⟨A12, e20o t hno⟩
      by_cases h4 : c = 47
      · subst h4; exact ⟨A12, e20q t hno⟩
      by_cases h5 : c = 118
      · subst h5; exact ⟨A12, e20v t hno⟩
      by_cases h6 : c = 116
      · subst h6; exact ⟨A12, e20t t hno⟩
      by_cases h7 : c = 115
      · subst h7; exact ⟨A12, e20s t hno⟩
      by_cases h8 : c = 99
      · subst h8; exact ⟨A12, e20c t hno⟩
      exact ⟨A20, e20a c t ⟨h1, h2, h3, h4, h5, h6, h7, h8⟩ hno⟩
noncomputable def Kc : Orc := Kb.add 20 spec20
theorem okC : OrcOk P12 G12 Kc := by
  refine step_add2 hm12 hn12 okB ?_
  intro args r h
  unfold spec20 at h; split at h
  · rename_i t
    obtain ⟨A, e⟩ := e20 t
    refine ⟨A, 100, Kb, okB, .inl ?_⟩
    rw [e]
    simp only [Tree.run] at h
    cases hp : parseOkF t <;> rw [hp] at h <;> simpa using h
  · cases h
def A6L : FuncId → Ann := annWith A12 6 [(12, 81, false)]
def A6S : FuncId → Ann := annWith A12 6 [(1, 14, false), (5, 53, false), (8, 60, false), (10, 78, false), (12, 81, true), (17, 105, false)]
end Go.Ab
