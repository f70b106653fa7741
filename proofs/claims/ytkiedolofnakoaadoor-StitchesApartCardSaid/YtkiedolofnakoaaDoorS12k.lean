/- A part of the proof: nothing is assumed. -/
import Derived.Test.YtkiedolofnakoaaDoorS12j
namespace Go.Ab
open Go.Proofs
def spec13 : List T → Tree
  | [.agg [.int .u8 k, .int .u8 y, .int .u8 a, .bool f]] => .ite (kposF k y a) (.ret (stT (kkF k) (yyF y) (aaF k a) (bbF k a) (ffF k f))) .none
  | _ => .none
def spec19 : List T → Tree
  | [.agg [.int .u8 k, .int .u8 y, .int .i64 a, .int .i64 b, .bool f]] => .ret (.str (textF k y a b f))
  | _ => .none
def spec21 : List T → Tree
  | [.agg [.int .u8 k, .int .u8 y, .int .i64 a, .int .i64 b, .bool f]] => .ite (posF k y) (.ret (.str (textF k y a b f))) .none
  | _ => .none
noncomputable def Kb : Orc := ((Ka.add 13 spec13).add 19 spec19).add 21 spec21
theorem okB : OrcOk P12 G12 Kb := by
  refine step_add2 hm12 hn12 (step_add2 hm12 hn12 (step_add2 hm12 hn12 okA ?_) ?_) ?_ <;> intro args r h
  · unfold spec13 at h; split at h
    · obtain ⟨hc, h⟩ := ite_run h
      obtain rfl := Option.some.inj h; exact ⟨A12, 100, _, none_ok, .inl (e13 _ _ _ _ hc)⟩
    · cases h
  · unfold spec19 at h; split at h
    · obtain rfl := Option.some.inj h
      exact e19 _ _ _ _ _
    · cases h
  · unfold spec21 at h; split at h
    · obtain ⟨hc, h⟩ := ite_run h
      obtain rfl := Option.some.inj h
      exact e21 _ _ _ _ _ hc
    · cases h
end Go.Ab
