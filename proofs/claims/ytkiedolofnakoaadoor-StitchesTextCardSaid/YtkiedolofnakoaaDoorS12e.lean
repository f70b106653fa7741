/- A part of the proof: nothing is assumed. -/
import Derived.Test.YtkiedolofnakoaaDoorS12d
namespace Go.Ab
open Go.Proofs
theorem hm12 : P12.follows .mixedOrders = true := by kernel_rfl
theorem hn12 : namesOk P12 = true := by kernel_rfl
theorem hl12 : laidOutB P12 = true := by kernel_rfl

def spec18 : List T → Tree
  | [.agg [.int .u8 k, .int .u8 y, .int .i64 a, .int .i64 b, .bool f]] => .ret (.int .i64 (needsF k y a b f))
  | _ => .none
def spec15 : List T → Tree
  | [.agg [.int .u8 k, .int .u8 y, .int .i64 a, .int .i64 b, .bool f]] => .ret (.int .i64 (makesF k y a b f))
  | _ => .none
def spec14 : List T → Tree
  | [.agg [.int .u8 k, .int .u8 y, .int .i64 a, .int .i64 b, .bool f]] => .ite (posF k y) (.ret (.int .i64 (needsF k y a b f))) .none
  | _ => .none
def spec23 : List T → Tree
  | [.agg [.int .u8 k, .int .u8 y, .int .i64 a, .int .i64 b, .bool f]] => .ite (posF k y) (.ret (.int .i64 (makesF k y a b f))) .none
  | _ => .none
def spec24 : List T → Tree
  | [.agg [.int .u8 k, .int .u8 y, .int .i64 a, .int .i64 b, .bool f]] => .ret (.int .u8 (bedF k y a b f))
  | _ => .none
def spec16 : List T → Tree
  | [.agg [.int .u8 k, .int .u8 y, .int .i64 a, .int .i64 b, .bool f]] => .ret (mirT k y a b f)
  | _ => .none
def spec12 : List T → Tree
  | [] => .ret (.bool true)
  | _ => .none

theorem ite_run {c : Bool} {x : Tree} {r : T} (h : (Tree.ite c x .none).run some = some r) : c = true ∧ x.run some = some r := by
  simp only [Tree.run] at h
  cases c with
  | false => cases h
  | true => exact ⟨rfl, h⟩

theorem ok17 : OrcOk P12 G12 K17 := step_add hm12 hn12 none_ok none_ok fun args r h => by
  unfold spec17 at h; split at h
  · obtain rfl := Option.some.inj h; exact ⟨A12, 100, .inl (e17 _ _ _ _ _)⟩
  · cases h
theorem ok22 : OrcOk P12 G12 K22 := step_add hm12 hn12 none_ok none_ok fun args r h => by
  unfold spec22 at h; split at h
  · obtain ⟨hc, h⟩ := ite_run h
    obtain rfl := Option.some.inj h; exact ⟨A12, 100, .inl (e22 _ _ _ _ _ hc)⟩
  · cases h
noncomputable def Ka : Orc := ((((((((noneO.add 17 spec17).add 22 spec22).add 18 spec18).add 15 spec15).add 14 spec14).add 23 spec23).add 24 spec24).add 16 spec16).add 12 spec12
theorem okA : OrcOk P12 G12 Ka := by
  refine step_add hm12 hn12 (step_add hm12 hn12 (step_add hm12 hn12 (step_add hm12 hn12 (step_add hm12 hn12 (step_add hm12 hn12 (step_add hm12 hn12 (step_add hm12 hn12 ok17 none_ok ?_) ok17 ?_) ok17 ?_) ok22 ?_) ok22 ?_) ok17 ?_) none_ok ?_) (arun_ok (A := A12) hm12 hn12 1000 7) ?_ <;> intro args r h
  · unfold spec22 at h; split at h
    · obtain ⟨hc, h⟩ := ite_run h
      obtain rfl := Option.some.inj h; exact ⟨A12, 100, .inl (e22 _ _ _ _ _ hc)⟩
    · cases h
  · unfold spec18 at h; split at h
    · obtain rfl := Option.some.inj h; exact ⟨A12, 100, .inl (e18 _ _ _ _ _)⟩
    · cases h
  · unfold spec15 at h; split at h
    · obtain rfl := Option.some.inj h; exact ⟨A12, 100, .inl (e15 _ _ _ _ _)⟩
    · cases h
  · unfold spec14 at h; split at h
    · obtain ⟨hc, h⟩ := ite_run h
      obtain rfl := Option.some.inj h; exact ⟨A12, 100, .inl (e14 _ _ _ _ _ hc)⟩
    · cases h
  · unfold spec23 at h; split at h
    · obtain ⟨hc, h⟩ := ite_run h
      obtain rfl := Option.some.inj h; exact ⟨A12, 100, .inl (e23 _ _ _ _ _ hc)⟩
    · cases h
  · unfold spec24 at h; split at h
    · obtain rfl := Option.some.inj h; exact ⟨A12, 100, .inl (e24 _ _ _ _ _)⟩
    · cases h
  · unfold spec16 at h; split at h
    · obtain rfl := Option.some.inj h; exact ⟨A12, 100, .inl (e16 _ _ _ _ _)⟩
    · cases h
  · unfold spec12 at h; split at h
    · obtain rfl := Option.some.inj h; exact ⟨A12, 1000, .inl lives12⟩
    · cases h

end Go.Ab
