/- A part of the proof: nothing is assumed. -/
import Derived.Test.YtkiedolofnakoaaDoorP7
import Derived.Test.YtkiedolofnakoaaDoorP8
set_option linter.all false
namespace Go.Ab
open Go.Proofs
def cut1 (o : Option (Ex × List T × Heap)) : Option (Ex × List T × Heap) := match o with
  | some (e, vs, h) => bif trimOk 1 vs h then some (e, vs, h.take 1) else none
  | none => none
def blk9 (s : Nat → List UInt8) : Blk := ⟨0, 1, 20, fun j => [.str (s j)], true, false⟩
/-- One round. -/
def Rd (i : Int) : Prop := ∀ s : Nat → List UInt8, cut1 (iterR P12 G12 A12 K9 1 9 [] 3 [.own 0 0 0 20 (some 20), .int .i64 i] [blk9 s]) = some (.normal, [.own 0 0 0 20 (some 20), .int .i64 (i + 1)], [blk9 s])
theorem cut1_eq {o : Option (Ex × List T × Heap)} {e : Ex} {vs : List T} {h1 : Heap} (h : cut1 o = some (e, vs, h1)) : ∃ h, o = some (e, vs, h) ∧ trimOk 1 vs h = true ∧ h1 = h.take 1 := by
  unfold cut1 at h
  split at h
  · rename_i e' vs' h'
    obtain ⟨hc, h⟩ := bif_none h
    simp only [Option.some.injEq, Prod.mk.injEq] at h
    obtain ⟨rfl, rfl, rfl⟩ := h
    exact ⟨h', rfl, hc, rfl⟩
  · cases h
def strAt : List T → List UInt8
  | [.str s] => s
  | _ => []
def isStr : List T → Bool
  | [.str _] => true
  | _ => false
theorem isStr_eq {l : List T} (h : isStr l = true) : l = [.str (strAt l)] := by
  unfold isStr at h
  split at h
  · rfl
  · cases h
def g9F (b : Blk) : Bool := decide (b.ver = 0) && (decide (b.sz = 1) && (decide (b.n = 20) && (b.flat && (List.range 20).all fun j => isStr (b.get j))))
def spec9L : List T → Heap → LT
  | [.own 0 0 0 20 (some 20), .int .i64 i], [b] => .ite (decide (i = 0) && g9F b) (.ret (.exit 0) [.undef] [blk9 fun j => strAt (b.get j)]) .none
  | _, _ => .none
theorem loop9at : loopAt P12 9 3 = true := by kernel_rfl
theorem apart9 : loopsApart P12 9 = true := by kernel_rfl
theorem last9 (s : Nat → List UInt8) : iterR P12 G12 A12 K9 1 9 [] 3 [.own 0 0 0 20 (some 20), .int .i64 400] [blk9 s] = some (.exit 0, [.undef], [blk9 s]) := by kernel_rfl
theorem loop9 (hr : ∀ i : Int, 0 ≤ i → i < 400 → Rd i) : LoopOk P12 G12 (A12 9) 9 3 spec9L := by
  intro fn hf hnt vs h e vs' h' hk
  unfold spec9L at hk
  split at hk
  · rename_i i b
    simp only [LT.run] at hk
    obtain ⟨hc, hk⟩ := bif_none hk
    simp only [Option.some.injEq, Prod.mk.injEq] at hk
    obtain ⟨rfl, rfl, rfl⟩ := hk
    simp only [g9F, Bool.and_eq_true, decide_eq_true_eq] at hc
    obtain ⟨rfl, h1, h2, h3, h4, h5⟩ := hc
    have hsame : SameBlks [b] [blk9 fun j => strAt (b.get j)] := by
      refine ⟨rfl, fun i b0 b2 e1 e2 => ?_⟩
      cases i with
      | succ i => simp at e1
      | zero =>
        simp at e1 e2
        subst e1; subst e2
        refine ⟨h1.symm, h2.symm, h3.symm, fun _ => h4, fun j hj => ?_⟩
        exact (isStr_eq (List.all_eq_true.1 h5 j (List.mem_range.2 (by omega)))).symm
    refine CodeGoes.weak ?_ (WeakTo.same hsame)
    refine loop_told2 hm12 loop9at (an := A12 9) (fun m vs h => ∃ i : Int, 0 ≤ i ∧ i ≤ 400 ∧ m = (400 - i).toNat ∧ vs = [.own 0 0 0 20 (some 20), .int .i64 i] ∧ h = [blk9 fun j => strAt (b.get j)]) hf hnt (fun m vs h hI => ?_) (n := ((400 : Int) - 0).toNat) ⟨0, by omega, by omega, rfl, rfl, rfl⟩
    obtain ⟨i, i0, i1, rfl, rfl, rfl⟩ := hI
    refine ⟨A12, K9, 1, [], okK9, rfl, rfl, fun p hp => (by cases hp), ?_⟩
    by_cases hi : i < 400
    · obtain ⟨hh, q1, q2, q3⟩ := cut1_eq (hr i i0 hi fun j => strAt (b.get j))
      exact ⟨_, _, _, q1, .inl ⟨rfl, (400 - (i + 1)).toNat, _, _, by omega, WeakTo.take q2, i + 1, by omega, by omega, rfl, rfl, q3.symm⟩⟩
    · obtain rfl : i = 400 := by omega
      exact ⟨_, _, _, last9 _, .inr ⟨by simp, rfl, WeakTo.refl _ _⟩⟩
  · cases hk
end Go.Ab

