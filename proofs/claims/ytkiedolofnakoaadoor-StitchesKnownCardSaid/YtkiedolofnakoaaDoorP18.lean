/- A part of the proof: nothing is assumed. -/
import Derived.Test.YtkiedolofnakoaaDoorP9
import Derived.Test.YtkiedolofnakoaaDoorP10
import Derived.Test.YtkiedolofnakoaaDoorP11
import Derived.Test.YtkiedolofnakoaaDoorP12
import Derived.Test.YtkiedolofnakoaaDoorP13
import Derived.Test.YtkiedolofnakoaaDoorP14
import Derived.Test.YtkiedolofnakoaaDoorP15
import Derived.Test.YtkiedolofnakoaaDoorP16
import Derived.Test.YtkiedolofnakoaaDoorP17
set_option linter.all false
namespace Go.Ab
open Go.Proofs

theorem rounds9 : ∀ i : Int, 0 ≤ i → i < 400 → Rd i := by
  intro i h0 h1
  have key : ∀ (b : Int) (n : Nat), Rd ((n : Int) + b) → i = (n : Int) + b → Rd i := fun b n h e => e ▸ h
  by_cases c1 : i < 50
  · exact key 0 i.toNat (rg0 _ (by omega)) (by omega)
  by_cases c2 : i < 100
  · exact key 50 (i - 50).toNat (rg1 _ (by omega)) (by omega)
  by_cases c3 : i < 150
  · exact key 100 (i - 100).toNat (rg2 _ (by omega)) (by omega)
  by_cases c4 : i < 200
  · exact key 150 (i - 150).toNat (rg3 _ (by omega)) (by omega)
  by_cases c5 : i < 250
  · exact key 200 (i - 200).toNat (rg4 _ (by omega)) (by omega)
  by_cases c6 : i < 300
  · exact key 250 (i - 250).toNat (rg5 _ (by omega)) (by omega)
  by_cases c7 : i < 350
  · exact key 300 (i - 300).toNat (rg6 _ (by omega)) (by omega)
  · exact key 350 (i - 350).toNat (rg7 _ (by omega)) (by omega)
theorem loops9 : ∀ p ∈ [((3 : Nat), spec9L)], LoopOk P12 G12 (A12 9) 9 p.1 p.2 := by
  intro p hp
  obtain rfl : p = (3, spec9L) := by simpa using hp
  exact loop9 rounds9
theorem law9 : ToldOk P12 G12 9 [] (.bool true) :=
  stepL_told hm12 hn12 okK9 (A := A12) (m := 10) apart9 (l := [(3, spec9L)]) loops9
    (show stepL P12 G12 A12 K9 10 9 [(3, spec9L)] [] = some (.bool true) by kernel_rfl)
end Go.Ab

