/- A part of the proof: nothing is assumed. -/
import Derived.Test.YtkiedolofnakoaaDoorP9
import Derived.KernelRfl
set_option linter.all false
namespace Go.Ab
open Go.Proofs
theorem rd0 : Rd 0 := fun s => by kernel_rfl
theorem rd1 : Rd 1 := fun s => by kernel_rfl
theorem rd2 : Rd 2 := fun s => by kernel_rfl
theorem rd3 : Rd 3 := fun s => by kernel_rfl
theorem rd4 : Rd 4 := fun s => by kernel_rfl
theorem rd5 : Rd 5 := fun s => by kernel_rfl
theorem rd6 : Rd 6 := fun s => by kernel_rfl
theorem rd7 : Rd 7 := fun s => by kernel_rfl
theorem rd8 : Rd 8 := fun s => by kernel_rfl
theorem rd9 : Rd 9 := fun s => by kernel_rfl
theorem rd10 : Rd 10 := fun s => by kernel_rfl
theorem rd11 : Rd 11 := fun s => by kernel_rfl
theorem rd12 : Rd 12 := fun s => by kernel_rfl
theorem rd13 : Rd 13 := fun s => by kernel_rfl
theorem rd14 : Rd 14 := fun s => by kernel_rfl
theorem rd15 : Rd 15 := fun s => by kernel_rfl
theorem rd16 : Rd 16 := fun s => by kernel_rfl
theorem rd17 : Rd 17 := fun s => by kernel_rfl
theorem rd18 : Rd 18 := fun s => by kernel_rfl
theorem rd19 : Rd 19 := fun s => by kernel_rfl
theorem rd20 : Rd 20 := fun s => by kernel_rfl
theorem rd21 : Rd 21 := fun s => by kernel_rfl
theorem rd22 : Rd 22 := fun s => by kernel_rfl
theorem rd23 : Rd 23 := fun s => by kernel_rfl
theorem rd24 : Rd 24 := fun s => by kernel_rfl
theorem rd25 : Rd 25 := fun s => by kernel_rfl
theorem rd26 : Rd 26 := fun s => by kernel_rfl
theorem rd27 : Rd 27 := fun s => by kernel_rfl
theorem rd28 : Rd 28 := fun s => by kernel_rfl
theorem rd29 : Rd 29 := fun s => by kernel_rfl
theorem rd30 : Rd 30 := fun s => by kernel_rfl
theorem rd31 : Rd 31 := fun s => by kernel_rfl
theorem rd32 : Rd 32 := fun s => by kernel_rfl
theorem rd33 : Rd 33 := fun s => by kernel_rfl
theorem rd34 : Rd 34 := fun s => by kernel_rfl
theorem rd35 : Rd 35 := fun s => by kernel_rfl
theorem rd36 : Rd 36 := fun s => by kernel_rfl
theorem rd37 : Rd 37 := fun s => by kernel_rfl
theorem rd38 : Rd 38 := fun s => by kernel_rfl
theorem rd39 : Rd 39 := fun s => by kernel_rfl
theorem rd40 : Rd 40 := fun s => by kernel_rfl
theorem rd41 : Rd 41 := fun s => by kernel_rfl
theorem rd42 : Rd 42 := fun s => by kernel_rfl
theorem rd43 : Rd 43 := fun s => by kernel_rfl
theorem rd44 : Rd 44 := fun s => by kernel_rfl
theorem rd45 : Rd 45 := fun s => by kernel_rfl
theorem rd46 : Rd 46 := fun s => by kernel_rfl
theorem rd47 : Rd 47 := fun s => by kernel_rfl
theorem rd48 : Rd 48 := fun s => by kernel_rfl
theorem rd49 : Rd 49 := fun s => by kernel_rfl
theorem rg0 : ∀ n : Nat, n < 50 → Rd ((n : Int) + 0)
  | 0, _ => rd0
  | 1, _ => rd1
  | 2, _ => rd2
  | 3, _ => rd3
  | 4, _ => rd4
  | 5, _ => rd5
  | 6, _ => rd6
  | 7, _ => rd7
  | 8, _ => rd8
  | 9, _ => rd9
  | 10, _ => rd10
  | 11, _ => rd11
  | 12, _ => rd12
  | 13, _ => rd13
  | 14, _ => rd14
  | 15, _ => rd15
  | 16, _ => rd16
  | 17, _ => rd17
  | 18, _ => rd18
  | 19, _ => rd19
  | 20, _ => rd20
  | 21, _ => rd21
  | 22, _ => rd22
  | 23, _ => rd23
  | 24, _ => rd24
  | 25, _ => rd25
  | 26, _ => rd26
  | 27, _ => rd27
  | 28, _ => rd28
  | 29, _ => rd29
  | 30, _ => rd30
  | 31, _ => rd31
  | 32, _ => rd32
  | 33, _ => rd33
  | 34, _ => rd34
  | 35, _ => rd35
  | 36, _ => rd36
  | 37, _ => rd37
  | 38, _ => rd38
  | 39, _ => rd39
  | 40, _ => rd40
  | 41, _ => rd41
  | 42, _ => rd42
  | 43, _ => rd43
  | 44, _ => rd44
  | 45, _ => rd45
  | 46, _ => rd46
  | 47, _ => rd47
  | 48, _ => rd48
  | 49, _ => rd49
  | n + 50, h => absurd h (by omega)
end Go.Ab

