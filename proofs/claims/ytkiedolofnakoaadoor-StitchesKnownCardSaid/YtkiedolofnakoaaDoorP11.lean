/- A part of the proof: nothing is assumed. -/
import Derived.Test.YtkiedolofnakoaaDoorP9
import Derived.KernelRfl
set_option linter.all false
namespace Go.Ab
open Go.Proofs
theorem rd50 : Rd 50 := fun s => by kernel_rfl
theorem rd51 : Rd 51 := fun s => by kernel_rfl
theorem rd52 : Rd 52 := fun s => by kernel_rfl
theorem rd53 : Rd 53 := fun s => by kernel_rfl
theorem rd54 : Rd 54 := fun s => by kernel_rfl
theorem rd55 : Rd 55 := fun s => by kernel_rfl
theorem rd56 : Rd 56 := fun s => by kernel_rfl
theorem rd57 : Rd 57 := fun s => by kernel_rfl
theorem rd58 : Rd 58 := fun s => by kernel_rfl
theorem rd59 : Rd 59 := fun s => by kernel_rfl
theorem rd60 : Rd 60 := fun s => by kernel_rfl
theorem rd61 : Rd 61 := fun s => by kernel_rfl
theorem rd62 : Rd 62 := fun s => by kernel_rfl
theorem rd63 : Rd 63 := fun s => by kernel_rfl
theorem rd64 : Rd 64 := fun s => by kernel_rfl
theorem rd65 : Rd 65 := fun s => by kernel_rfl
theorem rd66 : Rd 66 := fun s => by kernel_rfl
theorem rd67 : Rd 67 := fun s => by kernel_rfl
theorem rd68 : Rd 68 := fun s => by kernel_rfl
theorem rd69 : Rd 69 := fun s => by kernel_rfl
theorem rd70 : Rd 70 := fun s => by kernel_rfl
theorem rd71 : Rd 71 := fun s => by kernel_rfl
theorem rd72 : Rd 72 := fun s => by kernel_rfl
theorem rd73 : Rd 73 := fun s => by kernel_rfl
theorem rd74 : Rd 74 := fun s => by kernel_rfl
theorem rd75 : Rd 75 := fun s => by kernel_rfl
theorem rd76 : Rd 76 := fun s => by kernel_rfl
theorem rd77 : Rd 77 := fun s => by kernel_rfl
theorem rd78 : Rd 78 := fun s => by kernel_rfl
theorem rd79 : Rd 79 := fun s => by kernel_rfl
theorem rd80 : Rd 80 := fun s => by kernel_rfl
theorem rd81 : Rd 81 := fun s => by kernel_rfl
theorem rd82 : Rd 82 := fun s => by kernel_rfl
theorem rd83 : Rd 83 := fun s => by kernel_rfl
theorem rd84 : Rd 84 := fun s => by kernel_rfl
theorem rd85 : Rd 85 := fun s => by kernel_rfl
theorem rd86 : Rd 86 := fun s => by kernel_rfl
theorem rd87 : Rd 87 := fun s => by kernel_rfl
theorem rd88 : Rd 88 := fun s => by kernel_rfl
theorem rd89 : Rd 89 := fun s => by kernel_rfl
theorem rd90 : Rd 90 := fun s => by kernel_rfl
theorem rd91 : Rd 91 := fun s => by kernel_rfl
theorem rd92 : Rd 92 := fun s => by kernel_rfl
theorem rd93 : Rd 93 := fun s => by kernel_rfl
theorem rd94 : Rd 94 := fun s => by kernel_rfl
theorem rd95 : Rd 95 := fun s => by kernel_rfl
theorem rd96 : Rd 96 := fun s => by kernel_rfl
theorem rd97 : Rd 97 := fun s => by kernel_rfl
theorem rd98 : Rd 98 := fun s => by kernel_rfl
theorem rd99 : Rd 99 := fun s => by kernel_rfl
theorem rg1 : ∀ n : Nat, n < 50 → Rd ((n : Int) + 50)
  | 0, _ => rd50
  | 1, _ => rd51
  | 2, _ => rd52
  | 3, _ => rd53
  | 4, _ => rd54
  | 5, _ => rd55
  | 6, _ => rd56
  | 7, _ => rd57
  | 8, _ => rd58
  | 9, _ => rd59
  | 10, _ => rd60
  | 11, _ => rd61
  | 12, _ => rd62
  | 13, _ => rd63
  | 14, _ => rd64
  | 15, _ => rd65
  | 16, _ => rd66
  | 17, _ => rd67
  | 18, _ => rd68
  | 19, _ => rd69
  | 20, _ => rd70
  | 21, _ => rd71
  | 22, _ => rd72
  | 23, _ => rd73
  | 24, _ => rd74
  | 25, _ => rd75
  | 26, _ => rd76
  | 27, _ => rd77
  | 28, _ => rd78
  | 29, _ => rd79
  | 30, _ => rd80
  | 31, _ => rd81
  | 32, _ => rd82
  | 33, _ => rd83
  | 34, _ => rd84
  | 35, _ => rd85
  | 36, _ => rd86
  | 37, _ => rd87
  | 38, _ => rd88
  | 39, _ => rd89
  | 40, _ => rd90
  | 41, _ => rd91
  | 42, _ => rd92
  | 43, _ => rd93
  | 44, _ => rd94
  | 45, _ => rd95
  | 46, _ => rd96
  | 47, _ => rd97
  | 48, _ => rd98
  | 49, _ => rd99
  | n + 50, h => absurd h (by omega)
end Go.Ab

