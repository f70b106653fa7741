/- A part of the proof: nothing is assumed. -/
import Derived.Test.YtkiedolofnakoaaDoorP9
import Derived.KernelRfl
set_option linter.all false
namespace Go.Ab
open Go.Proofs
theorem rd100 : Rd 100 := fun s => by kernel_rfl
theorem rd101 : Rd 101 := fun s => by kernel_rfl
theorem rd102 : Rd 102 := fun s => by kernel_rfl
theorem rd103 : Rd 103 := fun s => by kernel_rfl
theorem rd104 : Rd 104 := fun s => by kernel_rfl
theorem rd105 : Rd 105 := fun s => by kernel_rfl
theorem rd106 : Rd 106 := fun s => by kernel_rfl
theorem rd107 : Rd 107 := fun s => by kernel_rfl
theorem rd108 : Rd 108 := fun s => by kernel_rfl
theorem rd109 : Rd 109 := fun s => by kernel_rfl
theorem rd110 : Rd 110 := fun s => by kernel_rfl
theorem rd111 : Rd 111 := fun s => by kernel_rfl
theorem rd112 : Rd 112 := fun s => by kernel_rfl
theorem rd113 : Rd 113 := fun s => by kernel_rfl
theorem rd114 : Rd 114 := fun s => by kernel_rfl
theorem rd115 : Rd 115 := fun s => by kernel_rfl
theorem rd116 : Rd 116 := fun s => by kernel_rfl
theorem rd117 : Rd 117 := fun s => by kernel_rfl
theorem rd118 : Rd 118 := fun s => by kernel_rfl
theorem rd119 : Rd 119 := fun s => by kernel_rfl
theorem rd120 : Rd 120 := fun s => by kernel_rfl
theorem rd121 : Rd 121 := fun s => by kernel_rfl
theorem rd122 : Rd 122 := fun s => by kernel_rfl
theorem rd123 : Rd 123 := fun s => by kernel_rfl
theorem rd124 : Rd 124 := fun s => by kernel_rfl
theorem rd125 : Rd 125 := fun s => by kernel_rfl
theorem rd126 : Rd 126 := fun s => by kernel_rfl
theorem rd127 : Rd 127 := fun s => by kernel_rfl
theorem rd128 : Rd 128 := fun s => by kernel_rfl
theorem rd129 : Rd 129 := fun s => by kernel_rfl
theorem rd130 : Rd 130 := fun s => by kernel_rfl
theorem rd131 : Rd 131 := fun s => by kernel_rfl
theorem rd132 : Rd 132 := fun s => by kernel_rfl
theorem rd133 : Rd 133 := fun s => by kernel_rfl
theorem rd134 : Rd 134 := fun s => by kernel_rfl
theorem rd135 : Rd 135 := fun s => by kernel_rfl
theorem rd136 : Rd 136 := fun s => by kernel_rfl
theorem rd137 : Rd 137 := fun s => by kernel_rfl
theorem rd138 : Rd 138 := fun s => by kernel_rfl
theorem rd139 : Rd 139 := fun s => by kernel_rfl
theorem rd140 : Rd 140 := fun s => by kernel_rfl
theorem rd141 : Rd 141 := fun s => by kernel_rfl
theorem rd142 : Rd 142 := fun s => by kernel_rfl
theorem rd143 : Rd 143 := fun s => by kernel_rfl
theorem rd144 : Rd 144 := fun s => by kernel_rfl
theorem rd145 : Rd 145 := fun s => by kernel_rfl
theorem rd146 : Rd 146 := fun s => by kernel_rfl
theorem rd147 : Rd 147 := fun s => by kernel_rfl
theorem rd148 : Rd 148 := fun s => by kernel_rfl
theorem rd149 : Rd 149 := fun s => by kernel_rfl
theorem rg2 : ∀ n : Nat, n < 50 → Rd ((n : Int) + 100)
  | 0, _ => rd100
  | 1, _ => rd101
  | 2, _ => rd102
  | 3, _ => rd103
  | 4, _ => rd104
  | 5, _ => rd105
  | 6, _ => rd106
  | 7, _ => rd107
  | 8, _ => rd108
  | 9, _ => rd109
  | 10, _ => rd110
  | 11, _ => rd111
  | 12, _ => rd112
  | 13, _ => rd113
  | 14, _ => rd114
  | 15, _ => rd115
  | 16, _ => rd116
  | 17, _ => rd117
  | 18, _ => rd118
  | 19, _ => rd119
  | 20, _ => rd120
  | 21, _ => rd121
  | 22, _ => rd122
  | 23, _ => rd123
  | 24, _ => rd124
  | 25, _ => rd125
  | 26, _ => rd126
  | 27, _ => rd127
  | 28, _ => rd128
  | 29, _ => rd129
  | 30, _ => rd130
  | 31, _ => rd131
  | 32, _ => rd132
  | 33, _ => rd133
  | 34, _ => rd134
  | 35, _ => rd135
  | 36, _ => rd136
  | 37, _ => rd137
  | 38, _ => rd138
  | 39, _ => rd139
  | 40, _ => rd140
  | 41, _ => rd141
  | 42, _ => rd142
  | 43, _ => rd143
  | 44, _ => rd144
  | 45, _ => rd145
  | 46, _ => rd146
  | 47, _ => rd147
  | 48, _ => rd148
  | 49, _ => rd149
  | n + 50, h => absurd h (by omega)
end Go.Ab

