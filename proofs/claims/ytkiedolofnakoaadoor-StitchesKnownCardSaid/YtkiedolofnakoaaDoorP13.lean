/- A part of the proof: nothing is assumed. -/
import Derived.Test.YtkiedolofnakoaaDoorP9
import Derived.KernelRfl
set_option linter.all false
namespace Go.Ab
open Go.Proofs
theorem rd150 : Rd 150 := fun s => by kernel_rfl
theorem rd151 : Rd 151 := fun s => by kernel_rfl
theorem rd152 : Rd 152 := fun s => by kernel_rfl
theorem rd153 : Rd 153 := fun s => by kernel_rfl
theorem rd154 : Rd 154 := fun s => by kernel_rfl
theorem rd155 : Rd 155 := fun s => by kernel_rfl
theorem rd156 : Rd 156 := fun s => by kernel_rfl
theorem rd157 : Rd 157 := fun s => by kernel_rfl
theorem rd158 : Rd 158 := fun s => by kernel_rfl
theorem rd159 : Rd 159 := fun s => by kernel_rfl
theorem rd160 : Rd 160 := fun s => by kernel_rfl
theorem rd161 : Rd 161 := fun s => by kernel_rfl
theorem rd162 : Rd 162 := fun s => by kernel_rfl
theorem rd163 : Rd 163 := fun s => by kernel_rfl
theorem rd164 : Rd 164 := fun s => by kernel_rfl
theorem rd165 : Rd 165 := fun s => by kernel_rfl
theorem rd166 : Rd 166 := fun s => by kernel_rfl
theorem rd167 : Rd 167 := fun s => by kernel_rfl
theorem rd168 : Rd 168 := fun s => by kernel_rfl
theorem rd169 : Rd 169 := fun s => by kernel_rfl
theorem rd170 : Rd 170 := fun s => by kernel_rfl
theorem rd171 : Rd 171 := fun s => by kernel_rfl
theorem rd172 : Rd 172 := fun s => by kernel_rfl
theorem rd173 : Rd 173 := fun s => by kernel_rfl
theorem rd174 : Rd 174 := fun s => by kernel_rfl
theorem rd175 : Rd 175 := fun s => by kernel_rfl
theorem rd176 : Rd 176 := fun s => by kernel_rfl
theorem rd177 : Rd 177 := fun s => by kernel_rfl
theorem rd178 : Rd 178 := fun s => by kernel_rfl
theorem rd179 : Rd 179 := fun s => by kernel_rfl
theorem rd180 : Rd 180 := fun s => by kernel_rfl
theorem rd181 : Rd 181 := fun s => by kernel_rfl
theorem rd182 : Rd 182 := fun s => by kernel_rfl
theorem rd183 : Rd 183 := fun s => by kernel_rfl
theorem rd184 : Rd 184 := fun s => by kernel_rfl
theorem rd185 : Rd 185 := fun s => by kernel_rfl
theorem rd186 : Rd 186 := fun s => by kernel_rfl
theorem rd187 : Rd 187 := fun s => by kernel_rfl
theorem rd188 : Rd 188 := fun s => by kernel_rfl
theorem rd189 : Rd 189 := fun s => by kernel_rfl
theorem rd190 : Rd 190 := fun s => by kernel_rfl
theorem rd191 : Rd 191 := fun s => by kernel_rfl
theorem rd192 : Rd 192 := fun s => by kernel_rfl
theorem rd193 : Rd 193 := fun s => by kernel_rfl
theorem rd194 : Rd 194 := fun s => by kernel_rfl
theorem rd195 : Rd 195 := fun s => by kernel_rfl
theorem rd196 : Rd 196 := fun s => by kernel_rfl
theorem rd197 : Rd 197 := fun s => by kernel_rfl
theorem rd198 : Rd 198 := fun s => by kernel_rfl
theorem rd199 : Rd 199 := fun s => by kernel_rfl
theorem rg3 : ∀ n : Nat, n < 50 → Rd ((n : Int) + 150)
  | 0, _ => rd150
  | 1, _ => rd151
  | 2, _ => rd152
  | 3, _ => rd153
  | 4, _ => rd154
  | 5, _ => rd155
  | 6, _ => rd156
  | 7, _ => rd157
  | 8, _ => rd158
  | 9, _ => rd159
  | 10, _ => rd160
  | 11, _ => rd161
  | 12, _ => rd162
  | 13, _ => rd163
  | 14, _ => rd164
  | 15, _ => rd165
  | 16, _ => rd166
  | 17, _ => rd167
  | 18, _ => rd168
  | 19, _ => rd169
  | 20, _ => rd170
  | 21, _ => rd171
  | 22, _ => rd172
  | 23, _ => rd173
  | 24, _ => rd174
  | 25, _ => rd175
  | 26, _ => rd176
  | 27, _ => rd177
  | 28, _ => rd178
  | 29, _ => rd179
  | 30, _ => rd180
  | 31, _ => rd181
  | 32, _ => rd182
  | 33, _ => rd183
  | 34, _ => rd184
  | 35, _ => rd185
  | 36, _ => rd186
  | 37, _ => rd187
  | 38, _ => rd188
  | 39, _ => rd189
  | 40, _ => rd190
  | 41, _ => rd191
  | 42, _ => rd192
  | 43, _ => rd193
  | 44, _ => rd194
  | 45, _ => rd195
  | 46, _ => rd196
  | 47, _ => rd197
  | 48, _ => rd198
  | 49, _ => rd199
  | n + 50, h => absurd h (by omega)
end Go.Ab

