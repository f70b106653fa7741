/- A part of the proof: nothing is assumed. -/
import Derived.Test.YtkiedolofnakoaaDoorP9
import Derived.KernelRfl
set_option linter.all false
namespace Go.Ab
open Go.Proofs
theorem rd200 : Rd 200 := fun s => by kernel_rfl
theorem rd201 : Rd 201 := fun s => by kernel_rfl
theorem rd202 : Rd 202 := fun s => by kernel_rfl
theorem rd203 : Rd 203 := fun s => by kernel_rfl
theorem rd204 : Rd 204 := fun s => by kernel_rfl
theorem rd205 : Rd 205 := fun s => by kernel_rfl
theorem rd206 : Rd 206 := fun s => by kernel_rfl
theorem rd207 : Rd 207 := fun s => by kernel_rfl
theorem rd208 : Rd 208 := fun s => by kernel_rfl
theorem rd209 : Rd 209 := fun s => by kernel_rfl
theorem rd210 : Rd 210 := fun s => by kernel_rfl
theorem rd211 : Rd 211 := fun s => by kernel_rfl
theorem rd212 : Rd 212 := fun s => by kernel_rfl
theorem rd213 : Rd 213 := fun s => by kernel_rfl
theorem rd214 : Rd 214 := fun s => by kernel_rfl
theorem rd215 : Rd 215 := fun s => by kernel_rfl
theorem rd216 : Rd 216 := fun s => by kernel_rfl
theorem rd217 : Rd 217 := fun s => by kernel_rfl
theorem rd218 : Rd 218 := fun s => by kernel_rfl
theorem rd219 : Rd 219 := fun s => by kernel_rfl
theorem rd220 : Rd 220 := fun s => by kernel_rfl
theorem rd221 : Rd 221 := fun s => by kernel_rfl
theorem rd222 : Rd 222 := fun s => by kernel_rfl
theorem rd223 : Rd 223 := fun s => by kernel_rfl
theorem rd224 : Rd 224 := fun s => by kernel_rfl
theorem rd225 : Rd 225 := fun s => by kernel_rfl
theorem rd226 : Rd 226 := fun s => by kernel_rfl
theorem rd227 : Rd 227 := fun s => by kernel_rfl
theorem rd228 : Rd 228 := fun s => by kernel_rfl
theorem rd229 : Rd 229 := fun s => by kernel_rfl
theorem rd230 : Rd 230 := fun s => by kernel_rfl
theorem rd231 : Rd 231 := fun s => by kernel_rfl
theorem rd232 : Rd 232 := fun s => by kernel_rfl
theorem rd233 : Rd 233 := fun s => by kernel_rfl
theorem rd234 : Rd 234 := fun s => by kernel_rfl
theorem rd235 : Rd 235 := fun s => by kernel_rfl
theorem rd236 : Rd 236 := fun s => by kernel_rfl
theorem rd237 : Rd 237 := fun s => by kernel_rfl
theorem rd238 : Rd 238 := fun s => by kernel_rfl
theorem rd239 : Rd 239 := fun s => by kernel_rfl
theorem rd240 : Rd 240 := fun s => by kernel_rfl
theorem rd241 : Rd 241 := fun s => by kernel_rfl
theorem rd242 : Rd 242 := fun s => by kernel_rfl
theorem rd243 : Rd 243 := fun s => by kernel_rfl
theorem rd244 : Rd 244 := fun s => by kernel_rfl
theorem rd245 : Rd 245 := fun s => by kernel_rfl
theorem rd246 : Rd 246 := fun s => by kernel_rfl
theorem rd247 : Rd 247 := fun s => by kernel_rfl
theorem rd248 : Rd 248 := fun s => by kernel_rfl
theorem rd249 : Rd 249 := fun s => by kernel_rfl
theorem rg4 : ∀ n : Nat, n < 50 → Rd ((n : Int) + 200)
  | 0, _ => rd200
  | 1, _ => rd201
  | 2, _ => rd202
  | 3, _ => rd203
  | 4, _ => rd204
  | 5, _ => rd205
  | 6, _ => rd206
  | 7, _ => rd207
  | 8, _ => rd208
  | 9, _ => rd209
  | 10, _ => rd210
  | 11, _ => rd211
  | 12, _ => rd212
  | 13, _ => rd213
  | 14, _ => rd214
  | 15, _ => rd215
  | 16, _ => rd216
  | 17, _ => rd217
  | 18, _ => rd218
  | 19, _ => rd219
  | 20, _ => rd220
  | 21, _ => rd221
  | 22, _ => rd222
  | 23, _ => rd223
  | 24, _ => rd224
  | 25, _ => rd225
  | 26, _ => rd226
  | 27, _ => rd227
  | 28, _ => rd228
  | 29, _ => rd229
  | 30, _ => rd230
  | 31, _ => rd231
  | 32, _ => rd232
  | 33, _ => rd233
  | 34, _ => rd234
  | 35, _ => rd235
  | 36, _ => rd236
  | 37, _ => rd237
  | 38, _ => rd238
  | 39, _ => rd239
  | 40, _ => rd240
  | 41, _ => rd241
  | 42, _ => rd242
  | 43, _ => rd243
  | 44, _ => rd244
  | 45, _ => rd245
  | 46, _ => rd246
  | 47, _ => rd247
  | 48, _ => rd248
  | 49, _ => rd249
  | n + 50, h => absurd h (by omega)
end Go.Ab

