/- A part of the proof: nothing is assumed. -/
import Derived.Test.YtkiedolofnakoaaDoorP9
import Derived.KernelRfl
set_option linter.all false
namespace Go.Ab
open Go.Proofs
theorem rd250 : Rd 250 := fun s => by kernel_rfl
theorem rd251 : Rd 251 := fun s => by kernel_rfl
theorem rd252 : Rd 252 := fun s => by kernel_rfl
theorem rd253 : Rd 253 := fun s => by kernel_rfl
theorem rd254 : Rd 254 := fun s => by kernel_rfl
theorem rd255 : Rd 255 := fun s => by kernel_rfl
theorem rd256 : Rd 256 := fun s => by kernel_rfl
theorem rd257 : Rd 257 := fun s => by kernel_rfl
theorem rd258 : Rd 258 := fun s => by kernel_rfl
theorem rd259 : Rd 259 := fun s => by kernel_rfl
theorem rd260 : Rd 260 := fun s => by kernel_rfl
theorem rd261 : Rd 261 := fun s => by kernel_rfl
theorem rd262 : Rd 262 := fun s => by kernel_rfl
theorem rd263 : Rd 263 := fun s => by kernel_rfl
theorem rd264 : Rd 264 := fun s => by kernel_rfl
theorem rd265 : Rd 265 := fun s => by kernel_rfl
theorem rd266 : Rd 266 := fun s => by kernel_rfl
theorem rd267 : Rd 267 := fun s => by kernel_rfl
theorem rd268 : Rd 268 := fun s => by kernel_rfl
theorem rd269 : Rd 269 := fun s => by kernel_rfl
theorem rd270 : Rd 270 := fun s => by kernel_rfl
theorem rd271 : Rd 271 := fun s => by kernel_rfl
theorem rd272 : Rd 272 := fun s => by kernel_rfl
theorem rd273 : Rd 273 := fun s => by kernel_rfl
theorem rd274 : Rd 274 := fun s => by kernel_rfl
theorem rd275 : Rd 275 := fun s => by kernel_rfl
theorem rd276 : Rd 276 := fun s => by kernel_rfl
theorem rd277 : Rd 277 := fun s => by kernel_rfl
theorem rd278 : Rd 278 := fun s => by kernel_rfl
theorem rd279 : Rd 279 := fun s => by kernel_rfl
theorem rd280 : Rd 280 := fun s => by kernel_rfl
theorem rd281 : Rd 281 := fun s => by kernel_rfl
theorem rd282 : Rd 282 := fun s => by kernel_rfl
theorem rd283 : Rd 283 := fun s => by kernel_rfl
theorem rd284 : Rd 284 := fun s => by kernel_rfl
theorem rd285 : Rd 285 := fun s => by kernel_rfl
theorem rd286 : Rd 286 := fun s => by kernel_rfl
theorem rd287 : Rd 287 := fun s => by kernel_rfl
theorem rd288 : Rd 288 := fun s => by kernel_rfl
theorem rd289 : Rd 289 := fun s => by kernel_rfl
theorem rd290 : Rd 290 := fun s => by kernel_rfl
theorem rd291 : Rd 291 := fun s => by kernel_rfl
theorem rd292 : Rd 292 := fun s => by kernel_rfl
theorem rd293 : Rd 293 := fun s => by kernel_rfl
theorem rd294 : Rd 294 := fun s => by kernel_rfl
theorem rd295 : Rd 295 := fun s => by kernel_rfl
theorem rd296 : Rd 296 := fun s => by kernel_rfl
theorem rd297 : Rd 297 := fun s => by kernel_rfl
theorem rd298 : Rd 298 := fun s => by kernel_rfl
theorem rd299 : Rd 299 := fun s => by kernel_rfl
theorem rg5 : ∀ n : Nat, n < 50 → Rd ((n : Int) + 250)
  | 0, _ => rd250
  | 1, _ => rd251
  | 2, _ => rd252
  | 3, _ => rd253
  | 4, _ => rd254
  | 5, _ => rd255
  | 6, _ => rd256
  | 7, _ => rd257
  | 8, _ => rd258
  | 9, _ => rd259
  | 10, _ => rd260
  | 11, _ => rd261
  | 12, _ => rd262
  | 13, _ => rd263
  | 14, _ => rd264
  | 15, _ => rd265
  | 16, _ => rd266
  | 17, _ => rd267
  | 18, _ => rd268
  | 19, _ => rd269
  | 20, _ => rd270
  | 21, _ => rd271
  | 22, _ => rd272
  | 23, _ => rd273
  | 24, _ => rd274
  | 25, _ => rd275
  | 26, _ => rd276
  | 27, _ => rd277
  | 28, _ => rd278
  | 29, _ => rd279
  | 30, _ => rd280
  | 31, _ => rd281
  | 32, _ => rd282
  | 33, _ => rd283
  | 34, _ => rd284
  | 35, _ => rd285
  | 36, _ => rd286
  | 37, _ => rd287
  | 38, _ => rd288
  | 39, _ => rd289
  | 40, _ => rd290
  | 41, _ => rd291
  | 42, _ => rd292
  | 43, _ => rd293
  | 44, _ => rd294
  | 45, _ => rd295
  | 46, _ => rd296
  | 47, _ => rd297
  | 48, _ => rd298
  | 49, _ => rd299
  | n + 50, h => absurd h (by omega)
end Go.Ab

