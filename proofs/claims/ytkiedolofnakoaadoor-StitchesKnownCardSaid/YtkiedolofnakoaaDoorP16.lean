/- A part of the proof: nothing is assumed. -/
import Derived.Test.YtkiedolofnakoaaDoorP9
import Derived.KernelRfl
set_option linter.all false
namespace Go.Ab
open Go.Proofs
theorem rd300 : Rd 300 := fun s => by kernel_rfl
theorem rd301 : Rd 301 := fun s => by kernel_rfl
theorem rd302 : Rd 302 := fun s => by kernel_rfl
theorem rd303 : Rd 303 := fun s => by kernel_rfl
theorem rd304 : Rd 304 := fun s => by kernel_rfl
theorem rd305 : Rd 305 := fun s => by kernel_rfl
theorem rd306 : Rd 306 := fun s => by kernel_rfl
theorem rd307 : Rd 307 := fun s => by kernel_rfl
theorem rd308 : Rd 308 := fun s => by kernel_rfl
theorem rd309 : Rd 309 := fun s => by kernel_rfl
theorem rd310 : Rd 310 := fun s => by kernel_rfl
theorem rd311 : Rd 311 := fun s => by kernel_rfl
theorem rd312 : Rd 312 := fun s => by kernel_rfl
theorem rd313 : Rd 313 := fun s => by kernel_rfl
theorem rd314 : Rd 314 := fun s => by kernel_rfl
theorem rd315 : Rd 315 := fun s => by kernel_rfl
theorem rd316 : Rd 316 := fun s => by kernel_rfl
theorem rd317 : Rd 317 := fun s => by kernel_rfl
theorem rd318 : Rd 318 := fun s => by kernel_rfl
theorem rd319 : Rd 319 := fun s => by kernel_rfl
theorem rd320 : Rd 320 := fun s => by kernel_rfl
theorem rd321 : Rd 321 := fun s => by kernel_rfl
theorem rd322 : Rd 322 := fun s => by kernel_rfl
theorem rd323 : Rd 323 := fun s => by kernel_rfl
theorem rd324 : Rd 324 := fun s => by kernel_rfl
theorem rd325 : Rd 325 := fun s => by kernel_rfl
theorem rd326 : Rd 326 := fun s => by kernel_rfl
theorem rd327 : Rd 327 := fun s => by kernel_rfl
theorem rd328 : Rd 328 := fun s => by kernel_rfl
theorem rd329 : Rd 329 := fun s => by kernel_rfl
theorem rd330 : Rd 330 := fun s => by kernel_rfl
theorem rd331 : Rd 331 := fun s => by kernel_rfl
theorem rd332 : Rd 332 := fun s => by kernel_rfl
theorem rd333 : Rd 333 := fun s => by kernel_rfl
theorem rd334 : Rd 334 := fun s => by kernel_rfl
theorem rd335 : Rd 335 := fun s => by kernel_rfl
theorem rd336 : Rd 336 := fun s => by kernel_rfl
theorem rd337 : Rd 337 := fun s => by kernel_rfl
theorem rd338 : Rd 338 := fun s => by kernel_rfl
theorem rd339 : Rd 339 := fun s => by kernel_rfl
theorem rd340 : Rd 340 := fun s => by kernel_rfl
theorem rd341 : Rd 341 := fun s => by kernel_rfl
theorem rd342 : Rd 342 := fun s => by kernel_rfl
theorem rd343 : Rd 343 := fun s => by kernel_rfl
theorem rd344 : Rd 344 := fun s => by kernel_rfl
theorem rd345 : Rd 345 := fun s => by kernel_rfl
theorem rd346 : Rd 346 := fun s => by kernel_rfl
theorem rd347 : Rd 347 := fun s => by kernel_rfl
theorem rd348 : Rd 348 := fun s => by kernel_rfl
theorem rd349 : Rd 349 := fun s => by kernel_rfl
theorem rg6 : ∀ n : Nat, n < 50 → Rd ((n : Int) + 300)
  | 0, _ => rd300
  | 1, _ => rd301
  | 2, _ => rd302
  | 3, _ => rd303
  | 4, _ => rd304
  | 5, _ => rd305
  | 6, _ => rd306
  | 7, _ => rd307
  | 8, _ => rd308
  | 9, _ => rd309
  | 10, _ => rd310
  | 11, _ => rd311
  | 12, _ => rd312
  | 13, _ => rd313
  | 14, _ => rd314
  | 15, _ => rd315
  | 16, _ => rd316
  | 17, _ => rd317
  | 18, _ => rd318
  | 19, _ => rd319
  | 20, _ => rd320
  | 21, _ => rd321
  | 22, _ => rd322
  | 23, _ => rd323
  | 24, _ => rd324
  | 25, _ => rd325
  | 26, _ => rd326
  | 27, _ => rd327
  | 28, _ => rd328
  | 29, _ => rd329
  | 30, _ => rd330
  | 31, _ => rd331
  | 32, _ => rd332
  | 33, _ => rd333
  | 34, _ => rd334
  | 35, _ => rd335
  | 36, _ => rd336
  | 37, _ => rd337
  | 38, _ => rd338
  | 39, _ => rd339
  | 40, _ => rd340
  | 41, _ => rd341
  | 42, _ => rd342
  | 43, _ => rd343
  | 44, _ => rd344
  | 45, _ => rd345
  | 46, _ => rd346
  | 47, _ => rd347
  | 48, _ => rd348
  | 49, _ => rd349
  | n + 50, h => absurd h (by omega)
end Go.Ab

