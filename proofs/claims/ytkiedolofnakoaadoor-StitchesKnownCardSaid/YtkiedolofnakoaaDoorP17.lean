/- A part of the proof: nothing is assumed. -/
import Derived.Test.YtkiedolofnakoaaDoorP9
import Derived.KernelRfl
set_option linter.all false
namespace Go.Ab
open Go.Proofs
theorem rd350 : Rd 350 := fun s => by kernel_rfl
theorem rd351 : Rd 351 := fun s => by kernel_rfl
theorem rd352 : Rd 352 := fun s => by kernel_rfl
theorem rd353 : Rd 353 := fun s => by kernel_rfl
theorem rd354 : Rd 354 := fun s => by kernel_rfl
theorem rd355 : Rd 355 := fun s => by kernel_rfl
theorem rd356 : Rd 356 := fun s => by kernel_rfl
theorem rd357 : Rd 357 := fun s => by kernel_rfl
theorem rd358 : Rd 358 := fun s => by kernel_rfl
theorem rd359 : Rd 359 := fun s => by kernel_rfl
theorem rd360 : Rd 360 := fun s => by kernel_rfl
theorem rd361 : Rd 361 := fun s => by kernel_rfl
theorem rd362 : Rd 362 := fun s => by kernel_rfl
theorem rd363 : Rd 363 := fun s => by kernel_rfl
theorem rd364 : Rd 364 := fun s => by kernel_rfl
theorem rd365 : Rd 365 := fun s => by kernel_rfl
theorem rd366 : Rd 366 := fun s => by kernel_rfl
theorem rd367 : Rd 367 := fun s => by kernel_rfl
theorem rd368 : Rd 368 := fun s => by kernel_rfl
theorem rd369 : Rd 369 := fun s => by kernel_rfl
theorem rd370 : Rd 370 := fun s => by kernel_rfl
theorem rd371 : Rd 371 := fun s => by kernel_rfl
theorem rd372 : Rd 372 := fun s => by kernel_rfl
theorem rd373 : Rd 373 := fun s => by kernel_rfl
theorem rd374 : Rd 374 := fun s => by kernel_rfl
theorem rd375 : Rd 375 := fun s => by kernel_rfl
theorem rd376 : Rd 376 := fun s => by kernel_rfl
theorem rd377 : Rd 377 := fun s => by kernel_rfl
theorem rd378 : Rd 378 := fun s => by kernel_rfl
theorem rd379 : Rd 379 := fun s => by kernel_rfl
theorem rd380 : Rd 380 := fun s => by kernel_rfl
theorem rd381 : Rd 381 := fun s => by kernel_rfl
theorem rd382 : Rd 382 := fun s => by kernel_rfl
theorem rd383 : Rd 383 := fun s => by kernel_rfl
theorem rd384 : Rd 384 := fun s => by kernel_rfl
theorem rd385 : Rd 385 := fun s => by kernel_rfl
theorem rd386 : Rd 386 := fun s => by kernel_rfl
theorem rd387 : Rd 387 := fun s => by kernel_rfl
theorem rd388 : Rd 388 := fun s => by kernel_rfl
theorem rd389 : Rd 389 := fun s => by kernel_rfl
theorem rd390 : Rd 390 := fun s => by kernel_rfl
theorem rd391 : Rd 391 := fun s => by kernel_rfl
theorem rd392 : Rd 392 := fun s => by kernel_rfl
theorem rd393 : Rd 393 := fun s => by kernel_rfl
theorem rd394 : Rd 394 := fun s => by kernel_rfl
theorem rd395 : Rd 395 := fun s => by kernel_rfl
theorem rd396 : Rd 396 := fun s => by kernel_rfl
theorem rd397 : Rd 397 := fun s => by kernel_rfl
theorem rd398 : Rd 398 := fun s => by kernel_rfl
theorem rd399 : Rd 399 := fun s => by kernel_rfl
theorem rg7 : ∀ n : Nat, n < 50 → Rd ((n : Int) + 350)
  | 0, _ => rd350
  | 1, _ => rd351
  | 2, _ => rd352
  | 3, _ => rd353
  | 4, _ => rd354
  | 5, _ => rd355
  | 6, _ => rd356
  | 7, _ => rd357
  | 8, _ => rd358
  | 9, _ => rd359
  | 10, _ => rd360
  | 11, _ => rd361
  | 12, _ => rd362
  | 13, _ => rd363
  | 14, _ => rd364
  | 15, _ => rd365
  | 16, _ => rd366
  | 17, _ => rd367
  | 18, _ => rd368
  | 19, _ => rd369
  | 20, _ => rd370
  | 21, _ => rd371
  | 22, _ => rd372
  | 23, _ => rd373
  | 24, _ => rd374
  | 25, _ => rd375
  | 26, _ => rd376
  | 27, _ => rd377
  | 28, _ => rd378
  | 29, _ => rd379
  | 30, _ => rd380
  | 31, _ => rd381
  | 32, _ => rd382
  | 33, _ => rd383
  | 34, _ => rd384
  | 35, _ => rd385
  | 36, _ => rd386
  | 37, _ => rd387
  | 38, _ => rd388
  | 39, _ => rd389
  | 40, _ => rd390
  | 41, _ => rd391
  | 42, _ => rd392
  | 43, _ => rd393
  | 44, _ => rd394
  | 45, _ => rd395
  | 46, _ => rd396
  | 47, _ => rd397
  | 48, _ => rd398
  | 49, _ => rd399
  | n + 50, h => absurd h (by omega)
end Go.Ab

