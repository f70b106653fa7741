/- A part of the proof: nothing is assumed. -/
import Derived.Test.YtkiedolofnakoaaDoorS12e
namespace Go.Ab
open Go.Proofs
/-- StitchesCheck -/
theorem law8 (k y a b : Int) (f : Bool) (hk : 0 ≤ k) (hy : 0 ≤ y) : stepV P12 G12 A12 Ka 100 8 [stT k y a b f] = some (.bool true) := by
  rw [(show stepV P12 G12 A12 Ka 100 8 [stT k y a b f] =
(    bif posF k y then
    bif decide ((1 : Int) - checkF k y a b f = (1 : Int)) then
    bif decide (k = (2 : Int)) then
    bif decide (checkF k y a b f = (0 : Int)) then
    bif posF k y then
    bif decide (needsF k y a b f = needsF k y a b f) then
    bif posF k y then
    bif decide (makesF k y a b f = makesF k y a b f) then
    bif decide (bedF k y a b f = (1 : Int)) then
    some (T.bool true)
    else
    some (T.bool false)
    else
    some (T.bool false)
    else
    none
    else
    some (T.bool false)
    else
    none
    else
    some (T.bool false)
    else
    bif decide (k = (5 : Int)) then
    bif decide (checkF k y a b f = (0 : Int)) then
    bif posF k y then
    bif decide (needsF k y a b f = needsF k y a b f) then
    bif posF k y then
    bif decide (makesF k y a b f = makesF k y a b f) then
    bif decide (bedF k y a b f = (1 : Int)) then
    some (T.bool true)
    else
    some (T.bool false)
    else
    some (T.bool false)
    else
    none
    else
    some (T.bool false)
    else
    none
    else
    some (T.bool false)
    else
    bif decide (checkF k y a b f = (0 : Int)) then
    bif posF k y then
    bif decide (needsF k y a b f = needsF k y a b f) then
    bif posF k y then
    bif decide (makesF k y a b f = makesF k y a b f) then
    bif decide (bedF k y a b f = (0 : Int)) then
    some (T.bool true)
    else
    some (T.bool false)
    else
    some (T.bool false)
    else
    none
    else
    some (T.bool false)
    else
    none
    else
    some (T.bool false)
    else
    bif decide (checkF k y a b f = (1 : Int)) then
    bif posF k y then
    bif decide (needsF k y a b f = needsF k y a b f) then
    bif posF k y then
    bif decide (makesF k y a b f = makesF k y a b f) then
    bif decide (bedF k y a b f = (0 : Int)) then
    some (T.bool true)
    else
    some (T.bool false)
    else
    some (T.bool false)
    else
    none
    else
    some (T.bool false)
    else
    none
    else
    some (T.bool false)
    else
    none) from by kernel_rfl)]
  have hp : posF k y = true := by simp [posF, hk, hy]
  rw [hp]
  grind [checkF, bedF]
/-- StitchesMirror -/
theorem law5 (k y a b : Int) (f : Bool) : stepV P12 G12 A12 Ka 100 5 [stT k y a b f] = some (.bool true) := by
  rw [(show stepV P12 G12 A12 Ka 100 5 [stT k y a b f] =
(    bif !decide (k = (8 : Int)) then
    bif decide (k = k) then
    bif decide (y = y) then
    bif decide
      ((match decide (k = (8 : Int)) with
        | true => b
        | false => a) =
        a) then
    bif decide
      ((match decide (k = (8 : Int)) with
        | true => a
        | false => b) =
        b) then
    bif match bif decide (k = (8 : Int)) then !f else f with
    | true => f
    | false => !f then
    bif decide (k = (8 : Int)) then
    bif !decide
        ((match decide (k = (8 : Int)) with
          | true => b
          | false => a) =
          b) then
    some (T.bool false)
    else
    bif !decide
        ((match decide (k = (8 : Int)) with
          | true => a
          | false => b) =
          a) then
    some (T.bool false)
    else
    bif match decide (k = (8 : Int)) with
    | true => !f
    | false => f then
    bif f then
    some (T.bool false)
    else
    bif !decide (k = k) then
    some (T.bool false)
    else
    bif !decide (y = y) then
    some (T.bool false)
    else
    bif decide (k = k) then
    bif decide (y = y) then
    bif decide
      ((match decide (k = (8 : Int)) with
        | true => bif decide (k = (8 : Int)) then a else b
        | false => bif decide (k = (8 : Int)) then b else a) =
        a) then
    bif decide
      ((match decide (k = (8 : Int)) with
        | true => bif decide (k = (8 : Int)) then b else a
        | false => bif decide (k = (8 : Int)) then a else b) =
        b) then
    bif match
      bif decide (k = (8 : Int)) then !bif decide (k = (8 : Int)) then !f else f
      else bif decide (k = (8 : Int)) then !f else f with
    | true => f
    | false => !f then
    bif decide
      (checkF k y
          (match decide (k = (8 : Int)) with
          | true => b
          | false => a)
          (match decide (k = (8 : Int)) with
          | true => a
          | false => b)
          (match decide (k = (8 : Int)) with
          | true => !f
          | false => f) =
        checkF k y a b f) then
    bif decide
      (needsF k y
          (match decide (k = (8 : Int)) with
          | true => b
          | false => a)
          (match decide (k = (8 : Int)) with
          | true => a
          | false => b)
          (match decide (k = (8 : Int)) with
          | true => !f
          | false => f) =
        needsF k y a b f) then
    bif decide
      (makesF k y
          (match decide (k = (8 : Int)) with
          | true => b
          | false => a)
          (match decide (k = (8 : Int)) with
          | true => a
          | false => b)
          (match decide (k = (8 : Int)) with
          | true => !f
          | false => f) =
        makesF k y a b f) then
    some (T.bool true)
    else
    some (T.bool false)
    else
    some (T.bool false)
    else
    some (T.bool false)
    else
    some (T.bool false)
    else
    some (T.bool false)
    else
    some (T.bool false)
    else
    some (T.bool false)
    else
    some (T.bool false)
    else
    bif f then
    bif !decide (k = k) then
    some (T.bool false)
    else
    bif !decide (y = y) then
    some (T.bool false)
    else
    bif decide (k = k) then
    bif decide (y = y) then
    bif decide
      ((match decide (k = (8 : Int)) with
        | true => bif decide (k = (8 : Int)) then a else b
        | false => bif decide (k = (8 : Int)) then b else a) =
        a) then
    bif decide
      ((match decide (k = (8 : Int)) with
        | true => bif decide (k = (8 : Int)) then b else a
        | false => bif decide (k = (8 : Int)) then a else b) =
        b) then
    bif match
      bif decide (k = (8 : Int)) then !bif decide (k = (8 : Int)) then !f else f
      else bif decide (k = (8 : Int)) then !f else f with
    | true => f
    | false => !f then
    bif decide
      (checkF k y
          (match decide (k = (8 : Int)) with
          | true => b
          | false => a)
          (match decide (k = (8 : Int)) with
          | true => a
          | false => b)
          (match decide (k = (8 : Int)) with
          | true => !f
          | false => f) =
        checkF k y a b f) then
    bif decide
      (needsF k y
          (match decide (k = (8 : Int)) with
          | true => b
          | false => a)
          (match decide (k = (8 : Int)) with
          | true => a
          | false => b)
          (match decide (k = (8 : Int)) with
          | true => !f
          | false => f) =
        needsF k y a b f) then
    bif decide
      (makesF k y
          (match decide (k = (8 : Int)) with
          | true => b
          | false => a)
          (match decide (k = (8 : Int)) with
          | true => a
          | false => b)
          (match decide (k = (8 : Int)) with
          | true => !f
          | false => f) =
        makesF k y a b f) then
    some (T.bool true)
    else
    some (T.bool false)
    else
    some (T.bool false)
    else
    some (T.bool false)
    else
    some (T.bool false)
    else
    some (T.bool false)
    else
    some (T.bool false)
    else
    some (T.bool false)
    else
    some (T.bool false)
    else
    some (T.bool false)
    else
    bif decide (k = k) then
    bif decide (y = y) then
    bif decide
      ((match decide (k = (8 : Int)) with
        | true => bif decide (k = (8 : Int)) then a else b
        | false => bif decide (k = (8 : Int)) then b else a) =
        a) then
    bif decide
      ((match decide (k = (8 : Int)) with
        | true => bif decide (k = (8 : Int)) then b else a
        | false => bif decide (k = (8 : Int)) then a else b) =
        b) then
    bif match
      bif decide (k = (8 : Int)) then !bif decide (k = (8 : Int)) then !f else f
      else bif decide (k = (8 : Int)) then !f else f with
    | true => f
    | false => !f then
    bif decide
      (checkF k y
          (match decide (k = (8 : Int)) with
          | true => b
          | false => a)
          (match decide (k = (8 : Int)) with
          | true => a
          | false => b)
          (match decide (k = (8 : Int)) with
          | true => !f
          | false => f) =
        checkF k y a b f) then
    bif decide
      (needsF k y
          (match decide (k = (8 : Int)) with
          | true => b
          | false => a)
          (match decide (k = (8 : Int)) with
          | true => a
          | false => b)
          (match decide (k = (8 : Int)) with
          | true => !f
          | false => f) =
        needsF k y a b f) then
    bif decide
      (makesF k y
          (match decide (k = (8 : Int)) with
          | true => b
          | false => a)
          (match decide (k = (8 : Int)) with
          | true => a
          | false => b)
          (match decide (k = (8 : Int)) with
          | true => !f
          | false => f) =
        makesF k y a b f) then
    some (T.bool true)
    else
    some (T.bool false)
    else
    some (T.bool false)
    else
    some (T.bool false)
    else
    some (T.bool false)
    else
    some (T.bool false)
    else
    some (T.bool false)
    else
    some (T.bool false)
    else
    some (T.bool false)
    else
    some (T.bool false)
    else
    some (T.bool false)
    else
    some (T.bool false)
    else
    some (T.bool false)
    else
    some (T.bool false)
    else
    bif decide (k = (8 : Int)) then
    bif !decide
        ((match decide (k = (8 : Int)) with
          | true => b
          | false => a) =
          b) then
    some (T.bool false)
    else
    bif !decide
        ((match decide (k = (8 : Int)) with
          | true => a
          | false => b) =
          a) then
    some (T.bool false)
    else
    bif match decide (k = (8 : Int)) with
    | true => !f
    | false => f then
    bif f then
    some (T.bool false)
    else
    bif !decide (k = k) then
    some (T.bool false)
    else
    bif !decide (y = y) then
    some (T.bool false)
    else
    bif decide (k = k) then
    bif decide (y = y) then
    bif decide
      ((match decide (k = (8 : Int)) with
        | true => bif decide (k = (8 : Int)) then a else b
        | false => bif decide (k = (8 : Int)) then b else a) =
        a) then
    bif decide
      ((match decide (k = (8 : Int)) with
        | true => bif decide (k = (8 : Int)) then b else a
        | false => bif decide (k = (8 : Int)) then a else b) =
        b) then
    bif match
      bif decide (k = (8 : Int)) then !bif decide (k = (8 : Int)) then !f else f
      else bif decide (k = (8 : Int)) then !f else f with
    | true => f
    | false => !f then
    bif decide
      (checkF k y
          (match decide (k = (8 : Int)) with
          | true => b
          | false => a)
          (match decide (k = (8 : Int)) with
          | true => a
          | false => b)
          (match decide (k = (8 : Int)) with
          | true => !f
          | false => f) =
        checkF k y a b f) then
    bif decide
      (needsF k y
          (match decide (k = (8 : Int)) with
          | true => b
          | false => a)
          (match decide (k = (8 : Int)) with
          | true => a
          | false => b)
          (match decide (k = (8 : Int)) with
          | true => !f
          | false => f) =
        needsF k y a b f) then
    bif decide
      (makesF k y
          (match decide (k = (8 : Int)) with
          | true => b
          | false => a)
          (match decide (k = (8 : Int)) with
          | true => a
          | false => b)
          (match decide (k = (8 : Int)) with
          | true => !f
          | false => f) =
        makesF k y a b f) then
    some (T.bool true)
    else
    some (T.bool false)
    else
    some (T.bool false)
    else
    some (T.bool false)
    else
    some (T.bool false)
    else
    some (T.bool false)
    else
    some (T.bool false)
    else
    some (T.bool false)
    else
    some (T.bool false)
    else
    bif f then
    bif !decide (k = k) then
    some (T.bool false)
    else
    bif !decide (y = y) then
    some (T.bool false)
    else
    bif decide (k = k) then
    bif decide (y = y) then
    bif decide
      ((match decide (k = (8 : Int)) with
        | true => bif decide (k = (8 : Int)) then a else b
        | false => bif decide (k = (8 : Int)) then b else a) =
        a) then
    bif decide
      ((match decide (k = (8 : Int)) with
        | true => bif decide (k = (8 : Int)) then b else a
        | false => bif decide (k = (8 : Int)) then a else b) =
        b) then
    bif match
      bif decide (k = (8 : Int)) then !bif decide (k = (8 : Int)) then !f else f
      else bif decide (k = (8 : Int)) then !f else f with
    | true => f
    | false => !f then
    bif decide
      (checkF k y
          (match decide (k = (8 : Int)) with
          | true => b
          | false => a)
          (match decide (k = (8 : Int)) with
          | true => a
          | false => b)
          (match decide (k = (8 : Int)) with
          | true => !f
          | false => f) =
        checkF k y a b f) then
    bif decide
      (needsF k y
          (match decide (k = (8 : Int)) with
          | true => b
          | false => a)
          (match decide (k = (8 : Int)) with
          | true => a
          | false => b)
          (match decide (k = (8 : Int)) with
          | true => !f
          | false => f) =
        needsF k y a b f) then
    bif decide
      (makesF k y
          (match decide (k = (8 : Int)) with
          | true => b
          | false => a)
          (match decide (k = (8 : Int)) with
          | true => a
          | false => b)
          (match decide (k = (8 : Int)) with
          | true => !f
          | false => f) =
        makesF k y a b f) then
    some (T.bool true)
    else
    some (T.bool false)
    else
    some (T.bool false)
    else
    some (T.bool false)
    else
    some (T.bool false)
    else
    some (T.bool false)
    else
    some (T.bool false)
    else
    some (T.bool false)
    else
    some (T.bool false)
    else
    some (T.bool false)
    else
    bif decide (k = k) then
    bif decide (y = y) then
    bif decide
      ((match decide (k = (8 : Int)) with
        | true => bif decide (k = (8 : Int)) then a else b
        | false => bif decide (k = (8 : Int)) then b else a) =
        a) then
    bif decide
      ((match decide (k = (8 : Int)) with
        | true => bif decide (k = (8 : Int)) then b else a
        | false => bif decide (k = (8 : Int)) then a else b) =
        b) then
    bif match
      bif decide (k = (8 : Int)) then !bif decide (k = (8 : Int)) then !f else f
      else bif decide (k = (8 : Int)) then !f else f with
    | true => f
    | false => !f then
    bif decide
      (checkF k y
          (match decide (k = (8 : Int)) with
          | true => b
          | false => a)
          (match decide (k = (8 : Int)) with
          | true => a
          | false => b)
          (match decide (k = (8 : Int)) with
          | true => !f
          | false => f) =
        checkF k y a b f) then
    bif decide
      (needsF k y
          (match decide (k = (8 : Int)) with
          | true => b
          | false => a)
          (match decide (k = (8 : Int)) with
          | true => a
          | false => b)
          (match decide (k = (8 : Int)) with
          | true => !f
          | false => f) =
        needsF k y a b f) then
    bif decide
      (makesF k y
          (match decide (k = (8 : Int)) with
          | true => b
          | false => a)
          (match decide (k = (8 : Int)) with
          | true => a
          | false => b)
          (match decide (k = (8 : Int)) with
          | true => !f
          | false => f) =
        makesF k y a b f) then
    some (T.bool true)
    else
    some (T.bool false)
    else
    some (T.bool false)
    else
    some (T.bool false)
    else
    some (T.bool false)
    else
    some (T.bool false)
    else
    some (T.bool false)
    else
    some (T.bool false)
    else
    some (T.bool false)) from by kernel_rfl)]
  grind [checkF, needsF, makesF, valid]
end Go.Ab
