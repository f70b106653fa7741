/- A part of the proof: nothing is assumed. -/
import Derived.Test.YtkiedolofnakoaaDoorP4
set_option linter.all false
namespace Go.Ab
open Go.Proofs
noncomputable def K19 : Orc := stepO P12 G12 A12 100 (stepO P12 G12 A12 100 K17)
theorem v19 : all12.all (fun c => strIs (stepV P12 G12 A12 K19 100 19 [stT c.1 c.2.1 c.2.2.1 c.2.2.2.1 c.2.2.2.2]) (textF c.1 c.2.1 c.2.2.1 c.2.2.2.1 c.2.2.2.2)) = true := by kernel_rfl
theorem v21 : all12.all (fun c => strIs (stepV P12 G12 A12 (arunO P12 G12 A12 100 3) 100 21 [stT c.1 c.2.1 c.2.2.1 c.2.2.2.1 c.2.2.2.2]) (textF c.1 c.2.1 c.2.2.1 c.2.2.2.1 c.2.2.2.2)) = true := by kernel_rfl
end Go.Ab

