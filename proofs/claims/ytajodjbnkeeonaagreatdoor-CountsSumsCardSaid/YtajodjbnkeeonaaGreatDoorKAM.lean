/- awake of chapter 35, run. -/
import Derived.Test.YtajodjbnkeeonaaGreatDoorKA3
set_option linter.unusedSimpArgs false
set_option linter.unusedVariables false
namespace Go.Proofs
open Go.Ab
theorem awake_run : eAns EKA3 Tryz.prog 60 7 [] = some (.bool true) := by kernel_rfl
theorem awake_call : PCall Tryz.prog 7 [] (.ret (.bool true)) := eAns_ok mixed0 EKA3_ok (canL_ok can1) (spec1_ok rfl) (fun x h => by cases h) awake_run
end Go.Proofs
