/- The closed statement of chapter 35, run. -/
import Derived.Test.YtiemejfbgmllfaaGreatDoorCH3
namespace Go.Proofs
open Go.Ab
theorem examples_run : eAns ECH3 Tryz.prog 60 3 [] = some (.bool true) := by kernel_rfl
theorem examples_call : PCall Tryz.prog 3 [] (.ret (.bool true)) := eAns_ok (E := ECH3) mixed0 ECH3_ok (canL_ok can1) ECH3_sp (fun x h => by cases h) examples_run
end Go.Proofs
