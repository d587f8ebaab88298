/- The closed statement, run. -/
import Derived.Test.YthbimeikbkjnkaaGreatDoorTA3
namespace Go.Proofs
open Go.Ab
theorem examples_run : eAns ETA3 Tryz.prog 60 3 [] = some (.bool true) := by kernel_rfl
theorem examples_call : PCall Tryz.prog 3 [] (.ret (.bool true)) := eAns_ok mixed0 ETA3_ok (canL_ok can1) (spec1_ok rfl) (fun x h => by cases h) examples_run
end Go.Proofs
