/- Calls that have been run (laid by program): level 2. -/
import Derived.Test.YthbimeikbkjnkaaGreatDoorTA1
import Derived.Test.YthbimeikbkjnkaaGreatDoorAbTab
import Derived.KernelRfl
namespace Go.Proofs
open Go.Ab

def TAL85 : List (List V × V) := [([.str [49], .str [49]], .tup [.str [49], .int .i64 0]),
  ([.str [48], .str [49]], .tup [.str [49], .int .i64 0]),
  ([.str [49], .str [50]], .tup [.str [49], .int .i64 0]),
  ([.str [51], .str [52]], .tup [.str [49], .int .i64 0]),
  ([.str [51], .str [49, 54]], .tup [.str [49], .int .i64 0]),
  ([.str [51], .str [56]], .tup [.str [49], .int .i64 0])]
theorem TAL85_ok : FTabOK Tryz.prog 85 TAL85 := chkT_ok (E := ETA1) (n := 60) mixed0 ETA1_ok (canL_ok can1) (spec1_ok rfl) (by kernel_rfl)
def TAL149 : List (List V × V) := [([.str [48], .str [50]], .str [48]),
  ([.str [50], .str [50]], .str [49]),
  ([.str [48], .str [49]], .str [48]),
  ([.str [49], .str [49]], .str [49]),
  ([.str [51], .str [49]], .str [51]),
  ([.str [49, 54], .str [49]], .str [49, 54]),
  ([.str [48], .str [49, 54]], .str [48]),
  ([.str [49, 54], .str [49, 54]], .str [49]),
  ([.str [56], .str [49]], .str [56]),
  ([.str [52], .str [49]], .str [52]),
  ([.str [51, 50], .str [49]], .str [51, 50]),
  ([.str [48], .str [52]], .str [48]),
  ([.str [52], .str [52]], .str [49]),
  ([.str [48], .str [56]], .str [48]),
  ([.str [56], .str [56]], .str [49]),
  ([.str [48], .str [51, 50]], .str [48]),
  ([.str [51, 50], .str [51, 50]], .str [49]),
  ([.str [50], .str [49]], .str [50]),
  ([.str [49, 50, 56], .str [49]], .str [49, 50, 56]),
  ([.str [50, 53, 54], .str [49]], .str [50, 53, 54])]
theorem TAL149_ok : FTabOK Tryz.prog 149 TAL149 := chkT_ok (E := ETA1) (n := 60) mixed0 ETA1_ok (canL_ok can1) (spec1_ok rfl) (by kernel_rfl)
def TTA2 : Tab := [(85, TAL85), (149, TAL149)]
theorem TTA2_ok : TabOK Tryz.prog TTA2 := TabOK.cons TAL85_ok (TabOK.cons TAL149_ok (TabOK.nil))
noncomputable def ETA2 : ECfg := withTab ETA1 TTA2
theorem ETA2_ok : ∀ f args r, ETA2.Γ f args = some r → PCall Tryz.prog f args r := withTab_ok ETA1_ok TTA2_ok
end Go.Proofs
