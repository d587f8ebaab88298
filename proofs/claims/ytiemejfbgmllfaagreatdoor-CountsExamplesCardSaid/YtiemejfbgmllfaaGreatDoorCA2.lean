/- Calls that have been run (laid by program): level 2. -/
import Derived.Test.YtiemejfbgmllfaaGreatDoorCA1
import Derived.Test.YtiemejfbgmllfaaGreatDoorAbTab
import Derived.KernelRfl
namespace Go.Proofs
open Go.Ab

def CAL99 : List (List V × V) := [([.str [52, 49], .str [49]], .str [52, 49]),
  ([.str [50], .str [49]], .str [50]),
  ([.str [50], .str [50]], .str [49]),
  ([.str [49], .str [49]], .str [49]),
  ([.str [48], .str [49]], .str [48]),
  ([.str [48], .str [50]], .str [48]),
  ([.str [51], .str [49]], .str [51]),
  ([.str [52], .str [49]], .str [52]),
  ([.str [52], .str [50]], .str [50]),
  ([.str [53], .str [49]], .str [53])]
theorem CAL99_ok : FTabOK Tryz.prog 99 CAL99 := chkT_ok (E := ECA1) (n := 60) mixed0 ECA1_ok (canL_ok can1) (spec1_ok rfl) (by kernel_rfl)
def TCA2 : Tab := [(99, CAL99)]
theorem TCA2_ok : TabOK Tryz.prog TCA2 := TabOK.cons CAL99_ok (TabOK.nil)
noncomputable def ECA2 : ECfg := withTab ECA1 TCA2
theorem ECA2_ok : ∀ f args r, ECA2.Γ f args = some r → PCall Tryz.prog f args r := withTab_ok ECA1_ok TCA2_ok
end Go.Proofs
