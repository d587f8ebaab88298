/- Calls that have been run (laid by program): level 2. -/
import Derived.Test.YtajodjbnkeeonaaGreatDoorKA1
import Derived.Test.YtajodjbnkeeonaaGreatDoorAbTab
import Derived.KernelRfl
set_option linter.unusedSimpArgs false
set_option linter.unusedVariables false
namespace Go.Proofs
open Go.Ab
def KAL113 : List (List V × V) := [([.str [48], .str [49]], .str [48]),
  ([.str [49], .str [49]], .str [49]),
  ([.str [50], .str [49]], .str [50]),
  ([.str [48], .str [50]], .str [48]),
  ([.str [50], .str [50]], .str [49]),
  ([.str [51], .str [49]], .str [51]),
  ([.str [52], .str [49]], .str [52]),
  ([.str [52], .str [50]], .str [50]),
  ([.str [53], .str [49]], .str [53])]
theorem KAL113_ok : FTabOK Tryz.prog 113 KAL113 := chkT_ok (E := EKA1) (n := 60) mixed0 EKA1_ok (canL_ok can1) (spec1_ok rfl) (by kernel_rfl)
def TKA2 : Tab := [(113, KAL113)]
theorem TKA2_ok : TabOK Tryz.prog TKA2 := TabOK.cons KAL113_ok (TabOK.nil)
noncomputable def EKA2 : ECfg := withTab EKA1 TKA2
theorem EKA2_ok : ∀ f args r, EKA2.Γ f args = some r → PCall Tryz.prog f args r := withTab_ok EKA1_ok TKA2_ok
end Go.Proofs
