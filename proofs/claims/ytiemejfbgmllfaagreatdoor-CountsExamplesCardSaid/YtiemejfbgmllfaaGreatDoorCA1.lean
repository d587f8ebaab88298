/- Calls that have been run (laid by program): level 1. -/
import Derived.Test.YtiemejfbgmllfaaGreatDoorCA0
import Derived.Test.YtiemejfbgmllfaaGreatDoorAbTab
import Derived.KernelRfl
namespace Go.Proofs
open Go.Ab

def CAL36 : List (List V × V) := [([.str [49], .str [49]], .tup [.str [49], .int .i64 0]),
  ([.str [48], .str [49]], .tup [.str [48], .int .i64 0]),
  ([.str [48], .str [50]], .tup [.str [48], .int .i64 0]),
  ([.str [49], .str [52, 49]], .tup [.str [52, 49], .int .i64 0]),
  ([.str [50], .str [49]], .tup [.str [50], .int .i64 0]),
  ([.str [52, 49], .str [49]], .tup [.str [52, 49], .int .i64 0]),
  ([.str [49], .str [50]], .tup [.str [50], .int .i64 0]),
  ([.str [48], .str [51]], .tup [.str [48], .int .i64 0]),
  ([.str [49], .str [51]], .tup [.str [51], .int .i64 0]),
  ([.str [51], .str [49]], .tup [.str [51], .int .i64 0]),
  ([.str [49], .str [52]], .tup [.str [52], .int .i64 0]),
  ([.str [49], .str [53]], .tup [.str [53], .int .i64 0])]
theorem CAL36_ok : FTabOK Tryz.prog 36 CAL36 := chkT_ok (E := ECA0) (n := 60) mixed0 ECA0_ok (canL_ok can1) (spec1_ok rfl) (by kernel_rfl)
def CAL57 : List (List V × V) := [([.str [52, 49], .str [48]], .tup [.str [52, 49], .int .i64 0]),
  ([.str [49], .str [49]], .tup [.str [50], .int .i64 0]),
  ([.str [48], .str [48]], .tup [.str [48], .int .i64 0]),
  ([.str [48], .str [49]], .tup [.str [49], .int .i64 0]),
  ([.str [49], .str [48]], .tup [.str [49], .int .i64 0]),
  ([.str [48], .str [50]], .tup [.str [50], .int .i64 0]),
  ([.str [50], .str [48]], .tup [.str [50], .int .i64 0]),
  ([.str [51], .str [49]], .tup [.str [52], .int .i64 0]),
  ([.str [51], .str [50]], .tup [.str [53], .int .i64 0]),
  ([.str [50], .str [49]], .tup [.str [51], .int .i64 0])]
theorem CAL57_ok : FTabOK Tryz.prog 57 CAL57 := chkT_ok (E := ECA0) (n := 60) mixed0 ECA0_ok (canL_ok can1) (spec1_ok rfl) (by kernel_rfl)
def CAL58 : List (List V × V) := [([.str [49], .str [48]], .int .i64 1),
  ([.str [48], .str [48]], .int .i64 0),
  ([.str [48], .str [49]], .int .i64 (-1)),
  ([.str [49], .str [49]], .int .i64 0),
  ([.str [49], .str [50]], .int .i64 (-1))]
theorem CAL58_ok : FTabOK Tryz.prog 58 CAL58 := chkT_ok (E := ECA0) (n := 60) mixed0 ECA0_ok (canL_ok can1) (spec1_ok rfl) (by kernel_rfl)
def CAL59 : List (List V × V) := [([.str [49], .str [48]], .tup [.str [49], .int .i64 0]),
  ([.str [48], .str [48]], .tup [.str [48], .int .i64 0]),
  ([.str [49], .str [49]], .tup [.str [48], .int .i64 0]),
  ([.str [50], .str [49]], .tup [.str [49], .int .i64 0])]
theorem CAL59_ok : FTabOK Tryz.prog 59 CAL59 := chkT_ok (E := ECA0) (n := 60) mixed0 ECA0_ok (canL_ok can1) (spec1_ok rfl) (by kernel_rfl)
def CAL56 : List (List V × V) := [([.str [49], .str [49]], .tup [.str [49], .int .i64 0]),
  ([.str [48], .str [49]], .tup [.str [49], .int .i64 0]),
  ([.str [49], .str [50]], .tup [.str [49], .int .i64 0]),
  ([.str [52, 49], .str [49]], .tup [.str [49], .int .i64 0]),
  ([.str [52, 49], .str [50]], .tup [.str [49], .int .i64 0]),
  ([.str [50], .str [49]], .tup [.str [49], .int .i64 0]),
  ([.str [50], .str [50]], .tup [.str [50], .int .i64 0]),
  ([.str [51], .str [49]], .tup [.str [49], .int .i64 0]),
  ([.str [48], .str [50]], .tup [.str [50], .int .i64 0]),
  ([.str [52], .str [49]], .tup [.str [49], .int .i64 0]),
  ([.str [49], .str [52]], .tup [.str [49], .int .i64 0]),
  ([.str [50], .str [52]], .tup [.str [50], .int .i64 0]),
  ([.str [53], .str [49]], .tup [.str [49], .int .i64 0]),
  ([.str [49], .str [53]], .tup [.str [49], .int .i64 0]),
  ([.str [51], .str [53]], .tup [.str [49], .int .i64 0]),
  ([.str [50], .str [53]], .tup [.str [49], .int .i64 0])]
theorem CAL56_ok : FTabOK Tryz.prog 56 CAL56 := chkT_ok (E := ECA0) (n := 60) mixed0 ECA0_ok (canL_ok can1) (spec1_ok rfl) (by kernel_rfl)
def CAL124 : List (List V × V) := [([.str [52, 49], .str [49]], .tup [.str [52, 49], .str [48], .int .i64 0]),
  ([.str [50], .str [49]], .tup [.str [50], .str [48], .int .i64 0]),
  ([.str [50], .str [50]], .tup [.str [49], .str [48], .int .i64 0]),
  ([.str [49], .str [49]], .tup [.str [49], .str [48], .int .i64 0]),
  ([.str [48], .str [49]], .tup [.str [48], .str [48], .int .i64 0]),
  ([.str [48], .str [50]], .tup [.str [48], .str [48], .int .i64 0]),
  ([.str [51], .str [49]], .tup [.str [51], .str [48], .int .i64 0]),
  ([.str [52], .str [49]], .tup [.str [52], .str [48], .int .i64 0]),
  ([.str [52], .str [50]], .tup [.str [50], .str [48], .int .i64 0]),
  ([.str [53], .str [49]], .tup [.str [53], .str [48], .int .i64 0])]
theorem CAL124_ok : FTabOK Tryz.prog 124 CAL124 := chkT_ok (E := ECA0) (n := 60) mixed0 ECA0_ok (canL_ok can1) (spec1_ok rfl) (by kernel_rfl)
def TCA1 : Tab := [(36, CAL36), (57, CAL57), (58, CAL58), (59, CAL59), (56, CAL56), (124, CAL124)]
theorem TCA1_ok : TabOK Tryz.prog TCA1 := TabOK.cons CAL36_ok (TabOK.cons CAL57_ok (TabOK.cons CAL58_ok (TabOK.cons CAL59_ok (TabOK.cons CAL56_ok (TabOK.cons CAL124_ok (TabOK.nil))))))
noncomputable def ECA1 : ECfg := withTab ECA0 TCA1
theorem ECA1_ok : ∀ f args r, ECA1.Γ f args = some r → PCall Tryz.prog f args r := withTab_ok ECA0_ok TCA1_ok
end Go.Proofs
