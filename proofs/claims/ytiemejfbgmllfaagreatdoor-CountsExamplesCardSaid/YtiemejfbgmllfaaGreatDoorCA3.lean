/- Calls that have been run (laid by program): level 3. -/
import Derived.Test.YtiemejfbgmllfaaGreatDoorCA2
import Derived.Test.YtiemejfbgmllfaaGreatDoorAbTab
import Derived.KernelRfl
namespace Go.Proofs
open Go.Ab

def CAL41 : List (List V × V) := [([.str [49, 47, 50], .str [52, 49]], .tup [.str [52, 49, 47, 50], .int .i64 0]),
  ([.str [49, 47, 50], .str [50]], .tup [.str [49], .int .i64 0]),
  ([.str [48], .str [49]], .tup [.str [48], .int .i64 0]),
  ([.str [48], .str [51]], .tup [.str [48], .int .i64 0]),
  ([.str [49], .str [51]], .tup [.str [51], .int .i64 0])]
theorem CAL41_ok : FTabOK Tryz.prog 41 CAL41 := chkT_ok (E := ECA2) (n := 60) mixed0 ECA2_ok (canL_ok can1) (spec1_ok rfl) (by kernel_rfl)
def CAL15 : List (List V × V) := [([.str [49], .str [48]], .int .i64 1),
  ([.str [49, 47, 50], .str [48]], .int .i64 1),
  ([.str [48], .str [48]], .int .i64 0),
  ([.str [48], .str [49]], .int .i64 (-1)),
  ([.str [45, 49], .str [48]], .int .i64 (-1)),
  ([.str [49], .str [49]], .int .i64 0),
  ([.str [49, 47, 50], .str [49]], .int .i64 (-1))]
theorem CAL15_ok : FTabOK Tryz.prog 15 CAL15 := chkT_ok (E := ECA2) (n := 60) mixed0 ECA2_ok (canL_ok can1) (spec1_ok rfl) (by kernel_rfl)
def CAL43 : List (List V × V) := [([.str [52, 49, 47, 50], .str [48]], .tup [.str [52, 49, 47, 50], .int .i64 0]),
  ([.str [49], .str [49]], .tup [.str [50], .int .i64 0]),
  ([.str [48], .str [48]], .tup [.str [48], .int .i64 0]),
  ([.str [48], .str [49]], .tup [.str [49], .int .i64 0]),
  ([.str [49], .str [48]], .tup [.str [49], .int .i64 0]),
  ([.str [48], .str [50]], .tup [.str [50], .int .i64 0]),
  ([.str [50], .str [48]], .tup [.str [50], .int .i64 0]),
  ([.str [51], .str [49]], .tup [.str [52], .int .i64 0]),
  ([.str [51], .str [50]], .tup [.str [53], .int .i64 0]),
  ([.str [50], .str [49]], .tup [.str [51], .int .i64 0]),
  ([.str [48], .str [49, 47, 50]], .tup [.str [49, 47, 50], .int .i64 0]),
  ([.str [49], .str [49, 47, 50]], .tup [.str [51, 47, 50], .int .i64 0])]
theorem CAL43_ok : FTabOK Tryz.prog 43 CAL43 := chkT_ok (E := ECA2) (n := 60) mixed0 ECA2_ok (canL_ok can1) (spec1_ok rfl) (by kernel_rfl)
def CAL44 : List (List V × V) := [([.str [48], .str [49]], .tup [.str [48], .int .i64 0]),
  ([.str [49], .str [49]], .tup [.str [49], .int .i64 0]),
  ([.str [48], .str [50]], .tup [.str [48], .int .i64 0]),
  ([.str [50], .str [50]], .tup [.str [49], .int .i64 0]),
  ([.str [49], .str [50]], .tup [.str [49, 47, 50], .int .i64 0]),
  ([.str [49], .str [52]], .tup [.str [49, 47, 52], .int .i64 0]),
  ([.str [50], .str [52]], .tup [.str [49, 47, 50], .int .i64 0]),
  ([.str [49], .str [53]], .tup [.str [49, 47, 53], .int .i64 0]),
  ([.str [51], .str [53]], .tup [.str [51, 47, 53], .int .i64 0]),
  ([.str [50], .str [53]], .tup [.str [50, 47, 53], .int .i64 0]),
  ([.str [49, 47, 50], .str [52, 49, 47, 50]], .tup [.str [49, 47, 52, 49], .int .i64 0]),
  ([.str [49, 47, 50], .str [50]], .tup [.str [49, 47, 52], .int .i64 0]),
  ([.str [51, 47, 50], .str [50]], .tup [.str [51, 47, 52], .int .i64 0])]
theorem CAL44_ok : FTabOK Tryz.prog 44 CAL44 := chkT_ok (E := ECA2) (n := 60) mixed0 ECA2_ok (canL_ok can1) (spec1_ok rfl) (by kernel_rfl)
def CAL14 : List (List V × V) := [([.str [49]], .bool true),
  ([.str [49, 47, 50]], .bool true),
  ([.str [48]], .bool true),
  ([.str [50]], .bool true),
  ([.str [51]], .bool true),
  ([.str [45, 49]], .bool true)]
theorem CAL14_ok : FTabOK Tryz.prog 14 CAL14 := chkT_ok (E := ECA2) (n := 60) mixed0 ECA2_ok (canL_ok can1) (spec1_ok rfl) (by kernel_rfl)
def CAL11 : List (List V × V) := [([.str [120]], .bool true),
  ([.str []], .bool false),
  ([.str [65]], .bool true),
  ([.str [119]], .bool true),
  ([.str [66]], .bool true),
  ([.str [67]], .bool true),
  ([.str [68]], .bool true),
  ([.str [69]], .bool true),
  ([.str [70]], .bool true),
  ([.str [71]], .bool true),
  ([.str [72]], .bool true),
  ([.str [73]], .bool true),
  ([.str [74]], .bool true),
  ([.str [75]], .bool true),
  ([.str [76]], .bool true),
  ([.str [77]], .bool true),
  ([.str [78]], .bool true),
  ([.str [79]], .bool true),
  ([.str [80]], .bool true),
  ([.str [81]], .bool true),
  ([.str [82]], .bool true),
  ([.str [83]], .bool true),
  ([.str [84]], .bool true),
  ([.str [85]], .bool true),
  ([.str [86]], .bool true),
  ([.str [87]], .bool true),
  ([.str [88]], .bool true),
  ([.str [89]], .bool true),
  ([.str [90]], .bool true),
  ([.str [91]], .bool true),
  ([.str [92]], .bool true),
  ([.str [93]], .bool true),
  ([.str [94]], .bool true),
  ([.str [95]], .bool true),
  ([.str [96]], .bool true),
  ([.str [97]], .bool true),
  ([.str [98]], .bool true),
  ([.str [99]], .bool true),
  ([.str [100]], .bool true),
  ([.str [101]], .bool true),
  ([.str [102]], .bool true),
  ([.str [103]], .bool true),
  ([.str [104]], .bool true),
  ([.str [105]], .bool true),
  ([.str [116, 104, 101]], .bool true),
  ([.str [100, 111, 103]], .bool true)]
theorem CAL11_ok : FTabOK Tryz.prog 11 CAL11 := chkT_ok (E := ECA2) (n := 60) mixed0 ECA2_ok (canL_ok can1) (spec1_ok rfl) (by kernel_rfl)
def TCA3 : Tab := [(41, CAL41), (15, CAL15), (43, CAL43), (44, CAL44), (14, CAL14), (11, CAL11)]
theorem TCA3_ok : TabOK Tryz.prog TCA3 := TabOK.cons CAL41_ok (TabOK.cons CAL15_ok (TabOK.cons CAL43_ok (TabOK.cons CAL44_ok (TabOK.cons CAL14_ok (TabOK.cons CAL11_ok (TabOK.nil))))))
noncomputable def ECA3 : ECfg := withTab ECA2 TCA3
theorem ECA3_ok : ∀ f args r, ECA3.Γ f args = some r → PCall Tryz.prog f args r := withTab_ok ECA2_ok TCA3_ok
end Go.Proofs
