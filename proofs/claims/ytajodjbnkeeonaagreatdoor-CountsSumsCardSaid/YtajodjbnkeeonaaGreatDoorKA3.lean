/- Calls that have been run (laid by program): level 3. -/
import Derived.Test.YtajodjbnkeeonaaGreatDoorKA2
import Derived.Test.YtajodjbnkeeonaaGreatDoorAbTab
import Derived.KernelRfl
set_option linter.unusedSimpArgs false
set_option linter.unusedVariables false
namespace Go.Proofs
open Go.Ab
def KAL56 : List (List V × V) := [([.str [48], .str [51]], .tup [.str [48], .int .i64 0]),
  ([.str [49], .str [51]], .tup [.str [51], .int .i64 0])]
theorem KAL56_ok : FTabOK Tryz.prog 56 KAL56 := chkT_ok (E := EKA2) (n := 60) mixed0 EKA2_ok (canL_ok can1) (spec1_ok rfl) (by kernel_rfl)
def KAL31 : List (List V × V) := [([.str [48], .str [48]], .int .i64 0),
  ([.str [49], .str [48]], .int .i64 1),
  ([.str [45, 49], .str [48]], .int .i64 (-1)),
  ([.str [48], .str [49]], .int .i64 (-1)),
  ([.str [49], .str [49]], .int .i64 0),
  ([.str [49, 47, 50], .str [48]], .int .i64 1),
  ([.str [49, 47, 50], .str [49]], .int .i64 (-1))]
theorem KAL31_ok : FTabOK Tryz.prog 31 KAL31 := chkT_ok (E := EKA2) (n := 60) mixed0 EKA2_ok (canL_ok can1) (spec1_ok rfl) (by kernel_rfl)
def KAL58 : List (List V × V) := [([.str [48], .str [49]], .tup [.str [49], .int .i64 0]),
  ([.str [48], .str [48]], .tup [.str [48], .int .i64 0]),
  ([.str [49], .str [48]], .tup [.str [49], .int .i64 0]),
  ([.str [48], .str [50]], .tup [.str [50], .int .i64 0]),
  ([.str [50], .str [48]], .tup [.str [50], .int .i64 0]),
  ([.str [51], .str [49]], .tup [.str [52], .int .i64 0]),
  ([.str [49], .str [49]], .tup [.str [50], .int .i64 0]),
  ([.str [51], .str [50]], .tup [.str [53], .int .i64 0]),
  ([.str [50], .str [49]], .tup [.str [51], .int .i64 0])]
theorem KAL58_ok : FTabOK Tryz.prog 58 KAL58 := chkT_ok (E := EKA2) (n := 60) mixed0 EKA2_ok (canL_ok can1) (spec1_ok rfl) (by kernel_rfl)
def KAL59 : List (List V × V) := [([.str [48], .str [49]], .tup [.str [48], .int .i64 0]),
  ([.str [49], .str [49]], .tup [.str [49], .int .i64 0]),
  ([.str [48], .str [50]], .tup [.str [48], .int .i64 0]),
  ([.str [50], .str [50]], .tup [.str [49], .int .i64 0]),
  ([.str [49], .str [50]], .tup [.str [49, 47, 50], .int .i64 0]),
  ([.str [49], .str [52]], .tup [.str [49, 47, 52], .int .i64 0]),
  ([.str [50], .str [52]], .tup [.str [49, 47, 50], .int .i64 0]),
  ([.str [49], .str [53]], .tup [.str [49, 47, 53], .int .i64 0]),
  ([.str [51], .str [53]], .tup [.str [51, 47, 53], .int .i64 0]),
  ([.str [50], .str [53]], .tup [.str [50, 47, 53], .int .i64 0])]
theorem KAL59_ok : FTabOK Tryz.prog 59 KAL59 := chkT_ok (E := EKA2) (n := 60) mixed0 EKA2_ok (canL_ok can1) (spec1_ok rfl) (by kernel_rfl)
def KAL30 : List (List V × V) := [([.str [48]], .bool true),
  ([.str [49]], .bool true),
  ([.str [50]], .bool true),
  ([.str [51]], .bool true),
  ([.str [45, 49]], .bool true),
  ([.str [49, 47, 50]], .bool true)]
theorem KAL30_ok : FTabOK Tryz.prog 30 KAL30 := chkT_ok (E := EKA2) (n := 60) mixed0 EKA2_ok (canL_ok can1) (spec1_ok rfl) (by kernel_rfl)
def KAL22 : List (List V × V) := [([.str [116, 104, 101]], .bool true),
  ([.str [68]], .bool true),
  ([.str [100, 111, 103]], .bool true),
  ([.str [78]], .bool true)]
theorem KAL22_ok : FTabOK Tryz.prog 22 KAL22 := chkT_ok (E := EKA2) (n := 60) mixed0 EKA2_ok (canL_ok can1) (spec1_ok rfl) (by kernel_rfl)
def TKA3 : Tab := [(56, KAL56), (31, KAL31), (58, KAL58), (59, KAL59), (30, KAL30), (22, KAL22)]
theorem TKA3_ok : TabOK Tryz.prog TKA3 := TabOK.cons KAL56_ok (TabOK.cons KAL31_ok (TabOK.cons KAL58_ok (TabOK.cons KAL59_ok (TabOK.cons KAL30_ok (TabOK.cons KAL22_ok (TabOK.nil))))))
noncomputable def EKA3 : ECfg := withTab EKA2 TKA3
theorem EKA3_ok : ∀ f args r, EKA3.Γ f args = some r → PCall Tryz.prog f args r := withTab_ok EKA2_ok TKA3_ok
end Go.Proofs
