/- Calls that have been run (laid by program): level 1. -/
import Derived.Test.YtajodjbnkeeonaaGreatDoorKA0
import Derived.Test.YtajodjbnkeeonaaGreatDoorAbTab
import Derived.KernelRfl
set_option linter.unusedSimpArgs false
set_option linter.unusedVariables false
namespace Go.Proofs
open Go.Ab
def KAL51 : List (List V × V) := [([.str [48], .str [49]], .tup [.str [48], .int .i64 0]),
  ([.str [48], .str [51]], .tup [.str [48], .int .i64 0]),
  ([.str [49], .str [49]], .tup [.str [49], .int .i64 0]),
  ([.str [50], .str [49]], .tup [.str [50], .int .i64 0]),
  ([.str [49], .str [50]], .tup [.str [50], .int .i64 0]),
  ([.str [49], .str [51]], .tup [.str [51], .int .i64 0]),
  ([.str [51], .str [49]], .tup [.str [51], .int .i64 0]),
  ([.str [49], .str [52]], .tup [.str [52], .int .i64 0]),
  ([.str [49], .str [53]], .tup [.str [53], .int .i64 0]),
  ([.str [48], .str [50]], .tup [.str [48], .int .i64 0])]
theorem KAL51_ok : FTabOK Tryz.prog 51 KAL51 := chkT_ok (E := EKA0) (n := 60) mixed0 EKA0_ok (canL_ok can1) (spec1_ok rfl) (by kernel_rfl)
def KAL71 : List (List V × V) := [([.str [48], .str [49]], .tup [.str [49], .int .i64 0]),
  ([.str [48], .str [48]], .tup [.str [48], .int .i64 0]),
  ([.str [49], .str [48]], .tup [.str [49], .int .i64 0]),
  ([.str [48], .str [50]], .tup [.str [50], .int .i64 0]),
  ([.str [50], .str [48]], .tup [.str [50], .int .i64 0]),
  ([.str [51], .str [49]], .tup [.str [52], .int .i64 0]),
  ([.str [49], .str [49]], .tup [.str [50], .int .i64 0]),
  ([.str [51], .str [50]], .tup [.str [53], .int .i64 0]),
  ([.str [50], .str [49]], .tup [.str [51], .int .i64 0])]
theorem KAL71_ok : FTabOK Tryz.prog 71 KAL71 := chkT_ok (E := EKA0) (n := 60) mixed0 EKA0_ok (canL_ok can1) (spec1_ok rfl) (by kernel_rfl)
def KAL72 : List (List V × V) := [([.str [48], .str [48]], .int .i64 0),
  ([.str [49], .str [48]], .int .i64 1),
  ([.str [48], .str [49]], .int .i64 (-1)),
  ([.str [49], .str [49]], .int .i64 0),
  ([.str [49], .str [50]], .int .i64 (-1))]
theorem KAL72_ok : FTabOK Tryz.prog 72 KAL72 := chkT_ok (E := EKA0) (n := 60) mixed0 EKA0_ok (canL_ok can1) (spec1_ok rfl) (by kernel_rfl)
def KAL73 : List (List V × V) := [([.str [48], .str [48]], .tup [.str [48], .int .i64 0]),
  ([.str [49], .str [48]], .tup [.str [49], .int .i64 0]),
  ([.str [49], .str [49]], .tup [.str [48], .int .i64 0]),
  ([.str [50], .str [49]], .tup [.str [49], .int .i64 0])]
theorem KAL73_ok : FTabOK Tryz.prog 73 KAL73 := chkT_ok (E := EKA0) (n := 60) mixed0 EKA0_ok (canL_ok can1) (spec1_ok rfl) (by kernel_rfl)
def KAL70 : List (List V × V) := [([.str [48], .str [49]], .tup [.str [49], .int .i64 0]),
  ([.str [51], .str [49]], .tup [.str [49], .int .i64 0]),
  ([.str [49], .str [49]], .tup [.str [49], .int .i64 0]),
  ([.str [50], .str [49]], .tup [.str [49], .int .i64 0]),
  ([.str [48], .str [50]], .tup [.str [50], .int .i64 0]),
  ([.str [50], .str [50]], .tup [.str [50], .int .i64 0]),
  ([.str [49], .str [50]], .tup [.str [49], .int .i64 0]),
  ([.str [52], .str [49]], .tup [.str [49], .int .i64 0]),
  ([.str [49], .str [52]], .tup [.str [49], .int .i64 0]),
  ([.str [50], .str [52]], .tup [.str [50], .int .i64 0]),
  ([.str [53], .str [49]], .tup [.str [49], .int .i64 0]),
  ([.str [49], .str [53]], .tup [.str [49], .int .i64 0]),
  ([.str [51], .str [53]], .tup [.str [49], .int .i64 0]),
  ([.str [50], .str [53]], .tup [.str [49], .int .i64 0])]
theorem KAL70_ok : FTabOK Tryz.prog 70 KAL70 := chkT_ok (E := EKA0) (n := 60) mixed0 EKA0_ok (canL_ok can1) (spec1_ok rfl) (by kernel_rfl)
def KAL138 : List (List V × V) := [([.str [48], .str [49]], .tup [.str [48], .str [48], .int .i64 0]),
  ([.str [49], .str [49]], .tup [.str [49], .str [48], .int .i64 0]),
  ([.str [50], .str [49]], .tup [.str [50], .str [48], .int .i64 0]),
  ([.str [48], .str [50]], .tup [.str [48], .str [48], .int .i64 0]),
  ([.str [50], .str [50]], .tup [.str [49], .str [48], .int .i64 0]),
  ([.str [51], .str [49]], .tup [.str [51], .str [48], .int .i64 0]),
  ([.str [52], .str [49]], .tup [.str [52], .str [48], .int .i64 0]),
  ([.str [52], .str [50]], .tup [.str [50], .str [48], .int .i64 0]),
  ([.str [53], .str [49]], .tup [.str [53], .str [48], .int .i64 0])]
theorem KAL138_ok : FTabOK Tryz.prog 138 KAL138 := chkT_ok (E := EKA0) (n := 60) mixed0 EKA0_ok (canL_ok can1) (spec1_ok rfl) (by kernel_rfl)
def TKA1 : Tab := [(51, KAL51), (71, KAL71), (72, KAL72), (73, KAL73), (70, KAL70), (138, KAL138)]
theorem TKA1_ok : TabOK Tryz.prog TKA1 := TabOK.cons KAL51_ok (TabOK.cons KAL71_ok (TabOK.cons KAL72_ok (TabOK.cons KAL73_ok (TabOK.cons KAL70_ok (TabOK.cons KAL138_ok (TabOK.nil))))))
noncomputable def EKA1 : ECfg := withTab EKA0 TKA1
theorem EKA1_ok : ∀ f args r, EKA1.Γ f args = some r → PCall Tryz.prog f args r := withTab_ok EKA0_ok TKA1_ok
end Go.Proofs
