/- Calls that have been run (laid by program): level 0. -/
import Derived.Test.YtajodjbnkeeonaaGreatDoorK1Ev
import Derived.Test.YtajodjbnkeeonaaGreatDoorAbTab
import Derived.KernelRfl
set_option linter.unusedSimpArgs false
set_option linter.unusedVariables false
namespace Go.Proofs
open Go.Ab
def KAL69 : List (List V × V) := [([.str [48]], .bool true),
  ([.str [49]], .bool true),
  ([.str [51]], .bool true),
  ([.str [50]], .bool true),
  ([.str [52]], .bool true),
  ([.str [53]], .bool true)]
theorem KAL69_ok : FTabOK Tryz.prog 69 KAL69 := chkT_ok (E := E1) (n := 60) mixed0 Γ1_ok (canL_ok can1) (spec1_ok rfl) (by kernel_rfl)
def KAL67 : List (List V × V) := [([.str [48], .str [45]], .tup [.str [48], .bool false]),
  ([.str [51], .str [45]], .tup [.str [51], .bool false]),
  ([.str [49], .str [45]], .tup [.str [49], .bool false]),
  ([.str [50], .str [45]], .tup [.str [50], .bool false]),
  ([.str [52], .str [45]], .tup [.str [52], .bool false]),
  ([.str [53], .str [45]], .tup [.str [53], .bool false]),
  ([.str [45, 49], .str [45]], .tup [.str [49], .bool true]),
  ([.str [49, 47, 50], .str [45]], .tup [.str [49, 47, 50], .bool false])]
theorem KAL67_ok : FTabOK Tryz.prog 67 KAL67 := chkT_ok (E := E1) (n := 60) mixed0 Γ1_ok (canL_ok can1) (spec1_ok rfl) (by kernel_rfl)
def KAL68 : List (List V × V) := [([.str [48], .str [47]], .tup [.str [48], .str [], .bool false]),
  ([.str [51], .str [47]], .tup [.str [51], .str [], .bool false]),
  ([.str [49], .str [47]], .tup [.str [49], .str [], .bool false]),
  ([.str [50], .str [47]], .tup [.str [50], .str [], .bool false]),
  ([.str [52], .str [47]], .tup [.str [52], .str [], .bool false]),
  ([.str [53], .str [47]], .tup [.str [53], .str [], .bool false]),
  ([.str [49, 47, 50], .str [47]], .tup [.str [49], .str [50], .bool true])]
theorem KAL68_ok : FTabOK Tryz.prog 68 KAL68 := chkT_ok (E := E1) (n := 60) mixed0 Γ1_ok (canL_ok can1) (spec1_ok rfl) (by kernel_rfl)
def KAL57 : List (List V × V) := [([.int .i64 3], .str [51]),
  ([.int .i64 1], .str [49]),
  ([.int .i64 0], .str [48]),
  ([.int .i64 2], .str [50])]
theorem KAL57_ok : FTabOK Tryz.prog 57 KAL57 := chkT_ok (E := E1) (n := 60) mixed0 Γ1_ok (canL_ok can1) (spec1_ok rfl) (by kernel_rfl)
def KAL38 : List (List V × V) := [([.str [68], .str []], .int .i64 1),
  ([.str [78], .str [68]], .int .i64 1),
  ([.str [], .str [78]], .int .i64 (-1)),
  ([.str [78], .str []], .int .i64 1),
  ([.str [], .str [68]], .int .i64 (-1)),
  ([.str [78], .str [78]], .int .i64 0),
  ([.str [], .str []], .int .i64 0),
  ([.str [68], .str [78]], .int .i64 (-1)),
  ([.str [100, 111, 103], .str [116, 104, 101]], .int .i64 (-1)),
  ([.str [116, 104, 101], .str [100, 111, 103]], .int .i64 1)]
theorem KAL38_ok : FTabOK Tryz.prog 38 KAL38 := chkT_ok (E := E1) (n := 60) mixed0 Γ1_ok (canL_ok can1) (spec1_ok rfl) (by kernel_rfl)
def KAL60 : List (List V × V) := [([.str [68]], .bool false),
  ([.str []], .bool false),
  ([.str [78]], .bool false),
  ([.str [100, 111, 103]], .bool false),
  ([.str [116, 104, 101]], .bool false)]
theorem KAL60_ok : FTabOK Tryz.prog 60 KAL60 := chkT_ok (E := E1) (n := 60) mixed0 Γ1_ok (canL_ok can1) (spec1_ok rfl) (by kernel_rfl)
def TKA0 : Tab := [(69, KAL69), (67, KAL67), (68, KAL68), (57, KAL57), (38, KAL38), (60, KAL60)]
theorem TKA0_ok : TabOK Tryz.prog TKA0 := TabOK.cons KAL69_ok (TabOK.cons KAL67_ok (TabOK.cons KAL68_ok (TabOK.cons KAL57_ok (TabOK.cons KAL38_ok (TabOK.cons KAL60_ok (TabOK.nil))))))
noncomputable def EKA0 : ECfg := withTab E1 TKA0
theorem EKA0_ok : ∀ f args r, EKA0.Γ f args = some r → PCall Tryz.prog f args r := withTab_ok Γ1_ok TKA0_ok
end Go.Proofs
