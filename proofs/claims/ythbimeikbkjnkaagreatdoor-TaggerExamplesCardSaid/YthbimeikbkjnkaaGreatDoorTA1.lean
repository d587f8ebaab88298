/- Calls that have been run (laid by program): level 1. -/
import Derived.Test.YthbimeikbkjnkaaGreatDoorTA0
import Derived.Test.YthbimeikbkjnkaaGreatDoorAbTab
import Derived.KernelRfl
namespace Go.Proofs
open Go.Ab

def TAL115 : List (List V × V) := [([.str [48], .str [49]], .tup [.str [48], .int .i64 0]),
  ([.str [49], .str [49]], .tup [.str [49], .int .i64 0]),
  ([.str [48], .str [52]], .tup [.str [48], .int .i64 0]),
  ([.str [49], .str [52]], .tup [.str [52], .int .i64 0]),
  ([.str [48], .str [50]], .tup [.str [48], .int .i64 0]),
  ([.str [49], .str [50]], .tup [.str [50], .int .i64 0]),
  ([.str [51], .str [49]], .tup [.str [51], .int .i64 0]),
  ([.str [49], .str [48]], .tup [.str [48], .int .i64 0]),
  ([.str [50], .str [49]], .tup [.str [50], .int .i64 0]),
  ([.str [49], .str [51]], .tup [.str [51], .int .i64 0]),
  ([.str [52], .str [52]], .tup [.str [49, 54], .int .i64 0]),
  ([.str [48], .str [51]], .tup [.str [48], .int .i64 0]),
  ([.str [49], .str [49, 54]], .tup [.str [49, 54], .int .i64 0]),
  ([.str [50], .str [52]], .tup [.str [56], .int .i64 0]),
  ([.str [49], .str [56]], .tup [.str [56], .int .i64 0]),
  ([.str [48], .str [56]], .tup [.str [48], .int .i64 0]),
  ([.str [48], .str [48]], .tup [.str [48], .int .i64 0]),
  ([.str [52], .str [49]], .tup [.str [52], .int .i64 0]),
  ([.str [56], .str [52]], .tup [.str [51, 50], .int .i64 0]),
  ([.str [48], .str [51, 50]], .tup [.str [48], .int .i64 0]),
  ([.str [56], .str [49]], .tup [.str [56], .int .i64 0]),
  ([.str [51, 50], .str [49]], .tup [.str [51, 50], .int .i64 0]),
  ([.str [56], .str [50]], .tup [.str [49, 54], .int .i64 0]),
  ([.str [48], .str [49, 54]], .tup [.str [48], .int .i64 0]),
  ([.str [51], .str [48]], .tup [.str [48], .int .i64 0]),
  ([.str [56], .str [49, 54]], .tup [.str [49, 50, 56], .int .i64 0]),
  ([.str [48], .str [49, 50, 56]], .tup [.str [48], .int .i64 0]),
  ([.str [49, 50, 56], .str [50]], .tup [.str [50, 53, 54], .int .i64 0]),
  ([.str [48], .str [50, 53, 54]], .tup [.str [48], .int .i64 0]),
  ([.str [49], .str [49, 50, 56]], .tup [.str [49, 50, 56], .int .i64 0]),
  ([.str [49], .str [50, 53, 54]], .tup [.str [50, 53, 54], .int .i64 0])]
theorem TAL115_ok : FTabOK Tryz.prog 115 TAL115 := chkT_ok (E := ETA0) (n := 60) mixed0 ETA0_ok (canL_ok can1) (spec1_ok rfl) (by kernel_rfl)
def TAL156 : List (List V × V) := [([.str [48], .str [48]], .tup [.str [48], .int .i64 0]),
  ([.str [48], .str [51]], .tup [.str [51], .int .i64 0])]
theorem TAL156_ok : FTabOK Tryz.prog 156 TAL156 := chkT_ok (E := ETA0) (n := 60) mixed0 ETA0_ok (canL_ok can1) (spec1_ok rfl) (by kernel_rfl)
def TAL157 : List (List V × V) := [([.str [48], .str [48]], .int .i64 0),
  ([.str [48], .str [49]], .int .i64 (-1)),
  ([.str [49], .str [48]], .int .i64 1),
  ([.str [49], .str [49]], .int .i64 0),
  ([.str [49], .str [52]], .int .i64 (-1)),
  ([.str [49], .str [50]], .int .i64 (-1)),
  ([.str [51], .str [48]], .int .i64 1),
  ([.str [51], .str [52]], .int .i64 (-1)),
  ([.str [48], .str [51]], .int .i64 (-1))]
theorem TAL157_ok : FTabOK Tryz.prog 157 TAL157 := chkT_ok (E := ETA0) (n := 60) mixed0 ETA0_ok (canL_ok can1) (spec1_ok rfl) (by kernel_rfl)
def TAL158 : List (List V × V) := [([.str [48], .str [48]], .tup [.str [48], .int .i64 0]),
  ([.str [49], .str [48]], .tup [.str [49], .int .i64 0]),
  ([.str [49], .str [49]], .tup [.str [48], .int .i64 0]),
  ([.str [52], .str [49]], .tup [.str [51], .int .i64 0]),
  ([.str [50], .str [49]], .tup [.str [49], .int .i64 0]),
  ([.str [51], .str [48]], .tup [.str [51], .int .i64 0]),
  ([.str [52], .str [51]], .tup [.str [49], .int .i64 0])]
theorem TAL158_ok : FTabOK Tryz.prog 158 TAL158 := chkT_ok (E := ETA0) (n := 60) mixed0 ETA0_ok (canL_ok can1) (spec1_ok rfl) (by kernel_rfl)
def TAL148 : List (List V × V) := [([.str [48], .str [49]], .tup [.str [49], .int .i64 0]),
  ([.str [49], .str [49]], .tup [.str [49], .int .i64 0]),
  ([.str [49], .str [52]], .tup [.str [49], .int .i64 0]),
  ([.str [49], .str [50]], .tup [.str [49], .int .i64 0]),
  ([.str [51], .str [52]], .tup [.str [49], .int .i64 0]),
  ([.str [48], .str [50]], .tup [.str [50], .int .i64 0]),
  ([.str [51], .str [49, 54]], .tup [.str [49], .int .i64 0]),
  ([.str [48], .str [49, 54]], .tup [.str [49, 54], .int .i64 0]),
  ([.str [49], .str [56]], .tup [.str [49], .int .i64 0]),
  ([.str [49], .str [51, 50]], .tup [.str [49], .int .i64 0]),
  ([.str [48], .str [52]], .tup [.str [52], .int .i64 0]),
  ([.str [48], .str [56]], .tup [.str [56], .int .i64 0]),
  ([.str [48], .str [51, 50]], .tup [.str [51, 50], .int .i64 0]),
  ([.str [51], .str [56]], .tup [.str [49], .int .i64 0]),
  ([.str [49], .str [49, 54]], .tup [.str [49], .int .i64 0]),
  ([.str [51], .str [49, 50, 56]], .tup [.str [49], .int .i64 0]),
  ([.str [51], .str [50, 53, 54]], .tup [.str [49], .int .i64 0])]
theorem TAL148_ok : FTabOK Tryz.prog 148 TAL148 := chkT_ok (E := ETA0) (n := 60) mixed0 ETA0_ok (canL_ok can1) (spec1_ok rfl) (by kernel_rfl)
def TAL181 : List (List V × V) := [([.str [48], .str [50]], .tup [.str [48], .str [48], .int .i64 0]),
  ([.str [50], .str [50]], .tup [.str [49], .str [48], .int .i64 0]),
  ([.str [48], .str [49]], .tup [.str [48], .str [48], .int .i64 0]),
  ([.str [49], .str [49]], .tup [.str [49], .str [48], .int .i64 0]),
  ([.str [51], .str [49]], .tup [.str [51], .str [48], .int .i64 0]),
  ([.str [49, 54], .str [49]], .tup [.str [49, 54], .str [48], .int .i64 0]),
  ([.str [48], .str [49, 54]], .tup [.str [48], .str [48], .int .i64 0]),
  ([.str [49, 54], .str [49, 54]], .tup [.str [49], .str [48], .int .i64 0]),
  ([.str [56], .str [49]], .tup [.str [56], .str [48], .int .i64 0]),
  ([.str [52], .str [49]], .tup [.str [52], .str [48], .int .i64 0]),
  ([.str [51, 50], .str [49]], .tup [.str [51, 50], .str [48], .int .i64 0]),
  ([.str [48], .str [52]], .tup [.str [48], .str [48], .int .i64 0]),
  ([.str [52], .str [52]], .tup [.str [49], .str [48], .int .i64 0]),
  ([.str [48], .str [56]], .tup [.str [48], .str [48], .int .i64 0]),
  ([.str [56], .str [56]], .tup [.str [49], .str [48], .int .i64 0]),
  ([.str [48], .str [51, 50]], .tup [.str [48], .str [48], .int .i64 0]),
  ([.str [51, 50], .str [51, 50]], .tup [.str [49], .str [48], .int .i64 0]),
  ([.str [50], .str [49]], .tup [.str [50], .str [48], .int .i64 0]),
  ([.str [49, 50, 56], .str [49]], .tup [.str [49, 50, 56], .str [48], .int .i64 0]),
  ([.str [50, 53, 54], .str [49]], .tup [.str [50, 53, 54], .str [48], .int .i64 0])]
theorem TAL181_ok : FTabOK Tryz.prog 181 TAL181 := chkT_ok (E := ETA0) (n := 60) mixed0 ETA0_ok (canL_ok can1) (spec1_ok rfl) (by kernel_rfl)
def TAL89 : List (List V × V) := [([.str [49], .str [49]], .tup [.str [49], .int .i64 0]),
  ([.str [48], .str [49]], .tup [.str [48], .int .i64 0]),
  ([.str [48], .str [50]], .tup [.str [48], .int .i64 0]),
  ([.str [51], .str [49]], .tup [.str [51], .int .i64 0]),
  ([.str [48], .str [52]], .tup [.str [48], .int .i64 0]),
  ([.str [48], .str [49, 54]], .tup [.str [48], .int .i64 0]),
  ([.str [49], .str [50]], .tup [.str [50], .int .i64 0]),
  ([.str [49], .str [51]], .tup [.str [51], .int .i64 0]),
  ([.str [50], .str [52]], .tup [.str [56], .int .i64 0]),
  ([.str [48], .str [56]], .tup [.str [48], .int .i64 0]),
  ([.str [56], .str [50]], .tup [.str [49, 54], .int .i64 0])]
theorem TAL89_ok : FTabOK Tryz.prog 89 TAL89 := chkT_ok (E := ETA0) (n := 60) mixed0 ETA0_ok (canL_ok can1) (spec1_ok rfl) (by kernel_rfl)
def TAL88 : List (List V × V) := [([.str [49], .str [48]], .tup [.str [49], .int .i64 0]),
  ([.str [51], .str [48]], .tup [.str [51], .int .i64 0]),
  ([.str [48], .str [48]], .tup [.str [48], .int .i64 0])]
theorem TAL88_ok : FTabOK Tryz.prog 88 TAL88 := chkT_ok (E := ETA0) (n := 60) mixed0 ETA0_ok (canL_ok can1) (spec1_ok rfl) (by kernel_rfl)
def TAL87 : List (List V × V) := [([.str [49], .str [48]], .int .i64 1),
  ([.str [51], .str [48]], .int .i64 1),
  ([.str [48], .str [48]], .int .i64 0),
  ([.str [48], .str [49]], .int .i64 (-1)),
  ([.str [48], .str [51]], .int .i64 (-1))]
theorem TAL87_ok : FTabOK Tryz.prog 87 TAL87 := chkT_ok (E := ETA0) (n := 60) mixed0 ETA0_ok (canL_ok can1) (spec1_ok rfl) (by kernel_rfl)
def TAL129 : List (List V × V) := [([.str [49], .str [49]], .tup [.str [49], .str [48], .int .i64 0]),
  ([.str [48], .str [49]], .tup [.str [48], .str [48], .int .i64 0]),
  ([.str [49], .str [50]], .tup [.str [48], .str [49], .int .i64 0]),
  ([.str [50], .str [49]], .tup [.str [50], .str [48], .int .i64 0]),
  ([.str [51], .str [52]], .tup [.str [48], .str [51], .int .i64 0]),
  ([.str [52], .str [51]], .tup [.str [49], .str [49], .int .i64 0]),
  ([.str [51], .str [49]], .tup [.str [51], .str [48], .int .i64 0]),
  ([.str [51], .str [49, 54]], .tup [.str [48], .str [51], .int .i64 0]),
  ([.str [49, 54], .str [51]], .tup [.str [53], .str [49], .int .i64 0]),
  ([.str [51], .str [56]], .tup [.str [48], .str [51], .int .i64 0]),
  ([.str [56], .str [51]], .tup [.str [50], .str [50], .int .i64 0]),
  ([.str [51], .str [50]], .tup [.str [49], .str [49], .int .i64 0]),
  ([.str [56], .str [49]], .tup [.str [56], .str [48], .int .i64 0]),
  ([.str [49, 54], .str [49]], .tup [.str [49, 54], .str [48], .int .i64 0])]
theorem TAL129_ok : FTabOK Tryz.prog 129 TAL129 := chkT_ok (E := ETA0) (n := 60) mixed0 ETA0_ok (canL_ok can1) (spec1_ok rfl) (by kernel_rfl)
def TTA1 : Tab := [(115, TAL115), (156, TAL156), (157, TAL157), (158, TAL158), (148, TAL148), (181, TAL181), (89, TAL89), (88, TAL88), (87, TAL87), (129, TAL129)]
theorem TTA1_ok : TabOK Tryz.prog TTA1 := TabOK.cons TAL115_ok (TabOK.cons TAL156_ok (TabOK.cons TAL157_ok (TabOK.cons TAL158_ok (TabOK.cons TAL148_ok (TabOK.cons TAL181_ok (TabOK.cons TAL89_ok (TabOK.cons TAL88_ok (TabOK.cons TAL87_ok (TabOK.cons TAL129_ok (TabOK.nil))))))))))
noncomputable def ETA1 : ECfg := withTab ETA0 TTA1
theorem ETA1_ok : ∀ f args r, ETA1.Γ f args = some r → PCall Tryz.prog f args r := withTab_ok ETA0_ok TTA1_ok
end Go.Proofs
