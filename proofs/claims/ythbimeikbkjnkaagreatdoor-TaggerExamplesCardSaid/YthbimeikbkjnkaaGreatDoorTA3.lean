/- Calls that have been run (laid by program): level 3. -/
import Derived.Test.YthbimeikbkjnkaaGreatDoorTA2
import Derived.Test.YthbimeikbkjnkaaGreatDoorAbTab
import Derived.KernelRfl
namespace Go.Proofs
open Go.Ab

def TAL69 : List (List V × V) := [([.str [49, 47, 50], .str [48]], .tup [.str [48], .int .i64 0]),
  ([.str [49], .str [48]], .tup [.str [48], .int .i64 0]),
  ([.str [49, 47, 52], .str [51, 47, 52]], .tup [.str [51, 47, 49, 54], .int .i64 0]),
  ([.str [48], .str [51, 47, 49, 54]], .tup [.str [48], .int .i64 0]),
  ([.str [48], .str [49, 47, 50]], .tup [.str [48], .int .i64 0]),
  ([.str [49, 47, 50], .str [49, 47, 52]], .tup [.str [49, 47, 56], .int .i64 0]),
  ([.str [49], .str [49, 47, 56]], .tup [.str [49, 47, 56], .int .i64 0]),
  ([.str [48], .str [49]], .tup [.str [48], .int .i64 0]),
  ([.str [48], .str [48]], .tup [.str [48], .int .i64 0]),
  ([.str [49, 47, 52], .str [49]], .tup [.str [49, 47, 52], .int .i64 0]),
  ([.str [49, 47, 56], .str [49, 47, 52]], .tup [.str [49, 47, 51, 50], .int .i64 0]),
  ([.str [49, 47, 52], .str [48]], .tup [.str [48], .int .i64 0]),
  ([.str [49, 47, 56], .str [48]], .tup [.str [48], .int .i64 0]),
  ([.str [49, 47, 51, 50], .str [48]], .tup [.str [48], .int .i64 0]),
  ([.str [49, 47, 50], .str [51, 47, 52]], .tup [.str [51, 47, 56], .int .i64 0]),
  ([.str [49], .str [51, 47, 56]], .tup [.str [51, 47, 56], .int .i64 0]),
  ([.str [51, 47, 56], .str [49, 47, 50]], .tup [.str [51, 47, 49, 54], .int .i64 0]),
  ([.str [49, 47, 50], .str [49]], .tup [.str [49, 47, 50], .int .i64 0]),
  ([.str [49], .str [49, 47, 50]], .tup [.str [49, 47, 50], .int .i64 0]),
  ([.str [49], .str [51, 47, 52]], .tup [.str [51, 47, 52], .int .i64 0]),
  ([.str [51, 47, 56], .str [48]], .tup [.str [48], .int .i64 0]),
  ([.str [49], .str [49, 47, 52]], .tup [.str [49, 47, 52], .int .i64 0]),
  ([.str [48], .str [49, 47, 52]], .tup [.str [48], .int .i64 0]),
  ([.str [49, 47, 52], .str [49, 47, 52]], .tup [.str [49, 47, 49, 54], .int .i64 0]),
  ([.str [51, 47, 56], .str [49, 47, 49, 54]], .tup [.str [51, 47, 49, 50, 56], .int .i64 0]),
  ([.str [51, 47, 49, 50, 56], .str [49, 47, 50]], .tup [.str [51, 47, 50, 53, 54], .int .i64 0])]
theorem TAL69_ok : FTabOK Tryz.prog 69 TAL69 := chkT_ok (E := ETA2) (n := 60) mixed0 ETA2_ok (canL_ok can1) (spec1_ok rfl) (by kernel_rfl)
def TAL70 : List (List V × V) := [([.str [48], .str [48]], .int .i64 0),
  ([.str [48], .str [49]], .int .i64 (-1)),
  ([.str [49], .str [48]], .int .i64 1),
  ([.str [49], .str [49]], .int .i64 0),
  ([.str [49, 47, 52], .str [48]], .int .i64 1),
  ([.str [49, 47, 52], .str [49]], .int .i64 (-1)),
  ([.str [49, 47, 50], .str [48]], .int .i64 1),
  ([.str [49, 47, 50], .str [49]], .int .i64 (-1)),
  ([.str [51, 47, 52], .str [48]], .int .i64 1),
  ([.str [51, 47, 52], .str [49]], .int .i64 (-1)),
  ([.str [48], .str [49, 47, 56]], .int .i64 (-1)),
  ([.str [48], .str [49, 47, 51, 50]], .int .i64 (-1)),
  ([.str [48], .str [49, 47, 50]], .int .i64 (-1)),
  ([.str [48], .str [51, 47, 56]], .int .i64 (-1)),
  ([.str [51, 47, 56], .str [48]], .int .i64 1),
  ([.str [48], .str [51, 47, 49, 54]], .int .i64 (-1)),
  ([.str [48], .str [51, 47, 49, 50, 56]], .int .i64 (-1)),
  ([.str [48], .str [51, 47, 50, 53, 54]], .int .i64 (-1))]
theorem TAL70_ok : FTabOK Tryz.prog 70 TAL70 := chkT_ok (E := ETA2) (n := 60) mixed0 ETA2_ok (canL_ok can1) (spec1_ok rfl) (by kernel_rfl)
def TAL72 : List (List V × V) := [([.str [48], .str [48]], .tup [.str [48], .int .i64 0]),
  ([.str [48], .str [51, 47, 56]], .tup [.str [51, 47, 56], .int .i64 0]),
  ([.str [48], .str [51, 47, 49, 54]], .tup [.str [51, 47, 49, 54], .int .i64 0]),
  ([.str [48], .str [51, 47, 49, 50, 56]], .tup [.str [51, 47, 49, 50, 56], .int .i64 0]),
  ([.str [48], .str [51, 47, 50, 53, 54]], .tup [.str [51, 47, 50, 53, 54], .int .i64 0])]
theorem TAL72_ok : FTabOK Tryz.prog 72 TAL72 := chkT_ok (E := ETA2) (n := 60) mixed0 ETA2_ok (canL_ok can1) (spec1_ok rfl) (by kernel_rfl)
def TAL145 : List (List V × V) := [([.str [48]], .bool true),
  ([.str [49]], .bool true),
  ([.str [49, 47, 52]], .bool true),
  ([.str [49, 47, 50]], .bool true),
  ([.str [51, 47, 52]], .bool true)]
theorem TAL145_ok : FTabOK Tryz.prog 145 TAL145 := chkT_ok (E := ETA2) (n := 60) mixed0 ETA2_ok (canL_ok can1) (spec1_ok rfl) (by kernel_rfl)
def TAL76 : List (List V × V) := [([.str [49]], .bool true),
  ([.str [49, 47, 50]], .bool true),
  ([.str [51, 47, 52]], .bool true),
  ([.str [51, 47, 49, 54]], .bool true),
  ([.str [48]], .bool true),
  ([.str [51, 47, 56]], .bool true)]
theorem TAL76_ok : FTabOK Tryz.prog 76 TAL76 := chkT_ok (E := ETA2) (n := 60) mixed0 ETA2_ok (canL_ok can1) (spec1_ok rfl) (by kernel_rfl)
def TAL79 : List (List V × V) := [([.str [49], .str [49, 47, 50]], .tup [.str [49, 47, 50], .int .i64 0]),
  ([.str [49, 47, 50], .str [51, 47, 52]], .tup [.str [51, 47, 56], .int .i64 0]),
  ([.str [51, 47, 56], .str [49, 47, 50]], .tup [.str [51, 47, 49, 54], .int .i64 0])]
theorem TAL79_ok : FTabOK Tryz.prog 79 TAL79 := chkT_ok (E := ETA2) (n := 60) mixed0 ETA2_ok (canL_ok can1) (spec1_ok rfl) (by kernel_rfl)
def TAL82 : List (List V × V) := [([.bool false, .str [49], .str [50]], .tup [.str [49, 47, 50], .int .i64 0]),
  ([.bool false, .str [51], .str [56]], .tup [.str [51, 47, 56], .int .i64 0]),
  ([.bool false, .str [51], .str [49, 54]], .tup [.str [51, 47, 49, 54], .int .i64 0])]
theorem TAL82_ok : FTabOK Tryz.prog 82 TAL82 := chkT_ok (E := ETA2) (n := 60) mixed0 ETA2_ok (canL_ok can1) (spec1_ok rfl) (by kernel_rfl)
def TAL54 : List (List V × V) := [([.str [49]], .tup [.bool false, .str [49], .str [49], .bool true]),
  ([.str [48]], .tup [.bool false, .str [48], .str [49], .bool true]),
  ([.str [49, 47, 50]], .tup [.bool false, .str [49], .str [50], .bool true]),
  ([.str [51, 47, 52]], .tup [.bool false, .str [51], .str [52], .bool true]),
  ([.str [51, 47, 49, 54]], .tup [.bool false, .str [51], .str [49, 54], .bool true]),
  ([.str [51, 47, 56]], .tup [.bool false, .str [51], .str [56], .bool true])]
theorem TAL54_ok : FTabOK Tryz.prog 54 TAL54 := chkT_ok (E := ETA2) (n := 60) mixed0 ETA2_ok (canL_ok can1) (spec1_ok rfl) (by kernel_rfl)
def TTA3 : Tab := [(69, TAL69), (70, TAL70), (72, TAL72), (145, TAL145), (76, TAL76), (79, TAL79), (82, TAL82), (54, TAL54)]
theorem TTA3_ok : TabOK Tryz.prog TTA3 := TabOK.cons TAL69_ok (TabOK.cons TAL70_ok (TabOK.cons TAL72_ok (TabOK.cons TAL145_ok (TabOK.cons TAL76_ok (TabOK.cons TAL79_ok (TabOK.cons TAL82_ok (TabOK.cons TAL54_ok (TabOK.nil))))))))
noncomputable def ETA3 : ECfg := withTab ETA2 TTA3
theorem ETA3_ok : ∀ f args r, ETA3.Γ f args = some r → PCall Tryz.prog f args r := withTab_ok ETA2_ok TTA3_ok
end Go.Proofs
