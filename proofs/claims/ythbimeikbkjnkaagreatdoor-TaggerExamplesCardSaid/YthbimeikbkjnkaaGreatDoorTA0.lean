/- Calls that have been run (laid by program): level 0. -/
import Derived.Test.YthbimeikbkjnkaaGreatDoorR1Ev
import Derived.Test.YthbimeikbkjnkaaGreatDoorAbTab
import Derived.KernelRfl
namespace Go.Proofs
open Go.Ab

def TAL150 : List (List V × V) := [([.str [48]], .bool true),
  ([.str [49]], .bool true),
  ([.str [52]], .bool true),
  ([.str [50]], .bool true),
  ([.str [51]], .bool true),
  ([.str [49, 54]], .bool true),
  ([.str [56]], .bool true),
  ([.str [51, 50]], .bool true),
  ([.str [49, 50, 56]], .bool true),
  ([.str [50, 53, 54]], .bool true)]
theorem TAL150_ok : FTabOK Tryz.prog 150 TAL150 := chkT_ok (E := E1) (n := 60) mixed0 Γ1_ok (canL_ok can1) (spec1_ok rfl) (by kernel_rfl)
def TAL154 : List (List V × V) := [([.str [48], .str [45]], .tup [.str [48], .bool false]),
  ([.str [49], .str [45]], .tup [.str [49], .bool false]),
  ([.str [49, 47, 52], .str [45]], .tup [.str [49, 47, 52], .bool false]),
  ([.str [49, 47, 50], .str [45]], .tup [.str [49, 47, 50], .bool false]),
  ([.str [51, 47, 52], .str [45]], .tup [.str [51, 47, 52], .bool false]),
  ([.str [51, 47, 49, 54], .str [45]], .tup [.str [51, 47, 49, 54], .bool false]),
  ([.str [49, 47, 56], .str [45]], .tup [.str [49, 47, 56], .bool false]),
  ([.str [49, 47, 51, 50], .str [45]], .tup [.str [49, 47, 51, 50], .bool false]),
  ([.str [51, 47, 56], .str [45]], .tup [.str [51, 47, 56], .bool false]),
  ([.str [49, 47, 49, 54], .str [45]], .tup [.str [49, 47, 49, 54], .bool false]),
  ([.str [51, 47, 49, 50, 56], .str [45]], .tup [.str [51, 47, 49, 50, 56], .bool false]),
  ([.str [51, 47, 50, 53, 54], .str [45]], .tup [.str [51, 47, 50, 53, 54], .bool false])]
theorem TAL154_ok : FTabOK Tryz.prog 154 TAL154 := chkT_ok (E := E1) (n := 60) mixed0 Γ1_ok (canL_ok can1) (spec1_ok rfl) (by kernel_rfl)
def TAL155 : List (List V × V) := [([.str [48], .str [47]], .tup [.str [48], .str [], .bool false]),
  ([.str [49], .str [47]], .tup [.str [49], .str [], .bool false]),
  ([.str [49, 47, 52], .str [47]], .tup [.str [49], .str [52], .bool true]),
  ([.str [49, 47, 50], .str [47]], .tup [.str [49], .str [50], .bool true]),
  ([.str [51, 47, 52], .str [47]], .tup [.str [51], .str [52], .bool true]),
  ([.str [51, 47, 49, 54], .str [47]], .tup [.str [51], .str [49, 54], .bool true]),
  ([.str [49, 47, 56], .str [47]], .tup [.str [49], .str [56], .bool true]),
  ([.str [49, 47, 51, 50], .str [47]], .tup [.str [49], .str [51, 50], .bool true]),
  ([.str [51, 47, 56], .str [47]], .tup [.str [51], .str [56], .bool true]),
  ([.str [49, 47, 49, 54], .str [47]], .tup [.str [49], .str [49, 54], .bool true]),
  ([.str [51, 47, 49, 50, 56], .str [47]], .tup [.str [51], .str [49, 50, 56], .bool true]),
  ([.str [51, 47, 50, 53, 54], .str [47]], .tup [.str [51], .str [50, 53, 54], .bool true])]
theorem TAL155_ok : FTabOK Tryz.prog 155 TAL155 := chkT_ok (E := E1) (n := 60) mixed0 Γ1_ok (canL_ok can1) (spec1_ok rfl) (by kernel_rfl)
def TAL128 : List (List V × V) := [([.str [49]], .bool true),
  ([.str [48]], .bool true),
  ([.str [50]], .bool true),
  ([.str [51]], .bool true),
  ([.str [52]], .bool true),
  ([.str [49, 54]], .bool true),
  ([.str [56]], .bool true)]
theorem TAL128_ok : FTabOK Tryz.prog 128 TAL128 := chkT_ok (E := E1) (n := 60) mixed0 Γ1_ok (canL_ok can1) (spec1_ok rfl) (by kernel_rfl)
def TTA0 : Tab := [(150, TAL150), (154, TAL154), (155, TAL155), (128, TAL128)]
theorem TTA0_ok : TabOK Tryz.prog TTA0 := TabOK.cons TAL150_ok (TabOK.cons TAL154_ok (TabOK.cons TAL155_ok (TabOK.cons TAL128_ok (TabOK.nil))))
noncomputable def ETA0 : ECfg := withTab E1 TTA0
theorem ETA0_ok : ∀ f args r, ETA0.Γ f args = some r → PCall Tryz.prog f args r := withTab_ok Γ1_ok TTA0_ok
end Go.Proofs
