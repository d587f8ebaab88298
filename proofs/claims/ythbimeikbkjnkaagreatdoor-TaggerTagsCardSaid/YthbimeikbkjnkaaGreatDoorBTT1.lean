/- Calls that have been run (laid by program): level 1. -/
import Derived.Test.YthbimeikbkjnkaaGreatDoorBTgRef
import Derived.KernelRfl
set_option linter.all false
namespace Go.Proofs
open Go.Ab
def TAL115:List (List V×V):=[([.str [48],.str [49]],.tup [.str [48],.int .i64 0]),
 ([.str [49],.str [49]],.tup [.str [49],.int .i64 0]),
 ([.str [48],.str [52]],.tup [.str [48],.int .i64 0]),
 ([.str [49],.str [52]],.tup [.str [52],.int .i64 0]),
 ([.str [48],.str [50]],.tup [.str [48],.int .i64 0]),
 ([.str [49],.str [50]],.tup [.str [50],.int .i64 0]),
 ([.str [51],.str [49]],.tup [.str [51],.int .i64 0]),
 ([.str [49],.str [48]],.tup [.str [48],.int .i64 0]),
 ([.str [50],.str [49]],.tup [.str [50],.int .i64 0]),
 ([.str [49],.str [51]],.tup [.str [51],.int .i64 0]),
 ([.str [52],.str [52]],.tup [.str [49,54],.int .i64 0]),
 ([.str [48],.str [51]],.tup [.str [48],.int .i64 0]),
 ([.str [49],.str [49,54]],.tup [.str [49,54],.int .i64 0]),
 ([.str [50],.str [52]],.tup [.str [56],.int .i64 0]),
 ([.str [49],.str [56]],.tup [.str [56],.int .i64 0]),
 ([.str [48],.str [56]],.tup [.str [48],.int .i64 0]),
 ([.str [48],.str [48]],.tup [.str [48],.int .i64 0]),
 ([.str [52],.str [49]],.tup [.str [52],.int .i64 0]),
 ([.str [56],.str [52]],.tup [.str [51,50],.int .i64 0]),
 ([.str [48],.str [51,50]],.tup [.str [48],.int .i64 0]),
 ([.str [56],.str [49]],.tup [.str [56],.int .i64 0]),
 ([.str [51,50],.str [49]],.tup [.str [51,50],.int .i64 0]),
 ([.str [56],.str [50]],.tup [.str [49,54],.int .i64 0]),
 ([.str [48],.str [49,54]],.tup [.str [48],.int .i64 0]),
 ([.str [51],.str [48]],.tup [.str [48],.int .i64 0]),
 ([.str [56],.str [49,54]],.tup [.str [49,50,56],.int .i64 0]),
 ([.str [48],.str [49,50,56]],.tup [.str [48],.int .i64 0]),
 ([.str [49,50,56],.str [50]],.tup [.str [50,53,54],.int .i64 0]),
 ([.str [48],.str [50,53,54]],.tup [.str [48],.int .i64 0]),
 ([.str [49],.str [49,50,56]],.tup [.str [49,50,56],.int .i64 0]),
 ([.str [49],.str [50,53,54]],.tup [.str [50,53,54],.int .i64 0])]
theorem zAE:FTabOK Tryz.prog 115 TAL115:=zay (E:=ETA0) (n:=60) za4 zcz (zaz can1) (zaa rfl) (by kernel_rfl)
def TAL156:List (List V×V):=[([.str [48],.str [48]],.tup [.str [48],.int .i64 0]),
 ([.str [48],.str [51]],.tup [.str [51],.int .i64 0])]
theorem zAv:FTabOK Tryz.prog 156 TAL156:=zay (E:=ETA0) (n:=60) za4 zcz (zaz can1) (zaa rfl) (by kernel_rfl)
def TAL157:List (List V×V):=[([.str [48],.str [48]],.int .i64 0),
 ([.str [48],.str [49]],.int .i64 (-1)),
 ([.str [49],.str [48]],.int .i64 1),
 ([.str [49],.str [49]],.int .i64 0),
 ([.str [49],.str [52]],.int .i64 (-1)),
 ([.str [49],.str [50]],.int .i64 (-1)),
 ([.str [51],.str [48]],.int .i64 1),
 ([.str [51],.str [52]],.int .i64 (-1)),
 ([.str [48],.str [51]],.int .i64 (-1))]
theorem zAu:FTabOK Tryz.prog 157 TAL157:=zay (E:=ETA0) (n:=60) za4 zcz (zaz can1) (zaa rfl) (by kernel_rfl)
def TAL158:List (List V×V):=[([.str [48],.str [48]],.tup [.str [48],.int .i64 0]),
 ([.str [49],.str [48]],.tup [.str [49],.int .i64 0]),
 ([.str [49],.str [49]],.tup [.str [48],.int .i64 0]),
 ([.str [52],.str [49]],.tup [.str [51],.int .i64 0]),
 ([.str [50],.str [49]],.tup [.str [49],.int .i64 0]),
 ([.str [51],.str [48]],.tup [.str [51],.int .i64 0]),
 ([.str [52],.str [51]],.tup [.str [49],.int .i64 0])]
theorem zAt:FTabOK Tryz.prog 158 TAL158:=zay (E:=ETA0) (n:=60) za4 zcz (zaz can1) (zaa rfl) (by kernel_rfl)
def TAL148:List (List V×V):=[([.str [48],.str [49]],.tup [.str [49],.int .i64 0]),
 ([.str [49],.str [49]],.tup [.str [49],.int .i64 0]),
 ([.str [49],.str [52]],.tup [.str [49],.int .i64 0]),
 ([.str [49],.str [50]],.tup [.str [49],.int .i64 0]),
 ([.str [51],.str [52]],.tup [.str [49],.int .i64 0]),
 ([.str [48],.str [50]],.tup [.str [50],.int .i64 0]),
 ([.str [51],.str [49,54]],.tup [.str [49],.int .i64 0]),
 ([.str [48],.str [49,54]],.tup [.str [49,54],.int .i64 0]),
 ([.str [49],.str [56]],.tup [.str [49],.int .i64 0]),
 ([.str [49],.str [51,50]],.tup [.str [49],.int .i64 0]),
 ([.str [48],.str [52]],.tup [.str [52],.int .i64 0]),
 ([.str [48],.str [56]],.tup [.str [56],.int .i64 0]),
 ([.str [48],.str [51,50]],.tup [.str [51,50],.int .i64 0]),
 ([.str [51],.str [56]],.tup [.str [49],.int .i64 0]),
 ([.str [49],.str [49,54]],.tup [.str [49],.int .i64 0]),
 ([.str [51],.str [49,50,56]],.tup [.str [49],.int .i64 0]),
 ([.str [51],.str [50,53,54]],.tup [.str [49],.int .i64 0])]
theorem zAA:FTabOK Tryz.prog 148 TAL148:=zay (E:=ETA0) (n:=60) za4 zcz (zaz can1) (zaa rfl) (by kernel_rfl)
def TAL181:List (List V×V):=[([.str [48],.str [50]],.tup [.str [48],.str [48],.int .i64 0]),
 ([.str [50],.str [50]],.tup [.str [49],.str [48],.int .i64 0]),
 ([.str [48],.str [49]],.tup [.str [48],.str [48],.int .i64 0]),
 ([.str [49],.str [49]],.tup [.str [49],.str [48],.int .i64 0]),
 ([.str [51],.str [49]],.tup [.str [51],.str [48],.int .i64 0]),
 ([.str [49,54],.str [49]],.tup [.str [49,54],.str [48],.int .i64 0]),
 ([.str [48],.str [49,54]],.tup [.str [48],.str [48],.int .i64 0]),
 ([.str [49,54],.str [49,54]],.tup [.str [49],.str [48],.int .i64 0]),
 ([.str [56],.str [49]],.tup [.str [56],.str [48],.int .i64 0]),
 ([.str [52],.str [49]],.tup [.str [52],.str [48],.int .i64 0]),
 ([.str [51,50],.str [49]],.tup [.str [51,50],.str [48],.int .i64 0]),
 ([.str [48],.str [52]],.tup [.str [48],.str [48],.int .i64 0]),
 ([.str [52],.str [52]],.tup [.str [49],.str [48],.int .i64 0]),
 ([.str [48],.str [56]],.tup [.str [48],.str [48],.int .i64 0]),
 ([.str [56],.str [56]],.tup [.str [49],.str [48],.int .i64 0]),
 ([.str [48],.str [51,50]],.tup [.str [48],.str [48],.int .i64 0]),
 ([.str [51,50],.str [51,50]],.tup [.str [49],.str [48],.int .i64 0]),
 ([.str [50],.str [49]],.tup [.str [50],.str [48],.int .i64 0]),
 ([.str [49,50,56],.str [49]],.tup [.str [49,50,56],.str [48],.int .i64 0]),
 ([.str [50,53,54],.str [49]],.tup [.str [50,53,54],.str [48],.int .i64 0])]
theorem zAs:FTabOK Tryz.prog 181 TAL181:=zay (E:=ETA0) (n:=60) za4 zcz (zaz can1) (zaa rfl) (by kernel_rfl)
def TAL89:List (List V×V):=[([.str [49],.str [49]],.tup [.str [49],.int .i64 0]),
 ([.str [48],.str [49]],.tup [.str [48],.int .i64 0]),
 ([.str [48],.str [50]],.tup [.str [48],.int .i64 0]),
 ([.str [51],.str [49]],.tup [.str [51],.int .i64 0]),
 ([.str [48],.str [52]],.tup [.str [48],.int .i64 0]),
 ([.str [48],.str [49,54]],.tup [.str [48],.int .i64 0]),
 ([.str [49],.str [50]],.tup [.str [50],.int .i64 0]),
 ([.str [49],.str [51]],.tup [.str [51],.int .i64 0]),
 ([.str [50],.str [52]],.tup [.str [56],.int .i64 0]),
 ([.str [48],.str [56]],.tup [.str [48],.int .i64 0]),
 ([.str [56],.str [50]],.tup [.str [49,54],.int .i64 0])]
theorem TAL89_ok:FTabOK Tryz.prog 89 TAL89:=zay (E:=ETA0) (n:=60) za4 zcz (zaz can1) (zaa rfl) (by kernel_rfl)
def TAL88:List (List V×V):=[([.str [49],.str [48]],.tup [.str [49],.int .i64 0]),
 ([.str [51],.str [48]],.tup [.str [51],.int .i64 0]),
 ([.str [48],.str [48]],.tup [.str [48],.int .i64 0])]
theorem TAL88_ok:FTabOK Tryz.prog 88 TAL88:=zay (E:=ETA0) (n:=60) za4 zcz (zaz can1) (zaa rfl) (by kernel_rfl)
def TAL87:List (List V×V):=[([.str [49],.str [48]],.int .i64 1),
 ([.str [51],.str [48]],.int .i64 1),
 ([.str [48],.str [48]],.int .i64 0),
 ([.str [48],.str [49]],.int .i64 (-1)),
 ([.str [48],.str [51]],.int .i64 (-1))]
theorem TAL87_ok:FTabOK Tryz.prog 87 TAL87:=zay (E:=ETA0) (n:=60) za4 zcz (zaz can1) (zaa rfl) (by kernel_rfl)
def TAL129:List (List V×V):=[([.str [49],.str [49]],.tup [.str [49],.str [48],.int .i64 0]),
 ([.str [48],.str [49]],.tup [.str [48],.str [48],.int .i64 0]),
 ([.str [49],.str [50]],.tup [.str [48],.str [49],.int .i64 0]),
 ([.str [50],.str [49]],.tup [.str [50],.str [48],.int .i64 0]),
 ([.str [51],.str [52]],.tup [.str [48],.str [51],.int .i64 0]),
 ([.str [52],.str [51]],.tup [.str [49],.str [49],.int .i64 0]),
 ([.str [51],.str [49]],.tup [.str [51],.str [48],.int .i64 0]),
 ([.str [51],.str [49,54]],.tup [.str [48],.str [51],.int .i64 0]),
 ([.str [49,54],.str [51]],.tup [.str [53],.str [49],.int .i64 0]),
 ([.str [51],.str [56]],.tup [.str [48],.str [51],.int .i64 0]),
 ([.str [56],.str [51]],.tup [.str [50],.str [50],.int .i64 0]),
 ([.str [51],.str [50]],.tup [.str [49],.str [49],.int .i64 0]),
 ([.str [56],.str [49]],.tup [.str [56],.str [48],.int .i64 0]),
 ([.str [49,54],.str [49]],.tup [.str [49,54],.str [48],.int .i64 0])]
theorem zAC:FTabOK Tryz.prog 129 TAL129:=zay (E:=ETA0) (n:=60) za4 zcz (zaz can1) (zaa rfl) (by kernel_rfl)
def TTA1:Tab:=[(115,TAL115),(156,TAL156),(157,TAL157),(158,TAL158),(148,TAL148),(181,TAL181),(89,TAL89),(88,TAL88),(87,TAL87),(129,TAL129)]
theorem TTA1_ok:TabOK Tryz.prog TTA1:=TabOK.cons zAE (TabOK.cons zAv (TabOK.cons zAu (TabOK.cons zAt (TabOK.cons zAA (TabOK.cons zAs (TabOK.cons TAL89_ok (TabOK.cons TAL88_ok (TabOK.cons TAL87_ok (TabOK.cons zAC (TabOK.nil))))))))))
noncomputable def ETA1:ECfg:=zgN ETA0 TTA1
theorem zpC:∀ f args r,ETA1.Γ f args=some r→PCall Tryz.prog f args r:=zd7 zcz TTA1_ok
end Go.Proofs

namespace Go.Proofs
open Go.Ab
def TAL85:List (List V×V):=[([.str [49],.str [49]],.tup [.str [49],.int .i64 0]),
 ([.str [48],.str [49]],.tup [.str [49],.int .i64 0]),
 ([.str [49],.str [50]],.tup [.str [49],.int .i64 0]),
 ([.str [51],.str [52]],.tup [.str [49],.int .i64 0]),
 ([.str [51],.str [49,54]],.tup [.str [49],.int .i64 0]),
 ([.str [51],.str [56]],.tup [.str [49],.int .i64 0])]
theorem TAL85_ok:FTabOK Tryz.prog 85 TAL85:=zay (E:=ETA1) (n:=60) za4 zpC (zaz can1) (zaa rfl) (by kernel_rfl)
def TAL149:List (List V×V):=[([.str [48],.str [50]],.str [48]),
 ([.str [50],.str [50]],.str [49]),
 ([.str [48],.str [49]],.str [48]),
 ([.str [49],.str [49]],.str [49]),
 ([.str [51],.str [49]],.str [51]),
 ([.str [49,54],.str [49]],.str [49,54]),
 ([.str [48],.str [49,54]],.str [48]),
 ([.str [49,54],.str [49,54]],.str [49]),
 ([.str [56],.str [49]],.str [56]),
 ([.str [52],.str [49]],.str [52]),
 ([.str [51,50],.str [49]],.str [51,50]),
 ([.str [48],.str [52]],.str [48]),
 ([.str [52],.str [52]],.str [49]),
 ([.str [48],.str [56]],.str [48]),
 ([.str [56],.str [56]],.str [49]),
 ([.str [48],.str [51,50]],.str [48]),
 ([.str [51,50],.str [51,50]],.str [49]),
 ([.str [50],.str [49]],.str [50]),
 ([.str [49,50,56],.str [49]],.str [49,50,56]),
 ([.str [50,53,54],.str [49]],.str [50,53,54])]
theorem zAz:FTabOK Tryz.prog 149 TAL149:=zay (E:=ETA1) (n:=60) za4 zpC (zaz can1) (zaa rfl) (by kernel_rfl)
def TTA2:Tab:=[(85,TAL85),(149,TAL149)]
theorem TTA2_ok:TabOK Tryz.prog TTA2:=TabOK.cons TAL85_ok (TabOK.cons zAz (TabOK.nil))
noncomputable def ETA2:ECfg:=zgN ETA1 TTA2
theorem zdE:∀ f args r,ETA2.Γ f args=some r→PCall Tryz.prog f args r:=zd7 zpC TTA2_ok
end Go.Proofs

namespace Go.Proofs
open Go.Ab
def TAL69:List (List V×V):=[([.str [49,47,50],.str [48]],.tup [.str [48],.int .i64 0]),
 ([.str [49],.str [48]],.tup [.str [48],.int .i64 0]),
 ([.str [49,47,52],.str [51,47,52]],.tup [.str [51,47,49,54],.int .i64 0]),
 ([.str [48],.str [51,47,49,54]],.tup [.str [48],.int .i64 0]),
 ([.str [48],.str [49,47,50]],.tup [.str [48],.int .i64 0]),
 ([.str [49,47,50],.str [49,47,52]],.tup [.str [49,47,56],.int .i64 0]),
 ([.str [49],.str [49,47,56]],.tup [.str [49,47,56],.int .i64 0]),
 ([.str [48],.str [49]],.tup [.str [48],.int .i64 0]),
 ([.str [48],.str [48]],.tup [.str [48],.int .i64 0]),
 ([.str [49,47,52],.str [49]],.tup [.str [49,47,52],.int .i64 0]),
 ([.str [49,47,56],.str [49,47,52]],.tup [.str [49,47,51,50],.int .i64 0]),
 ([.str [49,47,52],.str [48]],.tup [.str [48],.int .i64 0]),
 ([.str [49,47,56],.str [48]],.tup [.str [48],.int .i64 0]),
 ([.str [49,47,51,50],.str [48]],.tup [.str [48],.int .i64 0]),
 ([.str [49,47,50],.str [51,47,52]],.tup [.str [51,47,56],.int .i64 0]),
 ([.str [49],.str [51,47,56]],.tup [.str [51,47,56],.int .i64 0]),
 ([.str [51,47,56],.str [49,47,50]],.tup [.str [51,47,49,54],.int .i64 0]),
 ([.str [49,47,50],.str [49]],.tup [.str [49,47,50],.int .i64 0]),
 ([.str [49],.str [49,47,50]],.tup [.str [49,47,50],.int .i64 0]),
 ([.str [49],.str [51,47,52]],.tup [.str [51,47,52],.int .i64 0]),
 ([.str [51,47,56],.str [48]],.tup [.str [48],.int .i64 0]),
 ([.str [49],.str [49,47,52]],.tup [.str [49,47,52],.int .i64 0]),
 ([.str [48],.str [49,47,52]],.tup [.str [48],.int .i64 0]),
 ([.str [49,47,52],.str [49,47,52]],.tup [.str [49,47,49,54],.int .i64 0]),
 ([.str [51,47,56],.str [49,47,49,54]],.tup [.str [51,47,49,50,56],.int .i64 0]),
 ([.str [51,47,49,50,56],.str [49,47,50]],.tup [.str [51,47,50,53,54],.int .i64 0])]
theorem TAL69_ok:FTabOK Tryz.prog 69 TAL69:=zay (E:=ETA2) (n:=60) za4 zdE (zaz can1) (zaa rfl) (by kernel_rfl)
def TAL70:List (List V×V):=[([.str [48],.str [48]],.int .i64 0),
 ([.str [48],.str [49]],.int .i64 (-1)),
 ([.str [49],.str [48]],.int .i64 1),
 ([.str [49],.str [49]],.int .i64 0),
 ([.str [49,47,52],.str [48]],.int .i64 1),
 ([.str [49,47,52],.str [49]],.int .i64 (-1)),
 ([.str [49,47,50],.str [48]],.int .i64 1),
 ([.str [49,47,50],.str [49]],.int .i64 (-1)),
 ([.str [51,47,52],.str [48]],.int .i64 1),
 ([.str [51,47,52],.str [49]],.int .i64 (-1)),
 ([.str [48],.str [49,47,56]],.int .i64 (-1)),
 ([.str [48],.str [49,47,51,50]],.int .i64 (-1)),
 ([.str [48],.str [49,47,50]],.int .i64 (-1)),
 ([.str [48],.str [51,47,56]],.int .i64 (-1)),
 ([.str [51,47,56],.str [48]],.int .i64 1),
 ([.str [48],.str [51,47,49,54]],.int .i64 (-1)),
 ([.str [48],.str [51,47,49,50,56]],.int .i64 (-1)),
 ([.str [48],.str [51,47,50,53,54]],.int .i64 (-1))]
theorem TAL70_ok:FTabOK Tryz.prog 70 TAL70:=zay (E:=ETA2) (n:=60) za4 zdE (zaz can1) (zaa rfl) (by kernel_rfl)
def TAL72:List (List V×V):=[([.str [48],.str [48]],.tup [.str [48],.int .i64 0]),
 ([.str [48],.str [51,47,56]],.tup [.str [51,47,56],.int .i64 0]),
 ([.str [48],.str [51,47,49,54]],.tup [.str [51,47,49,54],.int .i64 0]),
 ([.str [48],.str [51,47,49,50,56]],.tup [.str [51,47,49,50,56],.int .i64 0]),
 ([.str [48],.str [51,47,50,53,54]],.tup [.str [51,47,50,53,54],.int .i64 0])]
theorem TAL72_ok:FTabOK Tryz.prog 72 TAL72:=zay (E:=ETA2) (n:=60) za4 zdE (zaz can1) (zaa rfl) (by kernel_rfl)
def TAL145:List (List V×V):=[([.str [48]],.bool true),
 ([.str [49]],.bool true),
 ([.str [49,47,52]],.bool true),
 ([.str [49,47,50]],.bool true),
 ([.str [51,47,52]],.bool true)]
theorem zAB:FTabOK Tryz.prog 145 TAL145:=zay (E:=ETA2) (n:=60) za4 zdE (zaz can1) (zaa rfl) (by kernel_rfl)
def TAL76:List (List V×V):=[([.str [49]],.bool true),
 ([.str [49,47,50]],.bool true),
 ([.str [51,47,52]],.bool true),
 ([.str [51,47,49,54]],.bool true),
 ([.str [48]],.bool true),
 ([.str [51,47,56]],.bool true)]
theorem TAL76_ok:FTabOK Tryz.prog 76 TAL76:=zay (E:=ETA2) (n:=60) za4 zdE (zaz can1) (zaa rfl) (by kernel_rfl)
def TAL79:List (List V×V):=[([.str [49],.str [49,47,50]],.tup [.str [49,47,50],.int .i64 0]),
 ([.str [49,47,50],.str [51,47,52]],.tup [.str [51,47,56],.int .i64 0]),
 ([.str [51,47,56],.str [49,47,50]],.tup [.str [51,47,49,54],.int .i64 0])]
theorem TAL79_ok:FTabOK Tryz.prog 79 TAL79:=zay (E:=ETA2) (n:=60) za4 zdE (zaz can1) (zaa rfl) (by kernel_rfl)
def TAL82:List (List V×V):=[([.bool false,.str [49],.str [50]],.tup [.str [49,47,50],.int .i64 0]),
 ([.bool false,.str [51],.str [56]],.tup [.str [51,47,56],.int .i64 0]),
 ([.bool false,.str [51],.str [49,54]],.tup [.str [51,47,49,54],.int .i64 0])]
theorem TAL82_ok:FTabOK Tryz.prog 82 TAL82:=zay (E:=ETA2) (n:=60) za4 zdE (zaz can1) (zaa rfl) (by kernel_rfl)
def TAL54:List (List V×V):=[([.str [49]],.tup [.bool false,.str [49],.str [49],.bool true]),
 ([.str [48]],.tup [.bool false,.str [48],.str [49],.bool true]),
 ([.str [49,47,50]],.tup [.bool false,.str [49],.str [50],.bool true]),
 ([.str [51,47,52]],.tup [.bool false,.str [51],.str [52],.bool true]),
 ([.str [51,47,49,54]],.tup [.bool false,.str [51],.str [49,54],.bool true]),
 ([.str [51,47,56]],.tup [.bool false,.str [51],.str [56],.bool true])]
theorem TAL54_ok:FTabOK Tryz.prog 54 TAL54:=zay (E:=ETA2) (n:=60) za4 zdE (zaz can1) (zaa rfl) (by kernel_rfl)
def TTA3:Tab:=[(69,TAL69),(70,TAL70),(72,TAL72),(145,TAL145),(76,TAL76),(79,TAL79),(82,TAL82),(54,TAL54)]
theorem TTA3_ok:TabOK Tryz.prog TTA3:=TabOK.cons TAL69_ok (TabOK.cons TAL70_ok (TabOK.cons TAL72_ok (TabOK.cons zAB (TabOK.cons TAL76_ok (TabOK.cons TAL79_ok (TabOK.cons TAL82_ok (TabOK.cons TAL54_ok (TabOK.nil))))))))
noncomputable def ETA3:ECfg:=zgN ETA2 TTA3
theorem ETA3_ok:∀ f args r,ETA3.Γ f args=some r→PCall Tryz.prog f args r:=zd7 zdE TTA3_ok
end Go.Proofs

namespace Go.Proofs
open Go.Ab
theorem zz7:eAns ETA3 Tryz.prog 60 15 []=some (.bool true):=by kernel_rfl
theorem zur:PCall Tryz.prog 15 [] (.ret (.bool true)):=zxP za4 ETA3_ok (zaz can1) (zaa rfl) (fun x h=>by cases h) zz7
end Go.Proofs
