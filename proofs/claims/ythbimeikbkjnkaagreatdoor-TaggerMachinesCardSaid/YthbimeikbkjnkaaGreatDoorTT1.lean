/- Calls that have been run (laid by program): level 1. -/
import Derived.Test.YthbimeikbkjnkaaGreatDoorT5
import Derived.KernelRfl
set_option linter.all false
set_option maxHeartbeats 16000000
set_option maxRecDepth 100000
namespace Go.Proofs
open Tryz Go.Ab
def TAL115:List (List V×V):=[([.str [48],.str [49]],.tup [.str [48],.int .i64 0]),
 ([.str [49],.str [49]],.tup [.str [49],.int .i64 0]),
 ([.str [48],.str [52]],.tup [.str [48],.int .i64 0]),
 ([.str [49],.str [52]],.tup [.str [52],.int .i64 0]),
 ([.str [48],.str [50]],.tup [.str [48],.int .i64 0]),
 ([.str [49],.str [50]],.tup [.str [50],.int .i64 0]),
 ([.str [51],.str [49]],.tup [.str [51],.int .i64 0]),
 ([.str [49],.str [48]],.tup [.str [48],.int .i64 0]),
 ([.str [50],.str [49]],.tup [.str [50],.int .i64 0]),
 ([.str [49],.str [51]],.tup [.str [51],.int .i64 0]),
 ([.str [52],.str [52]],.tup [.str [49,54],.int .i64 0]),
 ([.str [48],.str [51]],.tup [.str [48],.int .i64 0]),
 ([.str [49],.str [49,54]],.tup [.str [49,54],.int .i64 0]),
 ([.str [50],.str [52]],.tup [.str [56],.int .i64 0]),
 ([.str [49],.str [56]],.tup [.str [56],.int .i64 0]),
 ([.str [48],.str [56]],.tup [.str [48],.int .i64 0]),
 ([.str [48],.str [48]],.tup [.str [48],.int .i64 0]),
 ([.str [52],.str [49]],.tup [.str [52],.int .i64 0]),
 ([.str [56],.str [52]],.tup [.str [51,50],.int .i64 0]),
 ([.str [48],.str [51,50]],.tup [.str [48],.int .i64 0]),
 ([.str [56],.str [49]],.tup [.str [56],.int .i64 0]),
 ([.str [51,50],.str [49]],.tup [.str [51,50],.int .i64 0]),
 ([.str [56],.str [50]],.tup [.str [49,54],.int .i64 0]),
 ([.str [48],.str [49,54]],.tup [.str [48],.int .i64 0]),
 ([.str [51],.str [48]],.tup [.str [48],.int .i64 0]),
 ([.str [56],.str [49,54]],.tup [.str [49,50,56],.int .i64 0]),
 ([.str [48],.str [49,50,56]],.tup [.str [48],.int .i64 0]),
 ([.str [49,50,56],.str [50]],.tup [.str [50,53,54],.int .i64 0]),
 ([.str [48],.str [50,53,54]],.tup [.str [48],.int .i64 0]),
 ([.str [49],.str [49,50,56]],.tup [.str [49,50,56],.int .i64 0]),
 ([.str [49],.str [50,53,54]],.tup [.str [50,53,54],.int .i64 0])]
theorem zCe:FTabOK prog 115 TAL115:=zaC (E:=ETA0) (n:=60) za2 zcQ (zau can1) (zac rfl) (by kernel_rfl)
def TAL156:List (List V×V):=[([.str [48],.str [48]],.tup [.str [48],.int .i64 0]),
 ([.str [48],.str [51]],.tup [.str [51],.int .i64 0])]
theorem zB5:FTabOK prog 156 TAL156:=zaC (E:=ETA0) (n:=60) za2 zcQ (zau can1) (zac rfl) (by kernel_rfl)
def TAL157:List (List V×V):=[([.str [48],.str [48]],.int .i64 0),
 ([.str [48],.str [49]],.int .i64 (-1)),
 ([.str [49],.str [48]],.int .i64 1),
 ([.str [49],.str [49]],.int .i64 0),
 ([.str [49],.str [52]],.int .i64 (-1)),
 ([.str [49],.str [50]],.int .i64 (-1)),
 ([.str [51],.str [48]],.int .i64 1),
 ([.str [51],.str [52]],.int .i64 (-1)),
 ([.str [48],.str [51]],.int .i64 (-1))]
theorem zB4:FTabOK prog 157 TAL157:=zaC (E:=ETA0) (n:=60) za2 zcQ (zau can1) (zac rfl) (by kernel_rfl)
def TAL158:List (List V×V):=[([.str [48],.str [48]],.tup [.str [48],.int .i64 0]),
 ([.str [49],.str [48]],.tup [.str [49],.int .i64 0]),
 ([.str [49],.str [49]],.tup [.str [48],.int .i64 0]),
 ([.str [52],.str [49]],.tup [.str [51],.int .i64 0]),
 ([.str [50],.str [49]],.tup [.str [49],.int .i64 0]),
 ([.str [51],.str [48]],.tup [.str [51],.int .i64 0]),
 ([.str [52],.str [51]],.tup [.str [49],.int .i64 0])]
theorem zB3:FTabOK prog 158 TAL158:=zaC (E:=ETA0) (n:=60) za2 zcQ (zau can1) (zac rfl) (by kernel_rfl)
def TAL148:List (List V×V):=[([.str [48],.str [49]],.tup [.str [49],.int .i64 0]),
 ([.str [49],.str [49]],.tup [.str [49],.int .i64 0]),
 ([.str [49],.str [52]],.tup [.str [49],.int .i64 0]),
 ([.str [49],.str [50]],.tup [.str [49],.int .i64 0]),
 ([.str [51],.str [52]],.tup [.str [49],.int .i64 0]),
 ([.str [48],.str [50]],.tup [.str [50],.int .i64 0]),
 ([.str [51],.str [49,54]],.tup [.str [49],.int .i64 0]),
 ([.str [48],.str [49,54]],.tup [.str [49,54],.int .i64 0]),
 ([.str [49],.str [56]],.tup [.str [49],.int .i64 0]),
 ([.str [49],.str [51,50]],.tup [.str [49],.int .i64 0]),
 ([.str [48],.str [52]],.tup [.str [52],.int .i64 0]),
 ([.str [48],.str [56]],.tup [.str [56],.int .i64 0]),
 ([.str [48],.str [51,50]],.tup [.str [51,50],.int .i64 0]),
 ([.str [51],.str [56]],.tup [.str [49],.int .i64 0]),
 ([.str [49],.str [49,54]],.tup [.str [49],.int .i64 0]),
 ([.str [51],.str [49,50,56]],.tup [.str [49],.int .i64 0]),
 ([.str [51],.str [50,53,54]],.tup [.str [49],.int .i64 0])]
theorem zCa:FTabOK prog 148 TAL148:=zaC (E:=ETA0) (n:=60) za2 zcQ (zau can1) (zac rfl) (by kernel_rfl)
def TAL181:List (List V×V):=[([.str [48],.str [50]],.tup [.str [48],.str [48],.int .i64 0]),
 ([.str [50],.str [50]],.tup [.str [49],.str [48],.int .i64 0]),
 ([.str [48],.str [49]],.tup [.str [48],.str [48],.int .i64 0]),
 ([.str [49],.str [49]],.tup [.str [49],.str [48],.int .i64 0]),
 ([.str [51],.str [49]],.tup [.str [51],.str [48],.int .i64 0]),
 ([.str [49,54],.str [49]],.tup [.str [49,54],.str [48],.int .i64 0]),
 ([.str [48],.str [49,54]],.tup [.str [48],.str [48],.int .i64 0]),
 ([.str [49,54],.str [49,54]],.tup [.str [49],.str [48],.int .i64 0]),
 ([.str [56],.str [49]],.tup [.str [56],.str [48],.int .i64 0]),
 ([.str [52],.str [49]],.tup [.str [52],.str [48],.int .i64 0]),
 ([.str [51,50],.str [49]],.tup [.str [51,50],.str [48],.int .i64 0]),
 ([.str [48],.str [52]],.tup [.str [48],.str [48],.int .i64 0]),
 ([.str [52],.str [52]],.tup [.str [49],.str [48],.int .i64 0]),
 ([.str [48],.str [56]],.tup [.str [48],.str [48],.int .i64 0]),
 ([.str [56],.str [56]],.tup [.str [49],.str [48],.int .i64 0]),
 ([.str [48],.str [51,50]],.tup [.str [48],.str [48],.int .i64 0]),
 ([.str [51,50],.str [51,50]],.tup [.str [49],.str [48],.int .i64 0]),
 ([.str [50],.str [49]],.tup [.str [50],.str [48],.int .i64 0]),
 ([.str [49,50,56],.str [49]],.tup [.str [49,50,56],.str [48],.int .i64 0]),
 ([.str [50,53,54],.str [49]],.tup [.str [50,53,54],.str [48],.int .i64 0])]
theorem zB2:FTabOK prog 181 TAL181:=zaC (E:=ETA0) (n:=60) za2 zcQ (zau can1) (zac rfl) (by kernel_rfl)
def TAL89:List (List V×V):=[([.str [49],.str [49]],.tup [.str [49],.int .i64 0]),
 ([.str [48],.str [49]],.tup [.str [48],.int .i64 0]),
 ([.str [48],.str [50]],.tup [.str [48],.int .i64 0]),
 ([.str [51],.str [49]],.tup [.str [51],.int .i64 0]),
 ([.str [48],.str [52]],.tup [.str [48],.int .i64 0]),
 ([.str [48],.str [49,54]],.tup [.str [48],.int .i64 0]),
 ([.str [49],.str [50]],.tup [.str [50],.int .i64 0]),
 ([.str [49],.str [51]],.tup [.str [51],.int .i64 0]),
 ([.str [50],.str [52]],.tup [.str [56],.int .i64 0]),
 ([.str [48],.str [56]],.tup [.str [48],.int .i64 0]),
 ([.str [56],.str [50]],.tup [.str [49,54],.int .i64 0])]
theorem TAL89_ok:FTabOK prog 89 TAL89:=zaC (E:=ETA0) (n:=60) za2 zcQ (zau can1) (zac rfl) (by kernel_rfl)
def TAL88:List (List V×V):=[([.str [49],.str [48]],.tup [.str [49],.int .i64 0]),
 ([.str [51],.str [48]],.tup [.str [51],.int .i64 0]),
 ([.str [48],.str [48]],.tup [.str [48],.int .i64 0])]
theorem TAL88_ok:FTabOK prog 88 TAL88:=zaC (E:=ETA0) (n:=60) za2 zcQ (zau can1) (zac rfl) (by kernel_rfl)
def TAL87:List (List V×V):=[([.str [49],.str [48]],.int .i64 1),
 ([.str [51],.str [48]],.int .i64 1),
 ([.str [48],.str [48]],.int .i64 0),
 ([.str [48],.str [49]],.int .i64 (-1)),
 ([.str [48],.str [51]],.int .i64 (-1))]
theorem TAL87_ok:FTabOK prog 87 TAL87:=zaC (E:=ETA0) (n:=60) za2 zcQ (zau can1) (zac rfl) (by kernel_rfl)
def TAL129:List (List V×V):=[([.str [49],.str [49]],.tup [.str [49],.str [48],.int .i64 0]),
 ([.str [48],.str [49]],.tup [.str [48],.str [48],.int .i64 0]),
 ([.str [49],.str [50]],.tup [.str [48],.str [49],.int .i64 0]),
 ([.str [50],.str [49]],.tup [.str [50],.str [48],.int .i64 0]),
 ([.str [51],.str [52]],.tup [.str [48],.str [51],.int .i64 0]),
 ([.str [52],.str [51]],.tup [.str [49],.str [49],.int .i64 0]),
 ([.str [51],.str [49]],.tup [.str [51],.str [48],.int .i64 0]),
 ([.str [51],.str [49,54]],.tup [.str [48],.str [51],.int .i64 0]),
 ([.str [49,54],.str [51]],.tup [.str [53],.str [49],.int .i64 0]),
 ([.str [51],.str [56]],.tup [.str [48],.str [51],.int .i64 0]),
 ([.str [56],.str [51]],.tup [.str [50],.str [50],.int .i64 0]),
 ([.str [51],.str [50]],.tup [.str [49],.str [49],.int .i64 0]),
 ([.str [56],.str [49]],.tup [.str [56],.str [48],.int .i64 0]),
 ([.str [49,54],.str [49]],.tup [.str [49,54],.str [48],.int .i64 0])]
theorem zCc:FTabOK prog 129 TAL129:=zaC (E:=ETA0) (n:=60) za2 zcQ (zau can1) (zac rfl) (by kernel_rfl)
def TTA1:Tab:=[(115,TAL115),(156,TAL156),(157,TAL157),(158,TAL158),(148,TAL148),(181,TAL181),(89,TAL89),(88,TAL88),(87,TAL87),(129,TAL129)]
theorem TTA1_ok:TabOK prog TTA1:=TabOK.cons zCe (TabOK.cons zB5 (TabOK.cons zB4 (TabOK.cons zB3 (TabOK.cons zCa (TabOK.cons zB2 (TabOK.cons TAL89_ok (TabOK.cons TAL88_ok (TabOK.cons TAL87_ok (TabOK.cons zCc (TabOK.nil))))))))))
noncomputable def ETA1:ECfg:=zhk ETA0 TTA1
theorem zqN:∀ f args r,ETA1.Γ f args=some r→PCall prog f args r:=zev zcQ TTA1_ok
def TAL85:List (List V×V):=[([.str [49],.str [49]],.tup [.str [49],.int .i64 0]),
 ([.str [48],.str [49]],.tup [.str [49],.int .i64 0]),
 ([.str [49],.str [50]],.tup [.str [49],.int .i64 0]),
 ([.str [51],.str [52]],.tup [.str [49],.int .i64 0]),
 ([.str [51],.str [49,54]],.tup [.str [49],.int .i64 0]),
 ([.str [51],.str [56]],.tup [.str [49],.int .i64 0])]
theorem TAL85_ok:FTabOK prog 85 TAL85:=zaC (E:=ETA1) (n:=60) za2 zqN (zau can1) (zac rfl) (by kernel_rfl)
def TAL149:List (List V×V):=[([.str [48],.str [50]],.str [48]),
 ([.str [50],.str [50]],.str [49]),
 ([.str [48],.str [49]],.str [48]),
 ([.str [49],.str [49]],.str [49]),
 ([.str [51],.str [49]],.str [51]),
 ([.str [49,54],.str [49]],.str [49,54]),
 ([.str [48],.str [49,54]],.str [48]),
 ([.str [49,54],.str [49,54]],.str [49]),
 ([.str [56],.str [49]],.str [56]),
 ([.str [52],.str [49]],.str [52]),
 ([.str [51,50],.str [49]],.str [51,50]),
 ([.str [48],.str [52]],.str [48]),
 ([.str [52],.str [52]],.str [49]),
 ([.str [48],.str [56]],.str [48]),
 ([.str [56],.str [56]],.str [49]),
 ([.str [48],.str [51,50]],.str [48]),
 ([.str [51,50],.str [51,50]],.str [49]),
 ([.str [50],.str [49]],.str [50]),
 ([.str [49,50,56],.str [49]],.str [49,50,56]),
 ([.str [50,53,54],.str [49]],.str [50,53,54])]
theorem zB9:FTabOK prog 149 TAL149:=zaC (E:=ETA1) (n:=60) za2 zqN (zau can1) (zac rfl) (by kernel_rfl)
def TTA2:Tab:=[(85,TAL85),(149,TAL149)]
theorem TTA2_ok:TabOK prog TTA2:=TabOK.cons TAL85_ok (TabOK.cons zB9 (TabOK.nil))
noncomputable def ETA2:ECfg:=zhk ETA1 TTA2
theorem zdT:∀ f args r,ETA2.Γ f args=some r→PCall prog f args r:=zev zqN TTA2_ok
def TAL69:List (List V×V):=[([.str [49,47,50],.str [48]],.tup [.str [48],.int .i64 0]),
 ([.str [49],.str [48]],.tup [.str [48],.int .i64 0]),
 ([.str [49,47,52],.str [51,47,52]],.tup [.str [51,47,49,54],.int .i64 0]),
 ([.str [48],.str [51,47,49,54]],.tup [.str [48],.int .i64 0]),
 ([.str [48],.str [49,47,50]],.tup [.str [48],.int .i64 0]),
 ([.str [49,47,50],.str [49,47,52]],.tup [.str [49,47,56],.int .i64 0]),
 ([.str [49],.str [49,47,56]],.tup [.str [49,47,56],.int .i64 0]),
 ([.str [48],.str [49]],.tup [.str [48],.int .i64 0]),
 ([.str [48],.str [48]],.tup [.str [48],.int .i64 0]),
 ([.str [49,47,52],.str [49]],.tup [.str [49,47,52],.int .i64 0]),
 ([.str [49,47,56],.str [49,47,52]],.tup [.str [49,47,51,50],.int .i64 0]),
 ([.str [49,47,52],.str [48]],.tup [.str [48],.int .i64 0]),
 ([.str [49,47,56],.str [48]],.tup [.str [48],.int .i64 0]),
 ([.str [49,47,51,50],.str [48]],.tup [.str [48],.int .i64 0]),
 ([.str [49,47,50],.str [51,47,52]],.tup [.str [51,47,56],.int .i64 0]),
 ([.str [49],.str [51,47,56]],.tup [.str [51,47,56],.int .i64 0]),
 ([.str [51,47,56],.str [49,47,50]],.tup [.str [51,47,49,54],.int .i64 0]),
 ([.str [49,47,50],.str [49]],.tup [.str [49,47,50],.int .i64 0]),
 ([.str [49],.str [49,47,50]],.tup [.str [49,47,50],.int .i64 0]),
 ([.str [49],.str [51,47,52]],.tup [.str [51,47,52],.int .i64 0]),
 ([.str [51,47,56],.str [48]],.tup [.str [48],.int .i64 0]),
 ([.str [49],.str [49,47,52]],.tup [.str [49,47,52],.int .i64 0]),
 ([.str [48],.str [49,47,52]],.tup [.str [48],.int .i64 0]),
 ([.str [49,47,52],.str [49,47,52]],.tup [.str [49,47,49,54],.int .i64 0]),
 ([.str [51,47,56],.str [49,47,49,54]],.tup [.str [51,47,49,50,56],.int .i64 0]),
 ([.str [51,47,49,50,56],.str [49,47,50]],.tup [.str [51,47,50,53,54],.int .i64 0])]
theorem TAL69_ok:FTabOK prog 69 TAL69:=zaC (E:=ETA2) (n:=60) za2 zdT (zau can1) (zac rfl) (by kernel_rfl)
def TAL70:List (List V×V):=[([.str [48],.str [48]],.int .i64 0),
 ([.str [48],.str [49]],.int .i64 (-1)),
 ([.str [49],.str [48]],.int .i64 1),
 ([.str [49],.str [49]],.int .i64 0),
 ([.str [49,47,52],.str [48]],.int .i64 1),
 ([.str [49,47,52],.str [49]],.int .i64 (-1)),
 ([.str [49,47,50],.str [48]],.int .i64 1),
 ([.str [49,47,50],.str [49]],.int .i64 (-1)),
 ([.str [51,47,52],.str [48]],.int .i64 1),
 ([.str [51,47,52],.str [49]],.int .i64 (-1)),
 ([.str [48],.str [49,47,56]],.int .i64 (-1)),
 ([.str [48],.str [49,47,51,50]],.int .i64 (-1)),
 ([.str [48],.str [49,47,50]],.int .i64 (-1)),
 ([.str [48],.str [51,47,56]],.int .i64 (-1)),
 ([.str [51,47,56],.str [48]],.int .i64 1),
 ([.str [48],.str [51,47,49,54]],.int .i64 (-1)),
 ([.str [48],.str [51,47,49,50,56]],.int .i64 (-1)),
 ([.str [48],.str [51,47,50,53,54]],.int .i64 (-1))]
theorem TAL70_ok:FTabOK prog 70 TAL70:=zaC (E:=ETA2) (n:=60) za2 zdT (zau can1) (zac rfl) (by kernel_rfl)
def TAL72:List (List V×V):=[([.str [48],.str [48]],.tup [.str [48],.int .i64 0]),
 ([.str [48],.str [51,47,56]],.tup [.str [51,47,56],.int .i64 0]),
 ([.str [48],.str [51,47,49,54]],.tup [.str [51,47,49,54],.int .i64 0]),
 ([.str [48],.str [51,47,49,50,56]],.tup [.str [51,47,49,50,56],.int .i64 0]),
 ([.str [48],.str [51,47,50,53,54]],.tup [.str [51,47,50,53,54],.int .i64 0])]
theorem TAL72_ok:FTabOK prog 72 TAL72:=zaC (E:=ETA2) (n:=60) za2 zdT (zau can1) (zac rfl) (by kernel_rfl)
def TAL145:List (List V×V):=[([.str [48]],.bool true),
 ([.str [49]],.bool true),
 ([.str [49,47,52]],.bool true),
 ([.str [49,47,50]],.bool true),
 ([.str [51,47,52]],.bool true)]
theorem zCb:FTabOK prog 145 TAL145:=zaC (E:=ETA2) (n:=60) za2 zdT (zau can1) (zac rfl) (by kernel_rfl)
def TAL76:List (List V×V):=[([.str [49]],.bool true),
 ([.str [49,47,50]],.bool true),
 ([.str [51,47,52]],.bool true),
 ([.str [51,47,49,54]],.bool true),
 ([.str [48]],.bool true),
 ([.str [51,47,56]],.bool true)]
theorem TAL76_ok:FTabOK prog 76 TAL76:=zaC (E:=ETA2) (n:=60) za2 zdT (zau can1) (zac rfl) (by kernel_rfl)
def TAL79:List (List V×V):=[([.str [49],.str [49,47,50]],.tup [.str [49,47,50],.int .i64 0]),
 ([.str [49,47,50],.str [51,47,52]],.tup [.str [51,47,56],.int .i64 0]),
 ([.str [51,47,56],.str [49,47,50]],.tup [.str [51,47,49,54],.int .i64 0])]
theorem TAL79_ok:FTabOK prog 79 TAL79:=zaC (E:=ETA2) (n:=60) za2 zdT (zau can1) (zac rfl) (by kernel_rfl)
def TAL82:List (List V×V):=[([.bool false,.str [49],.str [50]],.tup [.str [49,47,50],.int .i64 0]),
 ([.bool false,.str [51],.str [56]],.tup [.str [51,47,56],.int .i64 0]),
 ([.bool false,.str [51],.str [49,54]],.tup [.str [51,47,49,54],.int .i64 0])]
theorem TAL82_ok:FTabOK prog 82 TAL82:=zaC (E:=ETA2) (n:=60) za2 zdT (zau can1) (zac rfl) (by kernel_rfl)
def TAL54:List (List V×V):=[([.str [49]],.tup [.bool false,.str [49],.str [49],.bool true]),
 ([.str [48]],.tup [.bool false,.str [48],.str [49],.bool true]),
 ([.str [49,47,50]],.tup [.bool false,.str [49],.str [50],.bool true]),
 ([.str [51,47,52]],.tup [.bool false,.str [51],.str [52],.bool true]),
 ([.str [51,47,49,54]],.tup [.bool false,.str [51],.str [49,54],.bool true]),
 ([.str [51,47,56]],.tup [.bool false,.str [51],.str [56],.bool true])]
theorem TAL54_ok:FTabOK prog 54 TAL54:=zaC (E:=ETA2) (n:=60) za2 zdT (zau can1) (zac rfl) (by kernel_rfl)
def TTA3:Tab:=[(69,TAL69),(70,TAL70),(72,TAL72),(145,TAL145),(76,TAL76),(79,TAL79),(82,TAL82),(54,TAL54)]
theorem TTA3_ok:TabOK prog TTA3:=TabOK.cons TAL69_ok (TabOK.cons TAL70_ok (TabOK.cons TAL72_ok (TabOK.cons zCb (TabOK.cons TAL76_ok (TabOK.cons TAL79_ok (TabOK.cons TAL82_ok (TabOK.cons TAL54_ok (TabOK.nil))))))))
noncomputable def ETA3:ECfg:=zhk ETA2 TTA3
theorem ETA3_ok:∀ f args r,ETA3.Γ f args=some r→PCall prog f args r:=zev zdT TTA3_ok
end Go.Proofs

namespace Go.Proofs
open Go.Ab
theorem zBF:eAns ETA3 Tryz.prog 60 15 []=some (.bool true):=by kernel_rfl
theorem zvU:PCall Tryz.prog 15 [] (.ret (.bool true)):=zpZ za2 ETA3_ok (zau can1) (zac rfl) (fun x h=>by cases h) zBF
end Go.Proofs

namespace Go.Proofs
open Tryz Go.Ab Go.Cnt Go.Pl Go.Tg
def zwJ(s:Str):Bool:=decide (s.length≤12)
def row8(r:List Str):Bool:=decide (r.length≤8)&&r.all zwJ
def mat8(m:List (List Str)):Bool:=m.all row8
def zjl(m:Mdl)(ws:List Str):Prop:=m.tags.length≤3∧m.words.length≤6∧m.next.length≤5∧m.emit.length≤5∧ws.length≤4
instance (m:Mdl) (ws:List Str):Decidable (zjl m ws):=inferInstanceAs (Decidable (_∧_))
def fitB(m:Mdl)(ws:List Str):Bool:=decide (zjl m ws)&&[m.next,m.emit].all mat8
theorem matR_nth(L:List (List (List Str)))(i:Nat)(h:i<L.length):nthV (ziU L) i=.fs (zI (nthM L i)) (nthM L i).length:=by have:=matsC_at L i h;rw [←zkV,this];rfl
theorem zww(m:Mdl)(ws:List Str)(h1:m.tags.length≤1000000000000000)(h2:m.words.length≤1000000000000000)(h3:m.next.length≤1000000000000000)(h4:m.emit.length≤1000000000000000)(h5:ws.length≤1000000000000000):
 PCall prog 16 [mdlV m,.fs (strs ws) ws.length] (.ret (.bool (!fitB m ws))):=by
 obtain⟨T,W,N,E⟩:=m
 dsimp only at h1 h2 h3 h4
 refine PCall.walk (rs:=[.tmp 4]) [0,1,2,4,6,7,8,35,40,41,42,43,49,57,64,75] [25] mixed (zh) (zg) call16 func16 rfl ntmps16 rfl (by kernel_rfl) (by simp) (by simp [push_cast,zcY]) ?_
 have hb:(decide (3<(T.length:Int))||decide (6<(W.length:Int))||decide (5<(N.length:Int))||decide (5<(E.length:Int))||decide (4<(ws.length:Int)))= !decide (zjl ⟨T,W,N,E⟩ ws):=by rw [YaJ];simp only [Yae,Yaa,Yh,YS];unfold zjl;dsimp only;omega
 obtain⟨R,hR⟩:∃ R,R=fitB ⟨T,W,N,E⟩ ws:=⟨_,rfl⟩
 rw [←hR]
 by_cases hs:zjl ⟨T,W,N,E⟩ ws
 case neg=>
  have hv:R=false:=by rw [hR];unfold fitB;rw [Yy hs];rfl
  rw [hv]
  simp (disch:=first|exact Zq|fail) only [go_sem,mdlV]
  rw [hb,Yy hs]
  simp (disch:=first|exact Zq|fail) only [go_sem]
 have hv:R=[N,E].all mat8:=by rw [hR];unfold fitB;rw [YB hs];rfl
 simp (disch:=first|exact Zq|fail) only [go_sem,mdlV]
 rw [hb,YB hs]
 simp (disch:=first|exact Zq|fail) only [go_sem]
 obtain⟨s1,s2,s3,s4,s5⟩:=hs
 dsimp only at s1 s2 s3 s4 s5
 obtain⟨L,hL⟩:∃ L,L=[N,E]:=⟨_,rfl⟩
 have hLl:L.length=2:=by rw [hL];rfl
 have hlen:∀ i,i<2→(nthM L i).length≤5:=fun i hi=>by
  rw [hL];match i,hi with
  |0,_=>exact s3
  |1,_=>exact s4
 have hcells:[V.fs (zI N) N.length,V.fs (zI E) E.length]=ziU L:=by rw [hL];rfl
 rw [hcells]
 rw [←hL]at hv
 clear hcells hL hR
 refine AXs.loop mixed (zh) (zg) (fun i:Nat=>[(40,.sl 0 0 2 1 (some 2)),(41,.int .i64 2),(42,.int .i64 i)]) (fun _=>⟨[(0,.cells (ziU L))],1⟩) (fun i=>i≤2∧∀ j,j<i→mat8 (nthM L j)=true) (fun i=>2 - i) 0 (by kernel_rfl) ⟨Yk _,fun j hj=>by omega⟩ (Sub.of0 [(0,0)] rfl rfl ?_ ?_) ?_
 ·simp only [go_sem]
 ·simp only [go_sem]
 rintro i ⟨k1,k2⟩
 simp only [go_sem]
 refine AXc.introP (fun k3=>?_) (fun k3=>?_)
 rotate_left
 ·obtain rfl:i=2:=by omega
  rw [hv,show L.all mat8=true from matR.all_t (p:=mat8) fun i hi=>k2 i (by omega)]
  simp only [go_sem]
  refine AXa.go mixed (zh) (zg) (by kernel_rfl) ?_
  simp only [go_sem]
 have hi:i<2:=by omega
 have at1:=matR_nth L i (by omega)
 have hm5:=hlen i hi
 have hmf:mat8 (nthM L i)=false→L.all mat8=false:=fun h=>matR.all_f (p:=mat8) (i:=i) (by omega) h
 generalize hM:nthM L i=M at at1 hm5 hmf
 simp (disch:=first|exact Zq|fail) only [go_sem,at1,hLl]
 try (repeat refine sdC ?_)
 refine AXs.loop mixed (zh) (zg) (fun j:Nat=>[(40,.sl 0 0 2 1 (some 2)),(41,.int .i64 2),(42,.int .i64 i),(6,.fs (zI M) M.length),(7,.int .i64 j)]) (fun _=>⟨[(0,.cells (ziU L))],1⟩) (fun j=>j≤M.length∧∀ q,q<j→row8 (nthR M q)=true) (fun j=>M.length - j) 0 (by kernel_rfl) ⟨Yk _,fun q hq=>by omega⟩ (Sub.of0 [(0,0)] rfl rfl ?_ ?_) ?_
 ·simp only [go_sem]
 ·simp only [go_sem]
 rintro j ⟨k4,k5⟩
 simp only [go_sem]
 refine AXc.introP (fun k6=>?_) (fun k6=>?_)
 rotate_left
 ·obtain rfl:j=M.length:=by omega
  simp only [go_sem]
  refine AXa.go mixed (zh) (zg) (by kernel_rfl) ?_
  simp (disch:=first|exact Zq|fail) only [go_sem]
  refine zi (i+1) ⟨by omega,fun q hq=>?_⟩ (by omega) (Sub.of0 [(0,0)] rfl rfl ?_ ?_)
  ·by_cases hqi:q<i
   ·exact k2 q hqi
   ·obtain rfl:q=i:=by omega
    rw [hM]
    exact rowR.all_t (p:=row8) k5
  ·simp only [go_sem]
   simp
  ·simp only [go_sem]
 have hj:j<M.length:=by omega
 have at2:=zcV M j hj
 have hrf:row8 (nthR M j)=false→L.all mat8=false:=fun h=>hmf (rowR.all_f (p:=row8) hj h)
 generalize hrr:nthR M j=r at at2 hrf
 simp (disch:=first|exact Zq|fail) only [go_sem,at2]
 try (repeat refine sdC ?_)
 refine AXc.introP (fun k7=>?_) (fun k7=>?_)
 ·rw [hv,hrf (by unfold row8;rw [Yy (by omega)];rfl)]
  simp (disch:=first|exact Zq|fail) only [go_sem]
 simp (disch:=first|exact Zq|fail) only [go_sem]
 refine AXs.loop mixed (zh) (zg) (fun q:Nat=>[(40,.sl 0 0 2 1 (some 2)),(41,.int .i64 2),(42,.int .i64 i),(6,.fs (zI M) M.length),(7,.int .i64 j),(8,.int .i64 q)]) (fun _=>⟨[(0,.cells (ziU L))],1⟩) (fun q=>q≤r.length∧∀ z,z<q→zwJ (r.getD z [])=true) (fun q=>r.length - q) 0 (by kernel_rfl) ⟨Yk _,fun z hz=>by omega⟩ (Sub.of0 [(0,0)] rfl rfl ?_ ?_) ?_
 ·simp only [go_sem]
 ·simp only [go_sem]
 rintro q ⟨k8,k9⟩
 simp (disch:=first|exact Zq|fail) only [go_sem,at2]
 try (repeat refine sdC ?_)
 refine AXc.introP (fun k10=>?_) (fun k10=>?_)
 ·simp (disch:=first|exact Zq|fail) only [go_sem,at2]
  try (repeat refine sdC ?_)
  refine AXc.introP (fun k11=>?_) (fun k11=>?_)
  ·rw [hv,hrf (by unfold row8;rw [zgC (i:=q) (by omega) (by unfold zwJ;exact Yy (by omega)),YaQ])]
   simp (disch:=first|exact Zq|fail) only [go_sem]
  ·simp (disch:=first|exact Zq|fail) only [go_sem]
   refine zi (q+1) ⟨by omega,fun z hz=>?_⟩ (by omega) (Sub.of0 [(0,0)] rfl rfl ?_ ?_)
   ·by_cases hzq:z<q
    ·exact k9 z hzq
    ·obtain rfl:z=q:=by omega
     unfold zwJ;exact YB (by omega)
   ·simp only [go_sem]
    simp
   ·simp only [go_sem]
 ·simp only [go_sem]
  refine AXa.go mixed (zh) (zg) (by kernel_rfl) ?_
  simp (disch:=first|exact Zq|fail) only [go_sem]
  refine zi (j+1) ⟨by omega,fun z hz=>?_⟩ (by omega) (Sub.of0 [(0,0)] rfl rfl ?_ ?_)
  ·by_cases hzq:z<j
   ·exact k5 z hzq
   ·obtain rfl:z=j:=by omega
    rw [hrr]
    unfold row8
    rw [YB (by omega),zgB fun q hq=>k9 q (by omega)];rfl
  ·simp only [go_sem]
   simp
  ·simp only [go_sem]
def cntS(s:Str):Nat:=s.countP (· ≠47)
theorem cntS_nil:cntS []=0:=rfl
theorem zzP(s:Str)(c:Nat)(hc:c<s.length):cntS (s.take (c+1))=cntS (s.take c)+if s.getD c 0=47 then 0 else 1:=by unfold cntS;rw [Ya8,Yb hc,List.countP_append,Ya,Yb hc];show _+List.countP _ [s[c]]=_;rw [List.countP_cons,List.countP_nil];by_cases h:s[c]=47<;>simp [h]
theorem cntS_le(s:Str)(c:Nat):cntS (s.take c)≤c:=Yn List.countP_le_length (by simp;omega)
def fewS(s:Str):Bool:=decide (cntS s≤4)
theorem short_ok(M:List (List Str))(h1:M.length≤1000000)(h2:∀ r∈M,r.length≤1000000)(h3:∀ r∈M,∀ s∈r,s.length≤1000000):PCall prog 49 [.fs (zI M) M.length] (.ret (.bool (zeN M))):=by
 refine PCall.walk (rs:=[.tmp 2]) [0,2,3,4,5,6,10,19,31,43,47] [] mixed (zh) (zg) call49 func49 rfl ntmps49 rfl (by kernel_rfl) (by simp) (by simp [push_cast,zdy]) ?_;simp (disch:=first|exact Zq|fail) only [go_sem];refine AXs.loop mixed (zh) (zg) (fun i:Nat=>[(0,.fs (zI M) M.length),(3,.int .i64 i)]) (fun _=>⟨[],0⟩) (fun i=>i≤M.length∧∀ j,j<i→(nthR M j).all fewS=true) (fun i=>M.length - i) 0 (by kernel_rfl) ⟨Yk _,fun j hj=>by omega⟩ (Sub.of0 [] rfl rfl ?_ ?_) ?_
 ·simp only [go_sem]
 ·simp only [go_sem]
 rintro i ⟨k1,k2⟩;simp only [go_sem];refine AXc.introP (fun k3=>?_) (fun k3=>?_);rotate_left
 ·obtain rfl:i=M.length:=by omega
  rw [show zeN M=true from rowR.all_t (p:=fun r:List Str=>r.all fewS) k2];simp only [go_sem];refine AXa.go mixed (zh) (zg) (by kernel_rfl) ?_;simp only [go_sem]
 have hi:i<M.length:=by omega
 have at2:=zcV M i hi;have hrf:(nthR M i).all fewS=false→zeN M=false:=fun h=>rowR.all_f (p:=fun r:List Str=>r.all fewS) hi h;have hmem:nthR M i∈M:=rowR.nth_mem hi;have hl2:=h2 _ hmem;have hl3:=h3 _ hmem;generalize hrr:nthR M i=r at at2 hrf hl2 hl3;simp (disch:=first|exact Zq|fail) only [go_sem];refine AXs.loop mixed (zh) (zg) (fun k:Nat=>[(0,.fs (zI M) M.length),(3,.int .i64 i),(4,.int .i64 k)]) (fun _=>⟨[],0⟩) (fun k=>k≤r.length∧∀ j,j<k→fewS (r.getD j [])=true) (fun k=>r.length - k) 0 (by kernel_rfl) ⟨Yk _,fun j hj=>by omega⟩ (Sub.of0 [] rfl rfl ?_ ?_) ?_
 ·simp only [go_sem]
 ·simp only [go_sem]
 rintro k ⟨k4,k5⟩;simp (disch:=first|exact Zq|fail) only [go_sem,at2];try (repeat refine sdC ?_)
 refine AXc.introP (fun k6=>?_) (fun k6=>?_);rotate_left
 ·obtain rfl:k=r.length:=by omega
  simp only [go_sem];refine AXa.go mixed (zh) (zg) (by kernel_rfl) ?_;simp (disch:=first|exact Zq|fail) only [go_sem];refine zi (i+1) ⟨by omega,fun j hj=>?_⟩ (by omega) (Sub.of0 [] rfl rfl ?_ ?_)
  ·by_cases hji:j<i
   ·exact k2 j hji
   ·obtain rfl:j=i:=by omega
    rw [hrr];exact zgB k5
  ·simp only [go_sem];simp
  ·simp only [go_sem]
 have hk:k<r.length:=by omega
 have hsm:r.getD k []∈r:=zbr hk;have hsl:=hl3 _ hsm;have hsf:fewS (r.getD k [])=false→zeN M=false:=fun h=>hrf (zgC hk h);generalize hss:r.getD k []=s at hsl hsf;simp (disch:=first|exact Zq|fail) only [go_sem];refine AXs.loop mixed (zh) (zg) (fun c:Nat=>[(0,.fs (zI M) M.length),(3,.int .i64 i),(4,.int .i64 k),(5,.int .i64 (cntS (s.take c):Nat)),(6,.int .i64 c)]) (fun _=>⟨[],0⟩) (fun c=>c≤s.length) (fun c=>s.length - c) 0 (by kernel_rfl) (Yk _) (Sub.of0 [] rfl rfl ?_ ?_) ?_
 ·simp only [go_sem,Ybk,cntS_nil]
 ·simp only [go_sem]
 intro c k7;simp (disch:=first|exact Zq|fail) only [go_sem,at2,hss];try (repeat refine sdC ?_)
 have hcl:=cntS_le s c;refine AXc.introP (fun k8=>?_) (fun k8=>?_)
 ·have hc:c<s.length:=by omega
  have hst:=zzP s c hc;simp (disch:=first|exact Zq|fail) only [go_sem,at2,hss];try (repeat refine sdC ?_)
  have hde:decide (((s.getD c 0).toNat:Int)=47)=decide (s.getD c 0=47):=by refine Ya3.2 ⟨fun h=>?_,fun h=>by rw [h];rfl⟩;apply YaW.1;show _=47;omega
  rw [hde];refine AXc.introN (fun k9=>?_) (fun k9=>?_)
  ·rw [Yd k9]at hst;simp (disch:=first|exact Zq|fail) only [go_sem];refine zi (c+1) (by omega) (by omega) (Sub.of0 [] rfl rfl ?_ ?_)
   ·rw [hst];simp only [go_sem];simp
   ·simp only [go_sem]
  ·rw [Yf k9]at hst;simp (disch:=first|exact Zq|fail) only [go_sem];refine zi (c+1) (by omega) (by omega) (Sub.of0 [] rfl rfl ?_ ?_)
   ·rw [hst];simp only [go_sem];simp
   ·simp only [go_sem]
 ·obtain rfl:c=s.length:=by omega
  rw [YQ]at hcl ⊢;simp only [go_sem];refine AXa.go mixed (zh) (zg) (by kernel_rfl) ?_;simp (disch:=first|exact Zq|fail) only [go_sem];refine AXc.introP (fun k9=>?_) (fun k9=>?_)
  ·rw [hsf (by unfold fewS;exact Yy (by omega))];simp (disch:=first|exact Zq|fail) only [go_sem]
  ·simp (disch:=first|exact Zq|fail) only [go_sem];refine zi (k+1) ⟨by omega,fun j hj=>?_⟩ (by omega) (Sub.of0 [] rfl rfl ?_ ?_)
   ·by_cases hji:j<k
    ·exact k5 j hji
    ·obtain rfl:j=k:=by omega
     rw [hss];unfold fewS;exact YB (by omega)
   ·simp only [go_sem];simp
   ·simp only [go_sem]
end Go.Proofs
