/- Calls that have been run (laid by program): level 1. -/
import Derived.Test.YthbimeikbkjnkaaGreatDoorT3
import Derived.KernelRfl
import Derived.Test.YthbimeikbkjnkaaGreatDoorAbWalk2
import Derived.Test.YthbimeikbkjnkaaGreatDoorAbCall
set_option linter.all false
namespace Go.Proofs
open Go.Ab
def TAL115:List (List V×V):=[([.str [48],.str [49]],.tup [.str [48],.int .i64 0]),
 ([.str [49],.str [49]],.tup [.str [49],.int .i64 0]),
 ([.str [48],.str [52]],.tup [.str [48],.int .i64 0]),
 ([.str [49],.str [52]],.tup [.str [52],.int .i64 0]),
 ([.str [48],.str [50]],.tup [.str [48],.int .i64 0]),
 ([.str [49],.str [50]],.tup [.str [50],.int .i64 0]),
 ([.str [51],.str [49]],.tup [.str [51],.int .i64 0]),
 ([.str [49],.str [48]],.tup [.str [48],.int .i64 0]),
 ([.str [50],.str [49]],.tup [.str [50],.int .i64 0]),
 ([.str [49],.str [51]],.tup [.str [51],.int .i64 0]),
 ([.str [52],.str [52]],.tup [.str [49,54],.int .i64 0]),
 ([.str [48],.str [51]],.tup [.str [48],.int .i64 0]),
 ([.str [49],.str [49,54]],.tup [.str [49,54],.int .i64 0]),
 ([.str [50],.str [52]],.tup [.str [56],.int .i64 0]),
 ([.str [49],.str [56]],.tup [.str [56],.int .i64 0]),
 ([.str [48],.str [56]],.tup [.str [48],.int .i64 0]),
 ([.str [48],.str [48]],.tup [.str [48],.int .i64 0]),
 ([.str [52],.str [49]],.tup [.str [52],.int .i64 0]),
 ([.str [56],.str [52]],.tup [.str [51,50],.int .i64 0]),
 ([.str [48],.str [51,50]],.tup [.str [48],.int .i64 0]),
 ([.str [56],.str [49]],.tup [.str [56],.int .i64 0]),
 ([.str [51,50],.str [49]],.tup [.str [51,50],.int .i64 0]),
 ([.str [56],.str [50]],.tup [.str [49,54],.int .i64 0]),
 ([.str [48],.str [49,54]],.tup [.str [48],.int .i64 0]),
 ([.str [51],.str [48]],.tup [.str [48],.int .i64 0]),
 ([.str [56],.str [49,54]],.tup [.str [49,50,56],.int .i64 0]),
 ([.str [48],.str [49,50,56]],.tup [.str [48],.int .i64 0]),
 ([.str [49,50,56],.str [50]],.tup [.str [50,53,54],.int .i64 0]),
 ([.str [48],.str [50,53,54]],.tup [.str [48],.int .i64 0]),
 ([.str [49],.str [49,50,56]],.tup [.str [49,50,56],.int .i64 0]),
 ([.str [49],.str [50,53,54]],.tup [.str [50,53,54],.int .i64 0])]
theorem zxr:FTabOK Tryz.prog 115 TAL115:=zan (E:=ETA0) (n:=60) zaS zch (zao can1) (zV rfl) (by kernel_rfl)
def TAL156:List (List V×V):=[([.str [48],.str [48]],.tup [.str [48],.int .i64 0]),
 ([.str [48],.str [51]],.tup [.str [51],.int .i64 0])]
theorem zxi:FTabOK Tryz.prog 156 TAL156:=zan (E:=ETA0) (n:=60) zaS zch (zao can1) (zV rfl) (by kernel_rfl)
def TAL157:List (List V×V):=[([.str [48],.str [48]],.int .i64 0),
 ([.str [48],.str [49]],.int .i64 (-1)),
 ([.str [49],.str [48]],.int .i64 1),
 ([.str [49],.str [49]],.int .i64 0),
 ([.str [49],.str [52]],.int .i64 (-1)),
 ([.str [49],.str [50]],.int .i64 (-1)),
 ([.str [51],.str [48]],.int .i64 1),
 ([.str [51],.str [52]],.int .i64 (-1)),
 ([.str [48],.str [51]],.int .i64 (-1))]
theorem zxh:FTabOK Tryz.prog 157 TAL157:=zan (E:=ETA0) (n:=60) zaS zch (zao can1) (zV rfl) (by kernel_rfl)
def TAL158:List (List V×V):=[([.str [48],.str [48]],.tup [.str [48],.int .i64 0]),
 ([.str [49],.str [48]],.tup [.str [49],.int .i64 0]),
 ([.str [49],.str [49]],.tup [.str [48],.int .i64 0]),
 ([.str [52],.str [49]],.tup [.str [51],.int .i64 0]),
 ([.str [50],.str [49]],.tup [.str [49],.int .i64 0]),
 ([.str [51],.str [48]],.tup [.str [51],.int .i64 0]),
 ([.str [52],.str [51]],.tup [.str [49],.int .i64 0])]
theorem zxg:FTabOK Tryz.prog 158 TAL158:=zan (E:=ETA0) (n:=60) zaS zch (zao can1) (zV rfl) (by kernel_rfl)
def TAL148:List (List V×V):=[([.str [48],.str [49]],.tup [.str [49],.int .i64 0]),
 ([.str [49],.str [49]],.tup [.str [49],.int .i64 0]),
 ([.str [49],.str [52]],.tup [.str [49],.int .i64 0]),
 ([.str [49],.str [50]],.tup [.str [49],.int .i64 0]),
 ([.str [51],.str [52]],.tup [.str [49],.int .i64 0]),
 ([.str [48],.str [50]],.tup [.str [50],.int .i64 0]),
 ([.str [51],.str [49,54]],.tup [.str [49],.int .i64 0]),
 ([.str [48],.str [49,54]],.tup [.str [49,54],.int .i64 0]),
 ([.str [49],.str [56]],.tup [.str [49],.int .i64 0]),
 ([.str [49],.str [51,50]],.tup [.str [49],.int .i64 0]),
 ([.str [48],.str [52]],.tup [.str [52],.int .i64 0]),
 ([.str [48],.str [56]],.tup [.str [56],.int .i64 0]),
 ([.str [48],.str [51,50]],.tup [.str [51,50],.int .i64 0]),
 ([.str [51],.str [56]],.tup [.str [49],.int .i64 0]),
 ([.str [49],.str [49,54]],.tup [.str [49],.int .i64 0]),
 ([.str [51],.str [49,50,56]],.tup [.str [49],.int .i64 0]),
 ([.str [51],.str [50,53,54]],.tup [.str [49],.int .i64 0])]
theorem zxn:FTabOK Tryz.prog 148 TAL148:=zan (E:=ETA0) (n:=60) zaS zch (zao can1) (zV rfl) (by kernel_rfl)
def TAL181:List (List V×V):=[([.str [48],.str [50]],.tup [.str [48],.str [48],.int .i64 0]),
 ([.str [50],.str [50]],.tup [.str [49],.str [48],.int .i64 0]),
 ([.str [48],.str [49]],.tup [.str [48],.str [48],.int .i64 0]),
 ([.str [49],.str [49]],.tup [.str [49],.str [48],.int .i64 0]),
 ([.str [51],.str [49]],.tup [.str [51],.str [48],.int .i64 0]),
 ([.str [49,54],.str [49]],.tup [.str [49,54],.str [48],.int .i64 0]),
 ([.str [48],.str [49,54]],.tup [.str [48],.str [48],.int .i64 0]),
 ([.str [49,54],.str [49,54]],.tup [.str [49],.str [48],.int .i64 0]),
 ([.str [56],.str [49]],.tup [.str [56],.str [48],.int .i64 0]),
 ([.str [52],.str [49]],.tup [.str [52],.str [48],.int .i64 0]),
 ([.str [51,50],.str [49]],.tup [.str [51,50],.str [48],.int .i64 0]),
 ([.str [48],.str [52]],.tup [.str [48],.str [48],.int .i64 0]),
 ([.str [52],.str [52]],.tup [.str [49],.str [48],.int .i64 0]),
 ([.str [48],.str [56]],.tup [.str [48],.str [48],.int .i64 0]),
 ([.str [56],.str [56]],.tup [.str [49],.str [48],.int .i64 0]),
 ([.str [48],.str [51,50]],.tup [.str [48],.str [48],.int .i64 0]),
 ([.str [51,50],.str [51,50]],.tup [.str [49],.str [48],.int .i64 0]),
 ([.str [50],.str [49]],.tup [.str [50],.str [48],.int .i64 0]),
 ([.str [49,50,56],.str [49]],.tup [.str [49,50,56],.str [48],.int .i64 0]),
 ([.str [50,53,54],.str [49]],.tup [.str [50,53,54],.str [48],.int .i64 0])]
theorem zxf:FTabOK Tryz.prog 181 TAL181:=zan (E:=ETA0) (n:=60) zaS zch (zao can1) (zV rfl) (by kernel_rfl)
def TAL89:List (List V×V):=[([.str [49],.str [49]],.tup [.str [49],.int .i64 0]),
 ([.str [48],.str [49]],.tup [.str [48],.int .i64 0]),
 ([.str [48],.str [50]],.tup [.str [48],.int .i64 0]),
 ([.str [51],.str [49]],.tup [.str [51],.int .i64 0]),
 ([.str [48],.str [52]],.tup [.str [48],.int .i64 0]),
 ([.str [48],.str [49,54]],.tup [.str [48],.int .i64 0]),
 ([.str [49],.str [50]],.tup [.str [50],.int .i64 0]),
 ([.str [49],.str [51]],.tup [.str [51],.int .i64 0]),
 ([.str [50],.str [52]],.tup [.str [56],.int .i64 0]),
 ([.str [48],.str [56]],.tup [.str [48],.int .i64 0]),
 ([.str [56],.str [50]],.tup [.str [49,54],.int .i64 0])]
theorem TAL89_ok:FTabOK Tryz.prog 89 TAL89:=zan (E:=ETA0) (n:=60) zaS zch (zao can1) (zV rfl) (by kernel_rfl)
def TAL88:List (List V×V):=[([.str [49],.str [48]],.tup [.str [49],.int .i64 0]),
 ([.str [51],.str [48]],.tup [.str [51],.int .i64 0]),
 ([.str [48],.str [48]],.tup [.str [48],.int .i64 0])]
theorem TAL88_ok:FTabOK Tryz.prog 88 TAL88:=zan (E:=ETA0) (n:=60) zaS zch (zao can1) (zV rfl) (by kernel_rfl)
def TAL87:List (List V×V):=[([.str [49],.str [48]],.int .i64 1),
 ([.str [51],.str [48]],.int .i64 1),
 ([.str [48],.str [48]],.int .i64 0),
 ([.str [48],.str [49]],.int .i64 (-1)),
 ([.str [48],.str [51]],.int .i64 (-1))]
theorem TAL87_ok:FTabOK Tryz.prog 87 TAL87:=zan (E:=ETA0) (n:=60) zaS zch (zao can1) (zV rfl) (by kernel_rfl)
def TAL129:List (List V×V):=[([.str [49],.str [49]],.tup [.str [49],.str [48],.int .i64 0]),
 ([.str [48],.str [49]],.tup [.str [48],.str [48],.int .i64 0]),
 ([.str [49],.str [50]],.tup [.str [48],.str [49],.int .i64 0]),
 ([.str [50],.str [49]],.tup [.str [50],.str [48],.int .i64 0]),
 ([.str [51],.str [52]],.tup [.str [48],.str [51],.int .i64 0]),
 ([.str [52],.str [51]],.tup [.str [49],.str [49],.int .i64 0]),
 ([.str [51],.str [49]],.tup [.str [51],.str [48],.int .i64 0]),
 ([.str [51],.str [49,54]],.tup [.str [48],.str [51],.int .i64 0]),
 ([.str [49,54],.str [51]],.tup [.str [53],.str [49],.int .i64 0]),
 ([.str [51],.str [56]],.tup [.str [48],.str [51],.int .i64 0]),
 ([.str [56],.str [51]],.tup [.str [50],.str [50],.int .i64 0]),
 ([.str [51],.str [50]],.tup [.str [49],.str [49],.int .i64 0]),
 ([.str [56],.str [49]],.tup [.str [56],.str [48],.int .i64 0]),
 ([.str [49,54],.str [49]],.tup [.str [49,54],.str [48],.int .i64 0])]
theorem zxp:FTabOK Tryz.prog 129 TAL129:=zan (E:=ETA0) (n:=60) zaS zch (zao can1) (zV rfl) (by kernel_rfl)
def TTA1:Tab:=[(115,TAL115),(156,TAL156),(157,TAL157),(158,TAL158),(148,TAL148),(181,TAL181),(89,TAL89),(88,TAL88),(87,TAL87),(129,TAL129)]
theorem TTA1_ok:TabOK Tryz.prog TTA1:=TabOK.cons zxr (TabOK.cons zxi (TabOK.cons zxh (TabOK.cons zxg (TabOK.cons zxn (TabOK.cons zxf (TabOK.cons TAL89_ok (TabOK.cons TAL88_ok (TabOK.cons TAL87_ok (TabOK.cons zxp (TabOK.nil))))))))))
noncomputable def ETA1:ECfg:=zfK ETA0 TTA1
theorem znQ:∀ f args r,ETA1.Γ f args=some r→PCall Tryz.prog f args r:=zdw zch TTA1_ok
end Go.Proofs

namespace Go.Proofs
open Go.Ab
def TAL85:List (List V×V):=[([.str [49],.str [49]],.tup [.str [49],.int .i64 0]),
 ([.str [48],.str [49]],.tup [.str [49],.int .i64 0]),
 ([.str [49],.str [50]],.tup [.str [49],.int .i64 0]),
 ([.str [51],.str [52]],.tup [.str [49],.int .i64 0]),
 ([.str [51],.str [49,54]],.tup [.str [49],.int .i64 0]),
 ([.str [51],.str [56]],.tup [.str [49],.int .i64 0])]
theorem TAL85_ok:FTabOK Tryz.prog 85 TAL85:=zan (E:=ETA1) (n:=60) zaS znQ (zao can1) (zV rfl) (by kernel_rfl)
def TAL149:List (List V×V):=[([.str [48],.str [50]],.str [48]),
 ([.str [50],.str [50]],.str [49]),
 ([.str [48],.str [49]],.str [48]),
 ([.str [49],.str [49]],.str [49]),
 ([.str [51],.str [49]],.str [51]),
 ([.str [49,54],.str [49]],.str [49,54]),
 ([.str [48],.str [49,54]],.str [48]),
 ([.str [49,54],.str [49,54]],.str [49]),
 ([.str [56],.str [49]],.str [56]),
 ([.str [52],.str [49]],.str [52]),
 ([.str [51,50],.str [49]],.str [51,50]),
 ([.str [48],.str [52]],.str [48]),
 ([.str [52],.str [52]],.str [49]),
 ([.str [48],.str [56]],.str [48]),
 ([.str [56],.str [56]],.str [49]),
 ([.str [48],.str [51,50]],.str [48]),
 ([.str [51,50],.str [51,50]],.str [49]),
 ([.str [50],.str [49]],.str [50]),
 ([.str [49,50,56],.str [49]],.str [49,50,56]),
 ([.str [50,53,54],.str [49]],.str [50,53,54])]
theorem zxm:FTabOK Tryz.prog 149 TAL149:=zan (E:=ETA1) (n:=60) zaS znQ (zao can1) (zV rfl) (by kernel_rfl)
def TTA2:Tab:=[(85,TAL85),(149,TAL149)]
theorem TTA2_ok:TabOK Tryz.prog TTA2:=TabOK.cons TAL85_ok (TabOK.cons zxm (TabOK.nil))
noncomputable def ETA2:ECfg:=zfK ETA1 TTA2
theorem zc7:∀ f args r,ETA2.Γ f args=some r→PCall Tryz.prog f args r:=zdw znQ TTA2_ok
end Go.Proofs

namespace Go.Proofs
open Go.Ab
def TAL69:List (List V×V):=[([.str [49,47,50],.str [48]],.tup [.str [48],.int .i64 0]),
 ([.str [49],.str [48]],.tup [.str [48],.int .i64 0]),
 ([.str [49,47,52],.str [51,47,52]],.tup [.str [51,47,49,54],.int .i64 0]),
 ([.str [48],.str [51,47,49,54]],.tup [.str [48],.int .i64 0]),
 ([.str [48],.str [49,47,50]],.tup [.str [48],.int .i64 0]),
 ([.str [49,47,50],.str [49,47,52]],.tup [.str [49,47,56],.int .i64 0]),
 ([.str [49],.str [49,47,56]],.tup [.str [49,47,56],.int .i64 0]),
 ([.str [48],.str [49]],.tup [.str [48],.int .i64 0]),
 ([.str [48],.str [48]],.tup [.str [48],.int .i64 0]),
 ([.str [49,47,52],.str [49]],.tup [.str [49,47,52],.int .i64 0]),
 ([.str [49,47,56],.str [49,47,52]],.tup [.str [49,47,51,50],.int .i64 0]),
 ([.str [49,47,52],.str [48]],.tup [.str [48],.int .i64 0]),
 ([.str [49,47,56],.str [48]],.tup [.str [48],.int .i64 0]),
 ([.str [49,47,51,50],.str [48]],.tup [.str [48],.int .i64 0]),
 ([.str [49,47,50],.str [51,47,52]],.tup [.str [51,47,56],.int .i64 0]),
 ([.str [49],.str [51,47,56]],.tup [.str [51,47,56],.int .i64 0]),
 ([.str [51,47,56],.str [49,47,50]],.tup [.str [51,47,49,54],.int .i64 0]),
 ([.str [49,47,50],.str [49]],.tup [.str [49,47,50],.int .i64 0]),
 ([.str [49],.str [49,47,50]],.tup [.str [49,47,50],.int .i64 0]),
 ([.str [49],.str [51,47,52]],.tup [.str [51,47,52],.int .i64 0]),
 ([.str [51,47,56],.str [48]],.tup [.str [48],.int .i64 0]),
 ([.str [49],.str [49,47,52]],.tup [.str [49,47,52],.int .i64 0]),
 ([.str [48],.str [49,47,52]],.tup [.str [48],.int .i64 0]),
 ([.str [49,47,52],.str [49,47,52]],.tup [.str [49,47,49,54],.int .i64 0]),
 ([.str [51,47,56],.str [49,47,49,54]],.tup [.str [51,47,49,50,56],.int .i64 0]),
 ([.str [51,47,49,50,56],.str [49,47,50]],.tup [.str [51,47,50,53,54],.int .i64 0])]
theorem TAL69_ok:FTabOK Tryz.prog 69 TAL69:=zan (E:=ETA2) (n:=60) zaS zc7 (zao can1) (zV rfl) (by kernel_rfl)
def TAL70:List (List V×V):=[([.str [48],.str [48]],.int .i64 0),
 ([.str [48],.str [49]],.int .i64 (-1)),
 ([.str [49],.str [48]],.int .i64 1),
 ([.str [49],.str [49]],.int .i64 0),
 ([.str [49,47,52],.str [48]],.int .i64 1),
 ([.str [49,47,52],.str [49]],.int .i64 (-1)),
 ([.str [49,47,50],.str [48]],.int .i64 1),
 ([.str [49,47,50],.str [49]],.int .i64 (-1)),
 ([.str [51,47,52],.str [48]],.int .i64 1),
 ([.str [51,47,52],.str [49]],.int .i64 (-1)),
 ([.str [48],.str [49,47,56]],.int .i64 (-1)),
 ([.str [48],.str [49,47,51,50]],.int .i64 (-1)),
 ([.str [48],.str [49,47,50]],.int .i64 (-1)),
 ([.str [48],.str [51,47,56]],.int .i64 (-1)),
 ([.str [51,47,56],.str [48]],.int .i64 1),
 ([.str [48],.str [51,47,49,54]],.int .i64 (-1)),
 ([.str [48],.str [51,47,49,50,56]],.int .i64 (-1)),
 ([.str [48],.str [51,47,50,53,54]],.int .i64 (-1))]
theorem TAL70_ok:FTabOK Tryz.prog 70 TAL70:=zan (E:=ETA2) (n:=60) zaS zc7 (zao can1) (zV rfl) (by kernel_rfl)
def TAL72:List (List V×V):=[([.str [48],.str [48]],.tup [.str [48],.int .i64 0]),
 ([.str [48],.str [51,47,56]],.tup [.str [51,47,56],.int .i64 0]),
 ([.str [48],.str [51,47,49,54]],.tup [.str [51,47,49,54],.int .i64 0]),
 ([.str [48],.str [51,47,49,50,56]],.tup [.str [51,47,49,50,56],.int .i64 0]),
 ([.str [48],.str [51,47,50,53,54]],.tup [.str [51,47,50,53,54],.int .i64 0])]
theorem TAL72_ok:FTabOK Tryz.prog 72 TAL72:=zan (E:=ETA2) (n:=60) zaS zc7 (zao can1) (zV rfl) (by kernel_rfl)
def TAL145:List (List V×V):=[([.str [48]],.bool true),
 ([.str [49]],.bool true),
 ([.str [49,47,52]],.bool true),
 ([.str [49,47,50]],.bool true),
 ([.str [51,47,52]],.bool true)]
theorem zxo:FTabOK Tryz.prog 145 TAL145:=zan (E:=ETA2) (n:=60) zaS zc7 (zao can1) (zV rfl) (by kernel_rfl)
def TAL76:List (List V×V):=[([.str [49]],.bool true),
 ([.str [49,47,50]],.bool true),
 ([.str [51,47,52]],.bool true),
 ([.str [51,47,49,54]],.bool true),
 ([.str [48]],.bool true),
 ([.str [51,47,56]],.bool true)]
theorem TAL76_ok:FTabOK Tryz.prog 76 TAL76:=zan (E:=ETA2) (n:=60) zaS zc7 (zao can1) (zV rfl) (by kernel_rfl)
def TAL79:List (List V×V):=[([.str [49],.str [49,47,50]],.tup [.str [49,47,50],.int .i64 0]),
 ([.str [49,47,50],.str [51,47,52]],.tup [.str [51,47,56],.int .i64 0]),
 ([.str [51,47,56],.str [49,47,50]],.tup [.str [51,47,49,54],.int .i64 0])]
theorem TAL79_ok:FTabOK Tryz.prog 79 TAL79:=zan (E:=ETA2) (n:=60) zaS zc7 (zao can1) (zV rfl) (by kernel_rfl)
def TAL82:List (List V×V):=[([.bool false,.str [49],.str [50]],.tup [.str [49,47,50],.int .i64 0]),
 ([.bool false,.str [51],.str [56]],.tup [.str [51,47,56],.int .i64 0]),
 ([.bool false,.str [51],.str [49,54]],.tup [.str [51,47,49,54],.int .i64 0])]
theorem TAL82_ok:FTabOK Tryz.prog 82 TAL82:=zan (E:=ETA2) (n:=60) zaS zc7 (zao can1) (zV rfl) (by kernel_rfl)
def TAL54:List (List V×V):=[([.str [49]],.tup [.bool false,.str [49],.str [49],.bool true]),
 ([.str [48]],.tup [.bool false,.str [48],.str [49],.bool true]),
 ([.str [49,47,50]],.tup [.bool false,.str [49],.str [50],.bool true]),
 ([.str [51,47,52]],.tup [.bool false,.str [51],.str [52],.bool true]),
 ([.str [51,47,49,54]],.tup [.bool false,.str [51],.str [49,54],.bool true]),
 ([.str [51,47,56]],.tup [.bool false,.str [51],.str [56],.bool true])]
theorem TAL54_ok:FTabOK Tryz.prog 54 TAL54:=zan (E:=ETA2) (n:=60) zaS zc7 (zao can1) (zV rfl) (by kernel_rfl)
def TTA3:Tab:=[(69,TAL69),(70,TAL70),(72,TAL72),(145,TAL145),(76,TAL76),(79,TAL79),(82,TAL82),(54,TAL54)]
theorem TTA3_ok:TabOK Tryz.prog TTA3:=TabOK.cons TAL69_ok (TabOK.cons TAL70_ok (TabOK.cons TAL72_ok (TabOK.cons zxo (TabOK.cons TAL76_ok (TabOK.cons TAL79_ok (TabOK.cons TAL82_ok (TabOK.cons TAL54_ok (TabOK.nil))))))))
noncomputable def ETA3:ECfg:=zfK ETA2 TTA3
theorem ETA3_ok:∀ f args r,ETA3.Γ f args=some r→PCall Tryz.prog f args r:=zdw zc7 TTA3_ok
end Go.Proofs

namespace Go.Proofs
open Go.Ab
theorem zwY:eAns ETA3 Tryz.prog 60 15 []=some (.bool true):=by kernel_rfl
theorem zrZ:PCall Tryz.prog 15 [] (.ret (.bool true)):=zvc zaS ETA3_ok (zao can1) (zV rfl) (fun x h=>by cases h) zwY
end Go.Proofs

namespace Go.Proofs
open Go.Ab Go.Cnt Go.Pl Go.Tg
def zsE(s:Str):Bool:=decide (s.length≤12)
def row8(r:List Str):Bool:=decide (r.length≤8)&&r.all zsE
def mat8(m:List (List Str)):Bool:=m.all row8
def zhu(m:Mdl)(ws:List Str):Prop:=m.tags.length≤3∧m.words.length≤6∧m.next.length≤5∧m.emit.length≤5∧ws.length≤4
instance (m:Mdl) (ws:List Str):Decidable (zhu m ws):=inferInstanceAs (Decidable (_∧_))
def fitB(m:Mdl)(ws:List Str):Bool:=decide (zhu m ws)&&[m.next,m.emit].all mat8
theorem matR_nth(L:List (List (List Str)))(i:Nat)(h:i<L.length):nthV (zg6 L) i=.fs (zJ (nthM L i)) (nthM L i).length:=by have:=matsC_at L i h;rw [←ziY,this];rfl
set_option maxHeartbeats 8000000 in
set_option maxRecDepth 100000 in
theorem zss(m:Mdl)(ws:List Str)(h1:m.tags.length≤1000000000000000)(h2:m.words.length≤1000000000000000)(h3:m.next.length≤1000000000000000)(h4:m.emit.length≤1000000000000000)(h5:ws.length≤1000000000000000):
 PCall Tryz.prog 16 [mdlV m,.fs (strs ws) ws.length] (.ret (.bool (!fitB m ws))):=by
 obtain⟨T,W,N,E⟩:=m
 dsimp only at h1 h2 h3 h4
 refine PCall.walk (rs:=[.tmp 4]) [0,1,2,4,6,7,8,35,40,41,42,43,49,57,64,75] [25] mixed (zh) (zf) call16 Tryz.func16 rfl Tryz.ntmps16 rfl (by kernel_rfl) (by simp) (by simp [push_cast,zel]) ?_
 have hb:(decide (3<(T.length:Int))||decide (6<(W.length:Int))||decide (5<(N.length:Int))||decide (5<(E.length:Int))||decide (4<(ws.length:Int)))= !decide (zhu ⟨T,W,N,E⟩ ws):=by rw [Bool.eq_iff_iff];simp only [Bool.or_eq_true,Bool.not_eq_true',decide_eq_true_eq,decide_eq_false_iff_not];unfold zhu;dsimp only;omega
 obtain⟨R,hR⟩:∃ R,R=fitB ⟨T,W,N,E⟩ ws:=⟨_,rfl⟩
 rw [←hR]
 by_cases hs:zhu ⟨T,W,N,E⟩ ws
 case neg=>
  have hv:R=false:=by rw [hR];unfold fitB;rw [decide_eq_false hs];rfl
  rw [hv]
  simp (disch:=first|assumption|(push_cast<;>omega)|omega) only [go_sem,mdlV]
  rw [hb,decide_eq_false hs]
  simp (disch:=first|assumption|(push_cast<;>omega)|omega) only [go_sem]
 have hv:R=[N,E].all mat8:=by rw [hR];unfold fitB;rw [decide_eq_true hs];rfl
 simp (disch:=first|assumption|(push_cast<;>omega)|omega) only [go_sem,mdlV]
 rw [hb,decide_eq_true hs]
 simp (disch:=first|assumption|(push_cast<;>omega)|omega) only [go_sem]
 obtain⟨s1,s2,s3,s4,s5⟩:=hs
 dsimp only at s1 s2 s3 s4 s5
 obtain⟨L,hL⟩:∃ L,L=[N,E]:=⟨_,rfl⟩
 have hLl:L.length=2:=by rw [hL];rfl
 have hlen:∀ i,i<2→(nthM L i).length≤5:=fun i hi=>by
  rw [hL];match i,hi with
  |0,_=>exact s3
  |1,_=>exact s4
 have hcells:[V.fs (zJ N) N.length,V.fs (zJ E) E.length]=zg6 L:=by rw [hL];rfl
 rw [hcells]
 rw [←hL]at hv
 clear hcells hL hR
 refine AXs.loop mixed (zh) (zf) (fun i:Nat=>[(40,.sl 0 0 2 1 (some 2)),(41,.int .i64 2),(42,.int .i64 i)]) (fun _=>⟨[(0,.cells (zg6 L))],1⟩) (fun i=>i≤2∧∀ j,j<i→mat8 (nthM L j)=true) (fun i=>2 - i) 0 (by kernel_rfl) ⟨Nat.zero_le _,fun j hj=>by omega⟩ (Sub.of0 [(0,0)] rfl rfl ?_ ?_) ?_
 ·simp only [go_sem]
 ·simp only [go_sem]
 rintro i ⟨k1,k2⟩
 simp only [go_sem]
 refine AXc.introP (fun k3=>?_) (fun k3=>?_)
 rotate_left
 ·obtain rfl:i=2:=by omega
  rw [hv,show L.all mat8=true from matR.all_t (p:=mat8) fun i hi=>k2 i (by omega)]
  simp only [go_sem]
  refine AXa.go mixed (zh) (zf) (by kernel_rfl) ?_
  simp only [go_sem]
 have hi:i<2:=by omega
 have at1:=matR_nth L i (by omega)
 have hm5:=hlen i hi
 have hmf:mat8 (nthM L i)=false→L.all mat8=false:=fun h=>matR.all_f (p:=mat8) (i:=i) (by omega) h
 generalize hM:nthM L i=M at at1 hm5 hmf
 simp (disch:=first|assumption|(push_cast<;>omega)|omega) only [go_sem,at1,hLl]
 try (repeat refine sdC ?_)
 refine AXs.loop mixed (zh) (zf) (fun j:Nat=>[(40,.sl 0 0 2 1 (some 2)),(41,.int .i64 2),(42,.int .i64 i),(6,.fs (zJ M) M.length),(7,.int .i64 j)]) (fun _=>⟨[(0,.cells (zg6 L))],1⟩) (fun j=>j≤M.length∧∀ q,q<j→row8 (nthR M q)=true) (fun j=>M.length - j) 0 (by kernel_rfl) ⟨Nat.zero_le _,fun q hq=>by omega⟩ (Sub.of0 [(0,0)] rfl rfl ?_ ?_) ?_
 ·simp only [go_sem]
 ·simp only [go_sem]
 rintro j ⟨k4,k5⟩
 simp only [go_sem]
 refine AXc.introP (fun k6=>?_) (fun k6=>?_)
 rotate_left
 ·obtain rfl:j=M.length:=by omega
  simp only [go_sem]
  refine AXa.go mixed (zh) (zf) (by kernel_rfl) ?_
  simp (disch:=first|assumption|(push_cast<;>omega)|omega) only [go_sem]
  refine zo (i+1) ⟨by omega,fun q hq=>?_⟩ (by omega) (Sub.of0 [(0,0)] rfl rfl ?_ ?_)
  ·by_cases hqi:q<i
   ·exact k2 q hqi
   ·obtain rfl:q=i:=by omega
    rw [hM]
    exact rowR.all_t (p:=row8) k5
  ·simp only [go_sem]
   simp
  ·simp only [go_sem]
 have hj:j<M.length:=by omega
 have at2:=zft M j hj
 have hrf:row8 (nthR M j)=false→L.all mat8=false:=fun h=>hmf (rowR.all_f (p:=row8) hj h)
 generalize hrr:nthR M j=r at at2 hrf
 simp (disch:=first|assumption|(push_cast<;>omega)|omega) only [go_sem,at2]
 try (repeat refine sdC ?_)
 refine AXc.introP (fun k7=>?_) (fun k7=>?_)
 ·rw [hv,hrf (by unfold row8;rw [decide_eq_false (by omega)];rfl)]
  simp (disch:=first|assumption|(push_cast<;>omega)|omega) only [go_sem]
 simp (disch:=first|assumption|(push_cast<;>omega)|omega) only [go_sem]
 refine AXs.loop mixed (zh) (zf) (fun q:Nat=>[(40,.sl 0 0 2 1 (some 2)),(41,.int .i64 2),(42,.int .i64 i),(6,.fs (zJ M) M.length),(7,.int .i64 j),(8,.int .i64 q)]) (fun _=>⟨[(0,.cells (zg6 L))],1⟩) (fun q=>q≤r.length∧∀ z,z<q→zsE (r.getD z [])=true) (fun q=>r.length - q) 0 (by kernel_rfl) ⟨Nat.zero_le _,fun z hz=>by omega⟩ (Sub.of0 [(0,0)] rfl rfl ?_ ?_) ?_
 ·simp only [go_sem]
 ·simp only [go_sem]
 rintro q ⟨k8,k9⟩
 simp (disch:=first|assumption|(push_cast<;>omega)|omega) only [go_sem,at2]
 try (repeat refine sdC ?_)
 refine AXc.introP (fun k10=>?_) (fun k10=>?_)
 ·simp (disch:=first|assumption|(push_cast<;>omega)|omega) only [go_sem,at2]
  try (repeat refine sdC ?_)
  refine AXc.introP (fun k11=>?_) (fun k11=>?_)
  ·rw [hv,hrf (by unfold row8;rw [zpb (i:=q) (by omega) (by unfold zsE;exact decide_eq_false (by omega)),Bool.and_false])]
   simp (disch:=first|assumption|(push_cast<;>omega)|omega) only [go_sem]
  ·simp (disch:=first|assumption|(push_cast<;>omega)|omega) only [go_sem]
   refine zo (q+1) ⟨by omega,fun z hz=>?_⟩ (by omega) (Sub.of0 [(0,0)] rfl rfl ?_ ?_)
   ·by_cases hzq:z<q
    ·exact k9 z hzq
    ·obtain rfl:z=q:=by omega
     unfold zsE;exact decide_eq_true (by omega)
   ·simp only [go_sem]
    simp
   ·simp only [go_sem]
 ·simp only [go_sem]
  refine AXa.go mixed (zh) (zf) (by kernel_rfl) ?_
  simp (disch:=first|assumption|(push_cast<;>omega)|omega) only [go_sem]
  refine zo (j+1) ⟨by omega,fun z hz=>?_⟩ (by omega) (Sub.of0 [(0,0)] rfl rfl ?_ ?_)
  ·by_cases hzq:z<j
   ·exact k5 z hzq
   ·obtain rfl:z=j:=by omega
    rw [hrr]
    unfold row8
    rw [decide_eq_true (by omega),zpa fun q hq=>k9 q (by omega)];rfl
  ·simp only [go_sem]
   simp
  ·simp only [go_sem]
end Go.Proofs

namespace Go.Proofs
open Go.Ab Go.Cnt Go.Pl Go.Tg
theorem mw_inj(x y:Mdl×List Str)(h:[mdlV x.1,V.fs (strs x.2) x.2.length]=[mdlV y.1,V.fs (strs y.2) y.2.length]):x=y:=by simp only [List.cons.injEq,V.fs.injEq,and_true]at h;exact Prod.ext (zje h.1) (zaB h.2.1)
structure InM(m:Mdl)(u:List Str):Prop where
 tl:m.tags.length≤1000000000000000
 wl:m.words.length≤1000000000000000
 nl:m.next.length≤1000000000000000
 el:m.emit.length≤1000000000000000
 ts:∀ s∈m.tags,s.length≤1000000000000000
 ws:∀ s∈m.words,s.length≤1000000000000000
 l:u.length≤1000000000000000
 s:∀ s∈u,s.length≤1000000000000000
theorem zoA {M:List (List Str)}(h:∀ r∈M,∀ s∈r,s.length≤12)(i j:Nat):((nthR M i).getD j []).length≤1000000000:=by
 by_cases hi:i<M.length
 ·by_cases hj:j<(nthR M i).length
  ·exact Nat.le_trans (h _ (rowR.nth_mem hi) _ (zjy hj)) (by omega)
  ·rw [List.getD_eq_getElem?_getD,List.getElem?_eq_none (by omega)];simp
 ·have:nthR M i=[]:=by
   show M.getD i []=[]
   rw [List.getD_eq_getElem?_getD,List.getElem?_eq_none (by omega)];rfl
  rw [this];simp
theorem fitB_fit {m:Mdl}{ws:List Str}(hi:InM m ws)(h:fitB m ws=true):Fit m∧ws.length≤4∧∀ i j,(nx m i j).length≤1000000000∧(em m i j).length≤1000000000:=by
 unfold fitB at h;simp only [Bool.and_eq_true,decide_eq_true_eq,List.all_cons,List.all_nil,and_true]at h;obtain⟨hsz,hn,he⟩:=h;unfold zhu at hsz;obtain⟨s1,s2,s3,s4,s5⟩:=hsz;have key:∀ {M:List (List Str)},mat8 M=true→(∀ r∈M,r.length≤8)∧∀ r∈M,∀ s∈r,s.length≤12:=fun {M} h=>by unfold mat8 row8 at h;simp only [List.all_eq_true,Bool.and_eq_true,decide_eq_true_eq]at h;refine⟨fun r hr=>(h r hr).1,fun r hr s hs=>?_⟩;have:=(h r hr).2 s hs;unfold zsE at this;exact of_decide_eq_true this
 obtain⟨n1,n2⟩:=key hn;obtain⟨e1,e2⟩:=key he;refine⟨⟨by omega,by omega,by omega,by omega,hi.ts,hi.ws,fun r hr=>Nat.le_trans (n1 r hr) (by omega),fun r hr=>Nat.le_trans (e1 r hr) (by omega),fun r hr s hs=>Nat.le_trans (n2 r hr s hs) (by omega),fun r hr s hs=>Nat.le_trans (e2 r hr s hs) (by omega)⟩,s5,fun i j=>⟨zoA n2 i j,zoA e2 i j⟩⟩
noncomputable def zvZ:List V→Option PR:=zG (fun p:Mdl×List Str=>[mdlV p.1,.fs (strs p.2) p.2.length]) (fun p=>InM p.1 p.2) fun p=>.ret (.bool (!fitB p.1 p.2))
theorem zrF(m:Mdl)(ws:List Str)(h:InM m ws):zvZ [mdlV m,.fs (strs ws) ws.length]=some (.ret (.bool (!fitB m ws))):=
 zn (pat:=fun p:Mdl×List Str=>[mdlV p.1,.fs (strs p.2) p.2.length]) mw_inj (m,ws) h
theorem zrE:∀ args r,zvZ args=some r→PCall Tryz.prog 16 args r:=zk fun p h=>zss p.1 p.2 h.tl h.wl h.nl h.el h.l
noncomputable def cTAwk:List V→Option PR:=zG (fun _:Unit=>[]) (fun _=>True) fun _=>.ret (.bool true)
@[go_sem] theorem cTAwk_eq:cTAwk []=some (.ret (.bool true)):=zn (pat:=fun _:Unit=>([]:List V)) (fun _ _ _=>rfl) () trivial
theorem cTAwk_ok:∀ args r,cTAwk args=some r→PCall Tryz.prog 15 args r:=zk fun _ _=>zrZ
end Go.Proofs

namespace Go.Proofs
open Go.Ab Go.Cnt Go.Pl
theorem dStr:Dec Tryz.prog 9 strR (fun s=>s.length≤reachBytes):=Dec.str Tryz.underlying9 (by kernel_rfl)
def okS(l:List Str):Prop:=l.length≤reachBytes∧∀ s∈l,s.length≤reachBytes
theorem dStrs:Dec Tryz.prog 22 (slR strR) okS:=dStr.slice Tryz.underlying22 (by kernel_rfl) (of_decide_eq_true (by kernel_rfl))
theorem dRows:Dec Tryz.prog 23 (slR (slR strR)) (fun l=>l.length≤reachBytes):=(dStrs.slice Tryz.underlying23 (by kernel_rfl) (of_decide_eq_true (by kernel_rfl))).cast (fun a=>a) rfl (fun _=>rfl) fun _ h=>h.1
abbrev MdlT:=((List Str×List Str)×List (List Str))×List (List Str)
def okM(p:MdlT):Prop:=((okS p.1.1.1∧okS p.1.1.2)∧p.1.2.length≤reachBytes)∧p.2.length≤reachBytes
abbrev mdlR:=ziO (ziO (ziO (slR strR) (slR strR)) (slR (slR strR))) (slR (slR strR))
theorem dMdl:Dec Tryz.prog 25 mdlR okM:=Dec.four Tryz.underlying25 dStrs dStrs dRows dRows rfl rfl rfl rfl (by kernel_rfl)
theorem zcj {n:Nat}(h:n≤reachBytes):n≤1000000000000000:=Nat.le_trans h (by unfold reachBytes;omega)
def mdlOf(p:MdlT):Mdl:=⟨p.1.1.1,p.1.1.2,p.1.2,p.2⟩
theorem mdl_enc(p:MdlT):V.agg (mdlR.enc p)=mdlV (mdlOf p):=by obtain⟨⟨⟨T,W⟩,N⟩,E⟩:=p;show V.agg ((([V.fs (strR.cells T) T.length]++[V.fs (strR.cells W) W.length])++[V.fs ((slR strR).cells N) N.length])++[V.fs ((slR strR).cells E) E.length])=_;rw [zdy,zdy,zsX,zsX];rfl
theorem inM_of {p:MdlT}{w:List Str}(h:okM p)(hw:okS w):InM (mdlOf p) w:=
 ⟨zcj h.1.1.1.1,zcj h.1.1.2.1,zcj h.1.2,zcj h.2,fun s hs=>zcj (h.1.1.1.2 s hs),fun s hs=>zcj (h.1.1.2.2 s hs),zcj hw.1,fun s hs=>zcj (hw.2 s hs)⟩
end Go.Proofs

namespace Go.Ab
theorem NCall.freeze {P:Program}{f:FuncId}{args:List V}{F:List Blk}{W:List Nat}{v0:V}{Hc0:Hp}(hN:NCall P f args F W v0 Hc0){v:V}{Hc:Hp}(fl:List Nat)
 (hfl:∀ b∈fl,F.length≤b∧∃ x,Hc0.get b=some x) (hW:∀ b∈W,∃ x,Hc0.get b=some x) (hv:Rn id (fun b=>¬b∈fl∧b<Hc.next) v v0∨FrzF Hc0 (· ∈fl) v0 v)
 (hh:∀ b x',Hc.get b=some x'→b<Hc.next∧¬b∈fl∧∃ x,Hc0.get b=some x∧FzB Hc0 (· ∈fl) Hc.next x' x) (hel:∀ b,b<F.length→Hc.get b=Hc0.get b) (hn:F.length≤Hc.next):NCall P f args F W v Hc:=by
 refine⟨hN.call,hN.sub,hn,fun g base w vs hgl hinv hvs hpw=>(hN.run g base w vs hgl hinv hvs hpw).mono fun e w' ⟨g1,vc,he,hv1,hp⟩=>?_⟩
 let C:Cfg:=⟨1,za9 [],noΓ,noΔ,F.length,W,za9 []⟩
 have hent:Entry C base (fun _=>True) g ⟨numB 0 F,F.length⟩ w:=⟨hinv,rfl,fun _ _=>trivial⟩
 have hr:Rel C base (fun _=>True) g ⟨numB 0 F,F.length⟩ w g1 ⟨[(0,v0)],Hc0⟩ { tmps:=#[vc],defers:=[] } w':=by
  refine⟨⟨hgl.mono hp.le.2,by simp [C],fun t x e=>?_⟩,rfl,hp⟩;rw [List.lookup_cons]at e;by_cases ht:t=0
  ·subst ht;simp only [beq_self_eq_true,Option.some.injEq]at e;subst e;exact hv1
  ·have hb:(t==0)=false:=by simp [ht]
   simp only [hb]at e;cases e
 have henv:∀ t v',([(0,v)]:Env).lookup t=some v'→v'=.any∨∃ u,([(0,v0)]:Env).lookup t=some u∧(Rn id (fun b=>¬b∈fl∧b<Hc.next) v' u∨FrzF Hc0 (· ∈fl) u v'):=fun t v' e=>by
  rw [List.lookup_cons]at e;by_cases ht:t=0
  ·subst ht;simp only [beq_self_eq_true,Option.some.injEq]at e;subst e;exact .inr ⟨v0,by simp,hv⟩
  ·have hb:(t==0)=false:=by simp [ht]
   simp only [hb]at e;cases e
 obtain⟨g2,h4⟩:=hr.freeze3 (F:=(· ∈fl)) (s':=⟨[(0,v)],Hc⟩) hent (fun b hb=>⟨hN.sub b hb,hW b hb⟩) ⟨henv,hh,hfl,hel,hn⟩
 exact⟨g2,vc,he,by simpa using h4.env.rel 0 v (by simp),h4.post⟩
end Go.Ab
