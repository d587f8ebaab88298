/- Calls that have been run (laid by program): level 0. -/
import Derived.Test.YtfilkkmcagndlaaGreatDoorPSort0
import Derived.KernelRfl
import Derived.Test.YtfilkkmcagndlaaGreatDoorPEst
import Derived.Test.YtfilkkmcagndlaaGreatDoorPlRat3
import Derived.Test.YtfilkkmcagndlaaGreatDoorQRat2
import Derived.Test.YtfilkkmcagndlaaGreatDoorCards
import Derived.Test.YtfilkkmcagndlaaGreatDoorTie
import Derived.Test.YtfilkkmcagndlaaGreatDoorAbIn
import Derived.ProofKit
import Derived.LaidMore
import Derived.OpenShut
import Derived.Stop.Joined
import Derived.Stop.LaidErr
import Derived.SevenTiedAt
import Derived.Lib.LaidTab
import Derived.Carry
set_option linter.all false
namespace Go.Proofs
open Go.Ab
def VAL83:List (List V×V):=[([.str [48]],.bool true),
 ([.str [49]],.bool true),
 ([.str [51]],.bool true),
 ([.str [50]],.bool true),
 ([.str [52]],.bool true),
 ([.str [53]],.bool true)]
theorem VAL83_ok:FTabOK Tryz.prog 83 VAL83:=zbk (E:=E1) (n:=60) zbO zgW (zbc can1) (zaD rfl) (by kernel_rfl)
def VAL81:List (List V×V):=[([.str [48],.str [45]],.tup [.str [48],.bool false]),
 ([.str [51],.str [45]],.tup [.str [51],.bool false]),
 ([.str [49],.str [45]],.tup [.str [49],.bool false]),
 ([.str [50],.str [45]],.tup [.str [50],.bool false]),
 ([.str [52],.str [45]],.tup [.str [52],.bool false]),
 ([.str [53],.str [45]],.tup [.str [53],.bool false]),
 ([.str [45,49],.str [45]],.tup [.str [49],.bool true]),
 ([.str [49,47,50],.str [45]],.tup [.str [49,47,50],.bool false])]
theorem VAL81_ok:FTabOK Tryz.prog 81 VAL81:=zbk (E:=E1) (n:=60) zbO zgW (zbc can1) (zaD rfl) (by kernel_rfl)
def VAL82:List (List V×V):=[([.str [48],.str [47]],.tup [.str [48],.str [],.bool false]),
 ([.str [51],.str [47]],.tup [.str [51],.str [],.bool false]),
 ([.str [49],.str [47]],.tup [.str [49],.str [],.bool false]),
 ([.str [50],.str [47]],.tup [.str [50],.str [],.bool false]),
 ([.str [52],.str [47]],.tup [.str [52],.str [],.bool false]),
 ([.str [53],.str [47]],.tup [.str [53],.str [],.bool false]),
 ([.str [49,47,50],.str [47]],.tup [.str [49],.str [50],.bool true])]
theorem VAL82_ok:FTabOK Tryz.prog 82 VAL82:=zbk (E:=E1) (n:=60) zbO zgW (zbc can1) (zaD rfl) (by kernel_rfl)
def VAL64:List (List V×V):=[([.int .i64 3],.str [51]),
 ([.int .i64 1],.str [49]),
 ([.int .i64 0],.str [48]),
 ([.int .i64 2],.str [50])]
theorem VAL64_ok:FTabOK Tryz.prog 64 VAL64:=zbk (E:=E1) (n:=60) zbO zgW (zbc can1) (zaD rfl) (by kernel_rfl)
def VAL27:List (List V×V):=[([.str [68],.str []],.int .i64 1),
 ([.str [78],.str [68]],.int .i64 1),
 ([.str [],.str [78]],.int .i64 (-1)),
 ([.str [78],.str []],.int .i64 1),
 ([.str [],.str [68]],.int .i64 (-1)),
 ([.str [78],.str [78]],.int .i64 0),
 ([.str [],.str []],.int .i64 0),
 ([.str [68],.str [78]],.int .i64 (-1)),
 ([.str [100,111,103],.str [116,104,101]],.int .i64 (-1)),
 ([.str [116,104,101],.str [100,111,103]],.int .i64 1)]
theorem VAL27_ok:FTabOK Tryz.prog 27 VAL27:=zbk (E:=E1) (n:=60) zbO zgW (zbc can1) (zaD rfl) (by kernel_rfl)
def VAL51:List (List V×V):=[([.str [68]],.bool false),
 ([.str []],.bool false),
 ([.str [78]],.bool false),
 ([.str [100,111,103]],.bool false),
 ([.str [116,104,101]],.bool false)]
theorem VAL51_ok:FTabOK Tryz.prog 51 VAL51:=zbk (E:=E1) (n:=60) zbO zgW (zbc can1) (zaD rfl) (by kernel_rfl)
def TVA0:Tab:=[(83,VAL83),(81,VAL81),(82,VAL82),(64,VAL64),(27,VAL27),(51,VAL51)]
theorem TVA0_ok:TabOK Tryz.prog TVA0:=TabOK.cons VAL83_ok (TabOK.cons VAL81_ok (TabOK.cons VAL82_ok (TabOK.cons VAL64_ok (TabOK.cons VAL27_ok (TabOK.cons VAL51_ok (TabOK.nil))))))
noncomputable def EVA0:ECfg:=zhV E1 TVA0
theorem zfE:∀ f args r,EVA0.Γ f args=some r→PCall Tryz.prog f args r:=zeU zgW TVA0_ok
end Go.Proofs

namespace Go.Proofs
open Go.Ab
def VAL58:List (List V×V):=[([.str [48],.str [49]],.tup [.str [48],.int .i64 0]),
 ([.str [48],.str [51]],.tup [.str [48],.int .i64 0]),
 ([.str [49],.str [49]],.tup [.str [49],.int .i64 0]),
 ([.str [50],.str [49]],.tup [.str [50],.int .i64 0]),
 ([.str [49],.str [50]],.tup [.str [50],.int .i64 0]),
 ([.str [49],.str [51]],.tup [.str [51],.int .i64 0]),
 ([.str [51],.str [49]],.tup [.str [51],.int .i64 0]),
 ([.str [49],.str [52]],.tup [.str [52],.int .i64 0]),
 ([.str [49],.str [53]],.tup [.str [53],.int .i64 0]),
 ([.str [48],.str [50]],.tup [.str [48],.int .i64 0])]
theorem VAL58_ok:FTabOK Tryz.prog 58 VAL58:=zbk (E:=EVA0) (n:=60) zbO zfE (zbc can1) (zaD rfl) (by kernel_rfl)
def VAL85:List (List V×V):=[([.str [48],.str [49]],.tup [.str [49],.int .i64 0]),
 ([.str [48],.str [48]],.tup [.str [48],.int .i64 0]),
 ([.str [49],.str [48]],.tup [.str [49],.int .i64 0]),
 ([.str [48],.str [50]],.tup [.str [50],.int .i64 0]),
 ([.str [50],.str [48]],.tup [.str [50],.int .i64 0]),
 ([.str [51],.str [49]],.tup [.str [52],.int .i64 0]),
 ([.str [49],.str [49]],.tup [.str [50],.int .i64 0]),
 ([.str [51],.str [50]],.tup [.str [53],.int .i64 0]),
 ([.str [50],.str [49]],.tup [.str [51],.int .i64 0])]
theorem VAL85_ok:FTabOK Tryz.prog 85 VAL85:=zbk (E:=EVA0) (n:=60) zbO zfE (zbc can1) (zaD rfl) (by kernel_rfl)
def VAL86:List (List V×V):=[([.str [48],.str [48]],.int .i64 0),
 ([.str [49],.str [48]],.int .i64 1),
 ([.str [48],.str [49]],.int .i64 (-1)),
 ([.str [49],.str [49]],.int .i64 0),
 ([.str [49],.str [50]],.int .i64 (-1))]
theorem VAL86_ok:FTabOK Tryz.prog 86 VAL86:=zbk (E:=EVA0) (n:=60) zbO zfE (zbc can1) (zaD rfl) (by kernel_rfl)
def VAL87:List (List V×V):=[([.str [48],.str [48]],.tup [.str [48],.int .i64 0]),
 ([.str [49],.str [48]],.tup [.str [49],.int .i64 0]),
 ([.str [49],.str [49]],.tup [.str [48],.int .i64 0]),
 ([.str [50],.str [49]],.tup [.str [49],.int .i64 0])]
theorem VAL87_ok:FTabOK Tryz.prog 87 VAL87:=zbk (E:=EVA0) (n:=60) zbO zfE (zbc can1) (zaD rfl) (by kernel_rfl)
def VAL84:List (List V×V):=[([.str [48],.str [49]],.tup [.str [49],.int .i64 0]),
 ([.str [51],.str [49]],.tup [.str [49],.int .i64 0]),
 ([.str [49],.str [49]],.tup [.str [49],.int .i64 0]),
 ([.str [50],.str [49]],.tup [.str [49],.int .i64 0]),
 ([.str [48],.str [50]],.tup [.str [50],.int .i64 0]),
 ([.str [50],.str [50]],.tup [.str [50],.int .i64 0]),
 ([.str [49],.str [50]],.tup [.str [49],.int .i64 0]),
 ([.str [52],.str [49]],.tup [.str [49],.int .i64 0]),
 ([.str [49],.str [52]],.tup [.str [49],.int .i64 0]),
 ([.str [50],.str [52]],.tup [.str [50],.int .i64 0]),
 ([.str [53],.str [49]],.tup [.str [49],.int .i64 0]),
 ([.str [49],.str [53]],.tup [.str [49],.int .i64 0]),
 ([.str [51],.str [53]],.tup [.str [49],.int .i64 0]),
 ([.str [50],.str [53]],.tup [.str [49],.int .i64 0])]
theorem VAL84_ok:FTabOK Tryz.prog 84 VAL84:=zbk (E:=EVA0) (n:=60) zbO zfE (zbc can1) (zaD rfl) (by kernel_rfl)
def VAL157:List (List V×V):=[([.str [48],.str [49]],.tup [.str [48],.str [48],.int .i64 0]),
 ([.str [49],.str [49]],.tup [.str [49],.str [48],.int .i64 0]),
 ([.str [50],.str [49]],.tup [.str [50],.str [48],.int .i64 0]),
 ([.str [48],.str [50]],.tup [.str [48],.str [48],.int .i64 0]),
 ([.str [50],.str [50]],.tup [.str [49],.str [48],.int .i64 0]),
 ([.str [51],.str [49]],.tup [.str [51],.str [48],.int .i64 0]),
 ([.str [52],.str [49]],.tup [.str [52],.str [48],.int .i64 0]),
 ([.str [52],.str [50]],.tup [.str [50],.str [48],.int .i64 0]),
 ([.str [53],.str [49]],.tup [.str [53],.str [48],.int .i64 0])]
theorem zBe:FTabOK Tryz.prog 157 VAL157:=zbk (E:=EVA0) (n:=60) zbO zfE (zbc can1) (zaD rfl) (by kernel_rfl)
def TVA1:Tab:=[(58,VAL58),(85,VAL85),(86,VAL86),(87,VAL87),(84,VAL84),(157,VAL157)]
theorem TVA1_ok:TabOK Tryz.prog TVA1:=TabOK.cons VAL58_ok (TabOK.cons VAL85_ok (TabOK.cons VAL86_ok (TabOK.cons VAL87_ok (TabOK.cons VAL84_ok (TabOK.cons zBe (TabOK.nil))))))
noncomputable def EVA1:ECfg:=zhV EVA0 TVA1
theorem zBi:∀ f args r,EVA1.Γ f args=some r→PCall Tryz.prog f args r:=zeU zfE TVA1_ok
end Go.Proofs

namespace Go.Proofs
open Go.Ab
def VAL127:List (List V×V):=[([.str [48],.str [49]],.str [48]),
 ([.str [49],.str [49]],.str [49]),
 ([.str [50],.str [49]],.str [50]),
 ([.str [48],.str [50]],.str [48]),
 ([.str [50],.str [50]],.str [49]),
 ([.str [51],.str [49]],.str [51]),
 ([.str [52],.str [49]],.str [52]),
 ([.str [52],.str [50]],.str [50]),
 ([.str [53],.str [49]],.str [53])]
theorem zBf:FTabOK Tryz.prog 127 VAL127:=zbk (E:=EVA1) (n:=60) zbO zBi (zbc can1) (zaD rfl) (by kernel_rfl)
def TVA2:Tab:=[(127,VAL127)]
theorem TVA2_ok:TabOK Tryz.prog TVA2:=TabOK.cons zBf (TabOK.nil)
noncomputable def EVA2:ECfg:=zhV EVA1 TVA2
theorem zfD:∀ f args r,EVA2.Γ f args=some r→PCall Tryz.prog f args r:=zeU zBi TVA2_ok
end Go.Proofs

namespace Go.Proofs
open Go.Ab
def VAL63:List (List V×V):=[([.str [48],.str [51]],.tup [.str [48],.int .i64 0]),
 ([.str [49],.str [51]],.tup [.str [51],.int .i64 0])]
theorem VAL63_ok:FTabOK Tryz.prog 63 VAL63:=zbk (E:=EVA2) (n:=60) zbO zfD (zbc can1) (zaD rfl) (by kernel_rfl)
def VAL33:List (List V×V):=[([.str [48],.str [48]],.int .i64 0),
 ([.str [49],.str [48]],.int .i64 1),
 ([.str [45,49],.str [48]],.int .i64 (-1)),
 ([.str [48],.str [49]],.int .i64 (-1)),
 ([.str [49],.str [49]],.int .i64 0),
 ([.str [49,47,50],.str [48]],.int .i64 1),
 ([.str [49,47,50],.str [49]],.int .i64 (-1))]
theorem VAL33_ok:FTabOK Tryz.prog 33 VAL33:=zbk (E:=EVA2) (n:=60) zbO zfD (zbc can1) (zaD rfl) (by kernel_rfl)
def VAL65:List (List V×V):=[([.str [48],.str [49]],.tup [.str [49],.int .i64 0]),
 ([.str [48],.str [48]],.tup [.str [48],.int .i64 0]),
 ([.str [49],.str [48]],.tup [.str [49],.int .i64 0]),
 ([.str [48],.str [50]],.tup [.str [50],.int .i64 0]),
 ([.str [50],.str [48]],.tup [.str [50],.int .i64 0]),
 ([.str [51],.str [49]],.tup [.str [52],.int .i64 0]),
 ([.str [49],.str [49]],.tup [.str [50],.int .i64 0]),
 ([.str [51],.str [50]],.tup [.str [53],.int .i64 0]),
 ([.str [50],.str [49]],.tup [.str [51],.int .i64 0])]
theorem VAL65_ok:FTabOK Tryz.prog 65 VAL65:=zbk (E:=EVA2) (n:=60) zbO zfD (zbc can1) (zaD rfl) (by kernel_rfl)
def VAL66:List (List V×V):=[([.str [48],.str [49]],.tup [.str [48],.int .i64 0]),
 ([.str [49],.str [49]],.tup [.str [49],.int .i64 0]),
 ([.str [48],.str [50]],.tup [.str [48],.int .i64 0]),
 ([.str [50],.str [50]],.tup [.str [49],.int .i64 0]),
 ([.str [49],.str [50]],.tup [.str [49,47,50],.int .i64 0]),
 ([.str [49],.str [52]],.tup [.str [49,47,52],.int .i64 0]),
 ([.str [50],.str [52]],.tup [.str [49,47,50],.int .i64 0]),
 ([.str [49],.str [53]],.tup [.str [49,47,53],.int .i64 0]),
 ([.str [51],.str [53]],.tup [.str [51,47,53],.int .i64 0]),
 ([.str [50],.str [53]],.tup [.str [50,47,53],.int .i64 0])]
theorem VAL66_ok:FTabOK Tryz.prog 66 VAL66:=zbk (E:=EVA2) (n:=60) zbO zfD (zbc can1) (zaD rfl) (by kernel_rfl)
def VAL32:List (List V×V):=[([.str [48]],.bool true),
 ([.str [49]],.bool true),
 ([.str [50]],.bool true),
 ([.str [51]],.bool true),
 ([.str [45,49]],.bool true),
 ([.str [49,47,50]],.bool true)]
theorem VAL32_ok:FTabOK Tryz.prog 32 VAL32:=zbk (E:=EVA2) (n:=60) zbO zfD (zbc can1) (zaD rfl) (by kernel_rfl)
def VAL24:List (List V×V):=[([.str [116,104,101]],.bool true),
 ([.str [68]],.bool true),
 ([.str [100,111,103]],.bool true),
 ([.str [78]],.bool true)]
theorem VAL24_ok:FTabOK Tryz.prog 24 VAL24:=zbk (E:=EVA2) (n:=60) zbO zfD (zbc can1) (zaD rfl) (by kernel_rfl)
def TVA3:Tab:=[(63,VAL63),(33,VAL33),(65,VAL65),(66,VAL66),(32,VAL32),(24,VAL24)]
theorem TVA3_ok:TabOK Tryz.prog TVA3:=TabOK.cons VAL63_ok (TabOK.cons VAL33_ok (TabOK.cons VAL65_ok (TabOK.cons VAL66_ok (TabOK.cons VAL32_ok (TabOK.cons VAL24_ok (TabOK.nil))))))
noncomputable def EVA3:ECfg:=zhV EVA2 TVA3
theorem EVA3_ok:∀ f args r,EVA3.Γ f args=some r→PCall Tryz.prog f args r:=zeU zfD TVA3_ok
end Go.Proofs

namespace Go.Proofs
open Go.Ab
theorem zAV:eAns EVA3 Tryz.prog 60 8 []=some (.bool true):=by kernel_rfl
theorem zvv:PCall Tryz.prog 8 [] (.ret (.bool true)):=zpZ zbO EVA3_ok (zbc can1) (zaD rfl) (fun x h=>by cases h) zAV
end Go.Proofs

namespace Go.Proofs
open Go.Ab Go.Cnt Go.Pl
noncomputable def cAwk:List V→Option PR:=zH (fun _:Unit=>[]) (fun _=>True) fun _=>.ret (.bool true)
@[go_sem] theorem cAwk_eq:cAwk []=some (.ret (.bool true)):=zn (pat:=fun _:Unit=>[]) (fun _ _ _=>rfl) () trivial
theorem cAwk_ok:∀ args r,cAwk args=some r→PCall Tryz.prog 8 args r:=zo fun _ _=>zvv
noncomputable def cPEst:List V→Option PR:=zH (fun p:List Ent×List Ent×Str=>[.agg [.fs (cnts p.1) p.1.length,.fs (cnts p.2.1) p.2.1.length],.str p.2.2]) (fun p=>p.1.length≤100000∧p.2.1.length≤100000∧zaG p.1∧zaG p.2.1∧p.2.2.length≤1000000) fun p=>.ret (estV (estR p.1 p.2.1 p.2.2))
theorem cPEst_ok:∀ args r,cPEst args=some r→PCall Tryz.prog 13 args r:=zo fun p h=>
 pest_ok p.1 p.2.1 p.2.2 h.1 h.2.1 h.2.2.1 h.2.2.2.1 h.2.2.2.2 (fun hp=>neg_law hp) fun hv hp hk i _=>est_law p.1 p.2.1 p.2.2 h.2.2.1 h.2.2.2.1 h.2.2.2.2 hv hp hk i
theorem cPEst_eq(A B:List Ent)(k:Str)(hA:A.length≤100000)(hB:B.length≤100000)(sA:zaG A)(sB:zaG B)(lk:k.length≤1000000):cPEst [.agg [.fs (cnts A) A.length,.fs (cnts B) B.length],.str k]=some (.ret (estV (estR A B k))):=
 zn (pat:=fun p:List Ent×List Ent×Str=>[V.agg [.fs (cnts p.1) p.1.length,.fs (cnts p.2.1) p.2.1.length],.str p.2.2]) (fun x y h=>by obtain⟨x1,x2,x3⟩:=x;obtain⟨y1,y2,y3⟩:=y;simp only [List.cons.injEq,V.agg.injEq,V.fs.injEq,V.str.injEq,and_true]at h;obtain⟨⟨⟨h1,_⟩,h2,_⟩,h3⟩:=h;rw [zbp h1,zbp h2,h3]) (A,B,k) ⟨hA,hB,sA,sB,lk⟩
set_option maxHeartbeats 8000000 in
set_option maxRecDepth 100000 in
theorem zyI(A B:List Ent)(k:Str)(lk:k.length≤1000000000000000):PCall Tryz.prog 4 [.agg [.fs (cnts A) A.length,.fs (cnts B) B.length],.str k] (.ret (.bool true)):=by
 have hΓ:=zf zAl (zf cAwk_ok (zf cPEst_ok (zf cREst_ok (zf zzD zh))));refine PCall.walk (rs:=[.tmp 4]) [0,1,2,4,5,6,7,8,19,43] [24] mixed (hΓ) (zg) call4 Tryz.func4 rfl Tryz.ntmps4 rfl (by kernel_rfl) (by simp) (by simp [push_cast,zhy]) ?_;cases hb:(zeG A&&zeG B)with
 |false=>simp (disch:=first|assumption|(push_cast<;>omega)|omega) only [go_sem,hb]
 |true=>
  have hb':zeG A=true∧zeG B=true:=by simpa using hb
  obtain⟨m1,s1⟩:=znp hb'.1;obtain⟨m2,s2⟩:=znp hb'.2;simp (disch:=first|assumption|(push_cast<;>omega)|omega) only [go_sem,hb];by_cases hk:900<k.length
  ·have e1:decide (900<(k.length:Int))=true:=decide_eq_true (by omega);simp (disch:=first|assumption|(push_cast<;>omega)|omega) only [go_sem,e1]
  have e1:decide (900<(k.length:Int))=false:=decide_eq_false (by omega);have p1:=cPEst_eq A B k (by omega) (by omega) s1 s2 (by omega);have p2:=cREst_eq A B k (by omega) (by omega) s1 s2 (by omega);obtain⟨hf,he⟩:=est_fit A B k;unfold estV at p1 p2;generalize estR A B k=R at p1 p2 hf he;obtain⟨m,e⟩:=R;dsimp only at p1 p2 hf he;have p3:=zzE m hf;have pM:=zhy m;obtain⟨T,W,N,E⟩:=m;unfold mdlV at p1 p2 p3;dsimp only at p1 p2 p3;simp (disch:=first|assumption|(push_cast<;>omega)|omega) only [go_sem,e1,p1,p2];rw [Bool.or_self];by_cases h2:e=2∧20<k.length
  ·obtain⟨rfl,h3⟩:=h2;have hb2:(decide ((2:Int)=2)&&decide (20<(k.length:Int)))=true:=by rw [decide_eq_true (show (20:Int)<(k.length:Int)by omega)];rfl
   rw [hb2];simp (disch:=first|assumption|(push_cast<;>omega)|omega) only [go_sem]
  ·have hb2:(decide (e=2)&&decide (20<(k.length:Int)))=false:=by
    simp only [Bool.and_eq_false_iff,decide_eq_false_iff_not]
    by_cases h4:e=2
    ·have h5:¬20<k.length:=fun h=>h2 ⟨h4,h⟩;exact .inr (by omega)
    ·exact .inl h4
   rw [hb2]
   simp (disch:=first|assumption|(push_cast<;>omega)|omega) only [go_sem,p3]
end Go.Proofs

namespace Go.Proofs
open Go.Ab Go.Cnt Go.Pl
structure Fit(m:Mdl):Prop where
 tl:m.tags.length≤100000
 wl:m.words.length≤100000
 nl:m.next.length≤100000
 el:m.emit.length≤100000
 ts:∀ s∈m.tags,s.length≤1000000
 ws:∀ s∈m.words,s.length≤1000000
 nr:∀ r∈m.next,r.length≤1000000
 er:∀ r∈m.emit,r.length≤1000000
 ns:∀ r∈m.next,∀ s∈r,s.length≤1000000
 es:∀ r∈m.emit,∀ s∈r,s.length≤1000000
end Go.Proofs

namespace Go.Proofs
open Go.Ab Go.Cnt Go.Pl
end Go.Proofs

namespace Go.Proofs
open Go.Ab Go.Cnt Go.Pl
def entR:Row Ent where
 enc:=entV
 n:=3
 dflt:=(([],[]),0)
 len _:=rfl
 pos:=by decide
 pure a x h:=by
  simp only [entV,List.mem_cons,List.not_mem_nil,or_false]at h;rcases h with rfl|rfl|rfl
  ·exact .str _
  ·exact .str _
  ·exact .int _ _
 one _:=rfl
 inj a b h:=zf6 h
theorem dStr:Dec Tryz.prog 9 strR (fun s=>s.length≤reachBytes):=Dec.str Tryz.underlying9 (by kernel_rfl)
theorem dInt:Dec Tryz.prog 3 (intR .i64) (fun n=>(Lit.int .i64 n).wf=true):=Dec.int Tryz.underlying3 (by kernel_rfl)
theorem dEnt:Dec Tryz.prog 44 entR (fun _=>True):=(Dec.three Tryz.underlying44 dStr dStr dInt rfl rfl rfl (by kernel_rfl)).cast (fun a=>a) rfl (fun _=>rfl) fun _ _=>trivial
theorem dEnts:Dec Tryz.prog 22 (slR entR) (fun l=>l.length≤reachBytes):=(dEnt.slice Tryz.underlying22 (by kernel_rfl) (of_decide_eq_true (by kernel_rfl))).cast (fun a=>a) rfl (fun _=>rfl) fun _ h=>h.1
theorem dCnts:Dec Tryz.prog 24 (zm7 (slR entR) (slR entR)) (fun p=>p.1.length≤reachBytes∧p.2.length≤reachBytes):=
 Dec.two Tryz.underlying24 dEnts dEnts rfl rfl (by kernel_rfl)
theorem reach_le {n:Nat}(h:n≤reachBytes):n≤1000000000000000:=Nat.le_trans h (by unfold reachBytes;omega)
end Go.Proofs

namespace Go.Proofs
open Go.Ab Go.Cnt Go.Pl
theorem estim_in(c:List Ent×List Ent)(k:Str)(hk:k.length≤reachBytes):
 PCall Tryz.prog 4 [.agg ((zm7 (slR entR) (slR entR)).enc c),.str k] (.ret (.bool true)):=by
 obtain⟨a,b⟩:=c
 exact zyI a b k (reach_le hk)
end Go.Proofs

namespace Go.Proofs.YtfilkkmcagndlaaGreatDoor
open Go.ChangeShapes Go.WideShapes Go.ChangeAt Go.WideMaps Go.WideElems Go.RowKit
theorem ownK:ownKnob Tryz.prog.godebug=none:=by kernel_rfl
theorem zry:laidOutB Tryz.prog=true:=by kernel_rfl
abbrev zpB:List (String×DataW Unit):=[("math/bits.deBruijn32tab",Rows.laid_math_bits_deBruijn32tab),("math/bits.deBruijn64tab",Rows.laid_math_bits_deBruijn64tab),("internal/strconv.uint64pow10",Rows.laid_internal_strconv_uint64pow10)]
theorem door_met(os:Os):laidMetH Tryz.prog zpB ((World.doorLaid Tryz.prog 400 os).forCall (fun _ _=>0) ⟨#[],#[.agg #[.slice none 0 0,.slice none 0 0],.string ⟨#[]⟩],[]⟩).memory:=
 laidMetH_of_parts3 (fuel:=8) (laidMet_of_run' 8 (by kernel_rfl) (by kernel_rfl)) (by kernel_rfl) (by kernel_rfl)
def tens:List Int:=(List.range 20).map fun i=>((10 ^ i:Nat):Int)
theorem zsH:(Rows.laid_internal_strconv_uint64pow10:DataW Unit)=Lib.tabData .u64 tens:=by kernel_rfl
theorem gTab:Tryz.prog.globalNamed "internal/strconv.uint64pow10" =some 1:=by kernel_rfl
theorem gTabT:(Tryz.prog.globals[1]?).map (·.type)=some 192:=by kernel_rfl
theorem underA:Tryz.prog.underlying 192=some (.array 20 108):=by kernel_rfl
theorem underU:Tryz.prog.underlying 108=some (.int .u64):=by kernel_rfl
theorem cellsU:Tryz.prog.cellsOf 108=1:=by kernel_rfl
theorem cellsA:Tryz.prog.cellsOf 192=20:=by kernel_rfl
theorem tab_of {W:World}(h:laidMetH Tryz.prog zpB W):∃ t fr,W.heap[1]? =some (.cells (tens.map fun z=>Value.int .u64 z).toArray t fr):=by
 rw [MakeChecks.laidMetH_plain _ _ _ (by kernel_rfl)]at h;have h2:=h.tail.tail;rw [zsH]at h2;have h3:W.var? Tryz.prog "internal/strconv.uint64pow10" =some (tens.map fun z=>Value.int .u64 z).toArray:=Lib.tabIs_of_head gTab gTabT underA underU cellsU cellsA h2;unfold World.var? at h3;rw [gTab]at h3;simp only [Option.bind_some]at h3;cases hb:W.heap[1]? with
 |none=>rw [hb]at h3;cases h3
 |some o=>
  rw [hb]at h3;cases o<;>first|(cases h3;exact⟨_,_,rfl⟩)|cases h3
theorem gok_of {W:World}(h:laidMetH Tryz.prog zpB W):Go.Ab.GOK (Go.Ab.gW W):=by
 obtain⟨t,fr,hb⟩:=tab_of h;have hphi:=Go.Ab.gW_of hb;intro k cs e;have e':(if k=1 then some Go.Ab.pow10V else none)=some cs:=e;split at e';rotate_left;·cases e'
 rename_i hk;cases e';subst hk;have hsz:(tens.map fun z=>Value.int .u64 z).toArray.size=Go.Ab.pow10V.length:=by kernel_rfl
 refine⟨Go.Ab.VRel.mk_fp hphi ?_,_,hphi,hsz⟩;intro i x hx;have hi:i<20:=(List.getElem?_eq_some_iff.1 hx).1;refine⟨.int .u64 ((10 ^ i:Nat):Int),?_,?_⟩
 ·show (tens.map fun z=>Value.int .u64 z).toArray[0+i]? =_;rw [Nat.zero_add];simp [tens,hi]
 ·have:Go.Ab.pow10V[i]? =some (.int .u64 ((10 ^ i:Nat):Int)):=by simp [Go.Ab.pow10V,hi]
  rw [this]at hx;cases hx;exact .int _ _
theorem call_of {W:World}(h:laidMetH Tryz.prog zpB W){args:Array Value}{vs:List Go.Ab.V}(hc:Go.Ab.PCall Tryz.prog 4 vs (.ret (.bool true)))(hs:args.size=vs.length)(hp:Go.Ab.PW (Go.Ab.gW W) vs (fun i=>args[i]?)):
 Calls Tryz.prog 4 args W fun e W'=>e=.returned (.bool true)∧Below W.heap.size W W':=by
 have hc':=hc (Go.Ab.gW W) W args (gok_of h) Go.Ab.gW_frz hs hp
 refine(zeT (Go.Ab.canB_ok (by kernel_rfl)) hc').mono fun e W' q=>?_
 obtain⟨phi',vc,_,hbel,rfl,hv⟩:=q
 rw [hv.inv_bool]
 exact⟨rfl,hbel.os,hbel.tape.eq,hbel.output,hbel.size,hbel.block⟩
theorem zw5:Tryz.f4.params.toList=[24,9]:=by kernel_rfl
theorem stand9:Tryz.pinned.checked.prog.wantsStandIn (9:Nat)=false:=by kernel_rfl
theorem stand24:Tryz.pinned.checked.prog.wantsStandIn (24:Nat)=false:=by kernel_rfl
set_option maxRecDepth 100000 in
theorem lifted(os:Os)(started:os.Started)(H:Type)(enc:TypeId×Value→H):
 ReturnsInHanded {} Tryz.checked os 4 .any (fun w args=>(Rows.countsEstimatesSpec.pre enc Tryz.prog Tryz.f4 [] false w args∧laidMetH Tryz.prog zpB w)∧sizedMet enc Tryz.prog Tryz.f4 (OpenSpec.ofChange Rows.countsEstimatesSpec) false w args)
  (Rows.countsEstimatesSpec.post enc Tryz.prog Tryz.f4 false true false false):=by
 refine returnsInHanded_of_change_and (C:=Tryz.checked) (X:=fun w _=>laidMetH Tryz.prog zpB w) (fun _ _ _ hh h=>h.of_heap hh) ownK started (by kernel_rfl) Tryz.func4
  (ChangeSpec.witness_shaped (enc:=enc) (C:=Tryz.checked) (os:=os) (X:=fun w _=>laidMetH Tryz.prog zpB w) false (World.doorLaid Tryz.prog 400 os) #[.agg #[.slice none 0 0,.slice none 0 0],.string ⟨#[]⟩] 8 rfl (World.shaped_of_RefB (by kernel_rfl) (by kernel_rfl)) (by kernel_rfl) (by kernel_rfl) (by kernel_rfl) (door_met os)) ?_
 intro W base args ds gs before hval0 hW _ hwt hL _
 have hW':=hW
 obtain⟨p,q,hA0,hV,rfl,hfz,hnd⟩:=hW
 have hA:DataW.TrodAll enc Tryz.prog W 0 (fun _=>true) true Tryz.f4.params.toList args.toList ds p:=hA0
 rw [zw5]at hA
 obtain⟨v0,v1,d0,d1,p0,p1,rfl,rfl,rfl,h0,h1⟩:=trodAll_two hA
 obtain⟨rfl,rfl⟩:=trodVars_none hV
 have hlt:=DataW.TrodAll.lt hA
 have hwt':∀ n∈DataW.weightsEach Tryz.prog [24,9] [d0,d1],n≤reachBytes:=fun n hn=>by have:=List.all_eq_true.1 hwt n (by rw [zw5,show Rows.countsEstimatesSpec.plain.varTypes Tryz.checked.prog=[]from rfl,List.append_nil,List.append_nil];exact hn);simpa using this
 simp only [Go.Ab.weightsEach_cons]at hwt'
 have w0:∀ n∈d0.weights Tryz.prog 24,n≤reachBytes:=fun n hn=>hwt' n (List.mem_append_left _ hn)
 have w1:∀ n∈d1.weights Tryz.prog 9,n≤reachBytes:=fun n hn=>hwt' n (List.mem_append_right _ (List.mem_append_left _ hn))
 have hv0:Value.okWide Tryz.prog W .any base 24 v0:=hval0 0 24 v0 rfl rfl
 have c0:∃ cs,v0=.agg cs:=by obtain⟨cs,e,_⟩:=okWide_struct Tryz.underlying24 hv0;exact⟨cs,e⟩
 obtain⟨a0,o0,r0⟩:=Go.Proofs.dCnts.argS h0 c0 w0
 have hv1:Value.okWide Tryz.prog W .any base 9 v1:=hval0 1 9 v1 rfl rfl
 have c1:v1.cells=#[v1]:=by obtain⟨_,e⟩:=okWide_string Tryz.underlying9 hv1;rw [e];rfl
 obtain⟨a1,o1,r1⟩:=Go.Proofs.dStr.arg1 h1 c1 w1
 replace r1:=r1 _ rfl
 refine(call_of hL (Go.Proofs.estim_in a0 a1 o1) rfl (fun i x hx=>by
  match i with
  |0=>cases hx;exact⟨v0,rfl,r0⟩
  |1=>cases hx;exact⟨v1,rfl,r1⟩
  |i+2=>simp at hx)).mono fun e W' ⟨he,bel⟩=>?_
 subst he
 have k0:=Below.trod zry (by kernel_rfl) (of_decide_eq_true (by kernel_rfl)) h0 bel (fun x hx=>hlt x (List.mem_append_left _ hx))
 have k1:=Below.trod zry (by kernel_rfl) (of_decide_eq_true (by kernel_rfl)) h1 bel (fun x hx=>hlt x (List.mem_append_right _ hx))
 exact⟨_,rfl,_,_,_,[],_,[],hW',trodAll_mk1 (shut_bool Tryz.underlying4 _),trodAll_mk2 k0 k1,rfl,bel.frame _,fun h=>by cases h⟩
theorem said:Rows.CountsEstimatesSaid:=
 OpenClaim.holds_of_wide 4 Tryz.f4 rfl rfl rfl rfl rfl rfl rfl ⟨rfl,rfl,rfl,rfl,rfl⟩ rfl rfl rfl rfl rfl (by kernel_rfl) Tryz.func4 (by kernel_rfl)
  (of_decide_eq_true (by kernel_rfl)) (by unfold Func.isWrapper;first|(rw [if_pos (by decide+kernel)];kernel_rfl)|(rw [if_neg (by decide+kernel)];exact⟨rfl,rfl⟩))
  (fun os started H enc _=>lifted os started H enc)
theorem estimates_holds:Rows.CountsEstimatesCardSaid:=
 Claim7.holds_tied_plain_at .later [] [.data,.data,.data] true (true, "7c4c12853d54250aee831335b6fcfbeafb1da9c7f49def67bb69e590115736e1") true
  said (fun _ h=>by cases h) (by kernel_rfl) (fun _ h=>by cases h) countsEstimates_row_tie rfl ⟨rfl,rfl⟩ (by kernel_rfl) rfl
  (fun f fn hf hfn=>by
   obtain rfl:f=4:=Option.some.inj ((show Tryz.prog.funcNamed "abugida/abugidalaw35.CountsEstimates" =some 4 by kernel_rfl).symm.trans hf) |>.symm
   obtain rfl:fn=Tryz.f4:=(Option.some.inj (Tryz.func4.symm.trans hfn)).symm;exact⟨by kernel_rfl,fun j t ht=>by
    rw [Tryz.params4]at ht;match j with
    |0=>exact(Option.some.inj ht:(24:Nat)=t)▸stand24
    |1=>exact(Option.some.inj ht:(9:Nat)=t)▸stand9
    |j+2=>simp at ht⟩)
  (by kernel_rfl)
#print axioms estimates_holds
end Go.Proofs.YtfilkkmcagndlaaGreatDoor
