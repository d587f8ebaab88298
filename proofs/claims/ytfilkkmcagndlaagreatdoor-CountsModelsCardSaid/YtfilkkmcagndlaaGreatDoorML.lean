/- Whether counts are larger than a statement looks at. -/
import Derived.Test.YtfilkkmcagndlaaGreatDoorM2
import Derived.Test.YtfilkkmcagndlaaGreatDoorVM1
import Derived.KernelRfl
set_option linter.all false
namespace Go.Proofs
open Go.Ab Go.Cnt
def nameL(s:Str):Bool:=decide (s.length≤100)
def entL(e:Ent):Bool:=nameL e.1.1&&nameL e.1.2
def zeo(l:List Ent):Bool:=decide (l.length≤600)&&l.all entL
def nthL(ls:List (List Ent))(i:Nat):List Ent:=ls.getD i []
def zcR(ls:List (List Ent)):List V:=ls.map fun l=>.fs (cnts l) l.length
theorem znJ:∀(ls:List (List Ent)) (i:Nat),i<ls.length→(zcR ls).drop i=.fs (cnts (nthL ls i)) (nthL ls i).length::zcR (ls.drop (i+1))
 |[],_,h=>by simp at h
 |l::ls,0,_=>rfl
 |l::ls,i+1,h=>by have:=znJ ls i (by simpa using h);simpa [zcR,nthL] using this
theorem zcK(ls:List (List Ent)):∀ x∈zcR ls,Pure x:=fun x hx=>by obtain⟨l,_,rfl⟩:=List.mem_map.1 hx;exact .fs (zdi l)
theorem zmG(ls:List (List Ent)):(∀ x∈zcR ls,Pure x)↔True:=⟨fun _=>trivial,fun _=>zcK ls⟩
theorem allL_t {p:List Ent→Bool}:∀ {ls:List (List Ent)},(∀ i,i<ls.length→p (nthL ls i)=true)→ls.all p=true
 |[],_=>rfl
 |e::l,h=>by rw [List.all_cons,allL_t (ls:=l) fun i hi=>h (i+1) (by simpa using hi)];have:=h 0 (by simp);simpa [nthL] using this
theorem nthL_mem {ls:List (List Ent)}{i:Nat}(h:i<ls.length):nthL ls i∈ls:=by unfold nthL;rw [List.getD_eq_getElem?_getD,List.getElem?_eq_getElem h];exact List.getElem_mem h
theorem allL_f {p:List Ent→Bool}{ls:List (List Ent)}{i:Nat}(hi:i<ls.length)(h:p (nthL ls i)=false):ls.all p=false:=by
 cases e:ls.all p with
 |false=>rfl
 |true=>rw [List.all_eq_true.1 e _ (nthL_mem hi)]at h;cases h
set_option maxHeartbeats 4000000 in
theorem large_ok(ls:List (List Ent))(hls:ls.length≤1000):PCall Tryz.prog 6 [.fs (zcR ls) ls.length] (.ret (.bool (!ls.all zeo))):=by
 refine PCall.walk (rs:=[.tmp 2]) [0,2,3,4,8,16,23,47] [] mixed (zh) (zg) call6 Tryz.func6 rfl Tryz.ntmps6 rfl (by kernel_rfl) (by simp) (by simp [push_cast,zmG]) ?_;simp (disch:=first|assumption|(push_cast<;>omega)|omega) only [go_sem];refine AXs.loop mixed (zh) (zg) (fun i:Nat=>[(0,.fs (zcR ls) ls.length),(3,.int .i64 i)]) (fun _=>⟨[],0⟩) (fun i=>i≤ls.length∧∀ j,j<i→zeo (nthL ls j)=true) (fun i=>ls.length - i) 0 (by kernel_rfl) ⟨Nat.zero_le _,fun j hj=>by omega⟩ (Sub.of0 [] rfl rfl ?_ ?_) ?_
 ·simp only [go_sem];exact zcK ls
 ·simp only [go_sem]
 rintro i ⟨h1,h2⟩;simp only [go_sem];refine AXc.introP (fun h3=>?_) (fun h3=>?_)
 ·have hi:i<ls.length:=by omega
  have at1:=znJ ls i hi;simp (disch:=first|assumption|(push_cast<;>omega)|omega) only [go_sem,at1];refine⟨⟨by omega,by omega⟩,by omega,?_⟩;refine AXc.introP (fun h4=>?_) (fun h4=>?_)
  ·simp (disch:=first|assumption|(push_cast<;>omega)|omega) only [go_sem];have:zeo (nthL ls i)=false:=by unfold zeo;rw [decide_eq_false (by omega)];rfl
   rw [allL_f hi this];rfl
  ·have h4':(nthL ls i).length≤600:=by omega
   simp (disch:=first|assumption|(push_cast<;>omega)|omega) only [go_sem];refine AXs.loop mixed (zh) (zg) (fun j:Nat=>[(0,.fs (zcR ls) ls.length),(3,.int .i64 i),(4,.int .i64 j)]) (fun _=>⟨[],0⟩) (fun j=>j≤(nthL ls i).length∧∀ k,k<j→entL (nthE (nthL ls i) k)=true) (fun j=>(nthL ls i).length - j) 0 (by kernel_rfl) ⟨Nat.zero_le _,fun j hj=>by omega⟩ (Sub.of0 [] rfl rfl ?_ ?_) ?_
   ·simp only [go_sem];exact zcK ls
   ·simp only [go_sem]
   rintro j ⟨h5,h6⟩;simp (disch:=first|assumption|(push_cast<;>omega)|omega) only [go_sem,at1];refine⟨⟨by omega,by omega⟩,by omega,?_⟩;refine AXc.introP (fun h7=>?_) (fun h7=>?_)
   ·have hj:j<(nthL ls i).length:=by omega
    have at2:=zew (nthL ls i) j hj;simp (disch:=first|assumption|(push_cast<;>omega)|omega) only [go_sem,at1,at2]
    (repeat refine sdC ?_);have hb:(decide (100<((nthE (nthL ls i) j).1.1.length:Int))||decide (100<((nthE (nthL ls i) j).1.2.length:Int)))= !entL (nthE (nthL ls i) j):=by unfold entL nameL;by_cases k1:(nthE (nthL ls i) j).1.1.length≤100<;>by_cases k2:(nthE (nthL ls i) j).1.2.length≤100<;>simp [k1,k2]<;>omega
    rw [hb];cases hg:entL (nthE (nthL ls i) j)with
    |false=>
     simp (disch:=first|assumption|(push_cast<;>omega)|omega) only [go_sem];have:zeo (nthL ls i)=false:=by unfold zeo;rw [all_f hj hg,Bool.and_false]
     rw [allL_f hi this];rfl
    |true=>
     simp (disch:=first|assumption|(push_cast<;>omega)|omega) only [go_sem];refine zk (j+1) ⟨by omega,fun k hk=>?_⟩ (by omega) (Sub.of0 [] rfl rfl ?_ ?_)
     ·by_cases hkj:k<j
      ·exact h6 k hkj
      ·obtain rfl:k=j:=by omega
       exact hg
     ·simp only [go_sem];refine⟨zcK ls,?_⟩;simp
     ·simp only [go_sem]
   ·simp only [go_sem];refine AXa.go mixed (zh) (zg) (by kernel_rfl) ?_;simp (disch:=first|assumption|(push_cast<;>omega)|omega) only [go_sem];refine zk (i+1) ⟨by omega,fun k hk=>?_⟩ (by omega) (Sub.of0 [] rfl rfl ?_ ?_)
    ·by_cases hki:k<i
     ·exact h2 k hki
     ·obtain rfl:k=i:=by omega
      unfold zeo;rw [decide_eq_true h4',all_t fun m hm=>h6 m (by omega)];rfl
    ·simp only [go_sem];refine⟨zcK ls,?_⟩;simp
    ·simp only [go_sem]
 ·have:i=ls.length:=by omega
  subst this;simp only [go_sem];refine AXa.go mixed (zh) (zg) (by kernel_rfl) ?_;simp (disch:=first|assumption|(push_cast<;>omega)|omega) only [go_sem];rw [allL_t fun j hj=>h2 j hj];rfl
noncomputable def cLarge:List V→Option PR:=zD (fun ls:List (List Ent)=>[.fs (zcR ls) ls.length]) (fun ls=>ls.length≤1000) fun ls=>.ret (.bool (!ls.all zeo))
theorem zj0:∀ {l r:List (List Ent)},zcR l=zcR r→l=r
 |[],[],_=>rfl
 |[],e::r,h=>by simp [zcR]at h
 |e::l,[],h=>by simp [zcR]at h
 |e::l,e'::r,h=>by simp only [zcR,List.map_cons,List.cons.injEq,V.fs.injEq]at h;rw [zcv h.1.1,zj0 h.2]
theorem zuT(a b:List Ent):cLarge [.fs [.fs (cnts a) a.length,.fs (cnts b) b.length] 2]=some (.ret (.bool (!(zeo a&&zeo b)))):=by have:=zn (pat:=fun ls:List (List Ent)=>[.fs (zcR ls) ls.length]) (cond:=fun ls=>ls.length≤1000) (res:=fun ls=>.ret (.bool (!ls.all zeo))) (fun x y h=>by simp at h;exact zj0 h.1) [a,b] (by simp);simp only [List.all_cons,List.all_nil,Bool.and_true]at this;exact this
theorem zzS:∀ args r,cLarge args=some r→PCall Tryz.prog 6 args r:=zo fun ls h=>large_ok ls h
attribute [go_sem] zuT
theorem zm0 {l:List Ent}(h:zeo l=true):l.length≤600∧zft l:=by unfold zeo at h;simp only [Bool.and_eq_true,decide_eq_true_eq]at h;refine⟨h.1,fun e he=>?_⟩;have:=List.all_eq_true.1 h.2 e he;unfold entL nameL at this;simp only [Bool.and_eq_true,decide_eq_true_eq]at this;exact⟨by omega,by omega⟩
end Go.Proofs

namespace Go.Proofs
open Go.Ab
def VAL83:List (List V×V):=[([.str [48]],.bool true),
 ([.str [49]],.bool true),
 ([.str [51]],.bool true),
 ([.str [50]],.bool true),
 ([.str [52]],.bool true),
 ([.str [53]],.bool true)]
theorem VAL83_ok:FTabOK Tryz.prog 83 VAL83:=za6 (E:=E1) (n:=60) zbA zgB (zaX can1) (zaA rfl) (by kernel_rfl)
def VAL81:List (List V×V):=[([.str [48],.str [45]],.tup [.str [48],.bool false]),
 ([.str [51],.str [45]],.tup [.str [51],.bool false]),
 ([.str [49],.str [45]],.tup [.str [49],.bool false]),
 ([.str [50],.str [45]],.tup [.str [50],.bool false]),
 ([.str [52],.str [45]],.tup [.str [52],.bool false]),
 ([.str [53],.str [45]],.tup [.str [53],.bool false]),
 ([.str [45,49],.str [45]],.tup [.str [49],.bool true]),
 ([.str [49,47,50],.str [45]],.tup [.str [49,47,50],.bool false])]
theorem VAL81_ok:FTabOK Tryz.prog 81 VAL81:=za6 (E:=E1) (n:=60) zbA zgB (zaX can1) (zaA rfl) (by kernel_rfl)
def VAL82:List (List V×V):=[([.str [48],.str [47]],.tup [.str [48],.str [],.bool false]),
 ([.str [51],.str [47]],.tup [.str [51],.str [],.bool false]),
 ([.str [49],.str [47]],.tup [.str [49],.str [],.bool false]),
 ([.str [50],.str [47]],.tup [.str [50],.str [],.bool false]),
 ([.str [52],.str [47]],.tup [.str [52],.str [],.bool false]),
 ([.str [53],.str [47]],.tup [.str [53],.str [],.bool false]),
 ([.str [49,47,50],.str [47]],.tup [.str [49],.str [50],.bool true])]
theorem VAL82_ok:FTabOK Tryz.prog 82 VAL82:=za6 (E:=E1) (n:=60) zbA zgB (zaX can1) (zaA rfl) (by kernel_rfl)
def VAL64:List (List V×V):=[([.int .i64 3],.str [51]),
 ([.int .i64 1],.str [49]),
 ([.int .i64 0],.str [48]),
 ([.int .i64 2],.str [50])]
theorem VAL64_ok:FTabOK Tryz.prog 64 VAL64:=za6 (E:=E1) (n:=60) zbA zgB (zaX can1) (zaA rfl) (by kernel_rfl)
def VAL27:List (List V×V):=[([.str [68],.str []],.int .i64 1),
 ([.str [78],.str [68]],.int .i64 1),
 ([.str [],.str [78]],.int .i64 (-1)),
 ([.str [78],.str []],.int .i64 1),
 ([.str [],.str [68]],.int .i64 (-1)),
 ([.str [78],.str [78]],.int .i64 0),
 ([.str [],.str []],.int .i64 0),
 ([.str [68],.str [78]],.int .i64 (-1)),
 ([.str [100,111,103],.str [116,104,101]],.int .i64 (-1)),
 ([.str [116,104,101],.str [100,111,103]],.int .i64 1)]
theorem VAL27_ok:FTabOK Tryz.prog 27 VAL27:=za6 (E:=E1) (n:=60) zbA zgB (zaX can1) (zaA rfl) (by kernel_rfl)
def VAL51:List (List V×V):=[([.str [68]],.bool false),
 ([.str []],.bool false),
 ([.str [78]],.bool false),
 ([.str [100,111,103]],.bool false),
 ([.str [116,104,101]],.bool false)]
theorem VAL51_ok:FTabOK Tryz.prog 51 VAL51:=za6 (E:=E1) (n:=60) zbA zgB (zaX can1) (zaA rfl) (by kernel_rfl)
def TVA0:Tab:=[(83,VAL83),(81,VAL81),(82,VAL82),(64,VAL64),(27,VAL27),(51,VAL51)]
theorem TVA0_ok:TabOK Tryz.prog TVA0:=TabOK.cons VAL83_ok (TabOK.cons VAL81_ok (TabOK.cons VAL82_ok (TabOK.cons VAL64_ok (TabOK.cons VAL27_ok (TabOK.cons VAL51_ok (TabOK.nil))))))
noncomputable def EVA0:ECfg:=zhu E1 TVA0
theorem zfj:∀ f args r,EVA0.Γ f args=some r→PCall Tryz.prog f args r:=zeG zgB TVA0_ok
end Go.Proofs

namespace Go.Proofs
open Go.Ab
def VAL58:List (List V×V):=[([.str [48],.str [49]],.tup [.str [48],.int .i64 0]),
 ([.str [48],.str [51]],.tup [.str [48],.int .i64 0]),
 ([.str [49],.str [49]],.tup [.str [49],.int .i64 0]),
 ([.str [50],.str [49]],.tup [.str [50],.int .i64 0]),
 ([.str [49],.str [50]],.tup [.str [50],.int .i64 0]),
 ([.str [49],.str [51]],.tup [.str [51],.int .i64 0]),
 ([.str [51],.str [49]],.tup [.str [51],.int .i64 0]),
 ([.str [49],.str [52]],.tup [.str [52],.int .i64 0]),
 ([.str [49],.str [53]],.tup [.str [53],.int .i64 0]),
 ([.str [48],.str [50]],.tup [.str [48],.int .i64 0])]
theorem VAL58_ok:FTabOK Tryz.prog 58 VAL58:=za6 (E:=EVA0) (n:=60) zbA zfj (zaX can1) (zaA rfl) (by kernel_rfl)
def VAL85:List (List V×V):=[([.str [48],.str [49]],.tup [.str [49],.int .i64 0]),
 ([.str [48],.str [48]],.tup [.str [48],.int .i64 0]),
 ([.str [49],.str [48]],.tup [.str [49],.int .i64 0]),
 ([.str [48],.str [50]],.tup [.str [50],.int .i64 0]),
 ([.str [50],.str [48]],.tup [.str [50],.int .i64 0]),
 ([.str [51],.str [49]],.tup [.str [52],.int .i64 0]),
 ([.str [49],.str [49]],.tup [.str [50],.int .i64 0]),
 ([.str [51],.str [50]],.tup [.str [53],.int .i64 0]),
 ([.str [50],.str [49]],.tup [.str [51],.int .i64 0])]
theorem VAL85_ok:FTabOK Tryz.prog 85 VAL85:=za6 (E:=EVA0) (n:=60) zbA zfj (zaX can1) (zaA rfl) (by kernel_rfl)
def VAL86:List (List V×V):=[([.str [48],.str [48]],.int .i64 0),
 ([.str [49],.str [48]],.int .i64 1),
 ([.str [48],.str [49]],.int .i64 (-1)),
 ([.str [49],.str [49]],.int .i64 0),
 ([.str [49],.str [50]],.int .i64 (-1))]
theorem VAL86_ok:FTabOK Tryz.prog 86 VAL86:=za6 (E:=EVA0) (n:=60) zbA zfj (zaX can1) (zaA rfl) (by kernel_rfl)
def VAL87:List (List V×V):=[([.str [48],.str [48]],.tup [.str [48],.int .i64 0]),
 ([.str [49],.str [48]],.tup [.str [49],.int .i64 0]),
 ([.str [49],.str [49]],.tup [.str [48],.int .i64 0]),
 ([.str [50],.str [49]],.tup [.str [49],.int .i64 0])]
theorem VAL87_ok:FTabOK Tryz.prog 87 VAL87:=za6 (E:=EVA0) (n:=60) zbA zfj (zaX can1) (zaA rfl) (by kernel_rfl)
def VAL84:List (List V×V):=[([.str [48],.str [49]],.tup [.str [49],.int .i64 0]),
 ([.str [51],.str [49]],.tup [.str [49],.int .i64 0]),
 ([.str [49],.str [49]],.tup [.str [49],.int .i64 0]),
 ([.str [50],.str [49]],.tup [.str [49],.int .i64 0]),
 ([.str [48],.str [50]],.tup [.str [50],.int .i64 0]),
 ([.str [50],.str [50]],.tup [.str [50],.int .i64 0]),
 ([.str [49],.str [50]],.tup [.str [49],.int .i64 0]),
 ([.str [52],.str [49]],.tup [.str [49],.int .i64 0]),
 ([.str [49],.str [52]],.tup [.str [49],.int .i64 0]),
 ([.str [50],.str [52]],.tup [.str [50],.int .i64 0]),
 ([.str [53],.str [49]],.tup [.str [49],.int .i64 0]),
 ([.str [49],.str [53]],.tup [.str [49],.int .i64 0]),
 ([.str [51],.str [53]],.tup [.str [49],.int .i64 0]),
 ([.str [50],.str [53]],.tup [.str [49],.int .i64 0])]
theorem VAL84_ok:FTabOK Tryz.prog 84 VAL84:=za6 (E:=EVA0) (n:=60) zbA zfj (zaX can1) (zaA rfl) (by kernel_rfl)
def VAL157:List (List V×V):=[([.str [48],.str [49]],.tup [.str [48],.str [48],.int .i64 0]),
 ([.str [49],.str [49]],.tup [.str [49],.str [48],.int .i64 0]),
 ([.str [50],.str [49]],.tup [.str [50],.str [48],.int .i64 0]),
 ([.str [48],.str [50]],.tup [.str [48],.str [48],.int .i64 0]),
 ([.str [50],.str [50]],.tup [.str [49],.str [48],.int .i64 0]),
 ([.str [51],.str [49]],.tup [.str [51],.str [48],.int .i64 0]),
 ([.str [52],.str [49]],.tup [.str [52],.str [48],.int .i64 0]),
 ([.str [52],.str [50]],.tup [.str [50],.str [48],.int .i64 0]),
 ([.str [53],.str [49]],.tup [.str [53],.str [48],.int .i64 0])]
theorem zAL:FTabOK Tryz.prog 157 VAL157:=za6 (E:=EVA0) (n:=60) zbA zfj (zaX can1) (zaA rfl) (by kernel_rfl)
def TVA1:Tab:=[(58,VAL58),(85,VAL85),(86,VAL86),(87,VAL87),(84,VAL84),(157,VAL157)]
theorem TVA1_ok:TabOK Tryz.prog TVA1:=TabOK.cons VAL58_ok (TabOK.cons VAL85_ok (TabOK.cons VAL86_ok (TabOK.cons VAL87_ok (TabOK.cons VAL84_ok (TabOK.cons zAL (TabOK.nil))))))
noncomputable def EVA1:ECfg:=zhu EVA0 TVA1
theorem zAT:∀ f args r,EVA1.Γ f args=some r→PCall Tryz.prog f args r:=zeG zfj TVA1_ok
end Go.Proofs
