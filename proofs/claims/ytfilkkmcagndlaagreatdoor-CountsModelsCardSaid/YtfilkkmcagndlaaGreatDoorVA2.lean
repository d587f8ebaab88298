/- Calls that have been run (laid by program): level 2. -/
import Derived.Test.YtfilkkmcagndlaaGreatDoorML
import Derived.Test.YtfilkkmcagndlaaGreatDoorVM1
import Derived.KernelRfl
import Derived.Test.YtfilkkmcagndlaaGreatDoorPEst
import Derived.Test.YtfilkkmcagndlaaGreatDoorPlRat3
import Derived.Test.YtfilkkmcagndlaaGreatDoorVConc
import Derived.Test.YtfilkkmcagndlaaGreatDoorCards
import Derived.Test.YtfilkkmcagndlaaGreatDoorTie
import Derived.Test.YtfilkkmcagndlaaGreatDoorAbIn
import Derived.ProofKit
import Derived.LaidMore
import Derived.OpenShut
import Derived.Stop.Joined
import Derived.Stop.LaidErr
import Derived.SevenTiedAt
import Derived.Lib.LaidTab
import Derived.Carry
set_option linter.all false
namespace Go.Proofs
open Go.Ab
def VAL127:List (List V×V):=[([.str [48],.str [49]],.str [48]),
 ([.str [49],.str [49]],.str [49]),
 ([.str [50],.str [49]],.str [50]),
 ([.str [48],.str [50]],.str [48]),
 ([.str [50],.str [50]],.str [49]),
 ([.str [51],.str [49]],.str [51]),
 ([.str [52],.str [49]],.str [52]),
 ([.str [52],.str [50]],.str [50]),
 ([.str [53],.str [49]],.str [53])]
theorem zAM:FTabOK Tryz.prog 127 VAL127:=za6 (E:=EVA1) (n:=60) zbA zAT (zaX can1) (zaA rfl) (by kernel_rfl)
def TVA2:Tab:=[(127,VAL127)]
theorem TVA2_ok:TabOK Tryz.prog TVA2:=TabOK.cons zAM (TabOK.nil)
noncomputable def EVA2:ECfg:=zhu EVA1 TVA2
theorem zfi:∀ f args r,EVA2.Γ f args=some r→PCall Tryz.prog f args r:=zeG zAT TVA2_ok
end Go.Proofs

namespace Go.Proofs
open Go.Ab
def VAL63:List (List V×V):=[([.str [48],.str [51]],.tup [.str [48],.int .i64 0]),
 ([.str [49],.str [51]],.tup [.str [51],.int .i64 0])]
theorem VAL63_ok:FTabOK Tryz.prog 63 VAL63:=za6 (E:=EVA2) (n:=60) zbA zfi (zaX can1) (zaA rfl) (by kernel_rfl)
def VAL33:List (List V×V):=[([.str [48],.str [48]],.int .i64 0),
 ([.str [49],.str [48]],.int .i64 1),
 ([.str [45,49],.str [48]],.int .i64 (-1)),
 ([.str [48],.str [49]],.int .i64 (-1)),
 ([.str [49],.str [49]],.int .i64 0),
 ([.str [49,47,50],.str [48]],.int .i64 1),
 ([.str [49,47,50],.str [49]],.int .i64 (-1))]
theorem VAL33_ok:FTabOK Tryz.prog 33 VAL33:=za6 (E:=EVA2) (n:=60) zbA zfi (zaX can1) (zaA rfl) (by kernel_rfl)
def VAL65:List (List V×V):=[([.str [48],.str [49]],.tup [.str [49],.int .i64 0]),
 ([.str [48],.str [48]],.tup [.str [48],.int .i64 0]),
 ([.str [49],.str [48]],.tup [.str [49],.int .i64 0]),
 ([.str [48],.str [50]],.tup [.str [50],.int .i64 0]),
 ([.str [50],.str [48]],.tup [.str [50],.int .i64 0]),
 ([.str [51],.str [49]],.tup [.str [52],.int .i64 0]),
 ([.str [49],.str [49]],.tup [.str [50],.int .i64 0]),
 ([.str [51],.str [50]],.tup [.str [53],.int .i64 0]),
 ([.str [50],.str [49]],.tup [.str [51],.int .i64 0])]
theorem VAL65_ok:FTabOK Tryz.prog 65 VAL65:=za6 (E:=EVA2) (n:=60) zbA zfi (zaX can1) (zaA rfl) (by kernel_rfl)
def VAL66:List (List V×V):=[([.str [48],.str [49]],.tup [.str [48],.int .i64 0]),
 ([.str [49],.str [49]],.tup [.str [49],.int .i64 0]),
 ([.str [48],.str [50]],.tup [.str [48],.int .i64 0]),
 ([.str [50],.str [50]],.tup [.str [49],.int .i64 0]),
 ([.str [49],.str [50]],.tup [.str [49,47,50],.int .i64 0]),
 ([.str [49],.str [52]],.tup [.str [49,47,52],.int .i64 0]),
 ([.str [50],.str [52]],.tup [.str [49,47,50],.int .i64 0]),
 ([.str [49],.str [53]],.tup [.str [49,47,53],.int .i64 0]),
 ([.str [51],.str [53]],.tup [.str [51,47,53],.int .i64 0]),
 ([.str [50],.str [53]],.tup [.str [50,47,53],.int .i64 0])]
theorem VAL66_ok:FTabOK Tryz.prog 66 VAL66:=za6 (E:=EVA2) (n:=60) zbA zfi (zaX can1) (zaA rfl) (by kernel_rfl)
def VAL32:List (List V×V):=[([.str [48]],.bool true),
 ([.str [49]],.bool true),
 ([.str [50]],.bool true),
 ([.str [51]],.bool true),
 ([.str [45,49]],.bool true),
 ([.str [49,47,50]],.bool true)]
theorem VAL32_ok:FTabOK Tryz.prog 32 VAL32:=za6 (E:=EVA2) (n:=60) zbA zfi (zaX can1) (zaA rfl) (by kernel_rfl)
def VAL24:List (List V×V):=[([.str [116,104,101]],.bool true),
 ([.str [68]],.bool true),
 ([.str [100,111,103]],.bool true),
 ([.str [78]],.bool true)]
theorem VAL24_ok:FTabOK Tryz.prog 24 VAL24:=za6 (E:=EVA2) (n:=60) zbA zfi (zaX can1) (zaA rfl) (by kernel_rfl)
def TVA3:Tab:=[(63,VAL63),(33,VAL33),(65,VAL65),(66,VAL66),(32,VAL32),(24,VAL24)]
theorem TVA3_ok:TabOK Tryz.prog TVA3:=TabOK.cons VAL63_ok (TabOK.cons VAL33_ok (TabOK.cons VAL65_ok (TabOK.cons VAL66_ok (TabOK.cons VAL32_ok (TabOK.cons VAL24_ok (TabOK.nil))))))
noncomputable def EVA3:ECfg:=zhu EVA2 TVA3
theorem EVA3_ok:∀ f args r,EVA3.Γ f args=some r→PCall Tryz.prog f args r:=zeG zfi TVA3_ok
end Go.Proofs

namespace Go.Proofs
open Go.Ab
theorem zAs:eAns EVA3 Tryz.prog 60 8 []=some (.bool true):=by kernel_rfl
theorem zu7:PCall Tryz.prog 8 [] (.ret (.bool true)):=zpz zbA EVA3_ok (zaX can1) (zaA rfl) (fun x h=>by cases h) zAs
end Go.Proofs

namespace Go.Proofs
open Go.Ab Go.Cnt Go.Pl
noncomputable def cAwk:List V→Option PR:=zD (fun _:Unit=>[]) (fun _=>True) fun _=>.ret (.bool true)
@[go_sem] theorem cAwk_eq:cAwk []=some (.ret (.bool true)):=zn (pat:=fun _:Unit=>[]) (fun _ _ _=>rfl) () trivial
theorem cAwk_ok:∀ args r,cAwk args=some r→PCall Tryz.prog 8 args r:=zo fun _ _=>zu7
noncomputable def cPEst:List V→Option PR:=zD (fun p:List Ent×List Ent×Str=>[.agg [.fs (cnts p.1) p.1.length,.fs (cnts p.2.1) p.2.1.length],.str p.2.2]) (fun p=>p.1.length≤100000∧p.2.1.length≤100000∧zft p.1∧zft p.2.1∧p.2.2.length≤1000000) fun p=>.ret (estV (estR p.1 p.2.1 p.2.2))
theorem cPEst_ok:∀ args r,cPEst args=some r→PCall Tryz.prog 13 args r:=zo fun p h=>
 pest_ok p.1 p.2.1 p.2.2 h.1 h.2.1 h.2.2.1 h.2.2.2.1 h.2.2.2.2 (fun hp=>neg_law hp) fun hv hp hk i _=>est_law p.1 p.2.1 p.2.2 h.2.2.1 h.2.2.2.1 h.2.2.2.2 hv hp hk i
theorem cPEst_eq(A B:List Ent)(k:Str)(hA:A.length≤100000)(hB:B.length≤100000)(sA:zft A)(sB:zft B)(lk:k.length≤1000000):cPEst [.agg [.fs (cnts A) A.length,.fs (cnts B) B.length],.str k]=some (.ret (estV (estR A B k))):=
 zn (pat:=fun p:List Ent×List Ent×Str=>[V.agg [.fs (cnts p.1) p.1.length,.fs (cnts p.2.1) p.2.1.length],.str p.2.2]) (fun x y h=>by obtain⟨x1,x2,x3⟩:=x;obtain⟨y1,y2,y3⟩:=y;simp only [List.cons.injEq,V.agg.injEq,V.fs.injEq,V.str.injEq,and_true]at h;obtain⟨⟨⟨h1,_⟩,h2,_⟩,h3⟩:=h;rw [zcv h1,zcv h2,h3]) (A,B,k) ⟨hA,hB,sA,sB,lk⟩
end Go.Proofs

namespace Go.Proofs
open Go.Ab Go.Cnt Go.Pl
noncomputable def cVM:List V→Option PR:=zD (fun m:Mdl=>[mdlV m]) Fit fun m=>.ret (.bool (vmB m))
theorem cVM_eq(m:Mdl)(h:Fit m):cVM [mdlV m]=some (.ret (.bool (vmB m))):=zn (pat:=fun m:Mdl=>[mdlV m]) (fun x y h=>mdlV_inj (by simpa using h)) m h
theorem cVM_ok:∀ args r,cVM args=some r→PCall Tryz.prog 11 args r:=zo zkk
end Go.Proofs

namespace Go.Proofs
open Go.Ab Go.Cnt Go.Pl
theorem zwm {p:Str}(h:(ratP p).isSome=true):p.length≤1000:=by
 unfold ratP at h;split at h
 case isFalse=>cases h
 case isTrue hk=>
  simp only [zbP,Bool.and_eq_true]at hk
  have k1:=(shortN_iff.1 hk.1.1.1.1).2
  have k2:=(shortN_iff.1 hk.1.1.1.2).2
  clear hk h
  unfold zB at k1 k2
  simp only at k1 k2
  have hr:p.length≤(if decide (p.getD 0 0=45)=true then p.drop 1 else p).length+1:=by
   split
   ·rw [List.length_drop];omega
   ·omega
  generalize (if decide (p.getD 0 0=45)=true then p.drop 1 else p)=r at*
  cases hf:r.findIdx? (· ==47)with
  |none=>
   rw [hf]at k1
   simp only at k1
   omega
  |some i=>
   rw [hf]at k1 k2
   simp only [List.length_take,List.length_drop]at k1 k2
   omega
theorem p01_len {p:Str}(h:p01 p=true):p.length≤1000:=by unfold p01 at h;simp only [Bool.and_eq_true]at h;exact zwm h.1.1
theorem zmT {s:Str}(h:nameB s=true):s.length≤40:=by unfold nameB at h;simp only [Bool.and_eq_true,decide_eq_true_eq]at h;exact h.2
theorem zqW {m:List (List Str)}{n w:Nat}(h:matB m n w=true):m.length=n∧(∀ r∈m,r.length=w)∧∀ r∈m,∀ s∈r,s.length≤1000:=by
 unfold matB at h;simp only [Bool.and_eq_true,decide_eq_true_eq,List.all_eq_true]at h;refine⟨h.1,fun r hr=>?_,fun r hr s hs=>?_⟩
 ·have:=h.2 r hr;unfold zfw at this;simp only [Bool.and_eq_true,decide_eq_true_eq]at this;exact this.1
 ·have:=h.2 r hr;unfold zfw at this;simp only [Bool.and_eq_true,decide_eq_true_eq,List.all_eq_true]at this;exact p01_len (this.2 s hs)
theorem fit_good {m:Mdl}(h:vmB m=true):Fit m:=by
 unfold vmB at h;simp only [Bool.and_eq_true,decide_eq_true_eq,List.all_eq_true]at h;obtain⟨h1,h2,_,_,h3,h4,h5⟩:=h;obtain⟨a1,a2,a3⟩:=zqW h4;obtain⟨b1,b2,b3⟩:=zqW h5;exact⟨by omega,by omega,by omega,by omega,fun s hs=>Nat.le_trans (zmT (h3 s (List.mem_append_left _ hs))) (by omega),fun s hs=>Nat.le_trans (zmT (h3 s (List.mem_append_right _ hs))) (by omega),
  fun r hr=>by rw [a2 r hr];omega,fun r hr=>by rw [b2 r hr];omega,fun r hr s hs=>Nat.le_trans (a3 r hr s hs) (by omega),fun r hr s hs=>Nat.le_trans (b3 r hr s hs) (by omega)⟩
theorem zmu {k:Str}{r:List Str}(h:zdE k r){j:Nat}(hj:j≤r.length)(h0:∀ i,i<j→(sumR r i).2=0)(he:(sumR r j).2=0→j=r.length):
 (decide ((sumR r j).2=0)&& !decide ((sumR r j).1=[49])&&(decide ((zbS r j:Int)<(r.length:Int))|| !decide ((sumR r j).1=[48]))||decide ((sumR r j).2=0)&& !decide (k=[48])&&(decide ((0:Int)<(zbS r j:Int))|| !decide ((sumR r j).1=[49])))=false:=by
 by_cases hz:(sumR r j).2=0
 ·obtain rfl:=he hz
  obtain⟨h1,h2⟩:=h.2 h0 hz
  rw [decide_eq_true hz]
  rcases h1 with h1|⟨h3,h4⟩
  ·rw [decide_eq_true h1]
   rcases h2 with h2|⟨h2,_⟩
   ·rw [decide_eq_true h2];simp
   ·rw [h2];simp
  ·rw [h3,decide_eq_true h4]
   rcases h2 with h2|⟨h2,h5⟩
   ·rw [decide_eq_true h2];simp
   ·rw [h5]at h4;cases h4
 ·rw [decide_eq_false hz];rfl
set_option maxHeartbeats 8000000 in
set_option maxRecDepth 100000 in
theorem ztb(A B:List Ent)(k:Str)(lk:k.length≤1000000000000000):PCall Tryz.prog 5 [.agg [.fs (cnts A) A.length,.fs (cnts B) B.length],.str k] (.ret (.bool true)):=by
 have hΓ:=zf zzS (zf cAwk_ok (zf cPEst_ok (zf cVM_ok (zf zzm zh))));refine PCall.walk (rs:=[.tmp 4]) [0,1,2,4,5,6,8,9,10,11,12,13,24,33,37,42,43,44,45,51,64,86,123] [24,28] mixed (hΓ) (zg) call5 Tryz.func5 rfl Tryz.ntmps5 rfl (by kernel_rfl) (by simp) (by simp [push_cast,zlj]) ?_;cases hb:(zeo A&&zeo B)with
 |false=>simp (disch:=first|assumption|(push_cast<;>omega)|omega) only [go_sem,hb]
 |true=>
  have hb':zeo A=true∧zeo B=true:=by simpa using hb
  obtain⟨m1,s1⟩:=zm0 hb'.1;obtain⟨m2,s2⟩:=zm0 hb'.2;simp (disch:=first|assumption|(push_cast<;>omega)|omega) only [go_sem,hb];by_cases hk:20<k.length
  ·have e1:decide (20<(k.length:Int))=true:=decide_eq_true (by omega);simp (disch:=first|assumption|(push_cast<;>omega)|omega) only [go_sem,e1]
  have e1:decide (20<(k.length:Int))=false:=decide_eq_false (by omega);have p1:=cPEst_eq A B k (by omega) (by omega) s1 s2 (by omega);have hg:=est_good (A:=A) (B:=B) (k:=k);obtain⟨hf0,_⟩:=est_fit A B k;unfold estV at p1;generalize estR A B k=R at p1 hg hf0;obtain⟨m,e⟩:=R;dsimp only at p1 hg hf0;have pM:=zlj m;by_cases he:e=0;rotate_left
  ·obtain⟨T,W,N,E⟩:=m;unfold mdlV at p1;dsimp only at p1;have he1:decide (e=0)=false:=decide_eq_false he;simp (disch:=first|assumption|(push_cast<;>omega)|omega) only [go_sem,e1,p1,he1]
  subst he;obtain⟨hv,hn,hm⟩:=hg rfl;have hfit:=fit_good hv;have p2:=cVM_eq m hfit;rw [hv]at p2;obtain⟨T,W,N,E⟩:=m;unfold mdlV at p1 p2;dsimp only at p1 p2 hn hm;simp (disch:=first|assumption|(push_cast<;>omega)|omega) only [go_sem,e1,p1,p2];obtain⟨L,hL⟩:∃ L,L=[N,E]:=⟨_,rfl⟩;have hLl:L.length=2:=by rw [hL];rfl
  have hgood:∀ i,i<2→∀ r∈nthM L i,zdE k r:=fun i hi=>by
   rw [hL];match i,hi with
   |0,_=>exact hn
   |1,_=>exact hm
  have hlen:∀ i,i<2→(nthM L i).length≤100000∧(∀ r∈nthM L i,r.length≤1000000)∧∀ r∈nthM L i,∀ s∈r,s.length≤1000000:=fun i hi=>by
   rw [hL];match i,hi with
   |0,_=>exact⟨hfit.nl,hfit.nr,hfit.ns⟩
   |1,_=>exact⟨hfit.el,hfit.er,hfit.es⟩
  have hcells:[V.fs (za8 N) N.length,V.fs (za8 E) E.length]=zi0 L:=by rw [hL];rfl
  rw [hcells];clear hcells hL hfit hn hm hv p1 p2 pM hg hf0 hb hb' m1 m2 s1 s2 e1;refine AXs.loop mixed (hΓ) (zg) (fun i:Nat=>[(1,.str k),(42,.sl 0 0 2 1 (some 2)),(43,.int .i64 2),(44,.int .i64 i)]) (fun _=>⟨[(0,.cells (zi0 L))],1⟩) (fun i=>i≤2) (fun i=>2 - i) 0 (by kernel_rfl) (Nat.zero_le _) (Sub.of0 [(0,2)] rfl rfl ?_ ?_) ?_
  ·simp only [go_sem]
  ·simp only [go_sem]
  intro i h1;simp only [go_sem];refine AXc.introP (fun h2=>?_) (fun h2=>?_);rotate_left
  ·obtain rfl:i=2:=by omega
   simp only [go_sem];refine AXa.go mixed (hΓ) (zg) (by kernel_rfl) ?_;simp only [go_sem]
  have hi:i<2:=by omega
  have at0:=matsC_at L i (by omega);have hg:=hgood i hi;obtain⟨l1,l2,l3⟩:=hlen i hi;have at1:nthV (zi0 L) i=.fs (za8 (nthM L i)) (nthM L i).length:=by rw [←zo0,at0];rfl
  generalize nthM L i=M at at1 hg l1 l2 l3;clear at0;simp (disch:=first|assumption|(push_cast<;>omega)|omega) only [go_sem,at1,hLl]
  (repeat refine sdC ?_);refine AXs.loop mixed (hΓ) (zg) (fun j:Nat=>[(1,.str k),(42,.sl 0 0 2 1 (some 2)),(43,.int .i64 2),(44,.int .i64 i),(8,.fs (za8 M) M.length),(9,.int .i64 j)]) (fun _=>⟨[(0,.cells (zi0 L))],1⟩) (fun j=>j≤M.length) (fun j=>M.length - j) 0 (by kernel_rfl) (Nat.zero_le _) (Sub.of0 [(0,0)] rfl rfl ?_ ?_) ?_
  ·simp only [go_sem]
  ·simp only [go_sem]
  intro j h3;simp only [go_sem];refine AXc.introP (fun h4=>?_) (fun h4=>?_);rotate_left
  ·obtain rfl:j=M.length:=by omega
   simp only [go_sem];refine AXa.go mixed (hΓ) (zg) (by kernel_rfl) ?_;simp (disch:=first|assumption|(push_cast<;>omega)|omega) only [go_sem];refine zk (i+1) (by omega) (by omega) (Sub.of0 [(0,0)] rfl rfl ?_ ?_)
   ·simp only [go_sem];simp
   ·simp only [go_sem]
  have hj:j<M.length:=by omega
  have at2:=zqI M j hj;have hrm:=rowR.nth_mem hj;rw [show rowR.nth M j=nthR M j from rfl]at hrm;have hgr:=hg _ hrm;have lr:=l2 _ hrm;have ls:=l3 _ hrm;generalize nthR M j=r at at2 hgr lr ls;clear hrm;simp (disch:=first|assumption|(push_cast<;>omega)|omega) only [go_sem,at2]
  (repeat refine sdC ?_);refine AXs.loop mixed (hΓ) (zg) (fun q:Nat=>[(1,.str k),(42,.sl 0 0 2 1 (some 2)),(43,.int .i64 2),(44,.int .i64 i),(8,.fs (za8 M) M.length),(9,.int .i64 j),(10,.str (sumR r q).1),(11,.int .i64 (zbS r q)),(12,.int .i64 (sumR r q).2),(13,.int .i64 q)]) (fun _=>⟨[(0,.cells (zi0 L))],1⟩) (fun q=>q≤r.length∧∀ i,i<q→(sumR r i).2=0) (fun q=>r.length - q) 0 (by kernel_rfl) ⟨Nat.zero_le _,fun i hi=>by omega⟩ (Sub.of0 [(0,0)] rfl rfl ?_ ?_) ?_
  ·simp only [go_sem,sumR,zbS]
  ·simp only [go_sem]
  rintro q ⟨h5,h6⟩;simp (disch:=first|assumption|(push_cast<;>omega)|omega) only [go_sem,at2];try (repeat refine sdC ?_)
  cases hc:(decide ((q:Int)<(r.length:Int))&&decide ((sumR r q).2=0))with
  |false=>
   have he:(sumR r q).2=0→q=r.length:=fun h=>by rw [decide_eq_true h,Bool.and_true,decide_eq_false_iff_not]at hc;omega
   have ht:=zmu hgr h5 h6 he;simp (disch:=first|assumption|(push_cast<;>omega)|omega) only [go_sem];refine AXa.go mixed (hΓ) (zg) (by kernel_rfl) ?_;simp (disch:=first|assumption|(push_cast<;>omega)|omega) only [go_sem,at2];generalize decide ((sumR r q).2=0)=b1 at ht ⊢;generalize decide ((sumR r q).1=[49])=b2 at ht ⊢;generalize decide ((zbS r q:Int)<(r.length:Int))=b3 at ht ⊢;generalize decide ((sumR r q).1=[48])=b4 at ht ⊢;generalize decide (k=[48])=b5 at ht ⊢;generalize decide ((0:Int)<(zbS r q:Int))=b6 at ht ⊢;refine⟨fun h=>⟨h,by omega,by omega⟩,fun h=>⟨h,by omega⟩,?_⟩
   (repeat refine And.intro (by clear ht;cases b1<;>cases b2<;>cases b3<;>cases b4<;>cases b5<;>cases b6<;>simp) ?_);rw [ht];simp (disch:=first|assumption|(push_cast<;>omega)|omega) only [go_sem];refine zk (j+1) (by omega) (by omega) (Sub.of0 [(0,0)] rfl rfl ?_ ?_)
   ·simp only [go_sem];simp
   ·simp only [go_sem]
  |true=>
   simp only [Bool.and_eq_true,decide_eq_true_eq]at hc;obtain⟨hq,hz⟩:=hc;have hq':q<r.length:=by omega
   have la:=sumR_len r q;have lb:=ls _ (zlB hq');have p3:=zuP (sumR r q).1 (r.getD q []) (by omega) (by omega);simp (disch:=first|assumption|(push_cast<;>omega)|omega) only [go_sem,at2,p3];have hzr:zbS r (q+1)=if r.getD q []=[48]then zbS r q+1 else zbS r q:=rfl
   have hst:sumR r (q+1)=resP (zG (sumR r q).1 (r.getD q [])):=rfl;have hzl:=zl7 r q
   (repeat refine sdC ?_);refine AXc.introP (fun h7=>?_) (fun h7=>?_)
   ·simp (disch:=first|assumption|(push_cast<;>omega)|omega) only [go_sem];refine zk (q+1) ⟨by omega,fun i hi=>?_⟩ (by omega) (Sub.of0 [(0,0)] rfl rfl ?_ ?_)
    ·rcases Nat.lt_or_ge i q with h|h
     ·exact h6 i h
     ·obtain rfl:i=q:=by omega
      exact hz
    ·rw [hzr,hst,if_pos h7];simp only [go_sem];simp
    ·simp only [go_sem]
   ·simp (disch:=first|assumption|(push_cast<;>omega)|omega) only [go_sem];refine zk (q+1) ⟨by omega,fun i hi=>?_⟩ (by omega) (Sub.of0 [(0,0)] rfl rfl ?_ ?_)
    ·rcases Nat.lt_or_ge i q with h|h
     ·exact h6 i h
     ·obtain rfl:i=q:=by omega
      exact hz
    ·rw [hzr,hst,if_neg h7];simp only [go_sem];simp
    ·simp only [go_sem]
end Go.Proofs

namespace Go.Proofs
open Go.Ab Go.Cnt Go.Pl
def entR:Row Ent where
 enc:=entV
 n:=3
 dflt:=(([],[]),0)
 len _:=rfl
 pos:=by decide
 pure a x h:=by
  simp only [entV,List.mem_cons,List.not_mem_nil,or_false]at h;rcases h with rfl|rfl|rfl
  ·exact .str _
  ·exact .str _
  ·exact .int _ _
 one _:=rfl
 inj a b h:=zlF h
theorem dStr:Dec Tryz.prog 9 strR (fun s=>s.length≤reachBytes):=Dec.str Tryz.underlying9 (by kernel_rfl)
theorem dInt:Dec Tryz.prog 3 (intR .i64) (fun n=>(Lit.int .i64 n).wf=true):=Dec.int Tryz.underlying3 (by kernel_rfl)
theorem dEnt:Dec Tryz.prog 44 entR (fun _=>True):=(Dec.three Tryz.underlying44 dStr dStr dInt rfl rfl rfl (by kernel_rfl)).cast (fun a=>a) rfl (fun _=>rfl) fun _ _=>trivial
theorem dEnts:Dec Tryz.prog 22 (slR entR) (fun l=>l.length≤reachBytes):=(dEnt.slice Tryz.underlying22 (by kernel_rfl) (of_decide_eq_true (by kernel_rfl))).cast (fun a=>a) rfl (fun _=>rfl) fun _ h=>h.1
theorem dCnts:Dec Tryz.prog 24 (zwL (slR entR) (slR entR)) (fun p=>p.1.length≤reachBytes∧p.2.length≤reachBytes):=
 Dec.two Tryz.underlying24 dEnts dEnts rfl rfl (by kernel_rfl)
theorem reach_le {n:Nat}(h:n≤reachBytes):n≤1000000000000000:=Nat.le_trans h (by unfold reachBytes;omega)
end Go.Proofs

namespace Go.Proofs
open Go.Ab Go.Cnt Go.Pl
theorem models_in(c:List Ent×List Ent)(k:Str)(hk:k.length≤reachBytes):
 PCall Tryz.prog 5 [.agg ((zwL (slR entR) (slR entR)).enc c),.str k] (.ret (.bool true)):=by
 obtain⟨a,b⟩:=c
 exact ztb a b k (reach_le hk)
end Go.Proofs

namespace Go.Proofs.YtfilkkmcagndlaaGreatDoor
open Go.ChangeShapes Go.WideShapes Go.ChangeAt Go.WideMaps Go.WideElems Go.RowKit
theorem ownK:ownKnob Tryz.prog.godebug=none:=by kernel_rfl
theorem zq8:laidOutB Tryz.prog=true:=by kernel_rfl
abbrev zpb:List (String×DataW Unit):=[("math/bits.deBruijn32tab",Rows.laid_math_bits_deBruijn32tab),("math/bits.deBruijn64tab",Rows.laid_math_bits_deBruijn64tab),("internal/strconv.uint64pow10",Rows.laid_internal_strconv_uint64pow10)]
theorem door_met(os:Os):laidMetH Tryz.prog zpb ((World.doorLaid Tryz.prog 400 os).forCall (fun _ _=>0) ⟨#[],#[.agg #[.slice none 0 0,.slice none 0 0],.string ⟨#[]⟩],[]⟩).memory:=
 laidMetH_of_parts3 (fuel:=8) (laidMet_of_run' 8 (by kernel_rfl) (by kernel_rfl)) (by kernel_rfl) (by kernel_rfl)
def tens:List Int:=(List.range 20).map fun i=>((10 ^ i:Nat):Int)
theorem zsh:(Rows.laid_internal_strconv_uint64pow10:DataW Unit)=Lib.tabData .u64 tens:=by kernel_rfl
theorem gTab:Tryz.prog.globalNamed "internal/strconv.uint64pow10" =some 1:=by kernel_rfl
theorem gTabT:(Tryz.prog.globals[1]?).map (·.type)=some 192:=by kernel_rfl
theorem underA:Tryz.prog.underlying 192=some (.array 20 108):=by kernel_rfl
theorem underU:Tryz.prog.underlying 108=some (.int .u64):=by kernel_rfl
theorem cellsU:Tryz.prog.cellsOf 108=1:=by kernel_rfl
theorem cellsA:Tryz.prog.cellsOf 192=20:=by kernel_rfl
theorem tab_of {W:World}(h:laidMetH Tryz.prog zpb W):∃ t fr,W.heap[1]? =some (.cells (tens.map fun z=>Value.int .u64 z).toArray t fr):=by
 rw [MakeChecks.laidMetH_plain _ _ _ (by kernel_rfl)]at h;have h2:=h.tail.tail;rw [zsh]at h2;have h3:W.var? Tryz.prog "internal/strconv.uint64pow10" =some (tens.map fun z=>Value.int .u64 z).toArray:=Lib.tabIs_of_head gTab gTabT underA underU cellsU cellsA h2;unfold World.var? at h3;rw [gTab]at h3;simp only [Option.bind_some]at h3;cases hb:W.heap[1]? with
 |none=>rw [hb]at h3;cases h3
 |some o=>
  rw [hb]at h3;cases o<;>first|(cases h3;exact⟨_,_,rfl⟩)|cases h3
theorem gok_of {W:World}(h:laidMetH Tryz.prog zpb W):Go.Ab.GOK (Go.Ab.gW W):=by
 obtain⟨t,fr,hb⟩:=tab_of h;have hphi:=Go.Ab.gW_of hb;intro k cs e;have e':(if k=1 then some Go.Ab.pow10V else none)=some cs:=e;split at e';rotate_left;·cases e'
 rename_i hk;cases e';subst hk;have hsz:(tens.map fun z=>Value.int .u64 z).toArray.size=Go.Ab.pow10V.length:=by kernel_rfl
 refine⟨Go.Ab.VRel.mk_fp hphi ?_,_,hphi,hsz⟩;intro i x hx;have hi:i<20:=(List.getElem?_eq_some_iff.1 hx).1;refine⟨.int .u64 ((10 ^ i:Nat):Int),?_,?_⟩
 ·show (tens.map fun z=>Value.int .u64 z).toArray[0+i]? =_;rw [Nat.zero_add];simp [tens,hi]
 ·have:Go.Ab.pow10V[i]? =some (.int .u64 ((10 ^ i:Nat):Int)):=by simp [Go.Ab.pow10V,hi]
  rw [this]at hx;cases hx;exact .int _ _
theorem call_of {W:World}(h:laidMetH Tryz.prog zpb W){args:Array Value}{vs:List Go.Ab.V}(hc:Go.Ab.PCall Tryz.prog 5 vs (.ret (.bool true)))(hs:args.size=vs.length)(hp:Go.Ab.PW (Go.Ab.gW W) vs (fun i=>args[i]?)):
 Calls Tryz.prog 5 args W fun e W'=>e=.returned (.bool true)∧Below W.heap.size W W':=by
 have hc':=hc (Go.Ab.gW W) W args (gok_of h) Go.Ab.gW_frz hs hp
 refine(zeF (Go.Ab.canB_ok (by kernel_rfl)) hc').mono fun e W' q=>?_
 obtain⟨phi',vc,_,hbel,rfl,hv⟩:=q
 rw [hv.inv_bool]
 exact⟨rfl,hbel.os,hbel.tape.eq,hbel.output,hbel.size,hbel.block⟩
theorem zwK:Tryz.f5.params.toList=[24,9]:=by kernel_rfl
theorem stand9:Tryz.pinned.checked.prog.wantsStandIn (9:Nat)=false:=by kernel_rfl
theorem stand24:Tryz.pinned.checked.prog.wantsStandIn (24:Nat)=false:=by kernel_rfl
set_option maxRecDepth 100000 in
theorem lifted(os:Os)(started:os.Started)(H:Type)(enc:TypeId×Value→H):
 ReturnsInHanded {} Tryz.checked os 5 .any (fun w args=>(Rows.countsModelsSpec.pre enc Tryz.prog Tryz.f5 [] false w args∧laidMetH Tryz.prog zpb w)∧sizedMet enc Tryz.prog Tryz.f5 (OpenSpec.ofChange Rows.countsModelsSpec) false w args)
  (Rows.countsModelsSpec.post enc Tryz.prog Tryz.f5 false true false false):=by
 refine returnsInHanded_of_change_and (C:=Tryz.checked) (X:=fun w _=>laidMetH Tryz.prog zpb w) (fun _ _ _ hh h=>h.of_heap hh) ownK started (by kernel_rfl) Tryz.func5
  (ChangeSpec.witness_shaped (enc:=enc) (C:=Tryz.checked) (os:=os) (X:=fun w _=>laidMetH Tryz.prog zpb w) false (World.doorLaid Tryz.prog 400 os) #[.agg #[.slice none 0 0,.slice none 0 0],.string ⟨#[]⟩] 8 rfl (World.shaped_of_RefB (by kernel_rfl) (by kernel_rfl)) (by kernel_rfl) (by kernel_rfl) (by kernel_rfl) (door_met os)) ?_
 intro W base args ds gs before hval0 hW _ hwt hL _
 have hW':=hW
 obtain⟨p,q,hA0,hV,rfl,hfz,hnd⟩:=hW
 have hA:DataW.TrodAll enc Tryz.prog W 0 (fun _=>true) true Tryz.f5.params.toList args.toList ds p:=hA0
 rw [zwK]at hA
 obtain⟨v0,v1,d0,d1,p0,p1,rfl,rfl,rfl,h0,h1⟩:=trodAll_two hA
 obtain⟨rfl,rfl⟩:=trodVars_none hV
 have hlt:=DataW.TrodAll.lt hA
 have hwt':∀ n∈DataW.weightsEach Tryz.prog [24,9] [d0,d1],n≤reachBytes:=fun n hn=>by have:=List.all_eq_true.1 hwt n (by rw [zwK,show Rows.countsModelsSpec.plain.varTypes Tryz.checked.prog=[]from rfl,List.append_nil,List.append_nil];exact hn);simpa using this
 simp only [Go.Ab.weightsEach_cons]at hwt'
 have w0:∀ n∈d0.weights Tryz.prog 24,n≤reachBytes:=fun n hn=>hwt' n (List.mem_append_left _ hn)
 have w1:∀ n∈d1.weights Tryz.prog 9,n≤reachBytes:=fun n hn=>hwt' n (List.mem_append_right _ (List.mem_append_left _ hn))
 have hv0:Value.okWide Tryz.prog W .any base 24 v0:=hval0 0 24 v0 rfl rfl
 have c0:∃ cs,v0=.agg cs:=by obtain⟨cs,e,_⟩:=okWide_struct Tryz.underlying24 hv0;exact⟨cs,e⟩
 obtain⟨a0,o0,r0⟩:=Go.Proofs.dCnts.argS h0 c0 w0
 have hv1:Value.okWide Tryz.prog W .any base 9 v1:=hval0 1 9 v1 rfl rfl
 have c1:v1.cells=#[v1]:=by obtain⟨_,e⟩:=okWide_string Tryz.underlying9 hv1;rw [e];rfl
 obtain⟨a1,o1,r1⟩:=Go.Proofs.dStr.arg1 h1 c1 w1
 replace r1:=r1 _ rfl
 refine(call_of hL (Go.Proofs.models_in a0 a1 o1) rfl (fun i x hx=>by
  match i with
  |0=>cases hx;exact⟨v0,rfl,r0⟩
  |1=>cases hx;exact⟨v1,rfl,r1⟩
  |i+2=>simp at hx)).mono fun e W' ⟨he,bel⟩=>?_
 subst he
 have k0:=Below.trod zq8 (by kernel_rfl) (of_decide_eq_true (by kernel_rfl)) h0 bel (fun x hx=>hlt x (List.mem_append_left _ hx))
 have k1:=Below.trod zq8 (by kernel_rfl) (of_decide_eq_true (by kernel_rfl)) h1 bel (fun x hx=>hlt x (List.mem_append_right _ hx))
 exact⟨_,rfl,_,_,_,[],_,[],hW',trodAll_mk1 (shut_bool Tryz.underlying4 _),trodAll_mk2 k0 k1,rfl,bel.frame _,fun h=>by cases h⟩
theorem said:Rows.CountsModelsSaid:=
 OpenClaim.holds_of_wide 5 Tryz.f5 rfl rfl rfl rfl rfl rfl rfl ⟨rfl,rfl,rfl,rfl,rfl⟩ rfl rfl rfl rfl rfl (by kernel_rfl) Tryz.func5 (by kernel_rfl)
  (of_decide_eq_true (by kernel_rfl)) (by unfold Func.isWrapper;first|(rw [if_pos (by decide+kernel)];kernel_rfl)|(rw [if_neg (by decide+kernel)];exact⟨rfl,rfl⟩))
  (fun os started H enc _=>lifted os started H enc)
theorem models_holds:Rows.CountsModelsCardSaid:=
 Claim7.holds_tied_plain_at .later [] [.data,.data,.data] true (true, "7c4c12853d54250aee831335b6fcfbeafb1da9c7f49def67bb69e590115736e1") true
  said (fun _ h=>by cases h) (by kernel_rfl) (fun _ h=>by cases h) countsModels_row_tie rfl ⟨rfl,rfl⟩ (by kernel_rfl) rfl
  (fun f fn hf hfn=>by
   obtain rfl:f=5:=Option.some.inj ((show Tryz.prog.funcNamed "abugida/abugidalaw35.CountsModels" =some 5 by kernel_rfl).symm.trans hf) |>.symm
   obtain rfl:fn=Tryz.f5:=(Option.some.inj (Tryz.func5.symm.trans hfn)).symm;exact⟨by kernel_rfl,fun j t ht=>by
    rw [Tryz.params5]at ht;match j with
    |0=>exact(Option.some.inj ht:(24:Nat)=t)▸stand24
    |1=>exact(Option.some.inj ht:(9:Nat)=t)▸stand9
    |j+2=>simp at ht⟩)
  (by kernel_rfl)
#print axioms models_holds
end Go.Proofs.YtfilkkmcagndlaaGreatDoor
