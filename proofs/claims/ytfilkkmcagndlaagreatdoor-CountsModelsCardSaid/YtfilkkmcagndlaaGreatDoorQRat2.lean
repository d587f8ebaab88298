/- rat: parse, Valid, Cmp. -/
import Derived.Test.YtfilkkmcagndlaaGreatDoorQFmt
import Derived.Test.YtfilkkmcagndlaaGreatDoorF3b
import Derived.Test.YtfilkkmcagndlaaGreatDoorAbIn
import Derived.Test.YtfilkkmcagndlaaGreatDoorAbCut
import Derived.Test.YtfilkkmcagndlaaGreatDoorPlCnt
import Derived.Test.YtfilkkmcagndlaaGreatDoorAbMapS
import Derived.Test.YtfilkkmcagndlaaGreatDoorAbHeap
set_option linter.all false
namespace Go.Proofs
open Go.Ab Go.Pl
attribute [go_sem] List.getElem?_cons_zero List.getElem?_cons_succ
def numV(s:Bool)(n d:List UInt8):V:=.agg [.bool s,.str n,.str d]
def zel(a:List UInt8):V:=match ratP a with
 |some (s,n,d)=>.tup [numV s (dec n) (dec d),.bool true]
 |none=>.tup [numV false [] [],.bool false]
def zeU(neg:Bool)(n d:List UInt8)(fr:Bool):V:=if zbP neg n d fr=true then .tup [numV neg n d,.bool true]else .tup [numV false [] [],.bool false]
theorem zmI(a:List UInt8):zel a=zeU (zB a).1 (zB a).2.1 (zB a).2.2.1 (zB a).2.2.2:=by
 unfold zel zeU ratP;split
 ·rename_i h;split at h
  ·rename_i hk;simp only [Option.some.injEq,Prod.mk.injEq]at h;obtain⟨rfl,rfl,rfl⟩:=h;rw [if_pos hk];simp only [zbP,Bool.and_eq_true]at hk;rw [zak (shortN_iff.1 hk.1.1.1.1).1,zak (shortN_iff.1 hk.1.1.1.2).1]
  ·cases h
 ·rename_i h;split at h
  ·cases h
  ·rename_i hk;rw [if_neg hk]
theorem zjE {a:List UInt8}{neg:Bool}{r:List UInt8}{i:Nat}(h1:decide (a.getD 0 0=45)=neg)(h2:r=if neg=true then a.drop 1 else a)(h3:r.findIdx? (· ==47)=some i):zel a=zeU neg (r.take i) (r.drop (i+1)) true:=by
 rw [zmI];have:zB a=(neg,r.take i,r.drop (i+1),true):=by unfold zB;simp only;rw [h1, ←h2,h3]
 rw [this]
theorem zjF {a:List UInt8}{neg:Bool}{r:List UInt8}(h1:decide (a.getD 0 0=45)=neg)(h2:r=if neg=true then a.drop 1 else a)(h3:r.findIdx? (· ==47)=none):zel a=zeU neg r [49] false:=by
 rw [zmI];have:zB a=(neg,r,[49],false):=by unfold zB;simp only;rw [h1, ←h2,h3]
 rw [this]
theorem zhb {neg:Bool}{n d:List UInt8}{fr:Bool}(h:zbP neg n d fr=true):zeU neg n d fr=.tup [numV neg n d,.bool true]:=if_pos h
theorem zbj {neg:Bool}{n d:List UInt8}{fr:Bool}(h:zbP neg n d fr=false):zeU neg n d fr=.tup [numV false [] [],.bool false]:=if_neg (by rw [h];decide)
theorem pref45(a:List UInt8):List.isPrefixOf [45] a=decide (a.getD 0 0=45):=by
 rcases a with _|⟨c,a⟩
 ·rfl
 ·show (45==c&&true)=decide (c=45);rw [Bool.and_true,Bool.eq_iff_iff];simp only [beq_iff_eq,decide_eq_true_eq];exact eq_comm
theorem zgc(n d:List UInt8):(!zH n|| !zH d||decide (400<(n.length:Int))||decide (400<(d.length:Int)))= !(zaG n&&zaG d):=by
 rw [Bool.eq_iff_iff];simp only [zaG,Bool.or_eq_true,Bool.not_eq_true',Bool.and_eq_false_imp,decide_eq_true_eq,Bool.and_eq_true,decide_eq_false_iff_not];constructor
 ·rintro(((h|h)|h)|h) h1 h2
  ·rw [h]at h1;exact absurd h1.1 (by decide)
  ·rw [h]at h2;exact absurd h2 (by decide)
  ·omega
  ·omega
 ·intro h;by_cases h1:zH n=true
  ·by_cases h2:zH d=true
   ·by_cases h3:n.length≤400
    ·have:=h ⟨h1,h3⟩ h2;exact .inr (by omega)
    ·exact .inl (.inr (by omega))
   ·exact .inl (.inl (.inr (by simpa using h2)))
  ·exact .inl (.inl (.inl (by simpa using h1)))
theorem zmp(n:List UInt8):(!zH n||decide (400<(n.length:Int)))= !zaG n:=by
 have:=zgc n [49];have h1:zH [49]=true:=by decide
 have h2:decide (400<(([49]:List UInt8).length:Int))=false:=by decide
 rw [h1,h2,s49,Bool.not_true,Bool.or_false,Bool.or_false,Bool.and_true]at this;exact this
set_option maxHeartbeats 8000000 in
set_option maxRecDepth 100000 in
theorem parse_ok(a:List UInt8)(hl:a.length≤1000000000):PCall Tryz.prog 55 [.str a] (.ret (zel a)):=by
 have hΓ:=zf zpZ (zf cCut_ok (zf zcS (zf zrJ zh)));refine PCall.walk (rs:=[.cell 2 87,.tmp 3]) [0,2,3,4,5,6,7,8,9,10,23,41,58,71] [] mixed (hΓ) (zg) call55 Tryz.func55 rfl Tryz.ntmps55 rfl (by kernel_rfl) (by simp) (by simp [push_cast]) ?_;by_cases hneg:a.getD 0 0=45
 ·have hq:=decide_eq_true hneg;have hr:(a.drop 1).length≤1000000000:=by first|exact hl|(simp;omega)
  have p1:=fun i=>zjE (r:=a.drop 1) (i:=i) hq rfl;have p2:=zjF (r:=a.drop 1) hq rfl;have hcp:zbr a [45]=.tup [.str (a.drop 1),.bool true]:=by unfold zbr;rw [pref45,hq];rfl
  simp (disch:=first|assumption|(push_cast<;>omega)|omega) only [go_sem,hcp];generalize a.drop 1=r at*;cases hf:r.findIdx? (· ==47)with
  |some i=>
   rw [p1 i hf];have hct:cutV r 47=.tup [.str (r.take i),.str (r.drop (i+1)),.bool true]:=by unfold cutV;rw [hf]
   generalize r.take i=n at*;generalize r.drop (i+1)=d at*;simp only [go_sem,hct];rw [zgc];by_cases h1:zaG n=true
   case neg=>
    rw [zbj (zei h1)]
    simp only [go_sem,h1,Bool.false_and,numV]
    exact .pure (by simp [zV,zM,zO])
   by_cases h2:zaG d=true
   case neg=>
    rw [zbj (zkN h2)]
    simp only [go_sem,h1,h2,Bool.and_false,numV]
    exact .pure (by simp [zV,zM,zO])
   by_cases h4:d=[48]
   ·rw [h4,zbj zg7];simp only [go_sem,h1,s48,Bool.and_self,numV];exact .pure (by simp [zV,zM,zO])
   by_cases h5:d=[49]
   ·rw [h5,zbj zg6];simp only [go_sem,h1,s49,Bool.and_self,numV];first
     |exact .pure (by simp [zV,zM,zO])
     |exact⟨fun h=>⟨h,fun _=>by rw [h];rfl⟩,.pure (by simp [zV,zM,zO])⟩
   by_cases h3:n=[48]
   ·rw [h3,zbj (zg5 h2 h5)];have hg:decide (Nat.gcd (valD [48]) (valD d)=1)=false:=by rw [decide_eq_false_iff_not,show valD [48]=0 from rfl,Nat.gcd_zero_left];intro e;have hv:=zak (shortN_iff.1 h2).1;rw [e]at hv;exact h5 hv.symm
    simp only [go_sem,s48,h2,h4,h5,Bool.and_self,numV,zd2 (shortN_iff.1 s48).1 (shortN_iff.1 h2).1,zaS,hg];exact .pure (by simp [zV,zM,zO])
   simp only [go_sem,h1,h2,h3,h4,h5,zd2 (shortN_iff.1 h1).1 (shortN_iff.1 h2).1,zaS,Bool.and_self];refine AXc.introN (fun h6=>?_) (fun h6=>?_)
   ·rw [zbj (by rw [zej h1 h2 h3 h4 h5];simpa using h6)];simp only [go_sem,numV];exact .pure (by simp [zV,zM,zO])
   ·rw [zhb (by rw [zej h1 h2 h3 h4 h5];simpa using h6)];simp only [go_sem,numV];exact .pure (by simp [zV,zM,zO])
  |none=>
   rw [p2 hf];have hct:cutV r 47=.tup [.str r,.str [],.bool false]:=by unfold cutV;rw [hf]
   have v49:zH [49]=true:=by decide
   simp only [go_sem,hct,v49];rw [zmp];by_cases h1:zaG r=true
   case neg=>
    rw [zbj (zei h1)]
    simp only [go_sem,h1,numV]
    exact .pure (by simp [zV,zM,zO])
   have g1:decide (Nat.gcd (valD r) (valD [49])=1)=true:=by rw [decide_eq_true_eq,show valD [49]=1 from rfl,Nat.gcd_one_right]
   by_cases h3:r=[48]
   ·have hq2:zeU true r [49] false=if true=true then .tup [numV false [] [],.bool false]else .tup [numV true r [49],.bool true]:=by
     unfold zeU
     rw [ze2 h1,h3]
     rfl
    rw [hq2]
    rw [h3]at g1 ⊢
    simp only [go_sem,s48,numV,zd2 (shortN_iff.1 s48).1 (shortN_iff.1 s49).1,zaS,g1,if_true,Bool.false_eq_true,if_false]
    exact .pure (by simp [zV,zM,zO])
   ·rw [zhb (by rw [ze2 h1];simp [h3])];simp only [go_sem,h1,h3,numV,zd2 (shortN_iff.1 h1).1 (shortN_iff.1 s49).1,zaS,g1];exact .pure (by simp [zV,zM,zO])
 ·have hq:=decide_eq_false hneg;have hr:(a).length≤1000000000:=by first|exact hl|(simp;omega)
  have p1:=fun i=>zjE (r:=a) (i:=i) hq rfl;have p2:=zjF (r:=a) hq rfl;have hcp:zbr a [45]=.tup [.str (a),.bool false]:=by unfold zbr;rw [pref45,hq];rfl
  simp (disch:=first|assumption|(push_cast<;>omega)|omega) only [go_sem,hcp];generalize a=r at*;cases hf:r.findIdx? (· ==47)with
  |some i=>
   rw [p1 i hf];have hct:cutV r 47=.tup [.str (r.take i),.str (r.drop (i+1)),.bool true]:=by unfold cutV;rw [hf]
   generalize r.take i=n at*;generalize r.drop (i+1)=d at*;simp only [go_sem,hct];rw [zgc];by_cases h1:zaG n=true
   case neg=>
    rw [zbj (zei h1)]
    simp only [go_sem,h1,Bool.false_and,numV]
    exact .pure (by simp [zV,zM,zO])
   by_cases h2:zaG d=true
   case neg=>
    rw [zbj (zkN h2)]
    simp only [go_sem,h1,h2,Bool.and_false,numV]
    exact .pure (by simp [zV,zM,zO])
   by_cases h4:d=[48]
   ·rw [h4,zbj zg7];simp only [go_sem,h1,s48,Bool.and_self,numV];exact .pure (by simp [zV,zM,zO])
   by_cases h5:d=[49]
   ·rw [h5,zbj zg6];simp only [go_sem,h1,s49,Bool.and_self,numV];first
     |exact .pure (by simp [zV,zM,zO])
     |exact⟨fun h=>⟨h,fun _=>by rw [h];rfl⟩,.pure (by simp [zV,zM,zO])⟩
   by_cases h3:n=[48]
   ·rw [h3,zbj (zg5 h2 h5)];have hg:decide (Nat.gcd (valD [48]) (valD d)=1)=false:=by rw [decide_eq_false_iff_not,show valD [48]=0 from rfl,Nat.gcd_zero_left];intro e;have hv:=zak (shortN_iff.1 h2).1;rw [e]at hv;exact h5 hv.symm
    simp only [go_sem,s48,h2,h4,h5,Bool.and_self,numV,zd2 (shortN_iff.1 s48).1 (shortN_iff.1 h2).1,zaS,hg];exact .pure (by simp [zV,zM,zO])
   simp only [go_sem,h1,h2,h3,h4,h5,zd2 (shortN_iff.1 h1).1 (shortN_iff.1 h2).1,zaS,Bool.and_self];refine AXc.introN (fun h6=>?_) (fun h6=>?_)
   ·rw [zbj (by rw [zej h1 h2 h3 h4 h5];simpa using h6)];simp only [go_sem,numV];exact .pure (by simp [zV,zM,zO])
   ·rw [zhb (by rw [zej h1 h2 h3 h4 h5];simpa using h6)];simp only [go_sem,numV];exact .pure (by simp [zV,zM,zO])
  |none=>
   rw [p2 hf];have hct:cutV r 47=.tup [.str r,.str [],.bool false]:=by unfold cutV;rw [hf]
   have v49:zH [49]=true:=by decide
   simp only [go_sem,hct,v49];rw [zmp];by_cases h1:zaG r=true
   case neg=>
    rw [zbj (zei h1)]
    simp only [go_sem,h1,numV]
    exact .pure (by simp [zV,zM,zO])
   have g1:decide (Nat.gcd (valD r) (valD [49])=1)=true:=by rw [decide_eq_true_eq,show valD [49]=1 from rfl,Nat.gcd_one_right]
   by_cases h3:r=[48]
   ·have hq2:zeU false r [49] false=if false=true then .tup [numV false [] [],.bool false]else .tup [numV false r [49],.bool true]:=by
     unfold zeU
     rw [ze2 h1,h3]
     rfl
    rw [hq2]
    rw [h3]at g1 ⊢
    simp only [go_sem,s48,numV,zd2 (shortN_iff.1 s48).1 (shortN_iff.1 s49).1,zaS,g1,if_true,Bool.false_eq_true,if_false]
    exact .pure (by simp [zV,zM,zO])
   ·rw [zhb (by rw [ze2 h1];simp [h3])];simp only [go_sem,h1,h3,numV,zd2 (shortN_iff.1 h1).1 (shortN_iff.1 s49).1,zaS,g1];exact .pure (by simp [zV,zM,zO])
end Go.Proofs

namespace Go.Proofs
open Go.Ab Go.Pl
theorem parseV_s {a:List UInt8}{s:Bool}{n d:Nat}(hr:ratP a=some (s,n,d)):zel a=.tup [.agg [.bool s,.str (dec n),.str (dec d)],.bool true]:=by unfold zel;generalize ratP a=q at hr;subst hr;rfl
theorem parseV_n {a:List UInt8}(hr:ratP a=none):zel a=.tup [.agg [.bool false,.str [],.str []],.bool false]:=by unfold zel;generalize ratP a=q at hr;subst hr;rfl
noncomputable def zrI:List V→Option PR:=zD (fun a:List UInt8=>[.str a]) (fun a=>a.length≤1000000000) fun a=>.ret (zel a)
theorem znS(a:List UInt8)(h:a.length≤1000000000):zrI [.str a]=some (.ret (zel a)):=zn (pat:=fun a:List UInt8=>[V.str a]) (fun x y h=>by simpa using h) a h
theorem zeB:∀ args r,zrI args=some r→PCall Tryz.prog 55 args r:=zo fun a h=>parse_ok a h
@[go_sem] theorem cParse_s {a:List UInt8}{s:Bool}{n d:Nat}(hr:ratP a=some (s,n,d))(h:a.length≤1000000000):zrI [.str a]=some (.ret (.tup [.agg [.bool s,.str (dec n),.str (dec d)],.bool true])):=
 (znS a h).trans (congrArg (fun v=>some (PR.ret v)) (parseV_s hr))
@[go_sem] theorem cParse_n {a:List UInt8}(hr:ratP a=none)(h:a.length≤1000000000):zrI [.str a]=some (.ret (.tup [.agg [.bool false,.str [],.str []],.bool false])):=
 (znS a h).trans (congrArg (fun v=>some (PR.ret v)) (parseV_n hr))
theorem zoM(a:List UInt8)(h:a.length≤1000000000):PCall Tryz.prog 32 [.str a] (.ret (.bool (ratP a).isSome)):=by
 refine PCall.walk (rs:=[.tmp 2]) [0,2] [] mixed (zf zeB zh) (zg) call32 Tryz.func32 rfl Tryz.ntmps32 rfl (by kernel_rfl) (by simp) (by simp [push_cast]) ?_;cases hr:ratP a with
 |none=>simp (disch:=first|assumption|(push_cast<;>omega)|omega) only [go_sem,hr,Option.isSome_none]
 |some q=>
  obtain⟨s,n,d⟩:=q;simp (disch:=first|assumption|(push_cast<;>omega)|omega) only [go_sem,hr,Option.isSome_some]
noncomputable def zix:List V→Option PR:=zD (fun a:List UInt8=>[.str a]) (fun a=>a.length≤1000000000) fun a=>.ret (.bool (ratP a).isSome)
@[go_sem] theorem znM(a:List UInt8)(h:a.length≤1000000000):zix [.str a]=some (.ret (.bool (ratP a).isSome)):=zn (pat:=fun a:List UInt8=>[V.str a]) (fun x y h=>by simpa using h) a h
theorem zex:∀ args r,zix args=some r→PCall Tryz.prog 32 args r:=zo fun a h=>zoM a h
set_option maxHeartbeats 8000000 in
set_option maxRecDepth 100000 in
theorem zwp(a b:List UInt8)(la:a.length≤1000000000)(lb:b.length≤1000000000):PCall Tryz.prog 33 [.str a,.str b] (.ret (.int .i64 (zbK a b))):=by
 have hΓ:=zf zeB (zf zhh (zf zd3 (zf zfZ zh)));refine PCall.walk (rs:=[.tmp 4]) [0,1,4,5,6,7,8,9,10,26,52,55] [] mixed (hΓ) (zg) call33 Tryz.func33 rfl Tryz.ntmps33 rfl (by kernel_rfl) (by simp) (by simp [push_cast]) ?_;cases ha:ratP a with
 |none=>
  rw [zwr b ha];cases hb:ratP b with
  |none=>simp (disch:=first|assumption|(push_cast<;>omega)|omega) only [go_sem,ha,hb]
  |some y=>
   obtain⟨q,n,f⟩:=y;simp (disch:=first|assumption|(push_cast<;>omega)|omega) only [go_sem,ha,hb]
 |some x=>
  obtain⟨p,m,d⟩:=x;cases hb:ratP b with
  |none=>
   rw [zwq a hb];simp (disch:=first|assumption|(push_cast<;>omega)|omega) only [go_sem,ha,hb]
  |some y=>
   obtain⟨q,n,f⟩:=y;rw [zg8 ha hb];obtain⟨lm,ld,_⟩:=zcc ha;obtain⟨ln,lf,_⟩:=zcc hb;have l1:=zL lm lf;have l2:=zL ln ld;simp (disch:=first|assumption|(push_cast<;>omega)|omega) only [go_sem,ha,hb];refine AXk.intro (by kernel_rfl) ?_;have hz:decide (dec (sumS p (m*f) (!q) (n*d)).2=[48])=decide ((sumS p (m*f) (!q) (n*d)).2=0):=by simp only [dec_is_zero]
   simp (disch:=first|assumption|(push_cast<;>omega)|omega) only [go_sem];rw [hz];refine AXc.introP (fun h1=>?_) (fun h1=>?_)
   ·simp (disch:=first|assumption|(push_cast<;>omega)|omega) only [go_sem,h1]
   ·cases h2:(sumS p (m*f) (!q) (n*d)).1
    ·simp (disch:=first|assumption|(push_cast<;>omega)|omega) only [go_sem,h1,h2,Bool.false_eq_true]
    ·simp (disch:=first|assumption|(push_cast<;>omega)|omega) only [go_sem,h1,h2]
noncomputable def zpR:List V→Option PR:=zD (fun p:List UInt8×List UInt8=>[.str p.1,.str p.2]) (fun p=>p.1.length≤1000000000∧p.2.length≤1000000000) (fun p=>.ret (.int .i64 (zbK p.1 p.2)))
theorem zj1:∀ args r,zpR args=some r→PCall Tryz.prog 33 args r:=zo fun p h=>zwp p.1 p.2 h.1 h.2
@[go_sem] theorem zuI(a b:List UInt8)(la:a.length≤1000000000)(lb:b.length≤1000000000):zpR [.str a,.str b]=some (.ret (.int .i64 (zbK a b))):=zn (fun p q h=>by simp at h;exact Prod.ext h.1 h.2) (a,b) ⟨la,lb⟩
end Go.Proofs

namespace Go.Proofs
open Go.Ab Go.Cnt Go.Pl
def p01(p:Str):Bool:=(ratP p).isSome&&decide (0≤zbK p [48])&&decide (zbK p [49]≤0)
def zfw(w:Nat)(r:List Str):Bool:=decide (r.length=w)&&r.all p01
def matB(m:List (List Str))(n w:Nat):Bool:=decide (m.length=n)&&m.all (zfw w)
theorem p01_bool(p:Str):(!(ratP p).isSome||decide (zbK p [48]<0)||decide (0<zbK p [49]))= !p01 p:=by
 unfold p01;rw [Bool.not_and,Bool.not_and];congr 1
 ·congr 1;by_cases h:0≤zbK p [48]
  ·simp [h]
  ·simp [h];omega
 ·by_cases h:zbK p [49]≤0
  ·simp [h]
  ·simp [h];omega
set_option maxHeartbeats 8000000 in
set_option maxRecDepth 100000 in
theorem rows_ok(m:List (List Str))(n w:Nat)(hm:m.length≤1000000)(hw:∀ r∈m,r.length≤1000000)(hs:∀ r∈m,∀ s∈r,s.length≤1000000):PCall Tryz.prog 29 [.fs (za8 m) m.length,.int .i64 n,.int .i64 w] (.ret (.bool (matB m n w))):=by
 have hΓ:=zf zex (zf zj1 zh);refine PCall.walk (rs:=[.tmp 6]) [0,1,2,6,8,10,14,15,16,17,18,24,25,26,27,28,43] [] mixed (hΓ) (zg) call29 Tryz.func29 rfl Tryz.ntmps29 rfl (by kernel_rfl) (by simp) (by simp [push_cast,zhS]) ?_;simp only [go_sem];refine AXc.introN (fun h0=>?_) (fun h0=>?_)
 ·simp only [go_sem];have:¬m.length=n:=by omega
  simp [matB,this]
 have hn:m.length=n:=by omega
 simp only [go_sem];refine AXs.loop mixed (hΓ) (zg) (fun i:Nat=>[(2,.int .i64 w),(15,.fs (za8 m) m.length),(16,.int .i64 m.length),(17,.int .i64 i)]) (fun _=>⟨[],0⟩) (fun i=>i≤m.length∧∀ j,j<i→zfw w (nthR m j)=true) (fun i=>m.length - i) 0 (by kernel_rfl) ⟨Nat.zero_le _,fun j hj=>by omega⟩ (Sub.of0 [] rfl rfl ?_ ?_) ?_
 ·simp only [go_sem]
 ·simp only [go_sem]
 rintro i ⟨h1,h2⟩;simp only [go_sem];refine AXc.introP (fun h3=>?_) (fun h3=>?_)
 ·have hi:i<m.length:=by omega
  have at1:=zqI m i hi;have lw:=hw _ (rowR.nth_mem hi);have ls:=hs _ (rowR.nth_mem hi);rw [show rowR.nth m i=nthR m i from rfl]at lw ls;simp (disch:=first|assumption|(push_cast<;>omega)|omega) only [go_sem,at1]
  (repeat refine sdC ?_);refine AXc.introN (fun h4=>?_) (fun h4=>?_)
  ·simp only [go_sem];have hr:zfw w (nthR m i)=false:=by unfold zfw;rw [decide_eq_false (by omega)];rfl
   unfold matB;rw [rowR.all_f (p:=zfw w) hi hr,Bool.and_false]
  have hrw:(nthR m i).length=w:=by omega
  simp (disch:=first|assumption|(push_cast<;>omega)|omega) only [go_sem];refine AXs.loop mixed (hΓ) (zg) (fun k:Nat=>[(2,.int .i64 w),(15,.fs (za8 m) m.length),(16,.int .i64 m.length),(17,.int .i64 i),(25,.fs (strs (nthR m i)) (nthR m i).length),(26,.int .i64 (nthR m i).length),(27,.int .i64 k)]) (fun _=>⟨[],0⟩) (fun k=>k≤(nthR m i).length∧∀ q,q<k→p01 ((nthR m i).getD q [])=true) (fun k=>(nthR m i).length - k) 0 (by kernel_rfl) ⟨Nat.zero_le _,fun q hq=>by omega⟩ (Sub.of0 [] rfl rfl ?_ ?_) ?_
  ·simp only [go_sem]
  ·simp only [go_sem]
  rintro k ⟨h5,h6⟩;simp only [go_sem];refine AXc.introP (fun h7=>?_) (fun h7=>?_)
  ·have hk:k<(nthR m i).length:=by omega
   have lsk:=ls _ (zlB hk);simp (disch:=first|assumption|(push_cast<;>omega)|omega) only [go_sem]
   (repeat refine sdC ?_);rw [p01_bool];cases hp:p01 ((nthR m i).getD k [])with
   |false=>
    simp (disch:=first|assumption|(push_cast<;>omega)|omega) only [go_sem];have hr:zfw w (nthR m i)=false:=by unfold zfw;rw [allS_f hk hp,Bool.and_false]
    unfold matB;rw [rowR.all_f (p:=zfw w) hi hr,Bool.and_false]
   |true=>
    simp (disch:=first|assumption|(push_cast<;>omega)|omega) only [go_sem];refine zk (k+1) ⟨by omega,fun q hq=>?_⟩ (by omega) (Sub.of0 [] rfl rfl ?_ ?_)
    ·by_cases hqk:q<k
     ·exact h6 q hqk
     ·obtain rfl:q=k:=by omega
      exact hp
    ·simp only [go_sem];simp
    ·simp only [go_sem]
  have hrow:zfw w (nthR m i)=true:=by unfold zfw;rw [decide_eq_true hrw,allS_t fun q hq=>h6 q (by omega)];rfl
  simp only [go_sem];refine AXa.go mixed (hΓ) (zg) (by kernel_rfl) ?_;simp (disch:=first|assumption|(push_cast<;>omega)|omega) only [go_sem];refine zk (i+1) ⟨by omega,fun j hj=>?_⟩ (by omega) (Sub.of0 [] rfl rfl ?_ ?_)
  ·by_cases hji:j<i
   ·exact h2 j hji
   ·obtain rfl:j=i:=by omega
    exact hrow
  ·simp only [go_sem];simp
  ·simp only [go_sem]
 ·have:i=m.length:=by omega
  subst this;simp only [go_sem];refine AXa.go mixed (hΓ) (zg) (by kernel_rfl) ?_;simp only [go_sem];unfold matB;rw [decide_eq_true hn,rowR.all_t (p:=zfw w) h2];rfl
end Go.Proofs

namespace Go.Proofs
open Go.Ab Go.Cnt Go.Pl
def zdn(l:List Ent):List Str:=l.flatMap fun e=>[e.1.1,e.1.2]
def tagL(A B:List Ent):List Str:=zdn A++B.map fun e=>e.1.1
def zai(B:List Ent):List Str:=B.map fun e=>e.1.2
theorem zcg:∀(l:List Ent) (i:Nat),i<l.length→l.take (i+1)=l.take i++[nthE l i]
 |[],_,h=>by simp at h
 |e::l,0,_=>rfl
 |e::l,i+1,h=>by have:=zcg l i (by simpa using h);rw [List.take_succ_cons,this,List.take_succ_cons,List.cons_append];rfl
theorem zfP(l:List Ent):(zdn l).length=2*l.length:=by
 induction l with
 |nil=>rfl
 |cons e l ih=>rw [zdn,List.flatMap_cons,List.length_append, ←zdn,ih];simp;omega
theorem zyl(l r:List Ent):zdn (l++r)=zdn l++zdn r:=by simp [zdn]
def rowN(A:List Ent)(T:List Str)(k:Str)(i:Nat):Int×List Str:=zcL k (T.length+1) (sumU ((T++[[]]).getD i []) A A.length) (vecU ((T++[[]]).getD i []) T A A.length)
def rowE(B:List Ent)(T W:List Str)(k:Str)(i:Nat):Int×List Str:=zcL k (W.length+1) (sumU ((T++[[]]).getD i []) B B.length) (vecU ((T++[[]]).getD i []) W B B.length)
def noM:Mdl:=⟨[],[],[],[]⟩
def okR(rN rE:Nat→Int×List Str)(i:Nat):Prop:=(∀ j,j<i→(rN j).1=0)∧∀ j,j<i→(rE j).1=0
open Classical in
noncomputable def estG(T W:List Str)(rN rE:Nat→Int×List Str):Mdl×Int:=
 if okR rN rE T.length∧(rN T.length).1=0 then(⟨T,W,(List.range (T.length+1)).map fun j=>(rN j).2,(List.range T.length).map fun j=>(rE j).2⟩,0)else(noM,2)
noncomputable def estR(A B:List Ent)(k:Str):Mdl×Int:=
 if (zcq A B&&((ratP k).isSome&& !decide (k.head? =some 45)))=true then
  if 40<(nmS (tagL A B)).length∨500<(nmS (zai B)).length then(noM,2)else estG (nmS (tagL A B)) (nmS (zai B)) (rowN A (nmS (tagL A B)) k) (rowE B (nmS (tagL A B)) (nmS (zai B)) k)
 else(noM,1)
noncomputable def estV(p:Mdl×Int):V:=.tup [mdlV p.1,.int .i64 p.2]
theorem zbk {T W:List Str}{rN rE:Nat→Int×List Str}(h:¬(okR rN rE T.length∧(rN T.length).1=0)):estG T W rN rE=(noM,2):=by unfold estG;rw [if_neg h]
theorem zyp {T W:List Str}{rN rE:Nat→Int×List Str}(h:okR rN rE T.length)(h0:(rN T.length).1=0):estG T W rN rE=(⟨T,W,(List.range (T.length+1)).map fun j=>(rN j).2,(List.range T.length).map fun j=>(rE j).2⟩,0):=by unfold estG;rw [if_pos ⟨h,h0⟩]
end Go.Proofs

namespace Go.Cnt
def tot:List Ent→Key→Int
 |[],_=>0
 |e::l,k=>(if e.1=k then e.2 else 0)+tot l k
theorem zga:∀(l r:List Ent) (k:Key),tot (l++r) k=tot l k+tot r k
 |[],r,k=>by simp [tot]
 |e::l,r,k=>by rw [List.cons_append,tot,tot,zga l r k];omega
theorem zqv {l:List Ent}{k:Key}(h:∀ e∈l,e.1≠k):tot l k=0:=by
 induction l with
 |nil=>rfl
 |cons e l ih=>rw [tot,if_neg (h e (List.mem_cons_self ..)),ih fun x hx=>h x (List.mem_cons_of_mem _ hx)];rfl
theorem zon:∀ {l:List Ent},Dif l→∀ k,tot l k=val l k
 |[],_,_=>rfl
 |e::l,h,k=>by
  have h':=List.pairwise_cons.1 h;rw [tot,val];by_cases hk:e.1=k
  ·rw [if_pos hk,if_pos hk,zqv fun x hx=>by rw [←hk];exact(h'.1 x hx).symm];omega
  ·rw [if_neg hk,if_neg hk,zon h'.2 k];omega
theorem zsg {l:List Ent}(h:∀ e∈l,0≤e.2)(k:Key):0≤tot l k:=by
 induction l with
 |nil=>exact Int.le_refl _
 |cons e l ih=>have h1:=h e (List.mem_cons_self ..);have h2:=ih fun x hx=>h x (List.mem_cons_of_mem _ hx);rw [tot];split<;>omega
theorem zsb {l:List Ent}{hi:Int}(h0:0≤hi)(h:∀ e∈l,0≤e.2∧e.2≤hi)(k:Key):0≤val l k∧val l k≤hi:=by
 induction l with
 |nil=>rw [val];omega
 |cons e l ih=>
  rw [val];split
  ·exact h e (List.mem_cons_self ..)
  ·exact ih fun x hx=>h x (List.mem_cons_of_mem _ hx)
end Go.Cnt

namespace Go.Proofs
open Go.Ab Go.Cnt Go.Pl
theorem Tryz.mapS1:mapS1 Tryz.prog 62=true:=by kernel_rfl
attribute [go_sem] Tryz.mapS1
theorem zaf {π:Nat→Nat}{N:Nat→Prop}(l l':Ens)(c c':Nat)(hl:l=l')(hc:c=c'):RnB π N (.mp (mpS 0 l) c) (.mp (mpS 0 l') c'):=by
 subst hl hc;have hpu:∀(i:Nat) (l:Ens),(∀ x∈(mpS i l).map (·.2.1),Ab.Pure x)∧∀ x∈(mpS i l).map (·.2.2),Ab.Pure x:=by
  intro i l;induction l generalizing i with
  |nil=>exact⟨fun x h=>(nomatch h),fun x h=>(nomatch h)⟩
  |cons e l ih=>
   refine⟨fun x h=>?_,fun x h=>?_⟩
   ·rw [mpS,List.map_cons]at h;rcases List.mem_cons.1 h with rfl|h
    ·exact .str _
    ·exact(ih (i+1)).1 x h
   ·rw [mpS,List.map_cons]at h;rcases List.mem_cons.1 h with rfl|h
    ·exact .int _ _
    ·exact(ih (i+1)).2 x h
 exact .mp rfl (zu (hpu 0 l).1) (zu (hpu 0 l).2)
def tabN(l:List Ent)(i:Nat):List Ent:=(l.take i).foldl (fun m e=>sto m e.1 e.2) []
def tabS(l:List Ent)(i:Nat):Ens:=(l.take i).foldl (fun m e=>stoS m e.1.1 (valS m e.1.1+e.2)) []
theorem zvE(l:List Ent):tabN l 0=[]:=rfl
theorem zvD(l:List Ent):tabS l 0=[]:=rfl
theorem zmg(l:List Ent)(i:Nat)(h:i<l.length):tabN l (i+1)=sto (tabN l i) ((nthE l i).1.1,(nthE l i).1.2) (nthE l i).2:=by unfold tabN;rw [zcg l i h,List.foldl_append];rfl
theorem zmf(l:List Ent)(i:Nat)(h:i<l.length):tabS l (i+1)=stoS (tabS l i) (nthE l i).1.1 (valS (tabS l i) (nthE l i).1.1+(nthE l i).2):=by unfold tabS;rw [zcg l i h,List.foldl_append];rfl
theorem zks {l:List Ent}(hs:zdd l)(a:Str):∀ i,i≤l.length→valS (tabS l i) a=(sumU a l i:Nat)
 |0,_=>rfl
 |i+1,h=>by
  have ih:=zks hs a i (by omega);have q:=hs _ (zfB (show i<l.length by omega));rw [zmf l i (by omega),zqm,sumU];by_cases hk:(nthE l i).1.1=a
  ·rw [if_pos hk,if_pos hk,hk,ih];omega
  ·rw [if_neg hk,if_neg hk,ih]
theorem zvv:∀(l:List Ent) (k j:Key) (n:Int),val (sto l k n) j=if k=j then n else val l j
 |[],k,j,n=>by simp [sto,val]
 |e::l,k,j,n=>by
  rw [sto];by_cases hk:e.1=k
  ·rw [if_pos hk,val,val];by_cases hj:k=j
   ·rw [if_pos hj,if_pos (hk.trans hj)]
   ·rw [if_neg hj,if_neg (fun h=>hj (hk.symm.trans h)),if_neg (fun h=>hj (hk.symm.trans h))]
  ·rw [if_neg hk,val,val,zvv l k j n];by_cases hj:k=j
   ·subst hj;simp [hk]
   ·simp [hj]
theorem zvA(e:Ent)(k:Key):tot [e] k=if e.1=k then e.2 else 0:=by simp [tot]
theorem zqx {l:List Ent}(hd:Dif l)(k:Key):∀ i,i≤l.length→val (tabN l i) k=tot (l.take i) k
 |0,_=>rfl
 |i+1,h=>by
  have ih:=zqx hd k i (by omega);rw [zmg l i (by omega),zvv,zcg l i (by omega),zga,zvA];show (if (nthE l i).1=k then _ else _)=_;by_cases hk:(nthE l i).1=k
  ·rw [if_pos hk,if_pos hk,zqv (l:=l.take i) fun e he=>?_]
   ·omega
   ·obtain⟨j,hj,rfl⟩:=List.mem_iff_getElem.1 he;have hj':j<i:=by simp at hj;omega
    have hne:=List.pairwise_iff_getElem.1 hd j i (by omega) (by omega) hj';rw [List.getElem_take, ←hk];have e:nthE l i=l[i]:=by unfold nthE;rw [List.getD_eq_getElem?_getD,List.getElem?_eq_getElem (by omega)];rfl
    rw [e];exact hne
  ·rw [if_neg hk,if_neg hk,ih];omega
theorem zqy {l:List Ent}(hd:Dif l)(k:Key):val (tabN l l.length) k=val l k:=by rw [zqx hd k l.length (Nat.le_refl _),List.take_length,zon hd]
set_option maxHeartbeats 4000000 in
set_option maxRecDepth 100000 in
theorem zvC(l:List Ent)(hl:l.length≤100000)(hs:zdd l):NCall Tryz.prog 35 [.fs (cnts l) l.length] [] [] (.agg [.map 0,.map 1]) ⟨[(1,.mp (mpS 0 (tabS l l.length)) (tabS l l.length).length),(0,.mp (mpF 0 (tabN l l.length)) (tabN l l.length).length),(2,.cells [.map 0,.map 1])],3⟩:=by
 refine NCall.walk (rs:=[.cell 2 64]) [0,2,3,5,9,10,11,12] [] 0 mixed (zh) (zg) call35 Tryz.func35 rfl Tryz.ntmps35 rfl (by kernel_rfl) (by simp) (by simp) (by simp) ?_;simp (disch:=first|assumption|(push_cast<;>omega)|omega) only [go_sem];refine AXs.loop mixed (zh) (zg) (fun i:Nat=>[(2,.ptr 0 0),(3,.ptr 3 0),(9,.fs (cnts l) l.length),(10,.int .i64 l.length),(11,.int .i64 i)])
  (fun i=>⟨[(3,.cells [.map 1,.map 2]),(2,.mp (mpS 0 (tabS l i)) (tabS l i).length),(1,.mp (mpF 0 (tabN l i)) (tabN l i).length),(0,.cells [.nilM,.nilM])],4⟩) (fun i=>i≤l.length) (fun i=>l.length - i) 0 (by kernel_rfl) (Nat.zero_le _) (Sub.of [] rfl ?_ ?_ (by decide) (fun b hb hw=>absurd hb (Nat.not_lt_zero b))) ?_
 ·simp only [go_sem]
 ·simp only [go_sem,zvE,zvD];exact⟨zaf [] [] 0 0 rfl rfl,zaH [] [] 0 0 rfl rfl⟩
 intro i h1;simp (disch:=first|assumption|(push_cast<;>omega)|omega) only [go_sem];refine AXc.introP (fun h3=>?_) (fun h3=>?_)
 ·have hi:i<l.length:=by omega
  have at1:=zew l i hi;have hv:=zks hs (nthE l i).1.1 i h1;have hle:=zoo (a:=(nthE l i).1.1) hs i;have q:=hs _ (zfB hi);have t1:=zmg l i hi;have t2:=zmf l i hi;simp (disch:=first|assumption|(push_cast<;>omega)|omega) only [go_sem,at1]
  (repeat refine sdC ?_);refine zk (i+1) (by omega) (by omega) (Sub.of [] rfl ?_ ?_ (by decide) (fun b hb hw=>absurd hb (Nat.not_lt_zero b)))
  ·simp only [go_sem];simp
  ·rw [t1,t2];simp only [go_sem];exact⟨zaf _ _ _ _ rfl rfl,zaH _ _ _ _ rfl rfl⟩
 ·obtain rfl:i=l.length:=by omega
  simp only [go_sem];refine AXa.go mixed (zh) (zg) (by kernel_rfl) ?_;simp (disch:=first|assumption|(push_cast<;>omega)|omega) only [go_sem];refine⟨[(2,.ptr 2 0)],Sub.of [(2,0),(0,1),(1,2)] rfl ?_ ?_ (by decide) (fun b hb hw=>absurd hb (Nat.not_lt_zero b)),?_⟩
  ·simp only [go_sem]
  ·simp only [go_sem];exact⟨zaf _ _ _ _ rfl rfl,zaH _ _ _ _ rfl rfl⟩
  ·simp only [go_sem]
def TabR(args:List V)(H:Hp)(r:AR):Prop:=
 ∃ l:List Ent,args=[.fs (cnts l) l.length]∧l.length≤100000∧zdd l∧(∀ b x,H.get b=some x→b<H.next)∧
  r=⟨True,.agg [.map H.next,.map (H.next+1)],⟨(H.next+1,.mp (mpS 0 (tabS l l.length)) (tabS l l.length).length)::(H.next,.mp (mpF 0 (tabN l l.length)) (tabN l l.length).length)::H.bs,H.next+3⟩,[],[]⟩
theorem tabR_ok:∀ args H r,TabR args H r→HCall Tryz.prog 35 args H r:=by
 rintro args H r ⟨l,rfl,hl,hs,hk,rfl⟩;have t0:zU [] H.next H.next=0:=by unfold zU;rw [if_neg (by omega)];simp
 have t1:zU [] H.next (H.next+1)=1:=by unfold zU;rw [if_neg (by omega)];simp
 refine HCall.of (zvC l hl hs) [] _ (.agg [.map H.next,.map (H.next+1)]) H _ rfl .nil (zu fun x hx=>?_) (fun i x hx=>by simp at hx) ?_ (by show H.next+3+0=H.next+3;rfl) (fun b x' hx'=>?_) (fun b hb _=>?_)
 ·obtain rfl:=List.mem_singleton.1 hx;exact .fs (zdi l)
 ·refine .agg rfl fun i x y hx hy=>?_;match i with
  |0=>cases hx;cases hy;have:=Rn.map (π:=zU [] H.next) (N:=fun b=>b∈[]∨(H.next≤b∧b<H.next+3)) (b:=H.next) (.inr ⟨Nat.le_refl _,by omega⟩);rwa [t0]at this
  |1=>cases hx;cases hy;have:=Rn.map (π:=zU [] H.next) (N:=fun b=>b∈[]∨(H.next≤b∧b<H.next+3)) (b:=H.next+1) (.inr ⟨by omega,by omega⟩);rwa [t1]at this
  |i+2=>simp at hx
 ·have hx'':(((H.next+1,Blk.mp (mpS 0 (tabS l l.length)) (tabS l l.length).length)::(H.next,.mp (mpF 0 (tabN l l.length)) (tabN l l.length).length)::H.bs:List (Nat×Blk)).lookup b)=some x':=hx';rw [List.lookup_cons]at hx'';by_cases hb1:b=H.next+1
  ·subst hb1;simp only [beq_self_eq_true,Option.some.injEq]at hx'';subst hx'';refine .inr ⟨.inr ⟨by omega,by show H.next+1<H.next+3;omega⟩,_,by rw [t1];rfl,zaf _ _ _ _ rfl rfl⟩
  ·have hq:(b==H.next+1)=false:=by simp [hb1]
   simp only [hq,List.lookup_cons]at hx'';by_cases hb0:b=H.next
   ·subst hb0;simp only [beq_self_eq_true,Option.some.injEq]at hx'';subst hx'';refine .inr ⟨.inr ⟨Nat.le_refl _,by show H.next<H.next+3;omega⟩,_,by rw [t0];rfl,zaH _ _ _ _ rfl rfl⟩
   ·have hq0:(b==H.next)=false:=by simp [hb0]
    simp only [hq0]at hx'';exact .inl ⟨hk b x' hx'',by simp,hx''⟩
 ·show (((H.next+1,Blk.mp (mpS 0 (tabS l l.length)) (tabS l l.length).length)::(H.next,.mp (mpF 0 (tabN l l.length)) (tabN l l.length).length)::H.bs:List (Nat×Blk)).lookup b)=H.bs.lookup b;have hq:(b==H.next+1)=false:=by simp;omega
  have hq0:(b==H.next)=false:=by simp;omega
  simp only [List.lookup_cons,hq,hq0]
theorem zgb(l:List Ent)(n:Nat)(bs:List (Nat×Blk))(nx:Nat)(hn:n=l.length)(hl:l.length≤100000)(hs:zdd l)(hk:((keysB bs).all fun b=>decide (b<nx))=true):
 conD TabR [.fs (cnts l) n] ⟨bs,nx⟩=some ⟨True,.agg [.map nx,.map (nx+1)],⟨(nx+1,.mp (mpS 0 (tabS l l.length)) (tabS l l.length).length)::(nx,.mp (mpF 0 (tabN l l.length)) (tabN l l.length).length)::bs,nx+3⟩,[],[]⟩:=by
 subst hn
 refine zaN ⟨l,rfl,hl,hs,zbs hk,rfl⟩ ?_
 rintro r' ⟨l',e,_,_,_,rfl⟩
 simp only [List.cons.injEq,V.fs.injEq,and_true]at e
 rw [zcv e.1]
end Go.Proofs

namespace Go.Ab
def zgy(f:V→V→Bool):List V→List V→Bool
 |[],[]=>true
 |a::r,b::s=>f a b&&zgy f r s
 |_,_=>false
def beqN:Nat→V→V→Bool
 |0,_,_=>false
 |n+1,x,y=>
  match x,y with
  | .bool a,.bool b=>a==b
  | .int k a,.int k' b=>decide (k=k')&&decide (a=b)
  | .str a,.str b=>decide (a=b)
  | .nilS,.nilS=>true
  | .sl b o l s c,.sl b' o' l' s' c'=>Nat.beq b b'&&Nat.beq o o'&&Nat.beq l l'&&Nat.beq s s'&&decide (c=c')
  | .fs cs n1,.fs cs' n2=>Nat.beq n1 n2&&zgy (beqN n) cs cs'
  | .nilP,.nilP=>true
  | .ptr b o,.ptr b' o'=>Nat.beq b b'&&Nat.beq o o'
  | .fp cs,.fp cs'=>zgy (beqN n) cs cs'
  | .nilM,.nilM=>true
  | .map b,.map b'=>Nat.beq b b'
  | .fn f cs,.fn f' cs'=>Nat.beq f f'&&zgy (beqN n) cs cs'
  | .bnd f cs,.bnd f' cs'=>Nat.beq f f'&&zgy (beqN n) cs cs'
  | .nilF,.nilF=>true
  | .ifc t v,.ifc t' v'=>Nat.beq t t'&&beqN n v v'
  | .nilI,.nilI=>true
  | .agg cs,.agg cs'=>zgy (beqN n) cs cs'
  | .tup cs,.tup cs'=>zgy (beqN n) cs cs'
  | .any,.any=>true
  | .opt b v,.opt b' v'=>(b==b')&&beqN n v v'
  |_,_=>false
def beqV(x y:V):Bool:=beqN 12 x y
def beqVs(l r:List V):Bool:=zgy (beqN 12) l r
theorem zp1 {f:V→V→Bool}(hf:∀ a b,f a b=true→a=b):∀ {l r:List V},zgy f l r=true→l=r
 |[],r,h=>by cases r<;>simp [zgy]at h;rfl
 |a::l,r,h=>by
  cases r with
  |nil=>simp [zgy]at h
  |cons b s=>simp [zgy]at h;rw [hf a b h.1,zp1 hf h.2]
theorem zp0:∀(n:Nat) (a b:V),beqN n a b=true→a=b
 |0,a,b,h=>by simp [beqN]at h
 |n+1,a,b,h=>by
  have ih:=zp0 n;have il:∀ {l r:List V},zgy (beqN n) l r=true→l=r:=zp1 ih;unfold beqN at h;split at h<;>(try simp only [Bool.and_eq_true,Nat.beq_eq,decide_eq_true_eq,beq_iff_eq]at h)<;>first
   |rfl
   |(rw [h];done)
   |(rw [h.1,h.2];done)
   |(rw [h.1,il h.2];done)
   |(rw [il h];done)
   |(rw [h.1,ih _ _ h.2];done)
   |(simp [h];done)
   |(cases h;done)
theorem ziF {a b:V}(h:beqV a b=true):a=b:=zp0 _ _ _ h
theorem zrQ {l r:List V}(h:beqVs l r=true):l=r:=zp1 (zp0 _) h
def zu5:List (Nat×V×V)→List (Nat×V×V)→Bool
 |[],[]=>true
 |a::r,b::s=>Nat.beq a.1 b.1&&beqV a.2.1 b.2.1&&beqV a.2.2 b.2.2&&zu5 r s
 |_,_=>false
theorem zrR:∀ {a b:List (Nat×V×V)},zu5 a b=true→a=b
 |[],b,h=>by cases b<;>simp [zu5]at h;rfl
 |(n,x,y)::r,b,h=>by
  cases b with
  |nil=>simp [zu5]at h
  |cons q s=>obtain⟨m,x',y'⟩:=q;simp [zu5]at h;rw [h.1.1.1,ziF h.1.1.2,ziF h.1.2,zrR h.2]
def beqB:Blk→Blk→Bool
 | .cells cs,.cells cs'=>beqVs cs cs'
 | .mp es c,.mp es' c'=>Nat.beq c c'&&zu5 es es'
 | .it m bs l s t c,.it m' bs' l' s' t' c'=>decide (m=m'∧bs=bs'∧l=l'∧s=s'∧t=t'∧c=c')
 | .ty t cs,.ty t' cs'=>Nat.beq t t'&&beqVs cs cs'
 |_,_=>false
theorem beqB_eq {a b:Blk}(h:beqB a b=true):a=b:=by
 cases a<;>cases b<;>simp [beqB]at h
 ·rw [zrQ h]
 ·rw [h.1,zrR h.2]
 ·obtain⟨h1,h2,h3,h4,h5,h6⟩:=h;rw [h1,h2,h3,h4,h5,h6]
 ·rw [h.1,zrQ h.2]
def zp2:List (Nat×Blk)→List (Nat×Blk)→Bool
 |[],[]=>true
 |a::r,b::s=>Nat.beq a.1 b.1&&beqB a.2 b.2&&zp2 r s
 |_,_=>false
theorem zrS:∀ {a b:List (Nat×Blk)},zp2 a b=true→a=b
 |[],b,h=>by cases b<;>simp [zp2]at h;rfl
 |(n,x)::r,b,h=>by
  cases b with
  |nil=>simp [zp2]at h
  |cons q s=>obtain⟨m,x'⟩:=q;simp [zp2]at h;rw [h.1.1,beqB_eq h.1.2,zrS h.2]
end Go.Ab
